/- printed by a program of this session (wip/tools/pr.sh): it is not a print of the kit -/
import Derived.Test.YtgheapbhakamaaaRSt
import Derived.Test.YtgheapbhakamaaaXLayCompare
import Derived.Test.YtgheapbhakamaaaQx0
namespace Go.Proofs.Ytgheapbhakamaaa.Q
open Go.RowKit Go.Proofs.YtgheapbhakamaaaW.PrintWords Go.Proofs.YtgheapbhakamaaaW.PrintLast Go.Proofs.YtgheapbhakamaaaW.PrintMore
attribute [local go_sem] max2_int min2_int max_two min_two max_three min_three max_four min_four RFn.gtr_str   -- for this text's walks alone
set_option linter.unusedVariables false
set_option linter.unusedSimpArgs false
/-! ### cmp_Or_int: function 37 -/
def cmp_Or_int.l0 : Nat → Int → List Int → Int → Int → Option (Int)
 | 0, _, _, _, _ => none
 | k + 1, x3, x6, x7, x8 => if x8 < x7 then (if 0 ≤ x8 then (if x8 < (x6.length : Int) then (if (rd x6 x8) = x3 then (cmp_Or_int.l0 k x3 x6 x7 (wrap64 (x8 + 1))) else (some (rd x6 x8))) else (none)) else (none)) else (some x3)
def cmp_Or_int.f (k : Nat) (l0 : List Int) : Option (Int) := cmp_Or_int.l0 k 0 l0 (l0.length : Int) 0
theorem cmp_Or_int.mono_l : ∀ k, (∀ y0 y1 y2 y3, LeO (cmp_Or_int.l0 k y0 y1 y2 y3) (cmp_Or_int.l0 (k + 1) y0 y1 y2 y3))
 | 0 => fun _ _ _ _ r h => by simp [cmp_Or_int.l0] at h
 | k + 1 => by
  have ih0 := cmp_Or_int.mono_l k
  ·intro y0 y1 y2 y3
   unfold cmp_Or_int.l0
   repeat' first | exact LeO.refl _ | with_reducible first | apply ih0 | exact LeO.none _ | apply LeO.ite | refine LeO.bind ?_ fun _ => ?_
theorem cmp_Or_int.mono : ∀ a0 k, LeO (cmp_Or_int.f k a0) (cmp_Or_int.f (k + 1) a0) := by
 intro a0 k
 have ih0 := cmp_Or_int.mono_l k
 unfold cmp_Or_int.f
 repeat' first | exact LeO.refl _ | with_reducible first | apply ih0 | exact LeO.none _ | apply LeO.ite | refine LeO.bind ?_ fun _ => ?_
set_option maxHeartbeats 8000000 in
set_option maxRecDepth 100000 in
theorem cmp_Or_int.calls (k : Nat) (A0 : Option Addr) (c0 : Nat) (l0 : List Int) (r : Int) (w : World) (hr0 : Kd.C (Kd.int .i64) w A0 l0.length l0) (hc0 : l0.length ≤ c0) (h : cmp_Or_int.f k l0 = some r) :
  Calls Try.prog 37 #[.slice A0 l0.length c0] w fun e w' => e = .returned (.int .i64 r) ∧ Drawn0 w w' := by
 have HR0 := Aside0.mk hr0
 have HC0 := Aside0.mk hc0
 clear hr0 hc0
 have H : (cmp_Or_int.l0 k 0 l0 (l0.length : Int) 0) = some r := h
 clear h
 have H' := Aside0.mk H
 clear H
 go_enter Try.func37, Try.ntmps37
 go_wp2
 go_loopg [8] k (fun kq v8 w' => ∃ (x8_1 : Int), v8 = .int .i64 x8_1 ∧ Aside0 (cmp_Or_int.l0 kq 0 l0 (l0.length : Int) x8_1 = some r) ∧ Aside0 (kq ≤ k) ∧ Drawn0 w w')
 case atStart => exact ⟨(0), (by first | rfl | (simp; done) | (simp [*]; done)), H', ⟨Nat.le_refl _⟩, by repeat (first | exact Drawn0.refl _ | apply Drawn0.step)⟩
 case round =>
  clear H'
  obtain ⟨x8_1, rfl, HA, HK1, ⟨m1, rfl⟩⟩ := hrel
  cases gk with
  | zero => exact absurd HA.out (by simp [cmp_Or_int.l0])
  | succ k1 =>
   have H := HA.out
   clear HA
   simp only [cmp_Or_int.l0] at H
   by_cases c2 : x8_1 < (l0.length : Int)
   ·rw [if_pos c2] at H
    have c2b0 : decide (x8_1 < (l0.length : Int)) = true := decide_eq_true c2
    clear c2
    by_cases c3 : 0 ≤ x8_1
    ·rw [if_pos c3] at H
     have c3b0 : decide (0 ≤ x8_1) = true := decide_eq_true c3
     clear c3
     by_cases c4 : x8_1 < (l0.length : Int)
     ·rw [if_pos c4] at H
      have c4b0 : decide (x8_1 < (l0.length : Int)) = true := decide_eq_true c4
      clear c4
      by_cases c5 : (rd l0 x8_1) = 0
      ·rw [if_pos c5] at H
       have c5b0 : ((rd l0 x8_1) == 0) = true := beq_iff_eq.mpr c5
       have c5b1 : ((rd l0 x8_1) != 0) = false := bne_eq_false_iff_eq.mpr c5
       clear c5
       have H' := Aside0.mk H
       clear H
       have p101 : 0 ≤ (x8_1 : Int) := RFn.od
       have q101 : x8_1 < (l0.length : Int) := RFn.od
       obtain ⟨ad101, e101, hx101_0⟩ := Kd.at_int HR0.out x8_1 p101 q101
       cases e101
       replace p101 := eq_true p101
       replace q101 := eq_true q101
       go_wp2
       go_roundg k1
       case measure => have := HK1.out; omega
       case rel => exact ⟨(wrap64 (x8_1 + 1)), (by first | rfl | (simp; done) | (simp [*]; done)), H', ⟨RFn.lk HK1⟩, by repeat (first | exact Drawn0.refl _ | apply Drawn0.step)⟩
      ·rw [if_neg c5] at H
       have c5b0 : ((rd l0 x8_1) == 0) = false := beq_eq_false_iff_ne.mpr c5
       have c5b1 : ((rd l0 x8_1) != 0) = true := bne_iff_ne.mpr c5
       obtain rfl := Option.some.inj H
       have p101 : 0 ≤ (x8_1 : Int) := RFn.od
       have q101 : x8_1 < (l0.length : Int) := RFn.od
       obtain ⟨ad101, e101, hx101_0⟩ := Kd.at_int HR0.out x8_1 p101 q101
       cases e101
       replace p101 := eq_true p101
       replace q101 := eq_true q101
       go_wp2
       go_ret
       exact ⟨by first | rfl | (simp; done) | (simp [*]; done), by repeat (first | exact Drawn0.refl _ | apply Drawn0.step)⟩
     ·rw [if_neg c4] at H
      exact absurd H (by simp)
    ·rw [if_neg c3] at H
     exact absurd H (by simp)
   ·rw [if_neg c2] at H
    have c2b0 : decide (x8_1 < (l0.length : Int)) = false := decide_eq_false c2
    clear c2
    obtain rfl := Option.some.inj H
    go_wp2
    go_ret
    exact ⟨by first | rfl | (simp; done) | (simp [*]; done), by repeat (first | exact Drawn0.refl _ | apply Drawn0.step)⟩
/-! ### strings_Compare: function 38 -/
def strings_Compare.f (a0 : ByteArray) (a1 : ByteArray) : Option (Int) := some (Lib.compareBytes a0.data.toList a1.data.toList)
theorem strings_Compare.calls (a0 : ByteArray) (a1 : ByteArray) (r : Int) (w : World) (h : strings_Compare.f a0 a1 = some r) :
  Calls Try.prog 38 #[.string a0, .string a1] w fun e w' => e = .returned (.int .i64 r) ∧ Drawn0 w w' := by
 unfold strings_Compare.f at h
 obtain rfl := Option.some.inj h
 exact (Any.strings_Compare Go.Proofs.Ytgheapbhakamaaa.X.lays106 a0 a1 w).mono fun e w' ⟨he, hw⟩ => ⟨he, by rw [hw]; exact Drawn0.refl _⟩
/-! ### cmp_isNaN_int: function 49 -/
def cmp_isNaN_int.f (a0 : Int) : Option (Bool) := some (a0 != a0)
set_option maxHeartbeats 8000000 in
set_option maxRecDepth 100000 in
theorem cmp_isNaN_int.calls (a0 : Int) (r : Bool) (w : World) (h : cmp_isNaN_int.f a0 = some r) :
  Calls Try.prog 49 #[.int .i64 a0] w fun e w' => e = .returned (.bool r) ∧ Drawn0 w w' := by
 have H : (some (a0 != a0)) = some r := h
 clear h
 obtain rfl := Option.some.inj H
 go_enter Try.func49, Try.ntmps49
 go_wp2
 go_ret
 exact ⟨by first | rfl | (simp; done) | (simp [*]; done), by repeat (first | exact Drawn0.refl _ | apply Drawn0.step)⟩
/-! ### cmp_Compare_int: function 39 -/
def cmp_Compare_int.f (a0 : Int) (a1 : Int) : Option (Int) := (cmp_isNaN_int.f a0).bind fun t102 => ((cmp_isNaN_int.f a1).bind fun t103 => (if t102 = true then (if t103 = true then (some 0) else (some (-1))) else (if t103 = true then (some 1) else (if a0 < a1 then (some (-1)) else (if a0 > a1 then (some 1) else (some 0))))))
set_option maxHeartbeats 8000000 in
set_option maxRecDepth 100000 in
theorem cmp_Compare_int.calls (a0 : Int) (a1 : Int) (r : Int) (w : World) (h : cmp_Compare_int.f a0 a1 = some r) :
  Calls Try.prog 39 #[.int .i64 a0, .int .i64 a1] w fun e w' => e = .returned (.int .i64 r) ∧ Drawn0 w w' := by
 have H : ((cmp_isNaN_int.f a0).bind fun t102 => ((cmp_isNaN_int.f a1).bind fun t103 => (if t102 = true then (if t103 = true then (some 0) else (some (-1))) else (if t103 = true then (some 1) else (if a0 < a1 then (some (-1)) else (if a0 > a1 then (some 1) else (some 0))))))) = some r := h
 clear h
 obtain ⟨t102, A3, H⟩ := RFn.bn H
 obtain ⟨t103, A4, H⟩ := RFn.bn H
 by_cases c5 : t102 = true
 ·subst c5
  have H1 : (if t103 = true then (some 0) else (some (-1))) = some r := by rw [if_pos rfl] at H; exact H
  clear H
  have H := H1
  clear H1
  by_cases c6 : t103 = true
  ·subst c6
   have H1 : (some 0) = some r := by rw [if_pos rfl] at H; exact H
   clear H
   have H := H1
   clear H1
   obtain rfl := Option.some.inj H
   go_enter Try.func39, Try.ntmps39
   go_wp2_with (first | ((with_reducible refine gate_callee (f := 49) rfl ?_); refine RFn.goesM (some 8) Try.func49 #[.int .i64 a0] rfl ?_; (with_reducible refine (cmp_isNaN_int.calls a0 true _ A3.out).mono ?_); rintro e w' ⟨rfl, ⟨nd, rfl⟩⟩; refine ⟨_, rfl, ?_⟩) | ((with_reducible refine gate_callee (f := 49) rfl ?_); refine RFn.goesM (some 10) Try.func49 #[.int .i64 a1] rfl ?_; (with_reducible refine (cmp_isNaN_int.calls a1 true _ A4.out).mono ?_); rintro e w' ⟨rfl, ⟨nd, rfl⟩⟩; refine ⟨_, rfl, ?_⟩))
   go_ret
   exact ⟨by first | rfl | (simp; done) | (simp [*]; done), by repeat (first | exact Drawn0.refl _ | apply Drawn0.step)⟩
  ·replace c6 := Bool.eq_false_iff.mpr c6
   subst c6
   have H1 : (some (-1)) = some r := by rw [if_neg (show ¬ (false = true) by decide)] at H; exact H
   clear H
   have H := H1
   clear H1
   obtain rfl := Option.some.inj H
   go_enter Try.func39, Try.ntmps39
   go_wp2_with (first | ((with_reducible refine gate_callee (f := 49) rfl ?_); refine RFn.goesM (some 8) Try.func49 #[.int .i64 a0] rfl ?_; (with_reducible refine (cmp_isNaN_int.calls a0 true _ A3.out).mono ?_); rintro e w' ⟨rfl, ⟨nd, rfl⟩⟩; refine ⟨_, rfl, ?_⟩) | ((with_reducible refine gate_callee (f := 49) rfl ?_); refine RFn.goesM (some 10) Try.func49 #[.int .i64 a1] rfl ?_; (with_reducible refine (cmp_isNaN_int.calls a1 false _ A4.out).mono ?_); rintro e w' ⟨rfl, ⟨nd, rfl⟩⟩; refine ⟨_, rfl, ?_⟩))
   go_ret
   exact ⟨by first | rfl | (simp; done) | (simp [*]; done), by repeat (first | exact Drawn0.refl _ | apply Drawn0.step)⟩
 ·replace c5 := Bool.eq_false_iff.mpr c5
  subst c5
  have H1 : (if t103 = true then (some 1) else (if a0 < a1 then (some (-1)) else (if a0 > a1 then (some 1) else (some 0)))) = some r := by rw [if_neg (show ¬ (false = true) by decide)] at H; exact H
  clear H
  have H := H1
  clear H1
  by_cases c7 : t103 = true
  ·subst c7
   have H1 : (some 1) = some r := by rw [if_pos rfl] at H; exact H
   clear H
   have H := H1
   clear H1
   obtain rfl := Option.some.inj H
   go_enter Try.func39, Try.ntmps39
   go_wp2_with (first | ((with_reducible refine gate_callee (f := 49) rfl ?_); refine RFn.goesM (some 8) Try.func49 #[.int .i64 a0] rfl ?_; (with_reducible refine (cmp_isNaN_int.calls a0 false _ A3.out).mono ?_); rintro e w' ⟨rfl, ⟨nd, rfl⟩⟩; refine ⟨_, rfl, ?_⟩) | ((with_reducible refine gate_callee (f := 49) rfl ?_); refine RFn.goesM (some 10) Try.func49 #[.int .i64 a1] rfl ?_; (with_reducible refine (cmp_isNaN_int.calls a1 true _ A4.out).mono ?_); rintro e w' ⟨rfl, ⟨nd, rfl⟩⟩; refine ⟨_, rfl, ?_⟩))
   go_ret
   exact ⟨by first | rfl | (simp; done) | (simp [*]; done), by repeat (first | exact Drawn0.refl _ | apply Drawn0.step)⟩
  ·replace c7 := Bool.eq_false_iff.mpr c7
   subst c7
   have H1 : (if a0 < a1 then (some (-1)) else (if a0 > a1 then (some 1) else (some 0))) = some r := by rw [if_neg (show ¬ (false = true) by decide)] at H; exact H
   clear H
   have H := H1
   clear H1
   by_cases c8 : a0 < a1
   ·rw [if_pos c8] at H
    have c8b0 : decide (a0 < a1) = true := decide_eq_true c8
    clear c8
    obtain rfl := Option.some.inj H
    go_enter Try.func39, Try.ntmps39
    go_wp2_with (first | ((with_reducible refine gate_callee (f := 49) rfl ?_); refine RFn.goesM (some 8) Try.func49 #[.int .i64 a0] rfl ?_; (with_reducible refine (cmp_isNaN_int.calls a0 false _ A3.out).mono ?_); rintro e w' ⟨rfl, ⟨nd, rfl⟩⟩; refine ⟨_, rfl, ?_⟩) | ((with_reducible refine gate_callee (f := 49) rfl ?_); refine RFn.goesM (some 10) Try.func49 #[.int .i64 a1] rfl ?_; (with_reducible refine (cmp_isNaN_int.calls a1 false _ A4.out).mono ?_); rintro e w' ⟨rfl, ⟨nd, rfl⟩⟩; refine ⟨_, rfl, ?_⟩))
    go_ret
    exact ⟨by first | rfl | (simp; done) | (simp [*]; done), by repeat (first | exact Drawn0.refl _ | apply Drawn0.step)⟩
   ·rw [if_neg c8] at H
    have c8b0 : decide (a0 < a1) = false := decide_eq_false c8
    clear c8
    by_cases c9 : a0 > a1
    ·rw [if_pos c9] at H
     have c9b0 : decide (a1 < a0) = true := decide_eq_true c9
     clear c9
     obtain rfl := Option.some.inj H
     go_enter Try.func39, Try.ntmps39
     go_wp2_with (first | ((with_reducible refine gate_callee (f := 49) rfl ?_); refine RFn.goesM (some 8) Try.func49 #[.int .i64 a0] rfl ?_; (with_reducible refine (cmp_isNaN_int.calls a0 false _ A3.out).mono ?_); rintro e w' ⟨rfl, ⟨nd, rfl⟩⟩; refine ⟨_, rfl, ?_⟩) | ((with_reducible refine gate_callee (f := 49) rfl ?_); refine RFn.goesM (some 10) Try.func49 #[.int .i64 a1] rfl ?_; (with_reducible refine (cmp_isNaN_int.calls a1 false _ A4.out).mono ?_); rintro e w' ⟨rfl, ⟨nd, rfl⟩⟩; refine ⟨_, rfl, ?_⟩))
     go_ret
     exact ⟨by first | rfl | (simp; done) | (simp [*]; done), by repeat (first | exact Drawn0.refl _ | apply Drawn0.step)⟩
    ·rw [if_neg c9] at H
     have c9b0 : decide (a1 < a0) = false := decide_eq_false c9
     clear c9
     obtain rfl := Option.some.inj H
     go_enter Try.func39, Try.ntmps39
     go_wp2_with (first | ((with_reducible refine gate_callee (f := 49) rfl ?_); refine RFn.goesM (some 8) Try.func49 #[.int .i64 a0] rfl ?_; (with_reducible refine (cmp_isNaN_int.calls a0 false _ A3.out).mono ?_); rintro e w' ⟨rfl, ⟨nd, rfl⟩⟩; refine ⟨_, rfl, ?_⟩) | ((with_reducible refine gate_callee (f := 49) rfl ?_); refine RFn.goesM (some 10) Try.func49 #[.int .i64 a1] rfl ?_; (with_reducible refine (cmp_isNaN_int.calls a1 false _ A4.out).mono ?_); rintro e w' ⟨rfl, ⟨nd, rfl⟩⟩; refine ⟨_, rfl, ?_⟩))
     go_ret
     exact ⟨by first | rfl | (simp; done) | (simp [*]; done), by repeat (first | exact Drawn0.refl _ | apply Drawn0.step)⟩
/-! ### fact_Cmp: function 17 -/
def fact_Cmp.f (k : Nat) (a0_0 : ByteArray) (a0_1 : ByteArray) (a0_2 : ByteArray) (a0_3 : ByteArray) (a0_4 : Int) (a1_0 : ByteArray) (a1_1 : ByteArray) (a1_2 : ByteArray) (a1_3 : ByteArray) (a1_4 : Int) : Option (Int) := (strings_Compare.f a0_0 a1_0).bind fun t106 => ((strings_Compare.f a0_1 a1_1).bind fun t107 => ((strings_Compare.f a0_2 a1_2).bind fun t108 => ((strings_Compare.f a0_3 a1_3).bind fun t109 => ((cmp_Compare_int.f a0_4 a1_4).bind fun t110 => ((cmp_Or_int.f k (([t106, t107, t108, t109, t110] : List Int))).bind fun t114 => (some t114))))))
theorem fact_Cmp.mono : ∀ a0 a1 a2 a3 a4 a5 a6 a7 a8 a9 k, LeO (fact_Cmp.f k a0 a1 a2 a3 a4 a5 a6 a7 a8 a9) (fact_Cmp.f (k + 1) a0 a1 a2 a3 a4 a5 a6 a7 a8 a9) := by
 intro a0 a1 a2 a3 a4 a5 a6 a7 a8 a9 k
 unfold fact_Cmp.f
 repeat' first | exact LeO.refl _ | with_reducible first | apply cmp_Or_int.mono | exact LeO.none _ | apply LeO.ite | refine LeO.bind ?_ fun _ => ?_
def fact_Cmp.T1 : Bool × List (List Nat × List Nat) := (true, [([], []), ([0], [0]), ([], []), ([2], [2]), ([1, 3], [1, 3]), ([], []), ([5], [5]), ([], []), ([7], [7]), ([6, 8, 4], [6, 8]), ([], []), ([10], [10]), ([], []), ([12], [12]), ([11, 13, 9], [11, 13]), ([], []), ([15], [15]), ([], []), ([17], [17]), ([16, 18, 14], [16, 18]), ([], []), ([20], [20]), ([], []), ([22], [22]), ([21, 23, 19], [21, 23]), ([4, 9, 14, 19, 24], [4, 9, 14, 19, 24]), ([25, 24], [25]), ([26, 26, 0, 1, 2, 3, 4, 5, 6, 7, 8, 9, 10, 11, 12, 13, 14, 15, 16, 17, 18, 19, 20, 21, 22, 23, 24, 25, 26], [26])])
def fact_Cmp.B1 : List Nat := [0, 1, 0, 4, 15, 0, 32, 0, 128, 511, 0, 1024, 0, 4096, 16383, 0, 32768, 0, 131072, 524287, 0, 1048576, 0, 4194304, 16777215, 33554431, 67108863, 134217727]
theorem fact_Cmp.tab1 : rtab .any (opsOf Try.f17 1) = fact_Cmp.T1 := by kernel_rfl
theorem fact_Cmp.bits1 : waitsOk fact_Cmp.T1.2 fact_Cmp.B1 = true := by kernel_rfl
set_option maxHeartbeats 8000000 in
set_option maxRecDepth 100000 in
theorem fact_Cmp.calls (k : Nat) (a0_0 : ByteArray) (a0_1 : ByteArray) (a0_2 : ByteArray) (a0_3 : ByteArray) (a0_4 : Int) (a1_0 : ByteArray) (a1_1 : ByteArray) (a1_2 : ByteArray) (a1_3 : ByteArray) (a1_4 : Int) (r : Int) (w : World) (h : fact_Cmp.f k a0_0 a0_1 a0_2 a0_3 a0_4 a1_0 a1_1 a1_2 a1_3 a1_4 = some r) :
  Calls Try.prog 17 #[.agg #[.string a0_0, .string a0_1, .string a0_2, .string a0_3, .int .i64 a0_4], .agg #[.string a1_0, .string a1_1, .string a1_2, .string a1_3, .int .i64 a1_4]] w fun e w' => e = .returned (.int .i64 r) ∧ Below w.heap.size w w' := by
 have hu40 := Try.underlying40
 have HB := Aside0.mk (Below.refl w.heap.size w)
 have H : ((strings_Compare.f a0_0 a1_0).bind fun t106 => ((strings_Compare.f a0_1 a1_1).bind fun t107 => ((strings_Compare.f a0_2 a1_2).bind fun t108 => ((strings_Compare.f a0_3 a1_3).bind fun t109 => ((cmp_Compare_int.f a0_4 a1_4).bind fun t110 => ((cmp_Or_int.f k (([t106, t107, t108, t109, t110] : List Int))).bind fun t114 => (some t114))))))) = some r := h
 clear h
 obtain ⟨t106, A3, H⟩ := RFn.bn H
 obtain ⟨t107, A4, H⟩ := RFn.bn H
 obtain ⟨t108, A5, H⟩ := RFn.bn H
 obtain ⟨t109, A6, H⟩ := RFn.bn H
 obtain ⟨t110, A7, H⟩ := RFn.bn H
 obtain ⟨y111, hy111⟩ : ∃ y_ : List Int, y_ = (([t106, t107, t108, t109, t110] : List Int)) := ⟨_, rfl⟩
 replace H : ((cmp_Or_int.f k y111).bind fun t114 => (some t114)) = some r := RFn.rp H hy111
 have Ny111 := Aside0.mk hy111
 clear hy111
 obtain ⟨t114, A8, H⟩ := RFn.bn H
 obtain rfl := Option.some.inj H
 go_enter Try.func17, Try.ntmps17
 try go_wp2_with (first | ((with_reducible refine gate_dst (N := 2) rfl ?_); refine box_event ?hg (N := 2) ?hd (cs := #[.string a0_0, .string a0_1, .string a0_2, .string a0_3, .int .i64 a0_4]) (t := 40) ?hr ?_; (case hd => rfl); (case hg => rfl); (case hr => first | (go_simp; done) | (go_simp; rfl)); intro gb104 hg w9 hbox hb; have n0_ := Aside0.mk (below_step (RFn.bel) hb); have n1_ := Aside0.mk (hbox); have n2_ := Aside0.mk ((by rw [hg]; exact (below_size (RFn.bel)) : w.heap.size ≤ gb104)); have n3_ := Aside0.mk ((by rw [hg]; exact (below_size (RFn.bel)) : w.heap.size ≤ gb104)); clear HB; have HB := n0_; have BK104 := n1_; have GW104 := n2_; have GE104 := n3_; clear n0_ n1_ n2_ n3_; clear hb hbox hg) | ((with_reducible refine gate_dst (N := 3) rfl ?_); refine box_event ?hg (N := 3) ?hd (cs := #[.string a1_0, .string a1_1, .string a1_2, .string a1_3, .int .i64 a1_4]) (t := 40) ?hr ?_; (case hd => rfl); (case hg => rfl); (case hr => first | (go_simp; done) | (go_simp; rfl)); intro gb105 hg w10 hbox hb; have n0_ := Aside0.mk (blk_below (g := gb104) RFn.blk hb); have n1_ := Aside0.mk (below_step RFn.bels hb); have n2_ := Aside0.mk (hbox); have n3_ := Aside0.mk ((by rw [hg]; exact (below_size RFn.bels) : w.heap.size ≤ gb105)); have n4_ := Aside0.mk ((by rw [hg]; exact (below_size RFn.bels) : w.heap.size ≤ gb105)); have n5_ := Aside0.mk ((by rw [hg]; exact Nat.ne_of_lt (blk_lt (g := gb104) RFn.blk) : gb104 ≠ gb105)); have n6_ := Aside0.mk ((by rw [hg]; exact Nat.ne_of_gt (blk_lt (g := gb104) RFn.blk) : gb105 ≠ gb104)); clear BK104; clear HB; have BK104 := n0_; have HB := n1_; have BK105 := n2_; have GW105 := n3_; have GE105 := n4_; have NB104_105 := n5_; have NB105_104 := n6_; clear n0_ n1_ n2_ n3_ n4_ n5_ n6_; clear hb hbox hg))
 have n0_ := Aside0.mk (blk_drew BK104.out)
 have n1_ := Aside0.mk (blk_drew BK105.out)
 have n2_ := Aside0.mk (below_drew1 HB.out)
 clear BK104
 clear BK105
 clear HB
 have BK104 := n0_
 have BK105 := n1_
 have HB := n2_
 clear n0_ n1_ n2_
 refine start_ (n := 28) (S := fun w' => w'.cell? ⟨gb104, 0, none⟩ = some (.string a0_0) ∧ w'.cell? ⟨gb104, 1, none⟩ = some (.string a0_1) ∧ w'.cell? ⟨gb104, 2, none⟩ = some (.string a0_2) ∧ w'.cell? ⟨gb104, 3, none⟩ = some (.string a0_3) ∧ w'.cell? ⟨gb104, 4, none⟩ = some (.int .i64 a0_4) ∧ w'.cell? ⟨gb105, 0, none⟩ = some (.string a1_0) ∧ w'.cell? ⟨gb105, 1, none⟩ = some (.string a1_1) ∧ w'.cell? ⟨gb105, 2, none⟩ = some (.string a1_2) ∧ w'.cell? ⟨gb105, 3, none⟩ = some (.string a1_3) ∧ w'.cell? ⟨gb105, 4, none⟩ = some (.int .i64 a1_4)) (ds := []) (bs 28 0) (by kernel_rfl) rfl rfl (RFn.bd5 BK104 BK105) (fun hHeld => ?_); refine with_tabW fact_Cmp.tab1 fact_Cmp.bits1 (fun HT_ HW_ => ?_)
 generalize w10.drew = w11 at BK104 BK105 HB hHeld ⊢
 refine RFn.pA (i := 0) (N := some 5) (bs 28 1) HT_ ?_
 refine RFn.pA (i := 2) (N := some 7) (bs 28 5) HT_ ?_
 refine RFn.pA (i := 5) (N := some 10) (bs 28 37) HT_ ?_
 refine RFn.pA (i := 7) (N := some 12) (bs 28 165) HT_ ?_
 refine RFn.pA (i := 10) (N := some 15) (bs 28 1189) HT_ ?_
 refine RFn.pA (i := 12) (N := some 17) (bs 28 5285) HT_ ?_
 refine RFn.pA (i := 15) (N := some 20) (bs 28 38053) HT_ ?_
 refine RFn.pA (i := 17) (N := some 22) (bs 28 169125) HT_ ?_
 refine RFn.pA (i := 20) (N := some 25) (bs 28 1217701) HT_ ?_
 refine RFn.pA (i := 22) (N := some 27) (bs 28 5412005) HT_ ?_
 refine RFn.tA (i := 1) (N := some 6) (bs 28 5412007) rfl HT_ HW_ hHeld (by rintro w' ⟨s0, s1, s2, s3, s4, s5, s6, s7, s8, s9⟩; go_simp; with_reducible rfl) ?_
 refine RFn.tA (i := 3) (N := some 8) (bs 28 5412015) rfl HT_ HW_ hHeld (by rintro w' ⟨s0, s1, s2, s3, s4, s5, s6, s7, s8, s9⟩; go_simp; with_reducible rfl) ?_
 refine RFn.tA (i := 6) (N := some 11) (bs 28 5412079) rfl HT_ HW_ hHeld (by rintro w' ⟨s0, s1, s2, s3, s4, s5, s6, s7, s8, s9⟩; go_simp; with_reducible rfl) ?_
 refine RFn.tA (i := 8) (N := some 13) (bs 28 5412335) rfl HT_ HW_ hHeld (by rintro w' ⟨s0, s1, s2, s3, s4, s5, s6, s7, s8, s9⟩; go_simp; with_reducible rfl) ?_
 refine RFn.tA (i := 11) (N := some 16) (bs 28 5414383) rfl HT_ HW_ hHeld (by rintro w' ⟨s0, s1, s2, s3, s4, s5, s6, s7, s8, s9⟩; go_simp; with_reducible rfl) ?_
 refine RFn.tA (i := 13) (N := some 18) (bs 28 5422575) rfl HT_ HW_ hHeld (by rintro w' ⟨s0, s1, s2, s3, s4, s5, s6, s7, s8, s9⟩; go_simp; with_reducible rfl) ?_
 refine RFn.tA (i := 16) (N := some 21) (bs 28 5488111) rfl HT_ HW_ hHeld (by rintro w' ⟨s0, s1, s2, s3, s4, s5, s6, s7, s8, s9⟩; go_simp; with_reducible rfl) ?_
 refine RFn.tA (i := 18) (N := some 23) (bs 28 5750255) rfl HT_ HW_ hHeld (by rintro w' ⟨s0, s1, s2, s3, s4, s5, s6, s7, s8, s9⟩; go_simp; with_reducible rfl) ?_
 refine RFn.tA (i := 21) (N := some 26) (bs 28 7847407) rfl HT_ HW_ hHeld (by rintro w' ⟨s0, s1, s2, s3, s4, s5, s6, s7, s8, s9⟩; go_simp; with_reducible rfl) ?_
 refine RFn.tA (i := 23) (N := some 28) (bs 28 16236015) rfl HT_ HW_ hHeld (by rintro w' ⟨s0, s1, s2, s3, s4, s5, s6, s7, s8, s9⟩; go_simp; with_reducible rfl) ?_
 refine RFn.o1 (i := 4) (N := some 9) (bs 28 16236031) HT_ fun K hK => ?_
 refine RFn.gA Try.func38 #[.string a0_0, .string a1_0] rfl ?_
 with_reducible refine (strings_Compare.calls a0_0 a1_0 t106 _ A3.out).mono ?_
 rintro e w' ⟨rfl, ⟨nd, rfl⟩⟩
 refine ⟨_, rfl, ?_⟩
 refine hK.out _ _ (RFn.bd5 BK104 BK105) (fun hHeld => ?_)
 clear hK K
 refine RFn.nm (some 9) ?_
 refine RFn.o1 (i := 9) (N := some 14) (bs 28 16236543) HT_ fun K hK => ?_
 refine RFn.gA Try.func38 #[.string a0_1, .string a1_1] rfl ?_
 with_reducible refine (strings_Compare.calls a0_1 a1_1 t107 _ A4.out).mono ?_
 rintro e w' ⟨rfl, ⟨nd, rfl⟩⟩
 refine ⟨_, rfl, ?_⟩
 refine hK.out _ _ (RFn.bd5 BK104 BK105) (fun hHeld => ?_)
 clear hK K
 refine RFn.nm (some 14) ?_
 refine RFn.o1 (i := 14) (N := some 19) (bs 28 16252927) HT_ fun K hK => ?_
 refine RFn.gA Try.func38 #[.string a0_2, .string a1_2] rfl ?_
 with_reducible refine (strings_Compare.calls a0_2 a1_2 t108 _ A5.out).mono ?_
 rintro e w' ⟨rfl, ⟨nd, rfl⟩⟩
 refine ⟨_, rfl, ?_⟩
 refine hK.out _ _ (RFn.bd5 BK104 BK105) (fun hHeld => ?_)
 clear hK K
 refine RFn.nm (some 19) ?_
 refine RFn.o1 (i := 19) (N := some 24) (bs 28 16777215) HT_ fun K hK => ?_
 refine RFn.gA Try.func38 #[.string a0_3, .string a1_3] rfl ?_
 with_reducible refine (strings_Compare.calls a0_3 a1_3 t109 _ A6.out).mono ?_
 rintro e w' ⟨rfl, ⟨nd, rfl⟩⟩
 refine ⟨_, rfl, ?_⟩
 refine hK.out _ _ (RFn.bd5 BK104 BK105) (fun hHeld => ?_)
 clear hK K
 refine RFn.nm (some 24) ?_
 refine RFn.o1 (i := 24) (N := some 29) (bs 28 33554431) HT_ fun K hK => ?_
 refine RFn.gA Try.func39 #[.int .i64 a0_4, .int .i64 a1_4] rfl ?_
 with_reducible refine (cmp_Compare_int.calls a0_4 a1_4 t110 _ A7.out).mono ?_
 rintro e w' ⟨rfl, ⟨nd, rfl⟩⟩
 refine ⟨_, rfl, ?_⟩
 refine hK.out _ _ (RFn.bd5 BK104 BK105) (fun hHeld => ?_)
 clear hK K
 refine RFn.nm (some 29) ?_
 refine RFn.o1 (i := 25) (N := some 30) (bs 28 67108863) HT_ fun K hK => ?_
 refine Kd.R_lit_step (Kd.int .i64) _ 3 ?hg (N := 30) ?hd (xs := ([t106, t107, t108, t109, t110] : List Int)) (inner := [.int .i64 t106, .int .i64 t107, .int .i64 t108, .int .i64 t109, .int .i64 t110]) (ok := fun _ => True) (okp := fun _ => True) ?hr ?hp (fun _ hk => hk) trivial (Below.refl _ _) (Nat.le_refl _) (by simp) ?_; (case hd => rfl); (case hg => rfl); (case hr => first | (go_simp; done) | (go_simp; rfl)); (case hp => exact (Reps.one (show Kd.M (Kd.int .i64) _ _ _ t106 [.int .i64 t106] from rfl) (Reps.one (show Kd.M (Kd.int .i64) _ _ _ t107 [.int .i64 t107] from rfl) (Reps.one (show Kd.M (Kd.int .i64) _ _ _ t108 [.int .i64 t108] from rfl) (Reps.one (show Kd.M (Kd.int .i64) _ _ _ t109 [.int .i64 t109] from rfl) (Reps.one (show Kd.M (Kd.int .i64) _ _ _ t110 [.int .i64 t110] from rfl) (Reps.none _ _)))))))
 intro v112 w12 ho13 hb hg_ hnew_
 clear hg_ hnew_
 (first | rw [← Ny111.out] at ho13 | (simp only [Int.reduceToNat] at ho13; rw [← Ny111.out] at ho13))
 have n0_ := Aside0.mk (Kd.R_lower ho13 (below_size RFn.bels))
 have n1_ := Aside0.mk (blk_below (g := gb104) RFn.blk hb)
 have n2_ := Aside0.mk (blk_below (g := gb105) RFn.blk hb)
 have n3_ := Aside0.mk (below_step RFn.bels hb)
 clear BK104
 clear BK105
 clear HB
 have HO113 := n0_
 have BK104 := n1_
 have BK105 := n2_
 have HB := n3_
 clear n0_ n1_ n2_ n3_
 clear hb ho13
 obtain ⟨Ao14, co14, eo14⟩ := Kd.R_slice HO113.out
 (first | subst eo14 | (injection eo14 with f1_ f2_ f3_; have f4_ := f1_.symm; have f5_ := f3_.symm; clear f1_ f2_ f3_; subst f4_; subst f5_))
 refine hK.out _ _ (RFn.bd5 BK104 BK105) (fun hHeld => ?_)
 clear hK K
 refine RFn.nm (some 30) ?_
 refine RFn.o1 (i := 26) (N := some 31) (bs 28 134217727) HT_ fun K hK => ?_
 refine RFn.gA Try.func37 #[.slice Ao14 y111.length co14] rfl ?_
 with_reducible refine (cmp_Or_int.calls k _ _ y111 t114 _ ?side1 ?side2 A8.out).mono ?_
 (case side1 => exact RFn.mC (Kd.R_reads' HO113.out).2.2)
 (case side2 => exact (Kd.R_reads' HO113.out).2.1)
 rintro e w' ⟨rfl, ⟨nd, rfl⟩⟩
 refine ⟨_, rfl, ?_⟩
 refine hK.out _ _ (RFn.bd5 BK104 BK105) (fun hHeld => ?_)
 clear hK K
 refine RFn.nm (some 31) ?_
 refine RFn.pA (i := 27) (N := some 4) (bs 28 268435455) HT_ ?_
 refine RFn.dn HT_ ?_
 try go_wp2
 go_ret
 exact ⟨by first | rfl | (simp [errW_none, errW_some] <;> rfl) | (simp [*, errW_none, errW_some] <;> rfl), RFn.bels⟩
/-! ### fact_Of_1: function 32 -/
def fact_Of_1.f (k : Nat) (a0_0 : ByteArray) (a0_1 : ByteArray) (a0_2 : ByteArray) (a0_3 : ByteArray) (a0_4 : Int) (a0_5 : Int) (a1_0 : ByteArray) (a1_1 : ByteArray) (a1_2 : ByteArray) (a1_3 : ByteArray) (a1_4 : Int) (a1_5 : Int) : Option (Int) := (fact_Cmp.f k a0_0 a0_1 a0_2 a0_3 a0_4 a1_0 a1_1 a1_2 a1_3 a1_4).bind fun t117 => (some t117)
theorem fact_Of_1.mono : ∀ a0 a1 a2 a3 a4 a5 a6 a7 a8 a9 a10 a11 k, LeO (fact_Of_1.f k a0 a1 a2 a3 a4 a5 a6 a7 a8 a9 a10 a11) (fact_Of_1.f (k + 1) a0 a1 a2 a3 a4 a5 a6 a7 a8 a9 a10 a11) := by
 intro a0 a1 a2 a3 a4 a5 a6 a7 a8 a9 a10 a11 k
 unfold fact_Of_1.f
 repeat' first | exact LeO.refl _ | with_reducible first | apply fact_Cmp.mono | exact LeO.none _ | apply LeO.ite | refine LeO.bind ?_ fun _ => ?_
set_option maxHeartbeats 8000000 in
set_option maxRecDepth 100000 in
theorem fact_Of_1.calls (k : Nat) (a0_0 : ByteArray) (a0_1 : ByteArray) (a0_2 : ByteArray) (a0_3 : ByteArray) (a0_4 : Int) (a0_5 : Int) (a1_0 : ByteArray) (a1_1 : ByteArray) (a1_2 : ByteArray) (a1_3 : ByteArray) (a1_4 : Int) (a1_5 : Int) (r : Int) (w : World) (h : fact_Of_1.f k a0_0 a0_1 a0_2 a0_3 a0_4 a0_5 a1_0 a1_1 a1_2 a1_3 a1_4 a1_5 = some r) :
  Calls Try.prog 32 #[.agg #[.string a0_0, .string a0_1, .string a0_2, .string a0_3, .int .i64 a0_4, .int .i64 a0_5], .agg #[.string a1_0, .string a1_1, .string a1_2, .string a1_3, .int .i64 a1_4, .int .i64 a1_5]] w fun e w' => e = .returned (.int .i64 r) ∧ Below w.heap.size w w' := by
 have hu60 := Try.underlying60
 have hu40 := Try.underlying40
 have HB := Aside0.mk (Below.refl w.heap.size w)
 have H : ((fact_Cmp.f k a0_0 a0_1 a0_2 a0_3 a0_4 a1_0 a1_1 a1_2 a1_3 a1_4).bind fun t117 => (some t117)) = some r := h
 clear h
 obtain ⟨t117, A3, H⟩ := RFn.bn H
 obtain rfl := Option.some.inj H
 go_enter Try.func32, Try.ntmps32
 go_wp2_with (first | ((with_reducible refine gate_dst (N := 2) rfl ?_); refine box_event ?hg (N := 2) ?hd (cs := #[.string a0_0, .string a0_1, .string a0_2, .string a0_3, .int .i64 a0_4, .int .i64 a0_5]) (t := 60) ?hr ?_; (case hd => rfl); (case hg => rfl); (case hr => first | (go_simp; done) | (go_simp; rfl)); intro gb115 hg w4 hbox hb; have n0_ := Aside0.mk (below_step (RFn.bel) hb); have n1_ := Aside0.mk (hbox); have n2_ := Aside0.mk ((by rw [hg]; exact (below_size (RFn.bel)) : w.heap.size ≤ gb115)); have n3_ := Aside0.mk ((by rw [hg]; exact (below_size (RFn.bel)) : w.heap.size ≤ gb115)); clear HB; have HB := n0_; have BK115 := n1_; have GW115 := n2_; have GE115 := n3_; clear n0_ n1_ n2_ n3_; clear hb hbox hg) | ((with_reducible refine gate_dst (N := 3) rfl ?_); refine box_event ?hg (N := 3) ?hd (cs := #[.string a1_0, .string a1_1, .string a1_2, .string a1_3, .int .i64 a1_4, .int .i64 a1_5]) (t := 60) ?hr ?_; (case hd => rfl); (case hg => rfl); (case hr => first | (go_simp; done) | (go_simp; rfl)); intro gb116 hg w5 hbox hb; have n0_ := Aside0.mk (blk_below (g := gb115) RFn.blk hb); have n1_ := Aside0.mk (below_step RFn.bels hb); have n2_ := Aside0.mk (hbox); have n3_ := Aside0.mk ((by rw [hg]; exact (below_size RFn.bels) : w.heap.size ≤ gb116)); have n4_ := Aside0.mk ((by rw [hg]; exact (below_size RFn.bels) : w.heap.size ≤ gb116)); have n5_ := Aside0.mk ((by rw [hg]; exact Nat.ne_of_lt (blk_lt (g := gb115) RFn.blk) : gb115 ≠ gb116)); have n6_ := Aside0.mk ((by rw [hg]; exact Nat.ne_of_gt (blk_lt (g := gb115) RFn.blk) : gb116 ≠ gb115)); clear BK115; clear HB; have BK115 := n0_; have HB := n1_; have BK116 := n2_; have GW116 := n3_; have GE116 := n4_; have NB115_116 := n5_; have NB116_115 := n6_; clear n0_ n1_ n2_ n3_ n4_ n5_ n6_; clear hb hbox hg; have hnb6 := NB115_116.out; have hnc6 := NB116_115.out; obtain ⟨hcz7_0, hcz7_1, hcz7_2, hcz7_3, hcz7_4, hcz7_5⟩ := RFn.bc6 BK115; obtain ⟨hfz7_0, hfz7_1, hfz7_2, hfz7_3, hfz7_4, hfz7_5⟩ := RFn.bf6 BK115; obtain ⟨hcz8_0, hcz8_1, hcz8_2, hcz8_3, hcz8_4, hcz8_5⟩ := RFn.bc6 BK116; obtain ⟨hfz8_0, hfz8_1, hfz8_2, hfz8_3, hfz8_4, hfz8_5⟩ := RFn.bf6 BK116) | ((with_reducible refine gate_callee (f := 17) rfl ?_); refine RFn.goesM (some 9) Try.func17 #[.agg #[.string a0_0, .string a0_1, .string a0_2, .string a0_3, .int .i64 a0_4], .agg #[.string a1_0, .string a1_1, .string a1_2, .string a1_3, .int .i64 a1_4]] rfl ?_; (with_reducible refine (fact_Cmp.calls k a0_0 a0_1 a0_2 a0_3 a0_4 a1_0 a1_1 a1_2 a1_3 a1_4 t117 _ A3.out).mono ?_); rintro e w9 ⟨rfl, hb⟩; refine ⟨_, rfl, ?_⟩; have n0_ := Aside0.mk (blk_below (g := gb115) RFn.blk hb); have n1_ := Aside0.mk (blk_below (g := gb116) RFn.blk hb); have n2_ := Aside0.mk (below_step RFn.bels hb); clear BK115; clear BK116; clear HB; have BK115 := n0_; have BK116 := n1_; have HB := n2_; clear n0_ n1_ n2_; (try clear hb); (try clear hb2); (try clear hk); (try clear hi)))
 go_ret
 exact ⟨by first | rfl | (simp [errW_none, errW_some] <;> rfl) | (simp [*, errW_none, errW_some] <;> rfl), RFn.bels⟩
/-! ### fact_Fact_51: function 51 -/
mutual
def fact_Fact_51.l0 : Nat → List (S60) → Int → Int → Int → Option ((List (S60)))
 | 0, _, _, _, _ => none
 | k + 1, x0, x1, x2, x8 => if x8 < x2 then (fact_Fact_51.l1 k x0 x1 x2 x8 x8) else (some x0)
def fact_Fact_51.l1 : Nat → List (S60) → Int → Int → Int → Int → Option ((List (S60)))
 | 0, _, _, _, _, _ => none
 | k + 1, x0, x1, x2, x8, x9 => if x9 > x1 then (if 0 ≤ x9 then (if x9 < (x0.length : Int) then (if 0 ≤ (wrap64 (x9 - 1)) then (if (wrap64 (x9 - 1)) < (x0.length : Int) then ((fact_Of_1.f k ((rd_T60 x0 x9).f0.f0) ((rd_T60 x0 x9).f0.f1) ((rd_T60 x0 x9).f0.f2) ((rd_T60 x0 x9).f0.f3) ((rd_T60 x0 x9).f0.f4) ((rd_T60 x0 x9).f1) ((rd_T60 x0 (wrap64 (x9 - 1))).f0.f0) ((rd_T60 x0 (wrap64 (x9 - 1))).f0.f1) ((rd_T60 x0 (wrap64 (x9 - 1))).f0.f2) ((rd_T60 x0 (wrap64 (x9 - 1))).f0.f3) ((rd_T60 x0 (wrap64 (x9 - 1))).f0.f4) ((rd_T60 x0 (wrap64 (x9 - 1))).f1)).bind fun t120 => (if t120 < 0 then (fact_Fact_51.l1 k ((x0.set (x9 : Int).toNat (⟨(⟨(rd_T60 x0 (wrap64 (x9 - 1))).f0.f0, (rd_T60 x0 (wrap64 (x9 - 1))).f0.f1, (rd_T60 x0 (wrap64 (x9 - 1))).f0.f2, (rd_T60 x0 (wrap64 (x9 - 1))).f0.f3, (rd_T60 x0 (wrap64 (x9 - 1))).f0.f4⟩ : S40), (rd_T60 x0 (wrap64 (x9 - 1))).f1⟩ : S60)).set ((wrap64 (x9 - 1)) : Int).toNat (⟨(⟨(rd_T60 x0 x9).f0.f0, (rd_T60 x0 x9).f0.f1, (rd_T60 x0 x9).f0.f2, (rd_T60 x0 x9).f0.f3, (rd_T60 x0 x9).f0.f4⟩ : S40), (rd_T60 x0 x9).f1⟩ : S60)) x1 x2 x8 (wrap64 (x9 - 1))) else (fact_Fact_51.l0 k x0 x1 x2 (wrap64 (x8 + 1))))) else (none)) else (none)) else (none)) else (none)) else (fact_Fact_51.l0 k x0 x1 x2 (wrap64 (x8 + 1)))
end
def fact_Fact_51.f (k : Nat) (l0 : List (S60)) (a1 : Int) (a2 : Int)  : Option ((List (S60))) := fact_Fact_51.l0 k l0 a1 a2 (wrap64 (a1 + 1))
theorem fact_Fact_51.mono_l : ∀ k, (∀ y0 y1 y2 y3, LeO (fact_Fact_51.l0 k y0 y1 y2 y3) (fact_Fact_51.l0 (k + 1) y0 y1 y2 y3)) ∧ (∀ y0 y1 y2 y3 y4, LeO (fact_Fact_51.l1 k y0 y1 y2 y3 y4) (fact_Fact_51.l1 (k + 1) y0 y1 y2 y3 y4))
 | 0 => ⟨fun _ _ _ _ r h => by simp [fact_Fact_51.l0] at h, fun _ _ _ _ _ r h => by simp [fact_Fact_51.l1] at h⟩
 | k + 1 => by
  obtain ⟨ih0, ih1⟩ := fact_Fact_51.mono_l k
  refine ⟨?_, ?_⟩
  ·intro y0 y1 y2 y3
   unfold fact_Fact_51.l0
   repeat' first | exact LeO.refl _ | with_reducible first | apply ih0 | apply ih1 | apply fact_Of_1.mono | exact LeO.none _ | apply LeO.ite | refine LeO.bind ?_ fun _ => ?_
  ·intro y0 y1 y2 y3 y4
   unfold fact_Fact_51.l1
   repeat' first | exact LeO.refl _ | with_reducible first | apply ih0 | apply ih1 | apply fact_Of_1.mono | exact LeO.none _ | apply LeO.ite | refine LeO.bind ?_ fun _ => ?_
theorem fact_Fact_51.mono : ∀ a0 a1 a2 k, LeO (fact_Fact_51.f k a0 a1 a2) (fact_Fact_51.f (k + 1) a0 a1 a2) := by
 intro a0 a1 a2 k
 obtain ⟨ih0, ih1⟩ := fact_Fact_51.mono_l k
 unfold fact_Fact_51.f
 repeat' first | exact LeO.refl _ | with_reducible first | apply ih0 | apply ih1 | apply fact_Of_1.mono | exact LeO.none _ | apply LeO.ite | refine LeO.bind ?_ fun _ => ?_
def fact_Fact_51.T4 : Bool × List (List Nat × List Nat) := (true, [([], []), ([], []), ([0, 1], [0, 1]), ([2], [2]), ([3], [3]), ([3], [3]), ([3], [3]), ([5, 6, 3], [3, 5, 6]), ([7, 3], [3, 7]), ([3], [3]), ([3], [3]), ([10, 3], [3, 10]), ([9, 11, 3], [3, 9, 11]), ([12, 3], [3, 12]), ([4, 8, 13, 3, 3], [3, 4, 8, 13]), ([14, 3], [3, 14]), ([3, 15], [3, 15])])
def fact_Fact_51.B4 : List Nat := [0, 0, 3, 7, 15, 15, 15, 111, 239, 15, 15, 1039, 3599, 7695, 16383, 32767, 65535]
theorem fact_Fact_51.tab4 : rtab .any (opsOf Try.f51 4) = fact_Fact_51.T4 := by kernel_rfl
theorem fact_Fact_51.bits4 : waitsOk fact_Fact_51.T4.2 fact_Fact_51.B4 = true := by kernel_rfl
def fact_Fact_51.T6 : Bool × List (List Nat × List Nat) := (true, [([], []), ([], []), ([], []), ([], []), ([3], [3]), ([], []), ([], []), ([6], [6]), ([5, 7], [5, 7]), ([8], [8]), ([], []), ([], []), ([10, 11], [10, 11]), ([12], [12]), ([0, 1, 0, 1, 5, 6, 7, 8, 9, 13], [0, 1]), ([14, 9, 0, 1, 5, 6, 7, 8, 9, 13], [9, 14]), ([2, 4, 0, 1, 2, 3, 4, 5, 6, 7, 8, 9, 10, 11, 12, 13, 14, 15], [2, 4]), ([16, 13, 15, 0, 1, 2, 3, 4, 5, 6, 7, 8, 9, 10, 11, 12, 13, 14, 15], [13, 16])])
def fact_Fact_51.B6 : List Nat := [0, 0, 0, 0, 8, 0, 0, 64, 224, 480, 0, 0, 3072, 7168, 16355, 32739, 65535, 131071]
theorem fact_Fact_51.tab6 : rtab .any (opsOf Try.f51 6) = fact_Fact_51.T6 := by kernel_rfl
theorem fact_Fact_51.bits6 : waitsOk fact_Fact_51.T6.2 fact_Fact_51.B6 = true := by kernel_rfl
set_option maxHeartbeats 8000000 in
set_option maxRecDepth 100000 in
theorem fact_Fact_51.calls (k : Nat) (P0_ : Nat → Prop) (u9000_ : Value) (l0 : List (S60)) (a1 : Int) (a2 : Int)  (r : List (S60)) (w0 w : World) (hB : Below w0.heap.size w0 w) (ho0 : Kd.R k60 60 w w0.heap.size P0_ u9000_ l0) (h : fact_Fact_51.f k l0 a1 a2 = some r) :
  Calls Try.prog 51 #[u9000_, .int .i64 a1, .int .i64 a2, .func (.func 32) #[] #[]] w fun e w' => e = .returned (.tuple #[]) ∧ Kd.R k60 60 w' w0.heap.size (fun k_ => (P0_ k_ ∨ w.heap.size ≤ k_)) u9000_ r ∧ Below w0.heap.size w0 w' ∧ Kept w w' (fun k_ => P0_ k_) := by
 have hu60 := Try.underlying60
 have HO0 := Aside0.mk (show Kd.R k60 60 w w0.heap.size (fun k_ => (P0_ k_ ∨ w.heap.size ≤ k_)) u9000_ l0 from Kd.R_mono ho0 (fun k_ hk => (.inl hk)))
 have HK := Aside0.mk (Kept.refl w (fun k_ => P0_ k_))
 have HW0 := Aside0.mk hB.size
 have HB := Aside0.mk hB
 clear hB
 have H : (fact_Fact_51.l0 k l0 a1 a2 (wrap64 (a1 + 1))) = some r := h
 clear h
 have H' := Aside0.mk H
 clear H
 go_enter Try.func51, Try.ntmps51
 go_wp2
 go_loopg [8] k (fun kq v8 w' => ∃ (x0_1 : List (S60)) (x8_1 : Int), v8 = .int .i64 x8_1 ∧ Aside0 (fact_Fact_51.l0 kq x0_1 a1 a2 x8_1 = some r) ∧ Aside0 (kq ≤ k) ∧ Aside0 (Kd.R k60 60 w' w0.heap.size (fun k_ => (P0_ k_ ∨ w.heap.size ≤ k_)) u9000_ x0_1) ∧ Aside0 (Kept w w' (fun k_ => P0_ k_)) ∧ Aside0 (Below w0.heap.size w0 w'))
 case atStart => exact ⟨(l0), (wrap64 (a1 + 1)), (by first | rfl | (simp; done) | (simp [*]; done)), H', ⟨Nat.le_refl _⟩, ⟨RFn.mR HO0⟩, ⟨RFn.kp HK⟩, ⟨RFn.bel⟩⟩
 case round =>
  clear H'
  try clear p2
  obtain ⟨x0_1, x8_1, rfl, HA, HK1, HO_0, HK, HB⟩ := hrel
  cases gk with
  | zero => exact absurd HA.out (by simp [fact_Fact_51.l0])
  | succ k1 =>
   have H := HA.out
   clear HA
   simp only [fact_Fact_51.l0] at H
   by_cases c5 : x8_1 < a2
   ·rw [if_pos c5] at H
    have c5b0 : decide (x8_1 < a2) = true := decide_eq_true c5
    clear c5
    have H' := Aside0.mk H
    clear H
    go_wp2
    go_loopg [9] k1 (fun kq v9 w' => ∃ (x0_2 : List (S60)) (x9_2 : Int), v9 = .int .i64 x9_2 ∧ Aside0 (fact_Fact_51.l1 kq x0_2 a1 a2 x8_1 x9_2 = some r) ∧ Aside0 (kq ≤ k1) ∧ Aside0 (Kd.R k60 60 w' w0.heap.size (fun k_ => (P0_ k_ ∨ w.heap.size ≤ k_)) u9000_ x0_2) ∧ Aside0 (Kept w w' (fun k_ => P0_ k_)) ∧ Aside0 (Below w0.heap.size w0 w'))
    case atStart => exact ⟨(x0_1), (x8_1), (by first | rfl | (simp; done) | (simp [*]; done)), H', ⟨Nat.le_refl _⟩, ⟨RFn.mR HO_0⟩, ⟨RFn.kp HK⟩, ⟨RFn.bel⟩⟩
    case round =>
     clear H'
     try clear p2
     try clear c5
     try clear c5b0
     try clear p2
     obtain ⟨x0_2, x9_2, rfl, HA, HK2, HO_0, HK, HB⟩ := hrel
     cases gk with
     | zero => exact absurd HA.out (by simp [fact_Fact_51.l1])
     | succ k2 =>
      have H := HA.out
      clear HA
      simp only [fact_Fact_51.l1] at H
      by_cases c6 : x9_2 > a1
      ·rw [if_pos c6] at H
       have c6b0 : decide (a1 < x9_2) = true := decide_eq_true c6
       clear c6
       by_cases c7 : 0 ≤ x9_2
       ·rw [if_pos c7] at H
        have c7b0 : decide (0 ≤ x9_2) = true := decide_eq_true c7
        clear c7
        by_cases c8 : x9_2 < (x0_2.length : Int)
        ·rw [if_pos c8] at H
         have c8b0 : decide (x9_2 < (x0_2.length : Int)) = true := decide_eq_true c8
         clear c8
         obtain ⟨ji9, hji9⟩ : ∃ j_ : Int, (wrap64 (x9_2 - 1)) = j_ := ⟨_, rfl⟩
         replace H : (if 0 ≤ (ji9) then (if (ji9) < (x0_2.length : Int) then ((fact_Of_1.f k2 ((rd_T60 x0_2 x9_2).f0.f0) ((rd_T60 x0_2 x9_2).f0.f1) ((rd_T60 x0_2 x9_2).f0.f2) ((rd_T60 x0_2 x9_2).f0.f3) ((rd_T60 x0_2 x9_2).f0.f4) ((rd_T60 x0_2 x9_2).f1) ((rd_T60 x0_2 (ji9)).f0.f0) ((rd_T60 x0_2 (ji9)).f0.f1) ((rd_T60 x0_2 (ji9)).f0.f2) ((rd_T60 x0_2 (ji9)).f0.f3) ((rd_T60 x0_2 (ji9)).f0.f4) ((rd_T60 x0_2 (ji9)).f1)).bind fun t120 => (if t120 < 0 then (fact_Fact_51.l1 k2 ((x0_2.set (x9_2 : Int).toNat (⟨(⟨(rd_T60 x0_2 (ji9)).f0.f0, (rd_T60 x0_2 (ji9)).f0.f1, (rd_T60 x0_2 (ji9)).f0.f2, (rd_T60 x0_2 (ji9)).f0.f3, (rd_T60 x0_2 (ji9)).f0.f4⟩ : S40), (rd_T60 x0_2 (ji9)).f1⟩ : S60)).set ((ji9) : Int).toNat (⟨(⟨(rd_T60 x0_2 x9_2).f0.f0, (rd_T60 x0_2 x9_2).f0.f1, (rd_T60 x0_2 x9_2).f0.f2, (rd_T60 x0_2 x9_2).f0.f3, (rd_T60 x0_2 x9_2).f0.f4⟩ : S40), (rd_T60 x0_2 x9_2).f1⟩ : S60)) a1 a2 x8_1 ji9) else (fact_Fact_51.l0 k2 x0_2 a1 a2 (wrap64 (x8_1 + 1))))) else (none)) else (none)) = some r := by first | (rw [hji9] at H; exact H) | (simp only [hji9] at H ⊢; exact H)
         have hji9w : (IntKind.i64.wrap (x9_2 - 1)) = ji9 := (i64_w _).trans hji9
         by_cases c10 : 0 ≤ (ji9)
         ·rw [if_pos c10] at H
          have c10b0 : decide (0 ≤ (ji9)) = true := decide_eq_true c10
          clear c10
          by_cases c11 : (ji9) < (x0_2.length : Int)
          ·rw [if_pos c11] at H
           have c11b0 : decide ((ji9) < (x0_2.length : Int)) = true := decide_eq_true c11
           clear c11
           obtain ⟨t120, A12, H⟩ := RFn.bn H
           by_cases c13 : t120 < 0
           ·rw [if_pos c13] at H
            have c13b0 : decide (t120 < 0) = true := decide_eq_true c13
            clear c13
            obtain ⟨y123, hy123⟩ : ∃ y_ : List (S60), y_ = (x0_2.set (x9_2 : Int).toNat (⟨(⟨(rd_T60 x0_2 (ji9)).f0.f0, (rd_T60 x0_2 (ji9)).f0.f1, (rd_T60 x0_2 (ji9)).f0.f2, (rd_T60 x0_2 (ji9)).f0.f3, (rd_T60 x0_2 (ji9)).f0.f4⟩ : S40), (rd_T60 x0_2 (ji9)).f1⟩ : S60)) := ⟨_, rfl⟩
            replace H : (fact_Fact_51.l1 k2 (y123.set ((ji9) : Int).toNat (⟨(⟨(rd_T60 x0_2 x9_2).f0.f0, (rd_T60 x0_2 x9_2).f0.f1, (rd_T60 x0_2 x9_2).f0.f2, (rd_T60 x0_2 x9_2).f0.f3, (rd_T60 x0_2 x9_2).f0.f4⟩ : S40), (rd_T60 x0_2 x9_2).f1⟩ : S60)) a1 a2 x8_1 ji9) = some r := RFn.rp H hy123
            have Ny123 := Aside0.mk hy123
            clear hy123
            obtain ⟨y124, hy124⟩ : ∃ y_ : List (S60), y_ = (y123.set ((ji9) : Int).toNat (⟨(⟨(rd_T60 x0_2 x9_2).f0.f0, (rd_T60 x0_2 x9_2).f0.f1, (rd_T60 x0_2 x9_2).f0.f2, (rd_T60 x0_2 x9_2).f0.f3, (rd_T60 x0_2 x9_2).f0.f4⟩ : S40), (rd_T60 x0_2 x9_2).f1⟩ : S60)) := ⟨_, rfl⟩
            replace H : (fact_Fact_51.l1 k2 y124 a1 a2 x8_1 ji9) = some r := RFn.rp H hy124
            have Ny124 := Aside0.mk hy124
            clear hy124
            have H' := Aside0.mk H
            clear H
            try go_wp2
            have n0_ := Aside0.mk (Kd.R_drew HO_0.out)
            have n1_ := Aside0.mk (Kept.drew HK.out)
            have n2_ := Aside0.mk (below_drew1 HB.out)
            clear HO_0
            clear HK
            clear HB
            have HO_0 := n0_
            have HK := n1_
            have HB := n2_
            clear n0_ n1_ n2_
            obtain ⟨Ao17, co17, eo17⟩ := Kd.R_slice HO_0.out
            (first | subst eo17 | (injection eo17 with f1_ f2_ f3_; have f4_ := f1_.symm; have f5_ := f3_.symm; clear f1_ f2_ f3_; subst f4_; subst f5_))
            have p118 : 0 ≤ (x9_2 : Int) := RFn.od
            have q118 : x9_2 < (x0_2.length : Int) := RFn.od
            obtain ⟨ad118, e118, hx118_0, hx118_1, hx118_2, hx118_3, hx118_4, hx118_5⟩ := at_T60 (Kd.R_reads' HO_0.out).2.2 x9_2 p118 q118
            cases e118
            replace p118 := eq_true p118
            replace q118 := eq_true q118
            have p119 : 0 ≤ ((ji9) : Int) := RFn.od
            have q119 : (ji9) < (x0_2.length : Int) := RFn.od
            obtain ⟨ad119, e119, hx119_0, hx119_1, hx119_2, hx119_3, hx119_4, hx119_5⟩ := at_T60 (Kd.R_reads' HO_0.out).2.2 (ji9) p119 q119
            obtain rfl : ad118 = ad119 := (by injection e119)
            replace p119 := eq_true p119
            replace q119 := eq_true q119
            refine start_ (n := 17) (S := fun w' => w'.cell? (ad118.add ((x9_2).toNat * 6)) = some (.string ((rd_T60 x0_2 x9_2).f0.f0)) ∧ w'.cell? ⟨(ad118.add ((x9_2).toNat * 6)).block, (ad118.add ((x9_2).toNat * 6)).off + 1, none⟩ = some (.string ((rd_T60 x0_2 x9_2).f0.f1)) ∧ w'.cell? ⟨(ad118.add ((x9_2).toNat * 6)).block, (ad118.add ((x9_2).toNat * 6)).off + 2, none⟩ = some (.string ((rd_T60 x0_2 x9_2).f0.f2)) ∧ w'.cell? ⟨(ad118.add ((x9_2).toNat * 6)).block, (ad118.add ((x9_2).toNat * 6)).off + 3, none⟩ = some (.string ((rd_T60 x0_2 x9_2).f0.f3)) ∧ w'.cell? ⟨(ad118.add ((x9_2).toNat * 6)).block, (ad118.add ((x9_2).toNat * 6)).off + 4, none⟩ = some (.int .i64 ((rd_T60 x0_2 x9_2).f0.f4)) ∧ w'.cell? ⟨(ad118.add ((x9_2).toNat * 6)).block, (ad118.add ((x9_2).toNat * 6)).off + 5, none⟩ = some (.int .i64 ((rd_T60 x0_2 x9_2).f1)) ∧ w'.cell? (ad118.add (((ji9)).toNat * 6)) = some (.string ((rd_T60 x0_2 (ji9)).f0.f0)) ∧ w'.cell? ⟨(ad118.add (((ji9)).toNat * 6)).block, (ad118.add (((ji9)).toNat * 6)).off + 1, none⟩ = some (.string ((rd_T60 x0_2 (ji9)).f0.f1)) ∧ w'.cell? ⟨(ad118.add (((ji9)).toNat * 6)).block, (ad118.add (((ji9)).toNat * 6)).off + 2, none⟩ = some (.string ((rd_T60 x0_2 (ji9)).f0.f2)) ∧ w'.cell? ⟨(ad118.add (((ji9)).toNat * 6)).block, (ad118.add (((ji9)).toNat * 6)).off + 3, none⟩ = some (.string ((rd_T60 x0_2 (ji9)).f0.f3)) ∧ w'.cell? ⟨(ad118.add (((ji9)).toNat * 6)).block, (ad118.add (((ji9)).toNat * 6)).off + 4, none⟩ = some (.int .i64 ((rd_T60 x0_2 (ji9)).f0.f4)) ∧ w'.cell? ⟨(ad118.add (((ji9)).toNat * 6)).block, (ad118.add (((ji9)).toNat * 6)).off + 5, none⟩ = some (.int .i64 ((rd_T60 x0_2 (ji9)).f1))) (ds := []) (bs 17 0) (by kernel_rfl) rfl rfl ⟨hx118_0, hx118_1, hx118_2, hx118_3, hx118_4, hx118_5, hx119_0, hx119_1, hx119_2, hx119_3, hx119_4, hx119_5⟩ (fun hHeld => ?_); refine with_tabW fact_Fact_51.tab4 fact_Fact_51.bits4 (fun HT_ HW_ => ?_)
            generalize wr.drew = w16 at HO_0 HK HB hx118_0 hx118_1 hx118_2 hx118_3 hx118_4 hx118_5 hx119_0 hx119_1 hx119_2 hx119_3 hx119_4 hx119_5 hHeld ⊢
            refine RFn.pA (i := 0) (N := some 18) (bs 17 1) HT_ ?_
            refine RFn.pA (i := 1) (N := some 19) (bs 17 3) HT_ ?_
            refine RFn.pA (i := 2) (N := some 20) (bs 17 7) HT_ ?_
            refine RFn.pA (i := 3) (N := some 21) (bs 17 15) HT_ ?_
            refine RFn.pA (i := 4) (N := some 22) (bs 17 31) HT_ ?_
            refine RFn.pA (i := 5) (N := some 23) (bs 17 63) HT_ ?_
            refine RFn.pA (i := 6) (N := some 24) (bs 17 127) HT_ ?_
            refine RFn.pA (i := 7) (N := some 25) (bs 17 255) HT_ ?_
            refine RFn.pA (i := 9) (N := some 27) (bs 17 767) HT_ ?_
            refine RFn.pA (i := 10) (N := some 28) (bs 17 1791) HT_ ?_
            refine RFn.pA (i := 11) (N := some 29) (bs 17 3839) HT_ ?_
            refine RFn.pA (i := 12) (N := some 30) (bs 17 7935) HT_ ?_
            refine RFn.tA (i := 8) (N := some 26) (bs 17 8191) rfl HT_ HW_ hHeld (by rintro w' ⟨s0, s1, s2, s3, s4, s5, s6, s7, s8, s9, s10, s11⟩; go_simp; with_reducible rfl) ?_
            refine RFn.tA (i := 13) (N := some 31) (bs 17 16383) rfl HT_ HW_ hHeld (by rintro w' ⟨s0, s1, s2, s3, s4, s5, s6, s7, s8, s9, s10, s11⟩; go_simp; with_reducible rfl) ?_
            refine RFn.o1 (i := 14) (N := some 32) (bs 17 32767) HT_ fun K hK => ?_
            refine RFn.goesT Try.func32 (by kernel_rfl) rfl #[.agg #[.string ((rd_T60 x0_2 x9_2).f0.f0), .string ((rd_T60 x0_2 x9_2).f0.f1), .string ((rd_T60 x0_2 x9_2).f0.f2), .string ((rd_T60 x0_2 x9_2).f0.f3), .int .i64 ((rd_T60 x0_2 x9_2).f0.f4), .int .i64 ((rd_T60 x0_2 x9_2).f1)], .agg #[.string ((rd_T60 x0_2 (ji9)).f0.f0), .string ((rd_T60 x0_2 (ji9)).f0.f1), .string ((rd_T60 x0_2 (ji9)).f0.f2), .string ((rd_T60 x0_2 (ji9)).f0.f3), .int .i64 ((rd_T60 x0_2 (ji9)).f0.f4), .int .i64 ((rd_T60 x0_2 (ji9)).f1)]] (by rfl) rfl rfl rfl (by (try simp only [List.map_toArray, List.map_cons, List.map_nil]); first | done | (simp only [hji9]; rfl) | rfl | (simp only [List.length_drop, List.length_take]; rfl)) ?_
            with_reducible refine (fact_Of_1.calls k2 ((rd_T60 x0_2 x9_2).f0.f0) ((rd_T60 x0_2 x9_2).f0.f1) ((rd_T60 x0_2 x9_2).f0.f2) ((rd_T60 x0_2 x9_2).f0.f3) ((rd_T60 x0_2 x9_2).f0.f4) ((rd_T60 x0_2 x9_2).f1) ((rd_T60 x0_2 (ji9)).f0.f0) ((rd_T60 x0_2 (ji9)).f0.f1) ((rd_T60 x0_2 (ji9)).f0.f2) ((rd_T60 x0_2 (ji9)).f0.f3) ((rd_T60 x0_2 (ji9)).f0.f4) ((rd_T60 x0_2 (ji9)).f1) t120 _ A12.out).mono ?_
            rintro e w18 ⟨rfl, hb⟩
            have hb_ := hb
            refine ⟨_, rfl, ?_⟩
            have n0_ := Aside0.mk (Kd.R_below (RFn.mR HO_0) hb)
            have n1_ := Aside0.mk (Kept.below (S := (fun k_ => P0_ k_)) (RFn.kp HK) hb)
            have n2_ := Aside0.mk (below_step (RFn.bel) hb)
            clear HO_0
            clear HK
            clear HB
            have HO_0 := n0_
            have HK := n1_
            have HB := n2_
            clear n0_ n1_ n2_
            (try clear hb)
            (try clear hb2)
            (try clear hk)
            (try clear hi)
            refine hK.out _ _ (RFn.hs hb_ hHeld) (fun hHeld => ?_)
            clear hK K hb_
            refine RFn.nm (some 32) ?_
            refine RFn.pA (i := 15) (N := some 33) (bs 17 65535) HT_ ?_
            refine RFn.pA (i := 16) (N := some 34) (bs 17 131071) HT_ ?_
            refine RFn.dn HT_ ?_
            try go_wp2
            have n0_ := Aside0.mk (Kd.R_drew HO_0.out)
            have n1_ := Aside0.mk (Kept.drew HK.out)
            have n2_ := Aside0.mk (below_drew1 HB.out)
            clear HO_0
            clear HK
            clear HB
            have HO_0 := n0_
            have HK := n1_
            have HB := n2_
            clear n0_ n1_ n2_
            have p121 : 0 ≤ ((ji9) : Int) := RFn.od
            have q121 : (ji9) < (x0_2.length : Int) := RFn.od
            obtain ⟨ad121, e121, hx121_0, hx121_1, hx121_2, hx121_3, hx121_4, hx121_5⟩ := at_T60 (Kd.R_reads' HO_0.out).2.2 (ji9) p121 q121
            obtain rfl : ad118 = ad121 := (by injection e121)
            replace p121 := eq_true p121
            replace q121 := eq_true q121
            have p122 : 0 ≤ (x9_2 : Int) := RFn.od
            have q122 : x9_2 < (x0_2.length : Int) := RFn.od
            obtain ⟨ad122, e122, hx122_0, hx122_1, hx122_2, hx122_3, hx122_4, hx122_5⟩ := at_T60 (Kd.R_reads' HO_0.out).2.2 x9_2 p122 q122
            obtain rfl : ad118 = ad122 := (by injection e122)
            replace p122 := eq_true p122
            replace q122 := eq_true q122
            have p14 : 0 ≤ (x9_2 : Int) := RFn.od
            have q14 : (x9_2 : Int) < ((x0_2.length : Int) : Int) := RFn.od
            obtain ⟨go14, co14, eo14, gb14, gl14, cl14, HG14⟩ := Kd.R_form HO_0.out (by omega)
            (first | cases eo14 | (injection eo14 with ea_ en_ ec_; (first | subst ea_ | (injection ea_ with ea_; subst ea_)); subst ec_; clear en_))
            have GB14 := Aside0.mk gb14
            have GG14 := Aside0.mk HG14
            clear gb14 gl14 HG14
            have HMgo14 := Aside0.mk (show (P0_ go14 ∨ w.heap.size ≤ go14) from (HO_0.out.1 _ rfl))
            (first | simp only [add_plain] at hx118_0 | skip)
            (first | simp only [add_plain] at hx118_1 | skip)
            (first | simp only [add_plain] at hx118_2 | skip)
            (first | simp only [add_plain] at hx118_3 | skip)
            (first | simp only [add_plain] at hx118_4 | skip)
            (first | simp only [add_plain] at hx118_5 | skip)
            (first | simp only [add_plain] at hx119_0 | skip)
            (first | simp only [add_plain] at hx119_1 | skip)
            (first | simp only [add_plain] at hx119_2 | skip)
            (first | simp only [add_plain] at hx119_3 | skip)
            (first | simp only [add_plain] at hx119_4 | skip)
            (first | simp only [add_plain] at hx119_5 | skip)
            (first | simp only [add_plain] at hx121_0 | skip)
            (first | simp only [add_plain] at hx121_1 | skip)
            (first | simp only [add_plain] at hx121_2 | skip)
            (first | simp only [add_plain] at hx121_3 | skip)
            (first | simp only [add_plain] at hx121_4 | skip)
            (first | simp only [add_plain] at hx121_5 | skip)
            (first | simp only [add_plain] at hx122_0 | skip)
            (first | simp only [add_plain] at hx122_1 | skip)
            (first | simp only [add_plain] at hx122_2 | skip)
            (first | simp only [add_plain] at hx122_3 | skip)
            (first | simp only [add_plain] at hx122_4 | skip)
            (first | simp only [add_plain] at hx122_5 | skip)
            obtain ⟨ce14, hcl14, hM14, hcc14, hfr14⟩ := Kd.R_elem HO_0.out z60 (x9_2 : Int) p14 q14
            obtain rfl := k60_openM hM14
            have hx14_0 : World.cell? _ ⟨go14, (x9_2 : Int).toNat * 6, none⟩ = some (.string ((rd_T60 x0_2 x9_2).f0.f0)) := hcc14 0 _ rfl
            have hx14_1 : World.cell? _ ⟨go14, (x9_2 : Int).toNat * 6 + 1, none⟩ = some (.string ((rd_T60 x0_2 x9_2).f0.f1)) := hcc14 1 _ rfl
            have hx14_2 : World.cell? _ ⟨go14, (x9_2 : Int).toNat * 6 + 2, none⟩ = some (.string ((rd_T60 x0_2 x9_2).f0.f2)) := hcc14 2 _ rfl
            have hx14_3 : World.cell? _ ⟨go14, (x9_2 : Int).toNat * 6 + 3, none⟩ = some (.string ((rd_T60 x0_2 x9_2).f0.f3)) := hcc14 3 _ rfl
            have hx14_4 : World.cell? _ ⟨go14, (x9_2 : Int).toNat * 6 + 4, none⟩ = some (.int .i64 ((rd_T60 x0_2 x9_2).f0.f4)) := hcc14 4 _ rfl
            have hx14_5 : World.cell? _ ⟨go14, (x9_2 : Int).toNat * 6 + 5, none⟩ = some (.int .i64 ((rd_T60 x0_2 x9_2).f1)) := hcc14 5 _ rfl
            have hf14_0 : World.frozen? _ ⟨go14, (x9_2 : Int).toNat * 6, none⟩ = false := hfr14 0
            have hf14_1 : World.frozen? _ ⟨go14, (x9_2 : Int).toNat * 6 + 1, none⟩ = false := hfr14 1
            have hf14_2 : World.frozen? _ ⟨go14, (x9_2 : Int).toNat * 6 + 2, none⟩ = false := hfr14 2
            have hf14_3 : World.frozen? _ ⟨go14, (x9_2 : Int).toNat * 6 + 3, none⟩ = false := hfr14 3
            have hf14_4 : World.frozen? _ ⟨go14, (x9_2 : Int).toNat * 6 + 4, none⟩ = false := hfr14 4
            have hf14_5 : World.frozen? _ ⟨go14, (x9_2 : Int).toNat * 6 + 5, none⟩ = false := hfr14 5
            clear hcl14 hcc14 hfr14 hM14
            replace p14 := eq_true p14
            replace q14 := eq_true q14
            obtain ⟨ce20, hcl20, hM20, hcc20, hfr20⟩ := Kd.R_elem HO_0.out z60 (x9_2 : Int) (RFn.od) (by have h_ : (x9_2 : Int) < ((x0_2.length : Int) : Int) := RFn.od; first | exact h_ | (have e_ := (Kd.R_reads' HO_0.out).1; omega) | simpa using h_)
            obtain rfl := k60_openM hM20
            have HP20 := (Kd.R_seg HO_0.out (x9_2 : Int) (RFn.od) (by have h_ : (x9_2 : Int) < ((x0_2.length : Int) : Int) := RFn.od; first | exact h_ | (have e_ := (Kd.R_reads' HO_0.out).1; omega) | simpa using h_) (seg := [.string ((rd_T60 x0_2 (ji9)).f0.f0), .string ((rd_T60 x0_2 (ji9)).f0.f1), .string ((rd_T60 x0_2 (ji9)).f0.f2), .string ((rd_T60 x0_2 (ji9)).f0.f3), .int .i64 ((rd_T60 x0_2 (ji9)).f0.f4), .int .i64 ((rd_T60 x0_2 (ji9)).f1)]) (j := 0) hcl20 hcc20 (show 6 ≤ 6 from by decide) (x' := (⟨(⟨(rd_T60 x0_2 (ji9)).f0.f0, (rd_T60 x0_2 (ji9)).f0.f1, (rd_T60 x0_2 (ji9)).f0.f2, (rd_T60 x0_2 (ji9)).f0.f3, (rd_T60 x0_2 (ji9)).f0.f4⟩ : S40), (rd_T60 x0_2 (ji9)).f1⟩ : S60)) (k60_mkM _ _ _ (⟨(⟨(rd_T60 x0_2 (ji9)).f0.f0, (rd_T60 x0_2 (ji9)).f0.f1, (rd_T60 x0_2 (ji9)).f0.f2, (rd_T60 x0_2 (ji9)).f0.f3, (rd_T60 x0_2 (ji9)).f0.f4⟩ : S40), (rd_T60 x0_2 (ji9)).f1⟩ : S60) ) (fun _ hk => hk)).1
            rw [← Ny123.out] at HP20
            have HQ20 := Aside0.mk HP20
            clear hcl20 hcc20 hfr20 hM20 HP20
            have p15 : 0 ≤ ((ji9) : Int) := RFn.od
            have q15 : ((ji9) : Int) < ((x0_2.length : Int) : Int) := RFn.od
            obtain ⟨ce15, hcl15, hM15, hcc15, hfr15⟩ := Kd.R_elem HQ20.out z60 ((ji9) : Int) p15 q15
            obtain rfl := k60_openM hM15
            have hx15_0 : World.cell? _ ⟨go14, ((ji9) : Int).toNat * 6, none⟩ = some (.string ((rd_T60 y123 (ji9)).f0.f0)) := hcc15 0 _ rfl
            have hx15_1 : World.cell? _ ⟨go14, ((ji9) : Int).toNat * 6 + 1, none⟩ = some (.string ((rd_T60 y123 (ji9)).f0.f1)) := hcc15 1 _ rfl
            have hx15_2 : World.cell? _ ⟨go14, ((ji9) : Int).toNat * 6 + 2, none⟩ = some (.string ((rd_T60 y123 (ji9)).f0.f2)) := hcc15 2 _ rfl
            have hx15_3 : World.cell? _ ⟨go14, ((ji9) : Int).toNat * 6 + 3, none⟩ = some (.string ((rd_T60 y123 (ji9)).f0.f3)) := hcc15 3 _ rfl
            have hx15_4 : World.cell? _ ⟨go14, ((ji9) : Int).toNat * 6 + 4, none⟩ = some (.int .i64 ((rd_T60 y123 (ji9)).f0.f4)) := hcc15 4 _ rfl
            have hx15_5 : World.cell? _ ⟨go14, ((ji9) : Int).toNat * 6 + 5, none⟩ = some (.int .i64 ((rd_T60 y123 (ji9)).f1)) := hcc15 5 _ rfl
            have hf15_0 : World.frozen? _ ⟨go14, ((ji9) : Int).toNat * 6, none⟩ = false := hfr15 0
            have hf15_1 : World.frozen? _ ⟨go14, ((ji9) : Int).toNat * 6 + 1, none⟩ = false := hfr15 1
            have hf15_2 : World.frozen? _ ⟨go14, ((ji9) : Int).toNat * 6 + 2, none⟩ = false := hfr15 2
            have hf15_3 : World.frozen? _ ⟨go14, ((ji9) : Int).toNat * 6 + 3, none⟩ = false := hfr15 3
            have hf15_4 : World.frozen? _ ⟨go14, ((ji9) : Int).toNat * 6 + 4, none⟩ = false := hfr15 4
            have hf15_5 : World.frozen? _ ⟨go14, ((ji9) : Int).toNat * 6 + 5, none⟩ = false := hfr15 5
            clear hcl15 hcc15 hfr15 hM15
            replace p15 := eq_true p15
            replace q15 := eq_true q15
            obtain ⟨ce21, hcl21, hM21, hcc21, hfr21⟩ := Kd.R_elem HQ20.out z60 ((ji9) : Int) (RFn.od) (by have h_ : ((ji9) : Int) < ((x0_2.length : Int) : Int) := RFn.od; first | exact h_ | (have e_ := (Kd.R_reads' HO_0.out).1; omega) | simpa using h_)
            obtain rfl := k60_openM hM21
            have HP21 := (Kd.R_seg HQ20.out ((ji9) : Int) (RFn.od) (by have h_ : ((ji9) : Int) < ((x0_2.length : Int) : Int) := RFn.od; first | exact h_ | (have e_ := (Kd.R_reads' HO_0.out).1; omega) | simpa using h_) (seg := [.string ((rd_T60 x0_2 x9_2).f0.f0), .string ((rd_T60 x0_2 x9_2).f0.f1), .string ((rd_T60 x0_2 x9_2).f0.f2), .string ((rd_T60 x0_2 x9_2).f0.f3), .int .i64 ((rd_T60 x0_2 x9_2).f0.f4), .int .i64 ((rd_T60 x0_2 x9_2).f1)]) (j := 0) hcl21 hcc21 (show 6 ≤ 6 from by decide) (x' := (⟨(⟨(rd_T60 x0_2 x9_2).f0.f0, (rd_T60 x0_2 x9_2).f0.f1, (rd_T60 x0_2 x9_2).f0.f2, (rd_T60 x0_2 x9_2).f0.f3, (rd_T60 x0_2 x9_2).f0.f4⟩ : S40), (rd_T60 x0_2 x9_2).f1⟩ : S60)) (k60_mkM _ _ _ (⟨(⟨(rd_T60 x0_2 x9_2).f0.f0, (rd_T60 x0_2 x9_2).f0.f1, (rd_T60 x0_2 x9_2).f0.f2, (rd_T60 x0_2 x9_2).f0.f3, (rd_T60 x0_2 x9_2).f0.f4⟩ : S40), (rd_T60 x0_2 x9_2).f1⟩ : S60) ) (fun _ hk => hk)).1
            rw [← Ny124.out] at HP21
            have HQ21 := Aside0.mk HP21
            clear hcl21 hcc21 hfr21 hM21 HP21
            refine start_ (n := 18) (S := fun w' => w'.cell? ⟨go14, (((ji9)).toNat * 6), none⟩ = some (.string ((rd_T60 x0_2 (ji9)).f0.f0)) ∧ w'.cell? ⟨go14, (((ji9)).toNat * 6) + 1, none⟩ = some (.string ((rd_T60 x0_2 (ji9)).f0.f1)) ∧ w'.cell? ⟨go14, (((ji9)).toNat * 6) + 2, none⟩ = some (.string ((rd_T60 x0_2 (ji9)).f0.f2)) ∧ w'.cell? ⟨go14, (((ji9)).toNat * 6) + 3, none⟩ = some (.string ((rd_T60 x0_2 (ji9)).f0.f3)) ∧ w'.cell? ⟨go14, (((ji9)).toNat * 6) + 4, none⟩ = some (.int .i64 ((rd_T60 x0_2 (ji9)).f0.f4)) ∧ w'.cell? ⟨go14, (((ji9)).toNat * 6) + 5, none⟩ = some (.int .i64 ((rd_T60 x0_2 (ji9)).f1)) ∧ w'.cell? ⟨go14, ((x9_2).toNat * 6), none⟩ = some (.string ((rd_T60 x0_2 x9_2).f0.f0)) ∧ w'.cell? ⟨go14, ((x9_2).toNat * 6) + 1, none⟩ = some (.string ((rd_T60 x0_2 x9_2).f0.f1)) ∧ w'.cell? ⟨go14, ((x9_2).toNat * 6) + 2, none⟩ = some (.string ((rd_T60 x0_2 x9_2).f0.f2)) ∧ w'.cell? ⟨go14, ((x9_2).toNat * 6) + 3, none⟩ = some (.string ((rd_T60 x0_2 x9_2).f0.f3)) ∧ w'.cell? ⟨go14, ((x9_2).toNat * 6) + 4, none⟩ = some (.int .i64 ((rd_T60 x0_2 x9_2).f0.f4)) ∧ w'.cell? ⟨go14, ((x9_2).toNat * 6) + 5, none⟩ = some (.int .i64 ((rd_T60 x0_2 x9_2).f1))) (ds := [15, 17]) (bs 18 0) (by kernel_rfl) rfl rfl ⟨hx121_0, hx121_1, hx121_2, hx121_3, hx121_4, hx121_5, hx122_0, hx122_1, hx122_2, hx122_3, hx122_4, hx122_5⟩ (fun hHeld => ?_); refine with_tabW fact_Fact_51.tab6 fact_Fact_51.bits6 (fun HT_ HW_ => ?_)
            generalize w18.drew = w19 at HO_0 HK HB GG14 HQ20 HQ21 hf14_0 hf14_1 hf14_2 hf14_3 hf14_4 hf14_5 hf15_0 hf15_1 hf15_2 hf15_3 hf15_4 hf15_5 hx118_0 hx118_1 hx118_2 hx118_3 hx118_4 hx118_5 hx119_0 hx119_1 hx119_2 hx119_3 hx119_4 hx119_5 hx121_0 hx121_1 hx121_2 hx121_3 hx121_4 hx121_5 hx122_0 hx122_1 hx122_2 hx122_3 hx122_4 hx122_5 hx14_0 hx14_1 hx14_2 hx14_3 hx14_4 hx14_5 hx15_0 hx15_1 hx15_2 hx15_3 hx15_4 hx15_5 hHeld ⊢
            refine RFn.pA (i := 0) (N := some 37) (bs 18 1) HT_ ?_
            refine RFn.pA (i := 1) (N := some 38) (bs 18 3) HT_ ?_
            refine RFn.pA (i := 2) (N := some 39) (bs 18 7) HT_ ?_
            refine RFn.pA (i := 3) (N := some 40) (bs 18 15) HT_ ?_
            refine RFn.pA (i := 4) (N := some 41) (bs 18 31) HT_ ?_
            refine RFn.pA (i := 5) (N := some 42) (bs 18 63) HT_ ?_
            refine RFn.pA (i := 6) (N := some 43) (bs 18 127) HT_ ?_
            refine RFn.pA (i := 7) (N := some 44) (bs 18 255) HT_ ?_
            refine RFn.pA (i := 8) (N := some 45) (bs 18 511) HT_ ?_
            refine RFn.pA (i := 10) (N := some 47) (bs 18 1535) HT_ ?_
            refine RFn.pA (i := 11) (N := some 48) (bs 18 3583) HT_ ?_
            refine RFn.pA (i := 12) (N := some 49) (bs 18 7679) HT_ ?_
            refine RFn.tA (i := 9) (N := some 46) (bs 18 8191) rfl HT_ HW_ hHeld (by rintro w' ⟨s0, s1, s2, s3, s4, s5, s6, s7, s8, s9, s10, s11⟩; go_simp; with_reducible rfl) ?_
            refine RFn.tA (i := 13) (N := some 50) (bs 18 16383) rfl HT_ HW_ hHeld (by rintro w' ⟨s0, s1, s2, s3, s4, s5, s6, s7, s8, s9, s10, s11⟩; go_simp; with_reducible rfl) ?_
            refine RFn.pA (i := 14) (N := some 51) (bs 18 32767) HT_ ?_
            refine Go.Proofs.Ytgheapbhakamaaa.RSt.lastS_ (i := 15) (b := go14) (o := (x9_2 : Int).toNat * k60.sz + 0) (vs := [.string ((rd_T60 x0_2 (ji9)).f0.f0), .string ((rd_T60 x0_2 (ji9)).f0.f1), .string ((rd_T60 x0_2 (ji9)).f0.f2), .string ((rd_T60 x0_2 (ji9)).f0.f3), .int .i64 ((rd_T60 x0_2 (ji9)).f0.f4), .int .i64 ((rd_T60 x0_2 (ji9)).f1)]) (bs 18 65535) rfl rfl (one_of HT_.out (by kernel_rfl)) (by decide) (by rfl) rfl (by first | rfl | (go_simp; rfl)) (by first | rfl | (go_simp; rfl)) (by rfl) info60 (by rfl) (Go.Proofs.Ytgheapbhakamaaa.RSt.R_in HO_0.out z60 (x9_2 : Int) (of_eq_true p14) (of_eq_true q14) 0) (by rfl) ?_
            refine RFn.pA (i := 16) (N := some 52) (bs 18 131071) HT_ ?_
            refine Go.Proofs.Ytgheapbhakamaaa.RSt.lastS_ (i := 17) (b := go14) (o := ((ji9) : Int).toNat * k60.sz + 0) (vs := [.string ((rd_T60 x0_2 x9_2).f0.f0), .string ((rd_T60 x0_2 x9_2).f0.f1), .string ((rd_T60 x0_2 x9_2).f0.f2), .string ((rd_T60 x0_2 x9_2).f0.f3), .int .i64 ((rd_T60 x0_2 x9_2).f0.f4), .int .i64 ((rd_T60 x0_2 x9_2).f1)]) (bs 18 262143) rfl rfl (one_of HT_.out (by kernel_rfl)) (by decide) (by rfl) rfl (by first | rfl | (go_simp; rfl)) (by first | rfl | (go_simp; rfl)) (by rfl) info60 (by rfl) (Go.Proofs.Ytgheapbhakamaaa.RSt.R_in HQ20.out z60 ((ji9) : Int) (of_eq_true p15) (of_eq_true q15) 0) (by rfl) ?_
            refine RFn.dn HT_ ?_
            try go_wp2
            go_roundg k2
            case measure => have := HK1.out; have := HK2.out; omega
            case rel => exact ⟨(y124), (ji9), (by first | rfl | (simp; done) | (simp only [← hji9] <;> (first | rfl | simp)) | (simp [*]; done)), H', ⟨by have := HK1.out; have := HK2.out; omega⟩, ⟨RFn.mR HQ21⟩, ⟨by repeat (first | (with_reducible first | exact HK.out | apply Kept.alloc | apply Kept.drewN | apply Kept.drew | refine Kept.setCell ?_ HMgo14.out _ | refine Go.Proofs.Ytgheapbhakamaaa.RSt.keptS ?_ HMgo14.out) | exact HK.out)⟩, ⟨by repeat (first | (with_reducible first | exact HB.out | apply below_alloc | apply pw_below_drewN | apply below_drew1 | refine below_set ?_ GB14.out | refine Go.Proofs.Ytgheapbhakamaaa.RSt.belowS ?_ GB14.out) | exact HB.out)⟩⟩
           ·rw [if_neg c13] at H
            have c13b0 : decide (t120 < 0) = false := decide_eq_false c13
            clear c13
            have H' := Aside0.mk H
            clear H
            try go_wp2
            have n0_ := Aside0.mk (Kd.R_drew HO_0.out)
            have n1_ := Aside0.mk (Kept.drew HK.out)
            have n2_ := Aside0.mk (below_drew1 HB.out)
            clear HO_0
            clear HK
            clear HB
            have HO_0 := n0_
            have HK := n1_
            have HB := n2_
            clear n0_ n1_ n2_
            obtain ⟨Ao23, co23, eo23⟩ := Kd.R_slice HO_0.out
            (first | subst eo23 | (injection eo23 with f1_ f2_ f3_; have f4_ := f1_.symm; have f5_ := f3_.symm; clear f1_ f2_ f3_; subst f4_; subst f5_))
            have p118 : 0 ≤ (x9_2 : Int) := RFn.od
            have q118 : x9_2 < (x0_2.length : Int) := RFn.od
            obtain ⟨ad118, e118, hx118_0, hx118_1, hx118_2, hx118_3, hx118_4, hx118_5⟩ := at_T60 (Kd.R_reads' HO_0.out).2.2 x9_2 p118 q118
            cases e118
            replace p118 := eq_true p118
            replace q118 := eq_true q118
            have p119 : 0 ≤ ((ji9) : Int) := RFn.od
            have q119 : (ji9) < (x0_2.length : Int) := RFn.od
            obtain ⟨ad119, e119, hx119_0, hx119_1, hx119_2, hx119_3, hx119_4, hx119_5⟩ := at_T60 (Kd.R_reads' HO_0.out).2.2 (ji9) p119 q119
            obtain rfl : ad118 = ad119 := (by injection e119)
            replace p119 := eq_true p119
            replace q119 := eq_true q119
            refine start_ (n := 17) (S := fun w' => w'.cell? (ad118.add ((x9_2).toNat * 6)) = some (.string ((rd_T60 x0_2 x9_2).f0.f0)) ∧ w'.cell? ⟨(ad118.add ((x9_2).toNat * 6)).block, (ad118.add ((x9_2).toNat * 6)).off + 1, none⟩ = some (.string ((rd_T60 x0_2 x9_2).f0.f1)) ∧ w'.cell? ⟨(ad118.add ((x9_2).toNat * 6)).block, (ad118.add ((x9_2).toNat * 6)).off + 2, none⟩ = some (.string ((rd_T60 x0_2 x9_2).f0.f2)) ∧ w'.cell? ⟨(ad118.add ((x9_2).toNat * 6)).block, (ad118.add ((x9_2).toNat * 6)).off + 3, none⟩ = some (.string ((rd_T60 x0_2 x9_2).f0.f3)) ∧ w'.cell? ⟨(ad118.add ((x9_2).toNat * 6)).block, (ad118.add ((x9_2).toNat * 6)).off + 4, none⟩ = some (.int .i64 ((rd_T60 x0_2 x9_2).f0.f4)) ∧ w'.cell? ⟨(ad118.add ((x9_2).toNat * 6)).block, (ad118.add ((x9_2).toNat * 6)).off + 5, none⟩ = some (.int .i64 ((rd_T60 x0_2 x9_2).f1)) ∧ w'.cell? (ad118.add (((ji9)).toNat * 6)) = some (.string ((rd_T60 x0_2 (ji9)).f0.f0)) ∧ w'.cell? ⟨(ad118.add (((ji9)).toNat * 6)).block, (ad118.add (((ji9)).toNat * 6)).off + 1, none⟩ = some (.string ((rd_T60 x0_2 (ji9)).f0.f1)) ∧ w'.cell? ⟨(ad118.add (((ji9)).toNat * 6)).block, (ad118.add (((ji9)).toNat * 6)).off + 2, none⟩ = some (.string ((rd_T60 x0_2 (ji9)).f0.f2)) ∧ w'.cell? ⟨(ad118.add (((ji9)).toNat * 6)).block, (ad118.add (((ji9)).toNat * 6)).off + 3, none⟩ = some (.string ((rd_T60 x0_2 (ji9)).f0.f3)) ∧ w'.cell? ⟨(ad118.add (((ji9)).toNat * 6)).block, (ad118.add (((ji9)).toNat * 6)).off + 4, none⟩ = some (.int .i64 ((rd_T60 x0_2 (ji9)).f0.f4)) ∧ w'.cell? ⟨(ad118.add (((ji9)).toNat * 6)).block, (ad118.add (((ji9)).toNat * 6)).off + 5, none⟩ = some (.int .i64 ((rd_T60 x0_2 (ji9)).f1))) (ds := []) (bs 17 0) (by kernel_rfl) rfl rfl ⟨hx118_0, hx118_1, hx118_2, hx118_3, hx118_4, hx118_5, hx119_0, hx119_1, hx119_2, hx119_3, hx119_4, hx119_5⟩ (fun hHeld => ?_); refine with_tabW fact_Fact_51.tab4 fact_Fact_51.bits4 (fun HT_ HW_ => ?_)
            generalize wr.drew = w22 at HO_0 HK HB hx118_0 hx118_1 hx118_2 hx118_3 hx118_4 hx118_5 hx119_0 hx119_1 hx119_2 hx119_3 hx119_4 hx119_5 hHeld ⊢
            refine RFn.pA (i := 0) (N := some 18) (bs 17 1) HT_ ?_
            refine RFn.pA (i := 1) (N := some 19) (bs 17 3) HT_ ?_
            refine RFn.pA (i := 2) (N := some 20) (bs 17 7) HT_ ?_
            refine RFn.pA (i := 3) (N := some 21) (bs 17 15) HT_ ?_
            refine RFn.pA (i := 4) (N := some 22) (bs 17 31) HT_ ?_
            refine RFn.pA (i := 5) (N := some 23) (bs 17 63) HT_ ?_
            refine RFn.pA (i := 6) (N := some 24) (bs 17 127) HT_ ?_
            refine RFn.pA (i := 7) (N := some 25) (bs 17 255) HT_ ?_
            refine RFn.pA (i := 9) (N := some 27) (bs 17 767) HT_ ?_
            refine RFn.pA (i := 10) (N := some 28) (bs 17 1791) HT_ ?_
            refine RFn.pA (i := 11) (N := some 29) (bs 17 3839) HT_ ?_
            refine RFn.pA (i := 12) (N := some 30) (bs 17 7935) HT_ ?_
            refine RFn.tA (i := 8) (N := some 26) (bs 17 8191) rfl HT_ HW_ hHeld (by rintro w' ⟨s0, s1, s2, s3, s4, s5, s6, s7, s8, s9, s10, s11⟩; go_simp; with_reducible rfl) ?_
            refine RFn.tA (i := 13) (N := some 31) (bs 17 16383) rfl HT_ HW_ hHeld (by rintro w' ⟨s0, s1, s2, s3, s4, s5, s6, s7, s8, s9, s10, s11⟩; go_simp; with_reducible rfl) ?_
            refine RFn.o1 (i := 14) (N := some 32) (bs 17 32767) HT_ fun K hK => ?_
            refine RFn.goesT Try.func32 (by kernel_rfl) rfl #[.agg #[.string ((rd_T60 x0_2 x9_2).f0.f0), .string ((rd_T60 x0_2 x9_2).f0.f1), .string ((rd_T60 x0_2 x9_2).f0.f2), .string ((rd_T60 x0_2 x9_2).f0.f3), .int .i64 ((rd_T60 x0_2 x9_2).f0.f4), .int .i64 ((rd_T60 x0_2 x9_2).f1)], .agg #[.string ((rd_T60 x0_2 (ji9)).f0.f0), .string ((rd_T60 x0_2 (ji9)).f0.f1), .string ((rd_T60 x0_2 (ji9)).f0.f2), .string ((rd_T60 x0_2 (ji9)).f0.f3), .int .i64 ((rd_T60 x0_2 (ji9)).f0.f4), .int .i64 ((rd_T60 x0_2 (ji9)).f1)]] (by rfl) rfl rfl rfl (by (try simp only [List.map_toArray, List.map_cons, List.map_nil]); first | done | (simp only [hji9]; rfl) | rfl | (simp only [List.length_drop, List.length_take]; rfl)) ?_
            with_reducible refine (fact_Of_1.calls k2 ((rd_T60 x0_2 x9_2).f0.f0) ((rd_T60 x0_2 x9_2).f0.f1) ((rd_T60 x0_2 x9_2).f0.f2) ((rd_T60 x0_2 x9_2).f0.f3) ((rd_T60 x0_2 x9_2).f0.f4) ((rd_T60 x0_2 x9_2).f1) ((rd_T60 x0_2 (ji9)).f0.f0) ((rd_T60 x0_2 (ji9)).f0.f1) ((rd_T60 x0_2 (ji9)).f0.f2) ((rd_T60 x0_2 (ji9)).f0.f3) ((rd_T60 x0_2 (ji9)).f0.f4) ((rd_T60 x0_2 (ji9)).f1) t120 _ A12.out).mono ?_
            rintro e w24 ⟨rfl, hb⟩
            have hb_ := hb
            refine ⟨_, rfl, ?_⟩
            have n0_ := Aside0.mk (Kd.R_below (RFn.mR HO_0) hb)
            have n1_ := Aside0.mk (Kept.below (S := (fun k_ => P0_ k_)) (RFn.kp HK) hb)
            have n2_ := Aside0.mk (below_step (RFn.bel) hb)
            clear HO_0
            clear HK
            clear HB
            have HO_0 := n0_
            have HK := n1_
            have HB := n2_
            clear n0_ n1_ n2_
            (try clear hb)
            (try clear hb2)
            (try clear hk)
            (try clear hi)
            refine hK.out _ _ (RFn.hs hb_ hHeld) (fun hHeld => ?_)
            clear hK K hb_
            refine RFn.nm (some 32) ?_
            refine RFn.pA (i := 15) (N := some 33) (bs 17 65535) HT_ ?_
            refine RFn.pA (i := 16) (N := some 34) (bs 17 131071) HT_ ?_
            refine RFn.dn HT_ ?_
            try go_wp2
            go_roundg k2
            case measure => have := HK1.out; have := HK2.out; omega
            case rel => exact ⟨(x0_2), (wrap64 (x8_1 + 1)), (by first | rfl | (simp; done) | (simp [*]; done)), H', ⟨by have := HK1.out; have := HK2.out; omega⟩, ⟨RFn.mR HO_0⟩, ⟨RFn.kp HK⟩, ⟨RFn.bel⟩⟩
          ·rw [if_neg c11] at H
           exact absurd H (by simp)
         ·rw [if_neg c10] at H
          exact absurd H (by simp)
        ·rw [if_neg c8] at H
         exact absurd H (by simp)
       ·rw [if_neg c7] at H
        exact absurd H (by simp)
      ·rw [if_neg c6] at H
       have c6b0 : decide (a1 < x9_2) = false := decide_eq_false c6
       clear c6
       have H' := Aside0.mk H
       clear H
       try go_wp2
       have n0_ := Aside0.mk (Kd.R_drew HO_0.out)
       have n1_ := Aside0.mk (Kept.drew HK.out)
       have n2_ := Aside0.mk (below_drew1 HB.out)
       clear HO_0
       clear HK
       clear HB
       have HO_0 := n0_
       have HK := n1_
       have HB := n2_
       clear n0_ n1_ n2_
       refine start_ (n := 17) (S := fun w' => True) (ds := []) (bs 17 0) (by kernel_rfl) rfl rfl trivial (fun hHeld => ?_); refine with_tabW fact_Fact_51.tab4 fact_Fact_51.bits4 (fun HT_ HW_ => ?_)
       generalize wr.drew = w25 at HO_0 HK HB hHeld ⊢
       refine RFn.pA (i := 0) (N := some 18) (bs 17 1) HT_ ?_
       refine RFn.pA (i := 1) (N := some 19) (bs 17 3) HT_ ?_
       refine RFn.pA (i := 2) (N := some 20) (bs 17 7) HT_ ?_
       refine RFn.pA (i := 3) (N := some 21) (bs 17 15) HT_ ?_
       refine RFn.pU (i := 4) (N := some 22) (bs 17 31) HT_ ?_
       refine RFn.pU (i := 5) (N := some 23) (bs 17 63) HT_ ?_
       refine RFn.pU (i := 6) (N := some 24) (bs 17 127) HT_ ?_
       refine RFn.pU (i := 7) (N := some 25) (bs 17 255) HT_ ?_
       refine RFn.pU (i := 8) (N := some 26) (bs 17 511) HT_ ?_
       refine RFn.pU (i := 9) (N := some 27) (bs 17 1023) HT_ ?_
       refine RFn.pU (i := 10) (N := some 28) (bs 17 2047) HT_ ?_
       refine RFn.pU (i := 11) (N := some 29) (bs 17 4095) HT_ ?_
       refine RFn.pU (i := 12) (N := some 30) (bs 17 8191) HT_ ?_
       refine RFn.pU (i := 13) (N := some 31) (bs 17 16383) HT_ ?_
       refine RFn.pU (i := 14) (N := some 32) (bs 17 32767) HT_ ?_
       refine RFn.pU (i := 15) (N := some 33) (bs 17 65535) HT_ ?_
       refine RFn.pA (i := 16) (N := some 34) (bs 17 131071) HT_ ?_
       refine RFn.dn HT_ ?_
       try go_wp2
       go_roundg k2
       case measure => have := HK1.out; have := HK2.out; omega
       case rel => exact ⟨(x0_2), (wrap64 (x8_1 + 1)), (by first | rfl | (simp; done) | (simp [*]; done)), H', ⟨by have := HK1.out; have := HK2.out; omega⟩, ⟨RFn.mR HO_0⟩, ⟨RFn.kp HK⟩, ⟨RFn.bel⟩⟩
   ·rw [if_neg c5] at H
    have c5b0 : decide (x8_1 < a2) = false := decide_eq_false c5
    clear c5
    obtain rfl := Option.some.inj H
    go_wp2
    first | go_end0 | ((try simp only [Exit.inBlock, Exit.then]); refine bodyPost_ret (results_none rfl _ _ _) rfl ?_)
    exact ⟨by first | rfl | (simp [errW_none, errW_some] <;> rfl) | (simp [*, errW_none, errW_some] <;> rfl), RFn.mR HO_0, RFn.bel, RFn.kp HK⟩
/-! ### fact_Fact_55: function 55 -/
def fact_Fact_55.l0 : Nat → List (S60) → Int → Int → Int → Int → Option ((List (S60)))
 | 0, _, _, _, _, _ => none
 | k + 1, x0, x1, x2, x3, x10 => if x10 < x3 then (if 0 ≤ (wrap64 (x2 + x10)) then (if (wrap64 (x2 + x10)) < (x0.length : Int) then (if 0 ≤ (wrap64 (x1 + x10)) then (if (wrap64 (x1 + x10)) < (x0.length : Int) then (fact_Fact_55.l0 k ((x0.set ((wrap64 (x1 + x10)) : Int).toNat (⟨(⟨(rd_T60 x0 (wrap64 (x2 + x10))).f0.f0, (rd_T60 x0 (wrap64 (x2 + x10))).f0.f1, (rd_T60 x0 (wrap64 (x2 + x10))).f0.f2, (rd_T60 x0 (wrap64 (x2 + x10))).f0.f3, (rd_T60 x0 (wrap64 (x2 + x10))).f0.f4⟩ : S40), (rd_T60 x0 (wrap64 (x2 + x10))).f1⟩ : S60)).set ((wrap64 (x2 + x10)) : Int).toNat (⟨(⟨(rd_T60 x0 (wrap64 (x1 + x10))).f0.f0, (rd_T60 x0 (wrap64 (x1 + x10))).f0.f1, (rd_T60 x0 (wrap64 (x1 + x10))).f0.f2, (rd_T60 x0 (wrap64 (x1 + x10))).f0.f3, (rd_T60 x0 (wrap64 (x1 + x10))).f0.f4⟩ : S40), (rd_T60 x0 (wrap64 (x1 + x10))).f1⟩ : S60)) x1 x2 x3 (wrap64 (x10 + 1))) else (none)) else (none)) else (none)) else (none)) else (some x0)
def fact_Fact_55.f (k : Nat) (l0 : List (S60)) (a1 : Int) (a2 : Int) (a3 : Int)  : Option ((List (S60))) := fact_Fact_55.l0 k l0 a1 a2 a3 0
theorem fact_Fact_55.mono_l : ∀ k, (∀ y0 y1 y2 y3 y4, LeO (fact_Fact_55.l0 k y0 y1 y2 y3 y4) (fact_Fact_55.l0 (k + 1) y0 y1 y2 y3 y4))
 | 0 => fun _ _ _ _ _ r h => by simp [fact_Fact_55.l0] at h
 | k + 1 => by
  have ih0 := fact_Fact_55.mono_l k
  ·intro y0 y1 y2 y3 y4
   unfold fact_Fact_55.l0
   repeat' first | exact LeO.refl _ | with_reducible first | apply ih0 | exact LeO.none _ | apply LeO.ite | refine LeO.bind ?_ fun _ => ?_
theorem fact_Fact_55.mono : ∀ a0 a1 a2 a3 k, LeO (fact_Fact_55.f k a0 a1 a2 a3) (fact_Fact_55.f (k + 1) a0 a1 a2 a3) := by
 intro a0 a1 a2 a3 k
 have ih0 := fact_Fact_55.mono_l k
 unfold fact_Fact_55.f
 repeat' first | exact LeO.refl _ | with_reducible first | apply ih0 | exact LeO.none _ | apply LeO.ite | refine LeO.bind ?_ fun _ => ?_
def fact_Fact_55.T3 : Bool × List (List Nat × List Nat) := (true, [([], []), ([], []), ([], []), ([1, 2], [1, 2]), ([], []), ([], []), ([], []), ([5, 6], [5, 6]), ([], []), ([], []), ([], []), ([9, 10], [9, 10]), ([8, 11], [8, 11]), ([12], [12]), ([], []), ([], []), ([], []), ([15, 16], [15, 16]), ([14, 17], [14, 17]), ([18], [18]), ([0, 3, 0, 1, 2, 3, 8, 9, 10, 11, 12, 13, 19], [0, 3]), ([20, 13, 0, 1, 2, 3, 8, 9, 10, 11, 12, 13, 19], [13, 20]), ([4, 7, 0, 1, 2, 3, 4, 5, 6, 7, 8, 9, 10, 11, 12, 13, 14, 15, 16, 17, 18, 19, 20, 21], [4, 7]), ([22, 19, 21, 0, 1, 2, 3, 4, 5, 6, 7, 8, 9, 10, 11, 12, 13, 14, 15, 16, 17, 18, 19, 20, 21], [19, 22])])
def fact_Fact_55.B3 : List Nat := [0, 0, 0, 6, 0, 0, 0, 96, 0, 0, 0, 1536, 3840, 7936, 0, 0, 0, 98304, 245760, 507904, 1048335, 2096911, 4194303, 8388607]
theorem fact_Fact_55.tab3 : rtab .any (opsOf Try.f55 3) = fact_Fact_55.T3 := by kernel_rfl
theorem fact_Fact_55.bits3 : waitsOk fact_Fact_55.T3.2 fact_Fact_55.B3 = true := by kernel_rfl
set_option maxHeartbeats 8000000 in
set_option maxRecDepth 100000 in
theorem fact_Fact_55.calls (k : Nat) (P0_ : Nat → Prop) (u9000_ : Value) (l0 : List (S60)) (a1 : Int) (a2 : Int) (a3 : Int)  (r : List (S60)) (w0 w : World) (hB : Below w0.heap.size w0 w) (ho0 : Kd.R k60 60 w w0.heap.size P0_ u9000_ l0) (h : fact_Fact_55.f k l0 a1 a2 a3 = some r) :
  Calls Try.prog 55 #[u9000_, .int .i64 a1, .int .i64 a2, .int .i64 a3, .func (.func 32) #[] #[]] w fun e w' => e = .returned (.tuple #[]) ∧ Kd.R k60 60 w' w0.heap.size (fun k_ => (P0_ k_ ∨ w.heap.size ≤ k_)) u9000_ r ∧ Below w0.heap.size w0 w' ∧ Kept w w' (fun k_ => P0_ k_) := by
 have hu60 := Try.underlying60
 have HO0 := Aside0.mk (show Kd.R k60 60 w w0.heap.size (fun k_ => (P0_ k_ ∨ w.heap.size ≤ k_)) u9000_ l0 from Kd.R_mono ho0 (fun k_ hk => (.inl hk)))
 have HK := Aside0.mk (Kept.refl w (fun k_ => P0_ k_))
 have HW0 := Aside0.mk hB.size
 have HB := Aside0.mk hB
 clear hB
 have H : (fact_Fact_55.l0 k l0 a1 a2 a3 0) = some r := h
 clear h
 have H' := Aside0.mk H
 clear H
 go_enter Try.func55, Try.ntmps55
 go_wp2
 go_loopg [10] k (fun kq v10 w' => ∃ (x0_1 : List (S60)) (x10_1 : Int), v10 = .int .i64 x10_1 ∧ Aside0 (fact_Fact_55.l0 kq x0_1 a1 a2 a3 x10_1 = some r) ∧ Aside0 (kq ≤ k) ∧ Aside0 (Kd.R k60 60 w' w0.heap.size (fun k_ => (P0_ k_ ∨ w.heap.size ≤ k_)) u9000_ x0_1) ∧ Aside0 (Kept w w' (fun k_ => P0_ k_)) ∧ Aside0 (Below w0.heap.size w0 w'))
 case atStart => exact ⟨(l0), (0), (by first | rfl | (simp; done) | (simp [*]; done)), H', ⟨Nat.le_refl _⟩, ⟨RFn.mR HO0⟩, ⟨RFn.kp HK⟩, ⟨RFn.bel⟩⟩
 case round =>
  clear H'
  try clear p2
  try clear c5
  obtain ⟨x0_1, x10_1, rfl, HA, HK1, HO_0, HK, HB⟩ := hrel
  cases gk with
  | zero => exact absurd HA.out (by simp [fact_Fact_55.l0])
  | succ k1 =>
   have H := HA.out
   clear HA
   simp only [fact_Fact_55.l0] at H
   by_cases c6 : x10_1 < a3
   ·rw [if_pos c6] at H
    have c6b0 : decide (x10_1 < a3) = true := decide_eq_true c6
    clear c6
    obtain ⟨ji7, hji7⟩ : ∃ j_ : Int, (wrap64 (a2 + x10_1)) = j_ := ⟨_, rfl⟩
    replace H : (if 0 ≤ (ji7) then (if (ji7) < (x0_1.length : Int) then (if 0 ≤ (wrap64 (a1 + x10_1)) then (if (wrap64 (a1 + x10_1)) < (x0_1.length : Int) then (fact_Fact_55.l0 k1 ((x0_1.set ((wrap64 (a1 + x10_1)) : Int).toNat (⟨(⟨(rd_T60 x0_1 (ji7)).f0.f0, (rd_T60 x0_1 (ji7)).f0.f1, (rd_T60 x0_1 (ji7)).f0.f2, (rd_T60 x0_1 (ji7)).f0.f3, (rd_T60 x0_1 (ji7)).f0.f4⟩ : S40), (rd_T60 x0_1 (ji7)).f1⟩ : S60)).set ((ji7) : Int).toNat (⟨(⟨(rd_T60 x0_1 (wrap64 (a1 + x10_1))).f0.f0, (rd_T60 x0_1 (wrap64 (a1 + x10_1))).f0.f1, (rd_T60 x0_1 (wrap64 (a1 + x10_1))).f0.f2, (rd_T60 x0_1 (wrap64 (a1 + x10_1))).f0.f3, (rd_T60 x0_1 (wrap64 (a1 + x10_1))).f0.f4⟩ : S40), (rd_T60 x0_1 (wrap64 (a1 + x10_1))).f1⟩ : S60)) a1 a2 a3 (wrap64 (x10_1 + 1))) else (none)) else (none)) else (none)) else (none)) = some r := by first | (rw [hji7] at H; exact H) | (simp only [hji7] at H ⊢; exact H)
    have hji7w : (IntKind.i64.wrap (a2 + x10_1)) = ji7 := (i64_w _).trans hji7
    by_cases c8 : 0 ≤ (ji7)
    ·rw [if_pos c8] at H
     have c8b0 : decide (0 ≤ (ji7)) = true := decide_eq_true c8
     clear c8
     by_cases c9 : (ji7) < (x0_1.length : Int)
     ·rw [if_pos c9] at H
      have c9b0 : decide ((ji7) < (x0_1.length : Int)) = true := decide_eq_true c9
      clear c9
      obtain ⟨ji10, hji10⟩ : ∃ j_ : Int, (wrap64 (a1 + x10_1)) = j_ := ⟨_, rfl⟩
      replace H : (if 0 ≤ (ji10) then (if (ji10) < (x0_1.length : Int) then (fact_Fact_55.l0 k1 ((x0_1.set ((ji10) : Int).toNat (⟨(⟨(rd_T60 x0_1 (ji7)).f0.f0, (rd_T60 x0_1 (ji7)).f0.f1, (rd_T60 x0_1 (ji7)).f0.f2, (rd_T60 x0_1 (ji7)).f0.f3, (rd_T60 x0_1 (ji7)).f0.f4⟩ : S40), (rd_T60 x0_1 (ji7)).f1⟩ : S60)).set ((ji7) : Int).toNat (⟨(⟨(rd_T60 x0_1 (ji10)).f0.f0, (rd_T60 x0_1 (ji10)).f0.f1, (rd_T60 x0_1 (ji10)).f0.f2, (rd_T60 x0_1 (ji10)).f0.f3, (rd_T60 x0_1 (ji10)).f0.f4⟩ : S40), (rd_T60 x0_1 (ji10)).f1⟩ : S60)) a1 a2 a3 (wrap64 (x10_1 + 1))) else (none)) else (none)) = some r := by first | (rw [hji10] at H; exact H) | (simp only [hji10] at H ⊢; exact H)
      have hji10w : (IntKind.i64.wrap (a1 + x10_1)) = ji10 := (i64_w _).trans hji10
      (try rw [hji10] at hji7)
      (try rw [hji10] at hji7w)
      by_cases c11 : 0 ≤ (ji10)
      ·rw [if_pos c11] at H
       have c11b0 : decide (0 ≤ (ji10)) = true := decide_eq_true c11
       clear c11
       by_cases c12 : (ji10) < (x0_1.length : Int)
       ·rw [if_pos c12] at H
        have c12b0 : decide ((ji10) < (x0_1.length : Int)) = true := decide_eq_true c12
        clear c12
        obtain ⟨y127, hy127⟩ : ∃ y_ : List (S60), y_ = (x0_1.set ((ji10) : Int).toNat (⟨(⟨(rd_T60 x0_1 (ji7)).f0.f0, (rd_T60 x0_1 (ji7)).f0.f1, (rd_T60 x0_1 (ji7)).f0.f2, (rd_T60 x0_1 (ji7)).f0.f3, (rd_T60 x0_1 (ji7)).f0.f4⟩ : S40), (rd_T60 x0_1 (ji7)).f1⟩ : S60)) := ⟨_, rfl⟩
        replace H : (fact_Fact_55.l0 k1 (y127.set ((ji7) : Int).toNat (⟨(⟨(rd_T60 x0_1 (ji10)).f0.f0, (rd_T60 x0_1 (ji10)).f0.f1, (rd_T60 x0_1 (ji10)).f0.f2, (rd_T60 x0_1 (ji10)).f0.f3, (rd_T60 x0_1 (ji10)).f0.f4⟩ : S40), (rd_T60 x0_1 (ji10)).f1⟩ : S60)) a1 a2 a3 (wrap64 (x10_1 + 1))) = some r := RFn.rp H hy127
        have Ny127 := Aside0.mk hy127
        clear hy127
        obtain ⟨y128, hy128⟩ : ∃ y_ : List (S60), y_ = (y127.set ((ji7) : Int).toNat (⟨(⟨(rd_T60 x0_1 (ji10)).f0.f0, (rd_T60 x0_1 (ji10)).f0.f1, (rd_T60 x0_1 (ji10)).f0.f2, (rd_T60 x0_1 (ji10)).f0.f3, (rd_T60 x0_1 (ji10)).f0.f4⟩ : S40), (rd_T60 x0_1 (ji10)).f1⟩ : S60)) := ⟨_, rfl⟩
        replace H : (fact_Fact_55.l0 k1 y128 a1 a2 a3 (wrap64 (x10_1 + 1))) = some r := RFn.rp H hy128
        have Ny128 := Aside0.mk hy128
        clear hy128
        have H' := Aside0.mk H
        clear H
        try go_wp2
        have n0_ := Aside0.mk (Kd.R_drew HO_0.out)
        have n1_ := Aside0.mk (Kept.drew HK.out)
        have n2_ := Aside0.mk (below_drew1 HB.out)
        clear HO_0
        clear HK
        clear HB
        have HO_0 := n0_
        have HK := n1_
        have HB := n2_
        clear n0_ n1_ n2_
        obtain ⟨Ao16, co16, eo16⟩ := Kd.R_slice HO_0.out
        (first | subst eo16 | (injection eo16 with f1_ f2_ f3_; have f4_ := f1_.symm; have f5_ := f3_.symm; clear f1_ f2_ f3_; subst f4_; subst f5_))
        have p125 : 0 ≤ ((ji7) : Int) := RFn.od
        have q125 : (ji7) < (x0_1.length : Int) := RFn.od
        obtain ⟨ad125, e125, hx125_0, hx125_1, hx125_2, hx125_3, hx125_4, hx125_5⟩ := at_T60 (Kd.R_reads' HO_0.out).2.2 (ji7) p125 q125
        cases e125
        replace p125 := eq_true p125
        replace q125 := eq_true q125
        have p126 : 0 ≤ ((ji10) : Int) := RFn.od
        have q126 : (ji10) < (x0_1.length : Int) := RFn.od
        obtain ⟨ad126, e126, hx126_0, hx126_1, hx126_2, hx126_3, hx126_4, hx126_5⟩ := at_T60 (Kd.R_reads' HO_0.out).2.2 (ji10) p126 q126
        obtain rfl : ad125 = ad126 := (by injection e126)
        replace p126 := eq_true p126
        replace q126 := eq_true q126
        have p13 : 0 ≤ ((ji10) : Int) := RFn.od
        have q13 : ((ji10) : Int) < ((x0_1.length : Int) : Int) := RFn.od
        obtain ⟨go13, co13, eo13, gb13, gl13, cl13, HG13⟩ := Kd.R_form HO_0.out (by omega)
        (first | cases eo13 | (injection eo13 with ea_ en_ ec_; (first | subst ea_ | (injection ea_ with ea_; subst ea_)); subst ec_; clear en_))
        have GB13 := Aside0.mk gb13
        have GG13 := Aside0.mk HG13
        clear gb13 gl13 HG13
        have HMgo13 := Aside0.mk (show (P0_ go13 ∨ w.heap.size ≤ go13) from (HO_0.out.1 _ rfl))
        (first | simp only [add_plain] at hx125_0 | skip)
        (first | simp only [add_plain] at hx125_1 | skip)
        (first | simp only [add_plain] at hx125_2 | skip)
        (first | simp only [add_plain] at hx125_3 | skip)
        (first | simp only [add_plain] at hx125_4 | skip)
        (first | simp only [add_plain] at hx125_5 | skip)
        (first | simp only [add_plain] at hx126_0 | skip)
        (first | simp only [add_plain] at hx126_1 | skip)
        (first | simp only [add_plain] at hx126_2 | skip)
        (first | simp only [add_plain] at hx126_3 | skip)
        (first | simp only [add_plain] at hx126_4 | skip)
        (first | simp only [add_plain] at hx126_5 | skip)
        obtain ⟨ce13, hcl13, hM13, hcc13, hfr13⟩ := Kd.R_elem HO_0.out z60 ((ji10) : Int) p13 q13
        obtain rfl := k60_openM hM13
        have hx13_0 : World.cell? _ ⟨go13, ((ji10) : Int).toNat * 6, none⟩ = some (.string ((rd_T60 x0_1 (ji10)).f0.f0)) := hcc13 0 _ rfl
        have hx13_1 : World.cell? _ ⟨go13, ((ji10) : Int).toNat * 6 + 1, none⟩ = some (.string ((rd_T60 x0_1 (ji10)).f0.f1)) := hcc13 1 _ rfl
        have hx13_2 : World.cell? _ ⟨go13, ((ji10) : Int).toNat * 6 + 2, none⟩ = some (.string ((rd_T60 x0_1 (ji10)).f0.f2)) := hcc13 2 _ rfl
        have hx13_3 : World.cell? _ ⟨go13, ((ji10) : Int).toNat * 6 + 3, none⟩ = some (.string ((rd_T60 x0_1 (ji10)).f0.f3)) := hcc13 3 _ rfl
        have hx13_4 : World.cell? _ ⟨go13, ((ji10) : Int).toNat * 6 + 4, none⟩ = some (.int .i64 ((rd_T60 x0_1 (ji10)).f0.f4)) := hcc13 4 _ rfl
        have hx13_5 : World.cell? _ ⟨go13, ((ji10) : Int).toNat * 6 + 5, none⟩ = some (.int .i64 ((rd_T60 x0_1 (ji10)).f1)) := hcc13 5 _ rfl
        have hf13_0 : World.frozen? _ ⟨go13, ((ji10) : Int).toNat * 6, none⟩ = false := hfr13 0
        have hf13_1 : World.frozen? _ ⟨go13, ((ji10) : Int).toNat * 6 + 1, none⟩ = false := hfr13 1
        have hf13_2 : World.frozen? _ ⟨go13, ((ji10) : Int).toNat * 6 + 2, none⟩ = false := hfr13 2
        have hf13_3 : World.frozen? _ ⟨go13, ((ji10) : Int).toNat * 6 + 3, none⟩ = false := hfr13 3
        have hf13_4 : World.frozen? _ ⟨go13, ((ji10) : Int).toNat * 6 + 4, none⟩ = false := hfr13 4
        have hf13_5 : World.frozen? _ ⟨go13, ((ji10) : Int).toNat * 6 + 5, none⟩ = false := hfr13 5
        clear hcl13 hcc13 hfr13 hM13
        replace p13 := eq_true p13
        replace q13 := eq_true q13
        obtain ⟨ce17, hcl17, hM17, hcc17, hfr17⟩ := Kd.R_elem HO_0.out z60 ((ji10) : Int) (RFn.od) (by have h_ : ((ji10) : Int) < ((x0_1.length : Int) : Int) := RFn.od; first | exact h_ | (have e_ := (Kd.R_reads' HO_0.out).1; omega) | simpa using h_)
        obtain rfl := k60_openM hM17
        have HP17 := (Kd.R_seg HO_0.out ((ji10) : Int) (RFn.od) (by have h_ : ((ji10) : Int) < ((x0_1.length : Int) : Int) := RFn.od; first | exact h_ | (have e_ := (Kd.R_reads' HO_0.out).1; omega) | simpa using h_) (seg := [.string ((rd_T60 x0_1 (ji7)).f0.f0), .string ((rd_T60 x0_1 (ji7)).f0.f1), .string ((rd_T60 x0_1 (ji7)).f0.f2), .string ((rd_T60 x0_1 (ji7)).f0.f3), .int .i64 ((rd_T60 x0_1 (ji7)).f0.f4), .int .i64 ((rd_T60 x0_1 (ji7)).f1)]) (j := 0) hcl17 hcc17 (show 6 ≤ 6 from by decide) (x' := (⟨(⟨(rd_T60 x0_1 (ji7)).f0.f0, (rd_T60 x0_1 (ji7)).f0.f1, (rd_T60 x0_1 (ji7)).f0.f2, (rd_T60 x0_1 (ji7)).f0.f3, (rd_T60 x0_1 (ji7)).f0.f4⟩ : S40), (rd_T60 x0_1 (ji7)).f1⟩ : S60)) (k60_mkM _ _ _ (⟨(⟨(rd_T60 x0_1 (ji7)).f0.f0, (rd_T60 x0_1 (ji7)).f0.f1, (rd_T60 x0_1 (ji7)).f0.f2, (rd_T60 x0_1 (ji7)).f0.f3, (rd_T60 x0_1 (ji7)).f0.f4⟩ : S40), (rd_T60 x0_1 (ji7)).f1⟩ : S60) ) (fun _ hk => hk)).1
        rw [← Ny127.out] at HP17
        have HQ17 := Aside0.mk HP17
        clear hcl17 hcc17 hfr17 hM17 HP17
        have p14 : 0 ≤ ((ji7) : Int) := RFn.od
        have q14 : ((ji7) : Int) < ((x0_1.length : Int) : Int) := RFn.od
        obtain ⟨ce14, hcl14, hM14, hcc14, hfr14⟩ := Kd.R_elem HQ17.out z60 ((ji7) : Int) p14 q14
        obtain rfl := k60_openM hM14
        have hx14_0 : World.cell? _ ⟨go13, ((ji7) : Int).toNat * 6, none⟩ = some (.string ((rd_T60 y127 (ji7)).f0.f0)) := hcc14 0 _ rfl
        have hx14_1 : World.cell? _ ⟨go13, ((ji7) : Int).toNat * 6 + 1, none⟩ = some (.string ((rd_T60 y127 (ji7)).f0.f1)) := hcc14 1 _ rfl
        have hx14_2 : World.cell? _ ⟨go13, ((ji7) : Int).toNat * 6 + 2, none⟩ = some (.string ((rd_T60 y127 (ji7)).f0.f2)) := hcc14 2 _ rfl
        have hx14_3 : World.cell? _ ⟨go13, ((ji7) : Int).toNat * 6 + 3, none⟩ = some (.string ((rd_T60 y127 (ji7)).f0.f3)) := hcc14 3 _ rfl
        have hx14_4 : World.cell? _ ⟨go13, ((ji7) : Int).toNat * 6 + 4, none⟩ = some (.int .i64 ((rd_T60 y127 (ji7)).f0.f4)) := hcc14 4 _ rfl
        have hx14_5 : World.cell? _ ⟨go13, ((ji7) : Int).toNat * 6 + 5, none⟩ = some (.int .i64 ((rd_T60 y127 (ji7)).f1)) := hcc14 5 _ rfl
        have hf14_0 : World.frozen? _ ⟨go13, ((ji7) : Int).toNat * 6, none⟩ = false := hfr14 0
        have hf14_1 : World.frozen? _ ⟨go13, ((ji7) : Int).toNat * 6 + 1, none⟩ = false := hfr14 1
        have hf14_2 : World.frozen? _ ⟨go13, ((ji7) : Int).toNat * 6 + 2, none⟩ = false := hfr14 2
        have hf14_3 : World.frozen? _ ⟨go13, ((ji7) : Int).toNat * 6 + 3, none⟩ = false := hfr14 3
        have hf14_4 : World.frozen? _ ⟨go13, ((ji7) : Int).toNat * 6 + 4, none⟩ = false := hfr14 4
        have hf14_5 : World.frozen? _ ⟨go13, ((ji7) : Int).toNat * 6 + 5, none⟩ = false := hfr14 5
        clear hcl14 hcc14 hfr14 hM14
        replace p14 := eq_true p14
        replace q14 := eq_true q14
        obtain ⟨ce18, hcl18, hM18, hcc18, hfr18⟩ := Kd.R_elem HQ17.out z60 ((ji7) : Int) (RFn.od) (by have h_ : ((ji7) : Int) < ((x0_1.length : Int) : Int) := RFn.od; first | exact h_ | (have e_ := (Kd.R_reads' HO_0.out).1; omega) | simpa using h_)
        obtain rfl := k60_openM hM18
        have HP18 := (Kd.R_seg HQ17.out ((ji7) : Int) (RFn.od) (by have h_ : ((ji7) : Int) < ((x0_1.length : Int) : Int) := RFn.od; first | exact h_ | (have e_ := (Kd.R_reads' HO_0.out).1; omega) | simpa using h_) (seg := [.string ((rd_T60 x0_1 (ji10)).f0.f0), .string ((rd_T60 x0_1 (ji10)).f0.f1), .string ((rd_T60 x0_1 (ji10)).f0.f2), .string ((rd_T60 x0_1 (ji10)).f0.f3), .int .i64 ((rd_T60 x0_1 (ji10)).f0.f4), .int .i64 ((rd_T60 x0_1 (ji10)).f1)]) (j := 0) hcl18 hcc18 (show 6 ≤ 6 from by decide) (x' := (⟨(⟨(rd_T60 x0_1 (ji10)).f0.f0, (rd_T60 x0_1 (ji10)).f0.f1, (rd_T60 x0_1 (ji10)).f0.f2, (rd_T60 x0_1 (ji10)).f0.f3, (rd_T60 x0_1 (ji10)).f0.f4⟩ : S40), (rd_T60 x0_1 (ji10)).f1⟩ : S60)) (k60_mkM _ _ _ (⟨(⟨(rd_T60 x0_1 (ji10)).f0.f0, (rd_T60 x0_1 (ji10)).f0.f1, (rd_T60 x0_1 (ji10)).f0.f2, (rd_T60 x0_1 (ji10)).f0.f3, (rd_T60 x0_1 (ji10)).f0.f4⟩ : S40), (rd_T60 x0_1 (ji10)).f1⟩ : S60) ) (fun _ hk => hk)).1
        rw [← Ny128.out] at HP18
        have HQ18 := Aside0.mk HP18
        clear hcl18 hcc18 hfr18 hM18 HP18
        refine start_ (n := 24) (S := fun w' => w'.cell? ⟨go13, (((ji7)).toNat * 6), none⟩ = some (.string ((rd_T60 x0_1 (ji7)).f0.f0)) ∧ w'.cell? ⟨go13, (((ji7)).toNat * 6) + 1, none⟩ = some (.string ((rd_T60 x0_1 (ji7)).f0.f1)) ∧ w'.cell? ⟨go13, (((ji7)).toNat * 6) + 2, none⟩ = some (.string ((rd_T60 x0_1 (ji7)).f0.f2)) ∧ w'.cell? ⟨go13, (((ji7)).toNat * 6) + 3, none⟩ = some (.string ((rd_T60 x0_1 (ji7)).f0.f3)) ∧ w'.cell? ⟨go13, (((ji7)).toNat * 6) + 4, none⟩ = some (.int .i64 ((rd_T60 x0_1 (ji7)).f0.f4)) ∧ w'.cell? ⟨go13, (((ji7)).toNat * 6) + 5, none⟩ = some (.int .i64 ((rd_T60 x0_1 (ji7)).f1)) ∧ w'.cell? ⟨go13, (((ji10)).toNat * 6), none⟩ = some (.string ((rd_T60 x0_1 (ji10)).f0.f0)) ∧ w'.cell? ⟨go13, (((ji10)).toNat * 6) + 1, none⟩ = some (.string ((rd_T60 x0_1 (ji10)).f0.f1)) ∧ w'.cell? ⟨go13, (((ji10)).toNat * 6) + 2, none⟩ = some (.string ((rd_T60 x0_1 (ji10)).f0.f2)) ∧ w'.cell? ⟨go13, (((ji10)).toNat * 6) + 3, none⟩ = some (.string ((rd_T60 x0_1 (ji10)).f0.f3)) ∧ w'.cell? ⟨go13, (((ji10)).toNat * 6) + 4, none⟩ = some (.int .i64 ((rd_T60 x0_1 (ji10)).f0.f4)) ∧ w'.cell? ⟨go13, (((ji10)).toNat * 6) + 5, none⟩ = some (.int .i64 ((rd_T60 x0_1 (ji10)).f1))) (ds := [21, 23]) (bs 24 0) (by kernel_rfl) rfl rfl ⟨hx125_0, hx125_1, hx125_2, hx125_3, hx125_4, hx125_5, hx126_0, hx126_1, hx126_2, hx126_3, hx126_4, hx126_5⟩ (fun hHeld => ?_); refine with_tabW fact_Fact_55.tab3 fact_Fact_55.bits3 (fun HT_ HW_ => ?_)
        generalize wr.drew = w15 at HO_0 HK HB GG13 HQ17 HQ18 hf13_0 hf13_1 hf13_2 hf13_3 hf13_4 hf13_5 hf14_0 hf14_1 hf14_2 hf14_3 hf14_4 hf14_5 hx125_0 hx125_1 hx125_2 hx125_3 hx125_4 hx125_5 hx126_0 hx126_1 hx126_2 hx126_3 hx126_4 hx126_5 hx13_0 hx13_1 hx13_2 hx13_3 hx13_4 hx13_5 hx14_0 hx14_1 hx14_2 hx14_3 hx14_4 hx14_5 hHeld ⊢
        refine RFn.pA (i := 0) (N := some 16) (bs 24 1) HT_ ?_
        refine RFn.pA (i := 1) (N := some 17) (bs 24 3) HT_ ?_
        refine RFn.pA (i := 2) (N := some 18) (bs 24 7) HT_ ?_
        refine RFn.pA (i := 3) (N := some 19) (bs 24 15) HT_ ?_
        refine RFn.pA (i := 4) (N := some 20) (bs 24 31) HT_ ?_
        refine RFn.pA (i := 5) (N := some 21) (bs 24 63) HT_ ?_
        refine RFn.pA (i := 6) (N := some 22) (bs 24 127) HT_ ?_
        refine RFn.pA (i := 7) (N := some 23) (bs 24 255) HT_ ?_
        refine RFn.pA (i := 8) (N := some 24) (bs 24 511) HT_ ?_
        refine RFn.pA (i := 9) (N := some 25) (bs 24 1023) HT_ ?_
        refine RFn.pA (i := 10) (N := some 26) (bs 24 2047) HT_ ?_
        refine RFn.pA (i := 11) (N := some 27) (bs 24 4095) HT_ ?_
        refine RFn.pA (i := 12) (N := some 28) (bs 24 8191) HT_ ?_
        refine RFn.pA (i := 14) (N := some 30) (bs 24 24575) HT_ ?_
        refine RFn.pA (i := 15) (N := some 31) (bs 24 57343) HT_ ?_
        refine RFn.pA (i := 16) (N := some 32) (bs 24 122879) HT_ ?_
        refine RFn.pA (i := 17) (N := some 33) (bs 24 253951) HT_ ?_
        refine RFn.pA (i := 18) (N := some 34) (bs 24 516095) HT_ ?_
        refine RFn.tA (i := 13) (N := some 29) (bs 24 524287) rfl HT_ HW_ hHeld (by rintro w' ⟨s0, s1, s2, s3, s4, s5, s6, s7, s8, s9, s10, s11⟩; go_simp; with_reducible rfl) ?_
        refine RFn.tA (i := 19) (N := some 35) (bs 24 1048575) rfl HT_ HW_ hHeld (by rintro w' ⟨s0, s1, s2, s3, s4, s5, s6, s7, s8, s9, s10, s11⟩; go_simp; with_reducible rfl) ?_
        refine RFn.pA (i := 20) (N := some 36) (bs 24 2097151) HT_ ?_
        refine Go.Proofs.Ytgheapbhakamaaa.RSt.lastS_ (i := 21) (b := go13) (o := ((ji10) : Int).toNat * k60.sz + 0) (vs := [.string ((rd_T60 x0_1 (ji7)).f0.f0), .string ((rd_T60 x0_1 (ji7)).f0.f1), .string ((rd_T60 x0_1 (ji7)).f0.f2), .string ((rd_T60 x0_1 (ji7)).f0.f3), .int .i64 ((rd_T60 x0_1 (ji7)).f0.f4), .int .i64 ((rd_T60 x0_1 (ji7)).f1)]) (bs 24 4194303) rfl rfl (one_of HT_.out (by kernel_rfl)) (by decide) (by rfl) rfl (by first | rfl | (go_simp; rfl)) (by first | rfl | (go_simp; rfl)) (by rfl) info60 (by rfl) (Go.Proofs.Ytgheapbhakamaaa.RSt.R_in HO_0.out z60 ((ji10) : Int) (of_eq_true p13) (of_eq_true q13) 0) (by rfl) ?_
        refine RFn.pA (i := 22) (N := some 37) (bs 24 8388607) HT_ ?_
        refine Go.Proofs.Ytgheapbhakamaaa.RSt.lastS_ (i := 23) (b := go13) (o := ((ji7) : Int).toNat * k60.sz + 0) (vs := [.string ((rd_T60 x0_1 (ji10)).f0.f0), .string ((rd_T60 x0_1 (ji10)).f0.f1), .string ((rd_T60 x0_1 (ji10)).f0.f2), .string ((rd_T60 x0_1 (ji10)).f0.f3), .int .i64 ((rd_T60 x0_1 (ji10)).f0.f4), .int .i64 ((rd_T60 x0_1 (ji10)).f1)]) (bs 24 16777215) rfl rfl (one_of HT_.out (by kernel_rfl)) (by decide) (by rfl) rfl (by first | rfl | (go_simp; rfl)) (by first | rfl | (go_simp; rfl)) (by rfl) info60 (by rfl) (Go.Proofs.Ytgheapbhakamaaa.RSt.R_in HQ17.out z60 ((ji7) : Int) (of_eq_true p14) (of_eq_true q14) 0) (by rfl) ?_
        refine RFn.dn HT_ ?_
        try go_wp2
        go_roundg k1
        case measure => have := HK1.out; omega
        case rel => exact ⟨(y128), (wrap64 (x10_1 + 1)), (by first | rfl | (simp; done) | (simp [*]; done)), H', ⟨RFn.lk HK1⟩, ⟨RFn.mR HQ18⟩, ⟨by repeat (first | (with_reducible first | exact HK.out | apply Kept.alloc | apply Kept.drewN | apply Kept.drew | refine Kept.setCell ?_ HMgo13.out _ | refine Go.Proofs.Ytgheapbhakamaaa.RSt.keptS ?_ HMgo13.out) | exact HK.out)⟩, ⟨by repeat (first | (with_reducible first | exact HB.out | apply below_alloc | apply pw_below_drewN | apply below_drew1 | refine below_set ?_ GB13.out | refine Go.Proofs.Ytgheapbhakamaaa.RSt.belowS ?_ GB13.out) | exact HB.out)⟩⟩
       ·rw [if_neg c12] at H
        exact absurd H (by simp)
      ·rw [if_neg c11] at H
       exact absurd H (by simp)
     ·rw [if_neg c9] at H
      exact absurd H (by simp)
    ·rw [if_neg c8] at H
     exact absurd H (by simp)
   ·rw [if_neg c6] at H
    have c6b0 : decide (x10_1 < a3) = false := decide_eq_false c6
    clear c6
    obtain rfl := Option.some.inj H
    go_wp2
    first | go_end0 | ((try simp only [Exit.inBlock, Exit.then]); refine bodyPost_ret (results_none rfl _ _ _) rfl ?_)
    exact ⟨by first | rfl | (simp [errW_none, errW_some] <;> rfl) | (simp [*, errW_none, errW_some] <;> rfl), RFn.mR HO_0, RFn.bel, RFn.kp HK⟩
/-! ### fact_Fact_54: function 54 -/
def fact_Fact_54.l0 : Nat → List (S60) → Int → Int → Int → Option ((List (S60)))
 | 0, _, _, _, _ => none
 | k + 1, x0, x2, x10, x11 => if x10 = x11 then ((fact_Fact_55.f k x0 (wrap64 (x2 - x10)) x2 x10).bind fun t129 => (some t129)) else (if x10 > x11 then ((fact_Fact_55.f k x0 (wrap64 (x2 - x10)) x2 x11).bind fun t130 => (fact_Fact_54.l0 k t130 x2 (wrap64 (x10 - x11)) x11)) else ((fact_Fact_55.f k x0 (wrap64 (x2 - x10)) (wrap64 ((wrap64 (x2 + x11)) - x10)) x10).bind fun t131 => (fact_Fact_54.l0 k t131 x2 x10 (wrap64 (x11 - x10)))))
def fact_Fact_54.f (k : Nat) (l0 : List (S60)) (a1 : Int) (a2 : Int) (a3 : Int)  : Option ((List (S60))) := fact_Fact_54.l0 k l0 a2 (wrap64 (a2 - a1)) (wrap64 (a3 - a2))
theorem fact_Fact_54.mono_l : ∀ k, (∀ y0 y1 y2 y3, LeO (fact_Fact_54.l0 k y0 y1 y2 y3) (fact_Fact_54.l0 (k + 1) y0 y1 y2 y3))
 | 0 => fun _ _ _ _ r h => by simp [fact_Fact_54.l0] at h
 | k + 1 => by
  have ih0 := fact_Fact_54.mono_l k
  ·intro y0 y1 y2 y3
   unfold fact_Fact_54.l0
   repeat' first | exact LeO.refl _ | with_reducible first | apply ih0 | apply fact_Fact_55.mono | exact LeO.none _ | apply LeO.ite | refine LeO.bind ?_ fun _ => ?_
theorem fact_Fact_54.mono : ∀ a0 a1 a2 a3 k, LeO (fact_Fact_54.f k a0 a1 a2 a3) (fact_Fact_54.f (k + 1) a0 a1 a2 a3) := by
 intro a0 a1 a2 a3 k
 have ih0 := fact_Fact_54.mono_l k
 unfold fact_Fact_54.f
 repeat' first | exact LeO.refl _ | with_reducible first | apply ih0 | apply fact_Fact_55.mono | exact LeO.none _ | apply LeO.ite | refine LeO.bind ?_ fun _ => ?_
set_option maxHeartbeats 8000000 in
set_option maxRecDepth 100000 in
theorem fact_Fact_54.calls (k : Nat) (P0_ : Nat → Prop) (u9000_ : Value) (l0 : List (S60)) (a1 : Int) (a2 : Int) (a3 : Int)  (r : List (S60)) (w0 w : World) (hB : Below w0.heap.size w0 w) (ho0 : Kd.R k60 60 w w0.heap.size P0_ u9000_ l0) (h : fact_Fact_54.f k l0 a1 a2 a3 = some r) :
  Calls Try.prog 54 #[u9000_, .int .i64 a1, .int .i64 a2, .int .i64 a3, .func (.func 32) #[] #[]] w fun e w' => e = .returned (.tuple #[]) ∧ Kd.R k60 60 w' w0.heap.size (fun k_ => (P0_ k_ ∨ w.heap.size ≤ k_)) u9000_ r ∧ Below w0.heap.size w0 w' ∧ Kept w w' (fun k_ => P0_ k_) := by
 have HO0 := Aside0.mk (show Kd.R k60 60 w w0.heap.size (fun k_ => (P0_ k_ ∨ w.heap.size ≤ k_)) u9000_ l0 from Kd.R_mono ho0 (fun k_ hk => (.inl hk)))
 have HK := Aside0.mk (Kept.refl w (fun k_ => P0_ k_))
 have HW0 := Aside0.mk hB.size
 have HB := Aside0.mk hB
 clear hB
 have H : (fact_Fact_54.l0 k l0 a2 (wrap64 (a2 - a1)) (wrap64 (a3 - a2))) = some r := h
 clear h
 have H' := Aside0.mk H
 clear H
 go_enter Try.func54, Try.ntmps54
 go_wp2
 go_loopg [10, 11] k (fun kq v10 v11 w' => ∃ (x0_1 : List (S60)) (x10_1 : Int) (x11_1 : Int), v10 = .int .i64 x10_1 ∧ v11 = .int .i64 x11_1 ∧ Aside0 (fact_Fact_54.l0 kq x0_1 a2 x10_1 x11_1 = some r) ∧ Aside0 (kq ≤ k) ∧ Aside0 (Kd.R k60 60 w' w0.heap.size (fun k_ => (P0_ k_ ∨ w.heap.size ≤ k_)) u9000_ x0_1) ∧ Aside0 (Kept w w' (fun k_ => P0_ k_)) ∧ Aside0 (Below w0.heap.size w0 w'))
 case atStart => exact ⟨(l0), (wrap64 (a2 - a1)), (wrap64 (a3 - a2)), (by first | rfl | (simp; done) | (simp [*]; done)), (by first | rfl | (simp; done) | (simp [*]; done)), H', ⟨Nat.le_refl _⟩, ⟨RFn.mR HO0⟩, ⟨RFn.kp HK⟩, ⟨RFn.bel⟩⟩
 case round =>
  clear H'
  try clear p2
  try clear c5
  obtain ⟨x0_1, x10_1, x11_1, rfl, rfl, HA, HK1, HO_0, HK, HB⟩ := hrel
  cases gk with
  | zero => exact absurd HA.out (by simp [fact_Fact_54.l0])
  | succ k1 =>
   have H := HA.out
   clear HA
   simp only [fact_Fact_54.l0] at H
   by_cases c6 : x10_1 = x11_1
   ·rw [if_pos c6] at H
    have c6b0 : (x10_1 == x11_1) = true := beq_iff_eq.mpr c6
    have c6b1 : (x10_1 != x11_1) = false := bne_eq_false_iff_eq.mpr c6
    clear c6
    obtain ⟨t129, A7, H⟩ := RFn.bn H
    obtain rfl := Option.some.inj H
    obtain ⟨Ao8, co8, eo8⟩ := Kd.R_slice HO_0.out
    subst eo8
    go_wp2_with (first | ((with_reducible refine gate_callee (f := 55) rfl ?_); refine RFn.goesM (some 57) Try.func55 #[.slice Ao8 x0_1.length co8, .int .i64 (wrap64 (a2 - x10_1)), .int .i64 a2, .int .i64 x10_1, .func (.func 32) #[] #[]] rfl ?_; (with_reducible refine (fact_Fact_55.calls k1 (fun k_ => some k_ = (.slice Ao8 x0_1.length co8 : Value).ownBlock) (.slice Ao8 x0_1.length co8) x0_1 (wrap64 (a2 - x10_1)) a2 x10_1  t129 w0 _ ?side1 ?side2 A7.out).mono ?_); (case side1 => repeat (first | (with_reducible first | exact HB.out | apply below_alloc | apply pw_below_drewN | apply below_drew1) | exact HB.out)); (case side2 => exact Kd.R_tight rfl HO_0.out); rintro e w9 ⟨rfl, hy0, hb, hkp⟩; refine ⟨_, rfl, ?_⟩; have n0_ := Aside0.mk (Kd.R_reok rfl hy0 (fun k_ e_ => HO_0.out.1 k_ e_)); have n1_ := Aside0.mk (Kept.then_ (S := (fun k_ => P0_ k_)) (RFn.kp HK) hkp (fun k_ hs_ => (fun e_ => (HO_0.out.1 k_ e_.symm)) hs_)); have n2_ := Aside0.mk (hb); clear HO_0; clear HK; clear HB; have HO_0 := n0_; have HK := n1_; have HB := n2_; clear n0_ n1_ n2_; (try clear hb); (try clear hkp); (try clear hy0)))
    first | go_end0 | ((try simp only [Exit.inBlock, Exit.then]); refine bodyPost_ret (results_none rfl _ _ _) rfl ?_)
    exact ⟨by first | rfl | (simp [errW_none, errW_some] <;> rfl) | (simp [*, errW_none, errW_some] <;> rfl), RFn.mR HO_0, RFn.bel, RFn.kp HK⟩
   ·rw [if_neg c6] at H
    have c6b0 : (x10_1 == x11_1) = false := beq_eq_false_iff_ne.mpr c6
    have c6b1 : (x10_1 != x11_1) = true := bne_iff_ne.mpr c6
    by_cases c10 : x10_1 > x11_1
    ·rw [if_pos c10] at H
     have c10b0 : decide (x11_1 < x10_1) = true := decide_eq_true c10
     clear c10
     obtain ⟨t130, A11, H⟩ := RFn.bn H
     have H' := Aside0.mk H
     clear H
     obtain ⟨Ao12, co12, eo12⟩ := Kd.R_slice HO_0.out
     subst eo12
     go_wp2_with (first | ((with_reducible refine gate_callee (f := 55) rfl ?_); refine RFn.goesM (some 31) Try.func55 #[.slice Ao12 x0_1.length co12, .int .i64 (wrap64 (a2 - x10_1)), .int .i64 a2, .int .i64 x11_1, .func (.func 32) #[] #[]] rfl ?_; (with_reducible refine (fact_Fact_55.calls k1 (fun k_ => some k_ = (.slice Ao12 x0_1.length co12 : Value).ownBlock) (.slice Ao12 x0_1.length co12) x0_1 (wrap64 (a2 - x10_1)) a2 x11_1  t130 w0 _ ?side1 ?side2 A11.out).mono ?_); (case side1 => repeat (first | (with_reducible first | exact HB.out | apply below_alloc | apply pw_below_drewN | apply below_drew1) | exact HB.out)); (case side2 => exact Kd.R_tight rfl HO_0.out); rintro e w13 ⟨rfl, hy0, hb, hkp⟩; refine ⟨_, rfl, ?_⟩; have n0_ := Aside0.mk (Kd.R_reok rfl hy0 (fun k_ e_ => HO_0.out.1 k_ e_)); have n1_ := Aside0.mk (Kept.then_ (S := (fun k_ => P0_ k_)) (RFn.kp HK) hkp (fun k_ hs_ => (fun e_ => (HO_0.out.1 k_ e_.symm)) hs_)); have n2_ := Aside0.mk (hb); clear HO_0; clear HK; clear HB; have HO_0 := n0_; have HK := n1_; have HB := n2_; clear n0_ n1_ n2_; (try clear hb); (try clear hkp); (try clear hy0)))
     go_roundg k1
     case measure => have := HK1.out; omega
     case rel => exact ⟨(t130), (wrap64 (x10_1 - x11_1)), (x11_1), (by first | rfl | (simp; done) | (simp [*]; done)), (by first | rfl | (simp; done) | (simp [*]; done)), H', ⟨RFn.lk HK1⟩, ⟨RFn.mR HO_0⟩, ⟨RFn.kp HK⟩, ⟨RFn.bel⟩⟩
    ·rw [if_neg c10] at H
     have c10b0 : decide (x11_1 < x10_1) = false := decide_eq_false c10
     clear c10
     obtain ⟨t131, A14, H⟩ := RFn.bn H
     have H' := Aside0.mk H
     clear H
     obtain ⟨Ao15, co15, eo15⟩ := Kd.R_slice HO_0.out
     subst eo15
     go_wp2_with (first | ((with_reducible refine gate_callee (f := 55) rfl ?_); refine RFn.goesM (some 46) Try.func55 #[.slice Ao15 x0_1.length co15, .int .i64 (wrap64 (a2 - x10_1)), .int .i64 (wrap64 ((wrap64 (a2 + x11_1)) - x10_1)), .int .i64 x10_1, .func (.func 32) #[] #[]] rfl ?_; (with_reducible refine (fact_Fact_55.calls k1 (fun k_ => some k_ = (.slice Ao15 x0_1.length co15 : Value).ownBlock) (.slice Ao15 x0_1.length co15) x0_1 (wrap64 (a2 - x10_1)) (wrap64 ((wrap64 (a2 + x11_1)) - x10_1)) x10_1  t131 w0 _ ?side1 ?side2 A14.out).mono ?_); (case side1 => repeat (first | (with_reducible first | exact HB.out | apply below_alloc | apply pw_below_drewN | apply below_drew1) | exact HB.out)); (case side2 => exact Kd.R_tight rfl HO_0.out); rintro e w16 ⟨rfl, hy0, hb, hkp⟩; refine ⟨_, rfl, ?_⟩; have n0_ := Aside0.mk (Kd.R_reok rfl hy0 (fun k_ e_ => HO_0.out.1 k_ e_)); have n1_ := Aside0.mk (Kept.then_ (S := (fun k_ => P0_ k_)) (RFn.kp HK) hkp (fun k_ hs_ => (fun e_ => (HO_0.out.1 k_ e_.symm)) hs_)); have n2_ := Aside0.mk (hb); clear HO_0; clear HK; clear HB; have HO_0 := n0_; have HK := n1_; have HB := n2_; clear n0_ n1_ n2_; (try clear hb); (try clear hkp); (try clear hy0)))
     go_roundg k1
     case measure => have := HK1.out; omega
     case rel => exact ⟨(t131), (x10_1), (wrap64 (x11_1 - x10_1)), (by first | rfl | (simp; done) | (simp [*]; done)), (by first | rfl | (simp; done) | (simp [*]; done)), H', ⟨RFn.lk HK1⟩, ⟨RFn.mR HO_0⟩, ⟨RFn.kp HK⟩, ⟨RFn.bel⟩⟩
end Go.Proofs.Ytgheapbhakamaaa.Q
