/- printed by a program of this session (wip/tools/pr.sh): it is not a print of the kit -/
import Derived.Test.YtjbdkdmoacdbpaaGreatDoorXLayCompare
import Derived.Test.YtjbdkdmoacdbpaaGreatDoorQx0
namespace Go.Proofs.YtjbdkdmoacdbpaaGreatDoor.Q
open Go.RowKit Go.Proofs.YtjbdkdmoacdbpaaGreatDoorW.PrintWords Go.Proofs.YtjbdkdmoacdbpaaGreatDoorW.PrintLast Go.Proofs.YtjbdkdmoacdbpaaGreatDoorW.PrintMore
attribute [local go_sem] max2_int min2_int max_two min_two max_three min_three max_four min_four RFn.gtr_str   -- for this text's walks alone
set_option linter.unusedVariables false
set_option linter.unusedSimpArgs false
/-! ### cmp_Or_int: function 47 -/
def cmp_Or_int.l0 : Nat → Int → List Int → Int → Int → Option (Int)
 | 0, _, _, _, _ => none
 | k + 1, x3, x6, x7, x8 => if x8 < x7 then (if 0 ≤ x8 then (if x8 < (x6.length : Int) then (if (rd x6 x8) = x3 then (cmp_Or_int.l0 k x3 x6 x7 (wrap64 (x8 + 1))) else (some (rd x6 x8))) else (none)) else (none)) else (some x3)
def cmp_Or_int.f (k : Nat) (l0 : List Int) : Option (Int) := cmp_Or_int.l0 k 0 l0 (l0.length : Int) 0
theorem cmp_Or_int.mono_l : ∀ k, (∀ y0 y1 y2 y3, LeO (cmp_Or_int.l0 k y0 y1 y2 y3) (cmp_Or_int.l0 (k + 1) y0 y1 y2 y3))
 | 0 => fun _ _ _ _ r h => by simp [cmp_Or_int.l0] at h
 | k + 1 => by
  have ih0 := cmp_Or_int.mono_l k
  ·intro y0 y1 y2 y3
   unfold cmp_Or_int.l0
   repeat' with_reducible first | exact LeO.refl _ | apply ih0 | exact LeO.none _ | apply LeO.ite | refine LeO.bind ?_ fun _ => ?_
theorem cmp_Or_int.mono : ∀ a0 k, LeO (cmp_Or_int.f k a0) (cmp_Or_int.f (k + 1) a0) := by
 intro a0 k
 have ih0 := cmp_Or_int.mono_l k
 unfold cmp_Or_int.f
 repeat' with_reducible first | exact LeO.refl _ | apply ih0 | exact LeO.none _ | apply LeO.ite | refine LeO.bind ?_ fun _ => ?_
set_option maxHeartbeats 8000000 in
set_option maxRecDepth 100000 in
theorem cmp_Or_int.calls (k : Nat) (A0 : Option Addr) (c0 : Nat) (l0 : List Int) (r : Int) (w : World) (hr0 : Kd.C (Kd.int .i64) w A0 l0.length l0) (hc0 : l0.length ≤ c0) (h : cmp_Or_int.f k l0 = some r) :
  Calls Tryz.prog 47 #[.slice A0 l0.length c0] w fun e w' => e = .returned (.int .i64 r) ∧ Drawn0 w w' := by
 have HR0 := Aside0.mk hr0
 have HC0 := Aside0.mk hc0
 clear hr0 hc0
 have H : (cmp_Or_int.l0 k 0 l0 (l0.length : Int) 0) = some r := h
 clear h
 have H' := Aside0.mk H
 clear H
 go_enter Tryz.func47, Tryz.ntmps47
 go_wp2
 go_loopg [8] k (fun kq v8 w' => ∃ (x8_1 : Int), v8 = .int .i64 x8_1 ∧ Aside0 (cmp_Or_int.l0 kq 0 l0 (l0.length : Int) x8_1 = some r) ∧ Aside0 (kq ≤ k) ∧ Drawn0 w w')
 case atStart => exact ⟨(0), (by first | rfl | (simp; done) | (simp [*]; done)), H', ⟨Nat.le_refl _⟩, by repeat (first | exact Drawn0.refl _ | apply Drawn0.step)⟩
 case round =>
  clear H'
  obtain ⟨x8_1, rfl, HA, HK1, ⟨m1, rfl⟩⟩ := hrel
  cases gk with
  | zero => exact absurd HA.out (by simp [cmp_Or_int.l0])
  | succ k1 =>
   have H := HA.out
   clear HA
   simp only [cmp_Or_int.l0] at H
   by_cases c2 : x8_1 < (l0.length : Int)
   ·rw [if_pos c2] at H
    have c2b0 : decide (x8_1 < (l0.length : Int)) = true := decide_eq_true c2
    clear c2
    by_cases c3 : 0 ≤ x8_1
    ·rw [if_pos c3] at H
     have c3b0 : decide (0 ≤ x8_1) = true := decide_eq_true c3
     clear c3
     by_cases c4 : x8_1 < (l0.length : Int)
     ·rw [if_pos c4] at H
      have c4b0 : decide (x8_1 < (l0.length : Int)) = true := decide_eq_true c4
      clear c4
      by_cases c5 : (rd l0 x8_1) = 0
      ·rw [if_pos c5] at H
       have c5b0 : ((rd l0 x8_1) == 0) = true := beq_iff_eq.mpr c5
       have c5b1 : ((rd l0 x8_1) != 0) = false := bne_eq_false_iff_eq.mpr c5
       clear c5
       have H' := Aside0.mk H
       clear H
       have p215 : 0 ≤ (x8_1 : Int) := RFn.od
       have q215 : x8_1 < (l0.length : Int) := RFn.od
       obtain ⟨ad215, e215, hx215_0⟩ := Kd.at_int HR0.out x8_1 p215 q215
       cases e215
       replace p215 := eq_true p215
       replace q215 := eq_true q215
       go_wp2
       go_roundg k1
       case measure => have := HK1.out; omega
       case rel => exact ⟨(wrap64 (x8_1 + 1)), (by first | rfl | (simp; done) | (simp [*]; done)), H', ⟨RFn.lk HK1⟩, by repeat (first | exact Drawn0.refl _ | apply Drawn0.step)⟩
      ·rw [if_neg c5] at H
       have c5b0 : ((rd l0 x8_1) == 0) = false := beq_eq_false_iff_ne.mpr c5
       have c5b1 : ((rd l0 x8_1) != 0) = true := bne_iff_ne.mpr c5
       obtain rfl := Option.some.inj H
       have p215 : 0 ≤ (x8_1 : Int) := RFn.od
       have q215 : x8_1 < (l0.length : Int) := RFn.od
       obtain ⟨ad215, e215, hx215_0⟩ := Kd.at_int HR0.out x8_1 p215 q215
       cases e215
       replace p215 := eq_true p215
       replace q215 := eq_true q215
       go_wp2
       go_ret
       exact ⟨by first | rfl | (simp; done) | (simp [*]; done), by repeat (first | exact Drawn0.refl _ | apply Drawn0.step)⟩
     ·rw [if_neg c4] at H
      exact absurd H (by simp)
    ·rw [if_neg c3] at H
     exact absurd H (by simp)
   ·rw [if_neg c2] at H
    have c2b0 : decide (x8_1 < (l0.length : Int)) = false := decide_eq_false c2
    clear c2
    obtain rfl := Option.some.inj H
    go_wp2
    go_ret
    exact ⟨by first | rfl | (simp; done) | (simp [*]; done), by repeat (first | exact Drawn0.refl _ | apply Drawn0.step)⟩
/-! ### strings_Compare: function 48 -/
def strings_Compare.f (a0 : ByteArray) (a1 : ByteArray) : Option (Int) := some (Lib.compareBytes a0.data.toList a1.data.toList)
theorem strings_Compare.calls (a0 : ByteArray) (a1 : ByteArray) (r : Int) (w : World) (h : strings_Compare.f a0 a1 = some r) :
  Calls Tryz.prog 48 #[.string a0, .string a1] w fun e w' => e = .returned (.int .i64 r) ∧ Drawn0 w w' := by
 unfold strings_Compare.f at h
 obtain rfl := Option.some.inj h
 exact (Any.strings_Compare Go.Proofs.YtjbdkdmoacdbpaaGreatDoor.X.lays106 a0 a1 w).mono fun e w' ⟨he, hw⟩ => ⟨he, by rw [hw]; exact Drawn0.refl _⟩
/-! ### cmp_isNaN_int: function 66 -/
def cmp_isNaN_int.f (a0 : Int) : Option (Bool) := some (a0 != a0)
set_option maxHeartbeats 8000000 in
set_option maxRecDepth 100000 in
theorem cmp_isNaN_int.calls (a0 : Int) (r : Bool) (w : World) (h : cmp_isNaN_int.f a0 = some r) :
  Calls Tryz.prog 66 #[.int .i64 a0] w fun e w' => e = .returned (.bool r) ∧ Drawn0 w w' := by
 have H : (some (a0 != a0)) = some r := h
 clear h
 obtain rfl := Option.some.inj H
 go_enter Tryz.func66, Tryz.ntmps66
 go_wp2
 go_ret
 exact ⟨by first | rfl | (simp; done) | (simp [*]; done), by repeat (first | exact Drawn0.refl _ | apply Drawn0.step)⟩
/-! ### cmp_Compare_int: function 49 -/
def cmp_Compare_int.f (a0 : Int) (a1 : Int) : Option (Int) := (cmp_isNaN_int.f a0).bind fun t216 => ((cmp_isNaN_int.f a1).bind fun t217 => (if t216 = true then (if t217 = true then (some 0) else (some (-1))) else (if t217 = true then (some 1) else (if a0 < a1 then (some (-1)) else (if a0 > a1 then (some 1) else (some 0))))))
set_option maxHeartbeats 8000000 in
set_option maxRecDepth 100000 in
theorem cmp_Compare_int.calls (a0 : Int) (a1 : Int) (r : Int) (w : World) (h : cmp_Compare_int.f a0 a1 = some r) :
  Calls Tryz.prog 49 #[.int .i64 a0, .int .i64 a1] w fun e w' => e = .returned (.int .i64 r) ∧ Drawn0 w w' := by
 have H : ((cmp_isNaN_int.f a0).bind fun t216 => ((cmp_isNaN_int.f a1).bind fun t217 => (if t216 = true then (if t217 = true then (some 0) else (some (-1))) else (if t217 = true then (some 1) else (if a0 < a1 then (some (-1)) else (if a0 > a1 then (some 1) else (some 0))))))) = some r := h
 clear h
 obtain ⟨t216, A3, H⟩ := RFn.bn H
 obtain ⟨t217, A4, H⟩ := RFn.bn H
 by_cases c5 : t216 = true
 ·subst c5
  have H1 : (if t217 = true then (some 0) else (some (-1))) = some r := by rw [if_pos rfl] at H; exact H
  clear H
  have H := H1
  clear H1
  by_cases c6 : t217 = true
  ·subst c6
   have H1 : (some 0) = some r := by rw [if_pos rfl] at H; exact H
   clear H
   have H := H1
   clear H1
   obtain rfl := Option.some.inj H
   go_enter Tryz.func49, Tryz.ntmps49
   go_wp2_with (first | ((with_reducible refine gate_callee (f := 66) rfl ?_); refine RFn.goesM (some 8) Tryz.func66 #[.int .i64 a0] rfl ?_; (with_reducible refine (cmp_isNaN_int.calls a0 true _ A3.out).mono ?_); rintro e w' ⟨rfl, ⟨nd, rfl⟩⟩; refine ⟨_, rfl, ?_⟩) | ((with_reducible refine gate_callee (f := 66) rfl ?_); refine RFn.goesM (some 10) Tryz.func66 #[.int .i64 a1] rfl ?_; (with_reducible refine (cmp_isNaN_int.calls a1 true _ A4.out).mono ?_); rintro e w' ⟨rfl, ⟨nd, rfl⟩⟩; refine ⟨_, rfl, ?_⟩))
   go_ret
   exact ⟨by first | rfl | (simp; done) | (simp [*]; done), by repeat (first | exact Drawn0.refl _ | apply Drawn0.step)⟩
  ·replace c6 := Bool.eq_false_iff.mpr c6
   subst c6
   have H1 : (some (-1)) = some r := by rw [if_neg (show ¬ (false = true) by decide)] at H; exact H
   clear H
   have H := H1
   clear H1
   obtain rfl := Option.some.inj H
   go_enter Tryz.func49, Tryz.ntmps49
   go_wp2_with (first | ((with_reducible refine gate_callee (f := 66) rfl ?_); refine RFn.goesM (some 8) Tryz.func66 #[.int .i64 a0] rfl ?_; (with_reducible refine (cmp_isNaN_int.calls a0 true _ A3.out).mono ?_); rintro e w' ⟨rfl, ⟨nd, rfl⟩⟩; refine ⟨_, rfl, ?_⟩) | ((with_reducible refine gate_callee (f := 66) rfl ?_); refine RFn.goesM (some 10) Tryz.func66 #[.int .i64 a1] rfl ?_; (with_reducible refine (cmp_isNaN_int.calls a1 false _ A4.out).mono ?_); rintro e w' ⟨rfl, ⟨nd, rfl⟩⟩; refine ⟨_, rfl, ?_⟩))
   go_ret
   exact ⟨by first | rfl | (simp; done) | (simp [*]; done), by repeat (first | exact Drawn0.refl _ | apply Drawn0.step)⟩
 ·replace c5 := Bool.eq_false_iff.mpr c5
  subst c5
  have H1 : (if t217 = true then (some 1) else (if a0 < a1 then (some (-1)) else (if a0 > a1 then (some 1) else (some 0)))) = some r := by rw [if_neg (show ¬ (false = true) by decide)] at H; exact H
  clear H
  have H := H1
  clear H1
  by_cases c7 : t217 = true
  ·subst c7
   have H1 : (some 1) = some r := by rw [if_pos rfl] at H; exact H
   clear H
   have H := H1
   clear H1
   obtain rfl := Option.some.inj H
   go_enter Tryz.func49, Tryz.ntmps49
   go_wp2_with (first | ((with_reducible refine gate_callee (f := 66) rfl ?_); refine RFn.goesM (some 8) Tryz.func66 #[.int .i64 a0] rfl ?_; (with_reducible refine (cmp_isNaN_int.calls a0 false _ A3.out).mono ?_); rintro e w' ⟨rfl, ⟨nd, rfl⟩⟩; refine ⟨_, rfl, ?_⟩) | ((with_reducible refine gate_callee (f := 66) rfl ?_); refine RFn.goesM (some 10) Tryz.func66 #[.int .i64 a1] rfl ?_; (with_reducible refine (cmp_isNaN_int.calls a1 true _ A4.out).mono ?_); rintro e w' ⟨rfl, ⟨nd, rfl⟩⟩; refine ⟨_, rfl, ?_⟩))
   go_ret
   exact ⟨by first | rfl | (simp; done) | (simp [*]; done), by repeat (first | exact Drawn0.refl _ | apply Drawn0.step)⟩
  ·replace c7 := Bool.eq_false_iff.mpr c7
   subst c7
   have H1 : (if a0 < a1 then (some (-1)) else (if a0 > a1 then (some 1) else (some 0))) = some r := by rw [if_neg (show ¬ (false = true) by decide)] at H; exact H
   clear H
   have H := H1
   clear H1
   by_cases c8 : a0 < a1
   ·rw [if_pos c8] at H
    have c8b0 : decide (a0 < a1) = true := decide_eq_true c8
    clear c8
    obtain rfl := Option.some.inj H
    go_enter Tryz.func49, Tryz.ntmps49
    go_wp2_with (first | ((with_reducible refine gate_callee (f := 66) rfl ?_); refine RFn.goesM (some 8) Tryz.func66 #[.int .i64 a0] rfl ?_; (with_reducible refine (cmp_isNaN_int.calls a0 false _ A3.out).mono ?_); rintro e w' ⟨rfl, ⟨nd, rfl⟩⟩; refine ⟨_, rfl, ?_⟩) | ((with_reducible refine gate_callee (f := 66) rfl ?_); refine RFn.goesM (some 10) Tryz.func66 #[.int .i64 a1] rfl ?_; (with_reducible refine (cmp_isNaN_int.calls a1 false _ A4.out).mono ?_); rintro e w' ⟨rfl, ⟨nd, rfl⟩⟩; refine ⟨_, rfl, ?_⟩))
    go_ret
    exact ⟨by first | rfl | (simp; done) | (simp [*]; done), by repeat (first | exact Drawn0.refl _ | apply Drawn0.step)⟩
   ·rw [if_neg c8] at H
    have c8b0 : decide (a0 < a1) = false := decide_eq_false c8
    clear c8
    by_cases c9 : a0 > a1
    ·rw [if_pos c9] at H
     have c9b0 : decide (a1 < a0) = true := decide_eq_true c9
     clear c9
     obtain rfl := Option.some.inj H
     go_enter Tryz.func49, Tryz.ntmps49
     go_wp2_with (first | ((with_reducible refine gate_callee (f := 66) rfl ?_); refine RFn.goesM (some 8) Tryz.func66 #[.int .i64 a0] rfl ?_; (with_reducible refine (cmp_isNaN_int.calls a0 false _ A3.out).mono ?_); rintro e w' ⟨rfl, ⟨nd, rfl⟩⟩; refine ⟨_, rfl, ?_⟩) | ((with_reducible refine gate_callee (f := 66) rfl ?_); refine RFn.goesM (some 10) Tryz.func66 #[.int .i64 a1] rfl ?_; (with_reducible refine (cmp_isNaN_int.calls a1 false _ A4.out).mono ?_); rintro e w' ⟨rfl, ⟨nd, rfl⟩⟩; refine ⟨_, rfl, ?_⟩))
     go_ret
     exact ⟨by first | rfl | (simp; done) | (simp [*]; done), by repeat (first | exact Drawn0.refl _ | apply Drawn0.step)⟩
    ·rw [if_neg c9] at H
     have c9b0 : decide (a1 < a0) = false := decide_eq_false c9
     clear c9
     obtain rfl := Option.some.inj H
     go_enter Tryz.func49, Tryz.ntmps49
     go_wp2_with (first | ((with_reducible refine gate_callee (f := 66) rfl ?_); refine RFn.goesM (some 8) Tryz.func66 #[.int .i64 a0] rfl ?_; (with_reducible refine (cmp_isNaN_int.calls a0 false _ A3.out).mono ?_); rintro e w' ⟨rfl, ⟨nd, rfl⟩⟩; refine ⟨_, rfl, ?_⟩) | ((with_reducible refine gate_callee (f := 66) rfl ?_); refine RFn.goesM (some 10) Tryz.func66 #[.int .i64 a1] rfl ?_; (with_reducible refine (cmp_isNaN_int.calls a1 false _ A4.out).mono ?_); rintro e w' ⟨rfl, ⟨nd, rfl⟩⟩; refine ⟨_, rfl, ?_⟩))
     go_ret
     exact ⟨by first | rfl | (simp; done) | (simp [*]; done), by repeat (first | exact Drawn0.refl _ | apply Drawn0.step)⟩
/-! ### fact_Cmp: function 32 -/
def fact_Cmp.f (k : Nat) (a0_0 : ByteArray) (a0_1 : ByteArray) (a0_2 : ByteArray) (a0_3 : ByteArray) (a0_4 : Int) (a1_0 : ByteArray) (a1_1 : ByteArray) (a1_2 : ByteArray) (a1_3 : ByteArray) (a1_4 : Int) : Option (Int) := (strings_Compare.f a0_0 a1_0).bind fun t220 => ((strings_Compare.f a0_1 a1_1).bind fun t221 => ((strings_Compare.f a0_2 a1_2).bind fun t222 => ((strings_Compare.f a0_3 a1_3).bind fun t223 => ((cmp_Compare_int.f a0_4 a1_4).bind fun t224 => ((cmp_Or_int.f k (([t220, t221, t222, t223, t224] : List Int))).bind fun t228 => (some t228))))))
theorem fact_Cmp.mono : ∀ a0 a1 a2 a3 a4 a5 a6 a7 a8 a9 k, LeO (fact_Cmp.f k a0 a1 a2 a3 a4 a5 a6 a7 a8 a9) (fact_Cmp.f (k + 1) a0 a1 a2 a3 a4 a5 a6 a7 a8 a9) := by
 intro a0 a1 a2 a3 a4 a5 a6 a7 a8 a9 k
 unfold fact_Cmp.f
 repeat' with_reducible first | exact LeO.refl _ | apply cmp_Or_int.mono | exact LeO.none _ | apply LeO.ite | refine LeO.bind ?_ fun _ => ?_
def fact_Cmp.T1 : Bool × List (List Nat × List Nat) := (true, [([], []), ([0], [0]), ([], []), ([2], [2]), ([1, 3], [1, 3]), ([], []), ([5], [5]), ([], []), ([7], [7]), ([6, 8, 4], [6, 8]), ([], []), ([10], [10]), ([], []), ([12], [12]), ([11, 13, 9], [11, 13]), ([], []), ([15], [15]), ([], []), ([17], [17]), ([16, 18, 14], [16, 18]), ([], []), ([20], [20]), ([], []), ([22], [22]), ([21, 23, 19], [21, 23]), ([4, 9, 14, 19, 24], [4, 9, 14, 19, 24]), ([25, 24], [25]), ([26, 26, 0, 1, 2, 3, 4, 5, 6, 7, 8, 9, 10, 11, 12, 13, 14, 15, 16, 17, 18, 19, 20, 21, 22, 23, 24, 25, 26], [26])])
def fact_Cmp.B1 : List Nat := [0, 1, 0, 4, 15, 0, 32, 0, 128, 511, 0, 1024, 0, 4096, 16383, 0, 32768, 0, 131072, 524287, 0, 1048576, 0, 4194304, 16777215, 33554431, 67108863, 134217727]
theorem fact_Cmp.tab1 : rtab .any (opsOf Tryz.f32 1) = fact_Cmp.T1 := by kernel_rfl
theorem fact_Cmp.bits1 : waitsOk fact_Cmp.T1.2 fact_Cmp.B1 = true := by kernel_rfl
set_option maxHeartbeats 8000000 in
set_option maxRecDepth 100000 in
theorem fact_Cmp.calls (k : Nat) (a0_0 : ByteArray) (a0_1 : ByteArray) (a0_2 : ByteArray) (a0_3 : ByteArray) (a0_4 : Int) (a1_0 : ByteArray) (a1_1 : ByteArray) (a1_2 : ByteArray) (a1_3 : ByteArray) (a1_4 : Int) (r : Int) (w : World) (h : fact_Cmp.f k a0_0 a0_1 a0_2 a0_3 a0_4 a1_0 a1_1 a1_2 a1_3 a1_4 = some r) :
  Calls Tryz.prog 32 #[.agg #[.string a0_0, .string a0_1, .string a0_2, .string a0_3, .int .i64 a0_4], .agg #[.string a1_0, .string a1_1, .string a1_2, .string a1_3, .int .i64 a1_4]] w fun e w' => e = .returned (.int .i64 r) ∧ Below w.heap.size w w' := by
 have hu48 := Tryz.underlying48
 have HB := Aside0.mk (Below.refl w.heap.size w)
 have H : ((strings_Compare.f a0_0 a1_0).bind fun t220 => ((strings_Compare.f a0_1 a1_1).bind fun t221 => ((strings_Compare.f a0_2 a1_2).bind fun t222 => ((strings_Compare.f a0_3 a1_3).bind fun t223 => ((cmp_Compare_int.f a0_4 a1_4).bind fun t224 => ((cmp_Or_int.f k (([t220, t221, t222, t223, t224] : List Int))).bind fun t228 => (some t228))))))) = some r := h
 clear h
 obtain ⟨t220, A3, H⟩ := RFn.bn H
 obtain ⟨t221, A4, H⟩ := RFn.bn H
 obtain ⟨t222, A5, H⟩ := RFn.bn H
 obtain ⟨t223, A6, H⟩ := RFn.bn H
 obtain ⟨t224, A7, H⟩ := RFn.bn H
 obtain ⟨y225, hy225⟩ : ∃ y_ : List Int, y_ = (([t220, t221, t222, t223, t224] : List Int)) := ⟨_, rfl⟩
 replace H : ((cmp_Or_int.f k y225).bind fun t228 => (some t228)) = some r := RFn.rp H hy225
 have Ny225 := Aside0.mk hy225
 clear hy225
 obtain ⟨t228, A8, H⟩ := RFn.bn H
 obtain rfl := Option.some.inj H
 go_enter Tryz.func32, Tryz.ntmps32
 try go_wp2_with (first | ((with_reducible refine gate_dst (N := 2) rfl ?_); refine box_event ?hg (N := 2) ?hd (cs := #[.string a0_0, .string a0_1, .string a0_2, .string a0_3, .int .i64 a0_4]) (t := 48) ?hr ?_; (case hd => rfl); (case hg => rfl); (case hr => first | (go_simp; done) | (go_simp; rfl)); intro gb218 hg w9 hbox hb; have n0_ := Aside0.mk (below_step (RFn.bel) hb); have n1_ := Aside0.mk (hbox); have n2_ := Aside0.mk ((by rw [hg]; exact (below_size (RFn.bel)) : w.heap.size ≤ gb218)); have n3_ := Aside0.mk ((by rw [hg]; exact (below_size (RFn.bel)) : w.heap.size ≤ gb218)); clear HB; have HB := n0_; have BK218 := n1_; have GW218 := n2_; have GE218 := n3_; clear n0_ n1_ n2_ n3_; clear hb hbox hg) | ((with_reducible refine gate_dst (N := 3) rfl ?_); refine box_event ?hg (N := 3) ?hd (cs := #[.string a1_0, .string a1_1, .string a1_2, .string a1_3, .int .i64 a1_4]) (t := 48) ?hr ?_; (case hd => rfl); (case hg => rfl); (case hr => first | (go_simp; done) | (go_simp; rfl)); intro gb219 hg w10 hbox hb; have n0_ := Aside0.mk (blk_below (g := gb218) RFn.blk hb); have n1_ := Aside0.mk (below_step RFn.bels hb); have n2_ := Aside0.mk (hbox); have n3_ := Aside0.mk ((by rw [hg]; exact (below_size RFn.bels) : w.heap.size ≤ gb219)); have n4_ := Aside0.mk ((by rw [hg]; exact (below_size RFn.bels) : w.heap.size ≤ gb219)); have n5_ := Aside0.mk ((by rw [hg]; exact Nat.ne_of_lt (blk_lt (g := gb218) RFn.blk) : gb218 ≠ gb219)); have n6_ := Aside0.mk ((by rw [hg]; exact Nat.ne_of_gt (blk_lt (g := gb218) RFn.blk) : gb219 ≠ gb218)); clear BK218; clear HB; have BK218 := n0_; have HB := n1_; have BK219 := n2_; have GW219 := n3_; have GE219 := n4_; have NB218_219 := n5_; have NB219_218 := n6_; clear n0_ n1_ n2_ n3_ n4_ n5_ n6_; clear hb hbox hg))
 have n0_ := Aside0.mk (blk_drew BK218.out)
 have n1_ := Aside0.mk (blk_drew BK219.out)
 have n2_ := Aside0.mk (below_drew1 HB.out)
 clear BK218
 clear BK219
 clear HB
 have BK218 := n0_
 have BK219 := n1_
 have HB := n2_
 clear n0_ n1_ n2_
 refine start_ (n := 28) (S := fun w' => w'.cell? ⟨gb218, 0, none⟩ = some (.string a0_0) ∧ w'.cell? ⟨gb218, 1, none⟩ = some (.string a0_1) ∧ w'.cell? ⟨gb218, 2, none⟩ = some (.string a0_2) ∧ w'.cell? ⟨gb218, 3, none⟩ = some (.string a0_3) ∧ w'.cell? ⟨gb218, 4, none⟩ = some (.int .i64 a0_4) ∧ w'.cell? ⟨gb219, 0, none⟩ = some (.string a1_0) ∧ w'.cell? ⟨gb219, 1, none⟩ = some (.string a1_1) ∧ w'.cell? ⟨gb219, 2, none⟩ = some (.string a1_2) ∧ w'.cell? ⟨gb219, 3, none⟩ = some (.string a1_3) ∧ w'.cell? ⟨gb219, 4, none⟩ = some (.int .i64 a1_4)) (ds := []) (bz 28 0) (by kernel_rfl) rfl rfl (RFn.bd5 BK218 BK219) (fun hHeld => ?_); refine with_tabW fact_Cmp.tab1 fact_Cmp.bits1 (fun HT_ HW_ => ?_)
 generalize w10.drew = w11 at BK218 BK219 HB hHeld ⊢
 refine RFn.pA (i := 0) (N := some 5) (bz 28 1) HT_ ?_
 refine RFn.pA (i := 2) (N := some 7) (bz 28 5) HT_ ?_
 refine RFn.pA (i := 5) (N := some 10) (bz 28 37) HT_ ?_
 refine RFn.pA (i := 7) (N := some 12) (bz 28 165) HT_ ?_
 refine RFn.pA (i := 10) (N := some 15) (bz 28 1189) HT_ ?_
 refine RFn.pA (i := 12) (N := some 17) (bz 28 5285) HT_ ?_
 refine RFn.pA (i := 15) (N := some 20) (bz 28 38053) HT_ ?_
 refine RFn.pA (i := 17) (N := some 22) (bz 28 169125) HT_ ?_
 refine RFn.pA (i := 20) (N := some 25) (bz 28 1217701) HT_ ?_
 refine RFn.pA (i := 22) (N := some 27) (bz 28 5412005) HT_ ?_
 refine RFn.tA (i := 1) (N := some 6) (bz 28 5412007) rfl HT_ HW_ hHeld (by rintro w' ⟨s0, s1, s2, s3, s4, s5, s6, s7, s8, s9⟩; go_simp; with_reducible rfl) ?_
 refine RFn.tA (i := 3) (N := some 8) (bz 28 5412015) rfl HT_ HW_ hHeld (by rintro w' ⟨s0, s1, s2, s3, s4, s5, s6, s7, s8, s9⟩; go_simp; with_reducible rfl) ?_
 refine RFn.tA (i := 6) (N := some 11) (bz 28 5412079) rfl HT_ HW_ hHeld (by rintro w' ⟨s0, s1, s2, s3, s4, s5, s6, s7, s8, s9⟩; go_simp; with_reducible rfl) ?_
 refine RFn.tA (i := 8) (N := some 13) (bz 28 5412335) rfl HT_ HW_ hHeld (by rintro w' ⟨s0, s1, s2, s3, s4, s5, s6, s7, s8, s9⟩; go_simp; with_reducible rfl) ?_
 refine RFn.tA (i := 11) (N := some 16) (bz 28 5414383) rfl HT_ HW_ hHeld (by rintro w' ⟨s0, s1, s2, s3, s4, s5, s6, s7, s8, s9⟩; go_simp; with_reducible rfl) ?_
 refine RFn.tA (i := 13) (N := some 18) (bz 28 5422575) rfl HT_ HW_ hHeld (by rintro w' ⟨s0, s1, s2, s3, s4, s5, s6, s7, s8, s9⟩; go_simp; with_reducible rfl) ?_
 refine RFn.tA (i := 16) (N := some 21) (bz 28 5488111) rfl HT_ HW_ hHeld (by rintro w' ⟨s0, s1, s2, s3, s4, s5, s6, s7, s8, s9⟩; go_simp; with_reducible rfl) ?_
 refine RFn.tA (i := 18) (N := some 23) (bz 28 5750255) rfl HT_ HW_ hHeld (by rintro w' ⟨s0, s1, s2, s3, s4, s5, s6, s7, s8, s9⟩; go_simp; with_reducible rfl) ?_
 refine RFn.tA (i := 21) (N := some 26) (bz 28 7847407) rfl HT_ HW_ hHeld (by rintro w' ⟨s0, s1, s2, s3, s4, s5, s6, s7, s8, s9⟩; go_simp; with_reducible rfl) ?_
 refine RFn.tA (i := 23) (N := some 28) (bz 28 16236015) rfl HT_ HW_ hHeld (by rintro w' ⟨s0, s1, s2, s3, s4, s5, s6, s7, s8, s9⟩; go_simp; with_reducible rfl) ?_
 refine RFn.o1 (i := 4) (N := some 9) (bz 28 16236031) HT_ fun K hK => ?_
 refine RFn.gA Tryz.func48 #[.string a0_0, .string a1_0] rfl ?_
 with_reducible refine (strings_Compare.calls a0_0 a1_0 t220 _ A3.out).mono ?_
 rintro e w' ⟨rfl, ⟨nd, rfl⟩⟩
 refine ⟨_, rfl, ?_⟩
 refine hK.out _ _ (RFn.bd5 BK218 BK219) (fun hHeld => ?_)
 clear hK K
 refine RFn.nm (some 9) ?_
 refine RFn.o1 (i := 9) (N := some 14) (bz 28 16236543) HT_ fun K hK => ?_
 refine RFn.gA Tryz.func48 #[.string a0_1, .string a1_1] rfl ?_
 with_reducible refine (strings_Compare.calls a0_1 a1_1 t221 _ A4.out).mono ?_
 rintro e w' ⟨rfl, ⟨nd, rfl⟩⟩
 refine ⟨_, rfl, ?_⟩
 refine hK.out _ _ (RFn.bd5 BK218 BK219) (fun hHeld => ?_)
 clear hK K
 refine RFn.nm (some 14) ?_
 refine RFn.o1 (i := 14) (N := some 19) (bz 28 16252927) HT_ fun K hK => ?_
 refine RFn.gA Tryz.func48 #[.string a0_2, .string a1_2] rfl ?_
 with_reducible refine (strings_Compare.calls a0_2 a1_2 t222 _ A5.out).mono ?_
 rintro e w' ⟨rfl, ⟨nd, rfl⟩⟩
 refine ⟨_, rfl, ?_⟩
 refine hK.out _ _ (RFn.bd5 BK218 BK219) (fun hHeld => ?_)
 clear hK K
 refine RFn.nm (some 19) ?_
 refine RFn.o1 (i := 19) (N := some 24) (bz 28 16777215) HT_ fun K hK => ?_
 refine RFn.gA Tryz.func48 #[.string a0_3, .string a1_3] rfl ?_
 with_reducible refine (strings_Compare.calls a0_3 a1_3 t223 _ A6.out).mono ?_
 rintro e w' ⟨rfl, ⟨nd, rfl⟩⟩
 refine ⟨_, rfl, ?_⟩
 refine hK.out _ _ (RFn.bd5 BK218 BK219) (fun hHeld => ?_)
 clear hK K
 refine RFn.nm (some 24) ?_
 refine RFn.o1 (i := 24) (N := some 29) (bz 28 33554431) HT_ fun K hK => ?_
 refine RFn.gA Tryz.func49 #[.int .i64 a0_4, .int .i64 a1_4] rfl ?_
 with_reducible refine (cmp_Compare_int.calls a0_4 a1_4 t224 _ A7.out).mono ?_
 rintro e w' ⟨rfl, ⟨nd, rfl⟩⟩
 refine ⟨_, rfl, ?_⟩
 refine hK.out _ _ (RFn.bd5 BK218 BK219) (fun hHeld => ?_)
 clear hK K
 refine RFn.nm (some 29) ?_
 refine RFn.o1 (i := 25) (N := some 30) (bz 28 67108863) HT_ fun K hK => ?_
 refine Kd.R_lit_step (Kd.int .i64) _ 3 ?hg (N := 30) ?hd (xs := ([t220, t221, t222, t223, t224] : List Int)) (inner := [.int .i64 t220, .int .i64 t221, .int .i64 t222, .int .i64 t223, .int .i64 t224]) (ok := fun _ => True) (okp := fun _ => True) ?hr ?hp (fun _ hk => hk) trivial (Below.refl _ _) (Nat.le_refl _) (by simp) ?_; (case hd => rfl); (case hg => rfl); (case hr => first | (go_simp; done) | (go_simp; rfl)); (case hp => exact (Reps.one (show Kd.M (Kd.int .i64) _ _ _ t220 [.int .i64 t220] from rfl) (Reps.one (show Kd.M (Kd.int .i64) _ _ _ t221 [.int .i64 t221] from rfl) (Reps.one (show Kd.M (Kd.int .i64) _ _ _ t222 [.int .i64 t222] from rfl) (Reps.one (show Kd.M (Kd.int .i64) _ _ _ t223 [.int .i64 t223] from rfl) (Reps.one (show Kd.M (Kd.int .i64) _ _ _ t224 [.int .i64 t224] from rfl) (Reps.none _ _)))))))
 intro v226 w12 ho13 hb hg_ hnew_
 clear hg_ hnew_
 (first | rw [← Ny225.out] at ho13 | (simp only [Int.reduceToNat] at ho13; rw [← Ny225.out] at ho13))
 have n0_ := Aside0.mk (Kd.R_lower ho13 (below_size RFn.bels))
 have n1_ := Aside0.mk (blk_below (g := gb218) RFn.blk hb)
 have n2_ := Aside0.mk (blk_below (g := gb219) RFn.blk hb)
 have n3_ := Aside0.mk (below_step RFn.bels hb)
 clear BK218
 clear BK219
 clear HB
 have HO227 := n0_
 have BK218 := n1_
 have BK219 := n2_
 have HB := n3_
 clear n0_ n1_ n2_ n3_
 clear hb ho13
 obtain ⟨Ao14, co14, eo14⟩ := Kd.R_slice HO227.out
 (first | subst eo14 | (injection eo14 with f1_ f2_ f3_; have f4_ := f1_.symm; have f5_ := f3_.symm; clear f1_ f2_ f3_; subst f4_; subst f5_))
 refine hK.out _ _ (RFn.bd5 BK218 BK219) (fun hHeld => ?_)
 clear hK K
 refine RFn.nm (some 30) ?_
 refine RFn.o1 (i := 26) (N := some 31) (bz 28 134217727) HT_ fun K hK => ?_
 refine RFn.gA Tryz.func47 #[.slice Ao14 y225.length co14] rfl ?_
 with_reducible refine (cmp_Or_int.calls k _ _ y225 t228 _ ?side1 ?side2 A8.out).mono ?_
 (case side1 => exact RFn.mC (Kd.R_reads' HO227.out).2.2)
 (case side2 => exact (Kd.R_reads' HO227.out).2.1)
 rintro e w' ⟨rfl, ⟨nd, rfl⟩⟩
 refine ⟨_, rfl, ?_⟩
 refine hK.out _ _ (RFn.bd5 BK218 BK219) (fun hHeld => ?_)
 clear hK K
 refine RFn.nm (some 31) ?_
 refine RFn.pA (i := 27) (N := some 4) (bz 28 268435455) HT_ ?_
 refine RFn.dn HT_ ?_
 try go_wp2
 go_ret
 exact ⟨by first | rfl | (simp [errW_none, errW_some] <;> rfl) | (simp [*, errW_none, errW_some] <;> rfl), RFn.bels⟩
/-! ### fact_Right: function 17 -/
def fact_Right.l0 : Nat → List (S50) → List (S50) → Int → Int → Option (Bool)
 | 0, _, _, _, _ => none
 | k + 1, x0, x5, x6, x7 => if x7 < x6 then (if 0 ≤ x7 then (if x7 < (x5.length : Int) then (if ((rd_T50 x5 x7).f1) = 0 then (some false) else (if x7 > 0 then (if 0 ≤ (wrap64 (x7 - 1)) then (if (wrap64 (x7 - 1)) < (x0.length : Int) then ((fact_Cmp.f k ((rd_T50 x0 (wrap64 (x7 - 1))).f0.f0) ((rd_T50 x0 (wrap64 (x7 - 1))).f0.f1) ((rd_T50 x0 (wrap64 (x7 - 1))).f0.f2) ((rd_T50 x0 (wrap64 (x7 - 1))).f0.f3) ((rd_T50 x0 (wrap64 (x7 - 1))).f0.f4) ((rd_T50 x5 x7).f0.f0) ((rd_T50 x5 x7).f0.f1) ((rd_T50 x5 x7).f0.f2) ((rd_T50 x5 x7).f0.f3) ((rd_T50 x5 x7).f0.f4)).bind fun t232 => (if t232 ≥ 0 then (some false) else (fact_Right.l0 k x0 x5 x6 (wrap64 (x7 + 1))))) else (none)) else (none)) else (fact_Right.l0 k x0 x5 x6 (wrap64 (x7 + 1))))) else (none)) else (none)) else (some (decide ((x0.length : Int) ≤ 2000)))
def fact_Right.f (k : Nat) (l0 : List (S50)) : Option (Bool) := fact_Right.l0 k l0 l0 (l0.length : Int) 0
theorem fact_Right.mono_l : ∀ k, (∀ y0 y1 y2 y3, LeO (fact_Right.l0 k y0 y1 y2 y3) (fact_Right.l0 (k + 1) y0 y1 y2 y3))
 | 0 => fun _ _ _ _ r h => by simp [fact_Right.l0] at h
 | k + 1 => by
  have ih0 := fact_Right.mono_l k
  ·intro y0 y1 y2 y3
   unfold fact_Right.l0
   repeat' with_reducible first | exact LeO.refl _ | apply ih0 | apply fact_Cmp.mono | exact LeO.none _ | apply LeO.ite | refine LeO.bind ?_ fun _ => ?_
theorem fact_Right.mono : ∀ a0 k, LeO (fact_Right.f k a0) (fact_Right.f (k + 1) a0) := by
 intro a0 k
 have ih0 := fact_Right.mono_l k
 unfold fact_Right.f
 repeat' with_reducible first | exact LeO.refl _ | apply ih0 | apply fact_Cmp.mono | exact LeO.none _ | apply LeO.ite | refine LeO.bind ?_ fun _ => ?_
def fact_Right.T4 : Bool × List (List Nat × List Nat) := (true, [([], []), ([0], [0]), ([1], [1]), ([2], [2]), ([3], [3]), ([4, 3], [3, 4]), ([5, 3, 3], [3, 5]), ([6], [6]), ([6], [6]), ([8, 6], [6, 8]), ([7, 9, 6], [6, 7, 9]), ([10, 6], [6, 10]), ([11, 6], [6, 11]), ([6], [6]), ([13, 6], [6, 13]), ([12, 14, 6, 6], [6, 12, 14]), ([15, 6], [6, 15]), ([6, 16, 3], [3, 6, 16]), ([3, 17], [3, 17])])
def fact_Right.B4 : List Nat := [0, 1, 3, 7, 15, 31, 63, 127, 127, 383, 1023, 2047, 4095, 127, 8319, 32767, 65535, 131071, 262143]
theorem fact_Right.tab4 : rtab .any (opsOf Tryz.f17 4) = fact_Right.T4 := by kernel_rfl
theorem fact_Right.bits4 : waitsOk fact_Right.T4.2 fact_Right.B4 = true := by kernel_rfl
set_option maxHeartbeats 8000000 in
set_option maxRecDepth 100000 in
theorem fact_Right.calls (k : Nat) (A0 : Option Addr) (c0 : Nat) (l0 : List (S50)) (r : Bool) (w : World) (hr0 : Kd.C k50 w A0 l0.length l0) (hc0 : l0.length ≤ c0) (h : fact_Right.f k l0 = some r) :
  Calls Tryz.prog 17 #[.slice A0 l0.length c0] w fun e w' => e = .returned (.bool r) ∧ Below w.heap.size w w' := by
 have hu50 := Tryz.underlying50
 have hu48 := Tryz.underlying48
 have HR0 := Aside0.mk hr0
 have HC0 := Aside0.mk hc0
 clear hr0 hc0
 have HB := Aside0.mk (Below.refl w.heap.size w)
 have H : (fact_Right.l0 k l0 l0 (l0.length : Int) 0) = some r := h
 clear h
 have H' := Aside0.mk H
 clear H
 go_enter Tryz.func17, Tryz.ntmps17
 go_wp2
 go_loopg [7] k (fun kq v7 w' => ∃ (x7_1 : Int), v7 = .int .i64 x7_1 ∧ Aside0 (fact_Right.l0 kq l0 l0 (l0.length : Int) x7_1 = some r) ∧ Aside0 (kq ≤ k) ∧ Aside0 (Below w.heap.size w w'))
 case atStart => exact ⟨(0), (by first | rfl | (simp; done) | (simp [*]; done)), H', ⟨Nat.le_refl _⟩, ⟨RFn.bel⟩⟩
 case round =>
  clear H'
  obtain ⟨x7_1, rfl, HA, HK1, HB⟩ := hrel
  cases gk with
  | zero => exact absurd HA.out (by simp [fact_Right.l0])
  | succ k1 =>
   have H := HA.out
   clear HA
   simp only [fact_Right.l0] at H
   by_cases c2 : x7_1 < (l0.length : Int)
   ·rw [if_pos c2] at H
    have c2b0 : decide (x7_1 < (l0.length : Int)) = true := decide_eq_true c2
    clear c2
    by_cases c3 : 0 ≤ x7_1
    ·rw [if_pos c3] at H
     have c3b0 : decide (0 ≤ x7_1) = true := decide_eq_true c3
     clear c3
     by_cases c4 : x7_1 < (l0.length : Int)
     ·rw [if_pos c4] at H
      have c4b0 : decide (x7_1 < (l0.length : Int)) = true := decide_eq_true c4
      clear c4
      by_cases c5 : ((rd_T50 l0 x7_1).f1) = 0
      ·rw [if_pos c5] at H
       have c5b0 : (((rd_T50 l0 x7_1).f1) == 0) = true := beq_iff_eq.mpr c5
       have c5b1 : (((rd_T50 l0 x7_1).f1) != 0) = false := bne_eq_false_iff_eq.mpr c5
       clear c5
       obtain rfl := Option.some.inj H
       have p229 : 0 ≤ (x7_1 : Int) := RFn.od
       have q229 : x7_1 < (l0.length : Int) := RFn.od
       obtain ⟨ad229, e229, hx229_0, hx229_1, hx229_2, hx229_3, hx229_4, hx229_5⟩ := at_T50 HR0.out x7_1 p229 q229
       cases e229
       replace hx229_0 := RFn.hb HB hx229_0
       replace hx229_1 := RFn.hb HB hx229_1
       replace hx229_2 := RFn.hb HB hx229_2
       replace hx229_3 := RFn.hb HB hx229_3
       replace hx229_4 := RFn.hb HB hx229_4
       replace hx229_5 := RFn.hb HB hx229_5
       replace p229 := eq_true p229
       replace q229 := eq_true q229
       try go_wp2_with (first | ((with_reducible refine gate_dst (N := 4) rfl ?_); refine box_event ?hg (N := 4) ?hd (cs := #[.string (⟨#[]⟩ : ByteArray), .string (⟨#[]⟩ : ByteArray), .string (⟨#[]⟩ : ByteArray), .string (⟨#[]⟩ : ByteArray), .int .i64 0, .int .i64 0]) (t := 50) ?hr ?_; (case hd => rfl); (case hg => rfl); (case hr => first | (go_simp; done) | (go_simp; rfl)); intro gb230 hg w6 hbox hb; have n0_ := Aside0.mk (below_step (RFn.bel) hb); have n1_ := Aside0.mk (hbox); have n2_ := Aside0.mk ((by rw [hg]; exact (below_size (RFn.bel)) : w.heap.size ≤ gb230)); have n3_ := Aside0.mk ((by rw [hg]; exact (below_size (RFn.bel)) : w.heap.size ≤ gb230)); clear HB; have HB := n0_; have BK230 := n1_; have GW230 := n2_; have GE230 := n3_; clear n0_ n1_ n2_ n3_; clear hb hbox hg; obtain ⟨hcz7_0, hcz7_1, hcz7_2, hcz7_3, hcz7_4, hcz7_5⟩ := RFn.bc6 BK230; obtain ⟨hfz7_0, hfz7_1, hfz7_2, hfz7_3, hfz7_4, hfz7_5⟩ := RFn.bf6 BK230))
       have n0_ : Aside0 (((((((w6.setCell ⟨gb230, 0, none⟩ (.string ((rd_T50 l0 x7_1).f0.f0))).setCell ⟨gb230, 1, none⟩ (.string ((rd_T50 l0 x7_1).f0.f1))).setCell ⟨gb230, 2, none⟩ (.string ((rd_T50 l0 x7_1).f0.f2))).setCell ⟨gb230, 3, none⟩ (.string ((rd_T50 l0 x7_1).f0.f3))).setCell ⟨gb230, 4, none⟩ (.int .i64 ((rd_T50 l0 x7_1).f0.f4))).setCell ⟨gb230, 5, none⟩ (.int .i64 ((rd_T50 l0 x7_1).f1))).heap[gb230]? = some (.cells #[.string ((rd_T50 l0 x7_1).f0.f0), .string ((rd_T50 l0 x7_1).f0.f1), .string ((rd_T50 l0 x7_1).f0.f2), .string ((rd_T50 l0 x7_1).f0.f3), .int .i64 ((rd_T50 l0 x7_1).f0.f4), .int .i64 ((rd_T50 l0 x7_1).f1)] 50 (0, 0))) := ⟨by refine RFn.d3 ?_; refine blk_put (cs := #[.string ((rd_T50 l0 x7_1).f0.f0), .string ((rd_T50 l0 x7_1).f0.f1), .string ((rd_T50 l0 x7_1).f0.f2), .string ((rd_T50 l0 x7_1).f0.f3), .int .i64 ((rd_T50 l0 x7_1).f0.f4), .int .i64 0]) ?_ 5 _ rfl; refine RFn.d3 ?_; refine blk_put (cs := #[.string ((rd_T50 l0 x7_1).f0.f0), .string ((rd_T50 l0 x7_1).f0.f1), .string ((rd_T50 l0 x7_1).f0.f2), .string ((rd_T50 l0 x7_1).f0.f3), .int .i64 0, .int .i64 0]) ?_ 4 _ rfl; refine RFn.d3 ?_; refine blk_put (cs := #[.string ((rd_T50 l0 x7_1).f0.f0), .string ((rd_T50 l0 x7_1).f0.f1), .string ((rd_T50 l0 x7_1).f0.f2), .string (⟨#[]⟩ : ByteArray), .int .i64 0, .int .i64 0]) ?_ 3 _ rfl; refine RFn.d3 ?_; refine blk_put (cs := #[.string ((rd_T50 l0 x7_1).f0.f0), .string ((rd_T50 l0 x7_1).f0.f1), .string (⟨#[]⟩ : ByteArray), .string (⟨#[]⟩ : ByteArray), .int .i64 0, .int .i64 0]) ?_ 2 _ rfl; refine RFn.d3 ?_; refine blk_put (cs := #[.string ((rd_T50 l0 x7_1).f0.f0), .string (⟨#[]⟩ : ByteArray), .string (⟨#[]⟩ : ByteArray), .string (⟨#[]⟩ : ByteArray), .int .i64 0, .int .i64 0]) ?_ 1 _ rfl; refine RFn.d3 ?_; refine blk_put (cs := #[.string (⟨#[]⟩ : ByteArray), .string (⟨#[]⟩ : ByteArray), .string (⟨#[]⟩ : ByteArray), .string (⟨#[]⟩ : ByteArray), .int .i64 0, .int .i64 0]) ?_ 0 _ rfl; refine RFn.d3 ?_; exact BK230.out⟩
       have n1_ : Aside0 (Below w.heap.size w ((((((w6.setCell ⟨gb230, 0, none⟩ (.string ((rd_T50 l0 x7_1).f0.f0))).setCell ⟨gb230, 1, none⟩ (.string ((rd_T50 l0 x7_1).f0.f1))).setCell ⟨gb230, 2, none⟩ (.string ((rd_T50 l0 x7_1).f0.f2))).setCell ⟨gb230, 3, none⟩ (.string ((rd_T50 l0 x7_1).f0.f3))).setCell ⟨gb230, 4, none⟩ (.int .i64 ((rd_T50 l0 x7_1).f0.f4))).setCell ⟨gb230, 5, none⟩ (.int .i64 ((rd_T50 l0 x7_1).f1)))) := ⟨RFn.bels⟩
       (try clear BK230)
       (try clear HB)
       generalize ((((((w6.setCell ⟨gb230, 0, none⟩ (.string ((rd_T50 l0 x7_1).f0.f0))).setCell ⟨gb230, 1, none⟩ (.string ((rd_T50 l0 x7_1).f0.f1))).setCell ⟨gb230, 2, none⟩ (.string ((rd_T50 l0 x7_1).f0.f2))).setCell ⟨gb230, 3, none⟩ (.string ((rd_T50 l0 x7_1).f0.f3))).setCell ⟨gb230, 4, none⟩ (.int .i64 ((rd_T50 l0 x7_1).f0.f4))).setCell ⟨gb230, 5, none⟩ (.int .i64 ((rd_T50 l0 x7_1).f1))) = w8 at n0_ n1_ ⊢
       have BK230 := n0_
       have HB := n1_
       clear n0_ n1_
       have n0_ := Aside0.mk (blk_drew BK230.out)
       have n1_ := Aside0.mk (below_drew1 HB.out)
       clear BK230
       clear HB
       have BK230 := n0_
       have HB := n1_
       clear n0_ n1_
       refine start_ (n := 19) (S := fun w' => w'.cell? ⟨gb230, 0, none⟩ = some (.string ((rd_T50 l0 x7_1).f0.f0)) ∧ w'.cell? ⟨gb230, 1, none⟩ = some (.string ((rd_T50 l0 x7_1).f0.f1)) ∧ w'.cell? ⟨gb230, 2, none⟩ = some (.string ((rd_T50 l0 x7_1).f0.f2)) ∧ w'.cell? ⟨gb230, 3, none⟩ = some (.string ((rd_T50 l0 x7_1).f0.f3)) ∧ w'.cell? ⟨gb230, 4, none⟩ = some (.int .i64 ((rd_T50 l0 x7_1).f0.f4)) ∧ w'.cell? ⟨gb230, 5, none⟩ = some (.int .i64 ((rd_T50 l0 x7_1).f1))) (ds := []) (bz 19 0) (by kernel_rfl) rfl rfl (RFn.bc6 BK230) (fun hHeld => ?_); refine with_tabW fact_Right.tab4 fact_Right.bits4 (fun HT_ HW_ => ?_)
       generalize w8.drew = w9 at BK230 HB hHeld ⊢
       refine RFn.pA (i := 0) (N := some 12) (bz 19 1) HT_ ?_
       refine RFn.tA (i := 1) (N := some 13) (bz 19 3) rfl HT_ HW_ hHeld (by rintro w' ⟨s0, s1, s2, s3, s4, s5⟩; go_simp; with_reducible rfl) ?_
       refine RFn.pA (i := 2) (N := some 14) (bz 19 7) HT_ ?_
       refine RFn.pA (i := 3) (N := some 15) (bz 19 15) HT_ ?_
       refine RFn.pU (i := 4) (N := some 16) (bz 19 31) HT_ ?_
       refine RFn.pU (i := 5) (N := some 17) (bz 19 63) HT_ ?_
       refine RFn.pU (i := 6) (N := some 18) (bz 19 127) HT_ ?_
       refine RFn.pU (i := 7) (N := some 19) (bz 19 255) HT_ ?_
       refine RFn.pU (i := 8) (N := some 20) (bz 19 511) HT_ ?_
       refine RFn.pU (i := 9) (N := some 21) (bz 19 1023) HT_ ?_
       refine RFn.pU (i := 10) (N := some 22) (bz 19 2047) HT_ ?_
       refine RFn.pU (i := 11) (N := some 23) (bz 19 4095) HT_ ?_
       refine RFn.pU (i := 12) (N := some 24) (bz 19 8191) HT_ ?_
       refine RFn.pU (i := 13) (N := some 25) (bz 19 16383) HT_ ?_
       refine RFn.pU (i := 14) (N := some 26) (bz 19 32767) HT_ ?_
       refine RFn.pU (i := 15) (N := some 27) (bz 19 65535) HT_ ?_
       refine RFn.pU (i := 16) (N := some 28) (bz 19 131071) HT_ ?_
       refine RFn.pU (i := 17) (N := some 29) (bz 19 262143) HT_ ?_
       refine RFn.pA (i := 18) (N := some 30) (bz 19 524287) HT_ ?_
       refine RFn.dn HT_ ?_
       try go_wp2
       go_ret
       exact ⟨by first | rfl | (simp [errW_none, errW_some] <;> rfl) | (simp [*, errW_none, errW_some] <;> rfl), RFn.bels⟩
      ·rw [if_neg c5] at H
       have c5b0 : (((rd_T50 l0 x7_1).f1) == 0) = false := beq_eq_false_iff_ne.mpr c5
       have c5b1 : (((rd_T50 l0 x7_1).f1) != 0) = true := bne_iff_ne.mpr c5
       by_cases c10 : x7_1 > 0
       ·rw [if_pos c10] at H
        have c10b0 : decide (0 < x7_1) = true := decide_eq_true c10
        clear c10
        obtain ⟨ji11, hji11⟩ : ∃ j_ : Int, (wrap64 (x7_1 - 1)) = j_ := ⟨_, rfl⟩
        replace H : (if 0 ≤ (ji11) then (if (ji11) < (l0.length : Int) then ((fact_Cmp.f k1 ((rd_T50 l0 (ji11)).f0.f0) ((rd_T50 l0 (ji11)).f0.f1) ((rd_T50 l0 (ji11)).f0.f2) ((rd_T50 l0 (ji11)).f0.f3) ((rd_T50 l0 (ji11)).f0.f4) ((rd_T50 l0 x7_1).f0.f0) ((rd_T50 l0 x7_1).f0.f1) ((rd_T50 l0 x7_1).f0.f2) ((rd_T50 l0 x7_1).f0.f3) ((rd_T50 l0 x7_1).f0.f4)).bind fun t232 => (if t232 ≥ 0 then (some false) else (fact_Right.l0 k1 l0 l0 (l0.length : Int) (wrap64 (x7_1 + 1))))) else (none)) else (none)) = some r := by first | (rw [hji11] at H; exact H) | (simp only [hji11] at H ⊢; exact H)
        have hji11w : (IntKind.i64.wrap (x7_1 - 1)) = ji11 := (i64_w _).trans hji11
        by_cases c12 : 0 ≤ (ji11)
        ·rw [if_pos c12] at H
         have c12b0 : decide (0 ≤ (ji11)) = true := decide_eq_true c12
         clear c12
         by_cases c13 : (ji11) < (l0.length : Int)
         ·rw [if_pos c13] at H
          have c13b0 : decide ((ji11) < (l0.length : Int)) = true := decide_eq_true c13
          clear c13
          obtain ⟨t232, A14, H⟩ := RFn.bn H
          by_cases c15 : t232 ≥ 0
          ·rw [if_pos c15] at H
           have c15b0 : decide (0 ≤ t232) = true := decide_eq_true c15
           clear c15
           obtain rfl := Option.some.inj H
           have p229 : 0 ≤ (x7_1 : Int) := RFn.od
           have q229 : x7_1 < (l0.length : Int) := RFn.od
           obtain ⟨ad229, e229, hx229_0, hx229_1, hx229_2, hx229_3, hx229_4, hx229_5⟩ := at_T50 HR0.out x7_1 p229 q229
           cases e229
           replace hx229_0 := RFn.hb HB hx229_0
           replace hx229_1 := RFn.hb HB hx229_1
           replace hx229_2 := RFn.hb HB hx229_2
           replace hx229_3 := RFn.hb HB hx229_3
           replace hx229_4 := RFn.hb HB hx229_4
           replace hx229_5 := RFn.hb HB hx229_5
           replace p229 := eq_true p229
           replace q229 := eq_true q229
           try go_wp2_with (first | ((with_reducible refine gate_dst (N := 4) rfl ?_); refine box_event ?hg (N := 4) ?hd (cs := #[.string (⟨#[]⟩ : ByteArray), .string (⟨#[]⟩ : ByteArray), .string (⟨#[]⟩ : ByteArray), .string (⟨#[]⟩ : ByteArray), .int .i64 0, .int .i64 0]) (t := 50) ?hr ?_; (case hd => rfl); (case hg => rfl); (case hr => first | (go_simp; done) | (go_simp; rfl)); intro gb230 hg w16 hbox hb; have n0_ := Aside0.mk (below_step (RFn.bel) hb); have n1_ := Aside0.mk (hbox); have n2_ := Aside0.mk ((by rw [hg]; exact (below_size (RFn.bel)) : w.heap.size ≤ gb230)); have n3_ := Aside0.mk ((by rw [hg]; exact (below_size (RFn.bel)) : w.heap.size ≤ gb230)); clear HB; have HB := n0_; have BK230 := n1_; have GW230 := n2_; have GE230 := n3_; clear n0_ n1_ n2_ n3_; clear hb hbox hg; obtain ⟨hcz17_0, hcz17_1, hcz17_2, hcz17_3, hcz17_4, hcz17_5⟩ := RFn.bc6 BK230; obtain ⟨hfz17_0, hfz17_1, hfz17_2, hfz17_3, hfz17_4, hfz17_5⟩ := RFn.bf6 BK230))
           have n0_ : Aside0 (((((((w16.setCell ⟨gb230, 0, none⟩ (.string ((rd_T50 l0 x7_1).f0.f0))).setCell ⟨gb230, 1, none⟩ (.string ((rd_T50 l0 x7_1).f0.f1))).setCell ⟨gb230, 2, none⟩ (.string ((rd_T50 l0 x7_1).f0.f2))).setCell ⟨gb230, 3, none⟩ (.string ((rd_T50 l0 x7_1).f0.f3))).setCell ⟨gb230, 4, none⟩ (.int .i64 ((rd_T50 l0 x7_1).f0.f4))).setCell ⟨gb230, 5, none⟩ (.int .i64 ((rd_T50 l0 x7_1).f1))).heap[gb230]? = some (.cells #[.string ((rd_T50 l0 x7_1).f0.f0), .string ((rd_T50 l0 x7_1).f0.f1), .string ((rd_T50 l0 x7_1).f0.f2), .string ((rd_T50 l0 x7_1).f0.f3), .int .i64 ((rd_T50 l0 x7_1).f0.f4), .int .i64 ((rd_T50 l0 x7_1).f1)] 50 (0, 0))) := ⟨by refine RFn.d3 ?_; refine blk_put (cs := #[.string ((rd_T50 l0 x7_1).f0.f0), .string ((rd_T50 l0 x7_1).f0.f1), .string ((rd_T50 l0 x7_1).f0.f2), .string ((rd_T50 l0 x7_1).f0.f3), .int .i64 ((rd_T50 l0 x7_1).f0.f4), .int .i64 0]) ?_ 5 _ rfl; refine RFn.d3 ?_; refine blk_put (cs := #[.string ((rd_T50 l0 x7_1).f0.f0), .string ((rd_T50 l0 x7_1).f0.f1), .string ((rd_T50 l0 x7_1).f0.f2), .string ((rd_T50 l0 x7_1).f0.f3), .int .i64 0, .int .i64 0]) ?_ 4 _ rfl; refine RFn.d3 ?_; refine blk_put (cs := #[.string ((rd_T50 l0 x7_1).f0.f0), .string ((rd_T50 l0 x7_1).f0.f1), .string ((rd_T50 l0 x7_1).f0.f2), .string (⟨#[]⟩ : ByteArray), .int .i64 0, .int .i64 0]) ?_ 3 _ rfl; refine RFn.d3 ?_; refine blk_put (cs := #[.string ((rd_T50 l0 x7_1).f0.f0), .string ((rd_T50 l0 x7_1).f0.f1), .string (⟨#[]⟩ : ByteArray), .string (⟨#[]⟩ : ByteArray), .int .i64 0, .int .i64 0]) ?_ 2 _ rfl; refine RFn.d3 ?_; refine blk_put (cs := #[.string ((rd_T50 l0 x7_1).f0.f0), .string (⟨#[]⟩ : ByteArray), .string (⟨#[]⟩ : ByteArray), .string (⟨#[]⟩ : ByteArray), .int .i64 0, .int .i64 0]) ?_ 1 _ rfl; refine RFn.d3 ?_; refine blk_put (cs := #[.string (⟨#[]⟩ : ByteArray), .string (⟨#[]⟩ : ByteArray), .string (⟨#[]⟩ : ByteArray), .string (⟨#[]⟩ : ByteArray), .int .i64 0, .int .i64 0]) ?_ 0 _ rfl; refine RFn.d3 ?_; exact BK230.out⟩
           have n1_ : Aside0 (Below w.heap.size w ((((((w16.setCell ⟨gb230, 0, none⟩ (.string ((rd_T50 l0 x7_1).f0.f0))).setCell ⟨gb230, 1, none⟩ (.string ((rd_T50 l0 x7_1).f0.f1))).setCell ⟨gb230, 2, none⟩ (.string ((rd_T50 l0 x7_1).f0.f2))).setCell ⟨gb230, 3, none⟩ (.string ((rd_T50 l0 x7_1).f0.f3))).setCell ⟨gb230, 4, none⟩ (.int .i64 ((rd_T50 l0 x7_1).f0.f4))).setCell ⟨gb230, 5, none⟩ (.int .i64 ((rd_T50 l0 x7_1).f1)))) := ⟨RFn.bels⟩
           (try clear BK230)
           (try clear HB)
           generalize ((((((w16.setCell ⟨gb230, 0, none⟩ (.string ((rd_T50 l0 x7_1).f0.f0))).setCell ⟨gb230, 1, none⟩ (.string ((rd_T50 l0 x7_1).f0.f1))).setCell ⟨gb230, 2, none⟩ (.string ((rd_T50 l0 x7_1).f0.f2))).setCell ⟨gb230, 3, none⟩ (.string ((rd_T50 l0 x7_1).f0.f3))).setCell ⟨gb230, 4, none⟩ (.int .i64 ((rd_T50 l0 x7_1).f0.f4))).setCell ⟨gb230, 5, none⟩ (.int .i64 ((rd_T50 l0 x7_1).f1))) = w18 at n0_ n1_ ⊢
           have BK230 := n0_
           have HB := n1_
           clear n0_ n1_
           have n0_ := Aside0.mk (blk_drew BK230.out)
           have n1_ := Aside0.mk (below_drew1 HB.out)
           clear BK230
           clear HB
           have BK230 := n0_
           have HB := n1_
           clear n0_ n1_
           have p231 : 0 ≤ ((ji11) : Int) := RFn.od
           have q231 : (ji11) < (l0.length : Int) := RFn.od
           obtain ⟨ad231, e231, hx231_0, hx231_1, hx231_2, hx231_3, hx231_4, hx231_5⟩ := at_T50 HR0.out (ji11) p231 q231
           have hw231_5 := hx231_5
           have hw231_4 := hx231_4
           have hw231_3 := hx231_3
           have hw231_2 := hx231_2
           have hw231_1 := hx231_1
           have hw231_0 := hx231_0
           obtain rfl : ad229 = ad231 := (by injection e231)
           replace hx231_0 := RFn.hb HB hx231_0
           replace hx231_1 := RFn.hb HB hx231_1
           replace hx231_2 := RFn.hb HB hx231_2
           replace hx231_3 := RFn.hb HB hx231_3
           replace hx231_4 := RFn.hb HB hx231_4
           replace hx231_5 := RFn.hb HB hx231_5
           replace p231 := eq_true p231
           replace q231 := eq_true q231
           refine start_ (n := 19) (S := fun w' => w'.cell? ⟨gb230, 0, none⟩ = some (.string ((rd_T50 l0 x7_1).f0.f0)) ∧ w'.cell? ⟨gb230, 1, none⟩ = some (.string ((rd_T50 l0 x7_1).f0.f1)) ∧ w'.cell? ⟨gb230, 2, none⟩ = some (.string ((rd_T50 l0 x7_1).f0.f2)) ∧ w'.cell? ⟨gb230, 3, none⟩ = some (.string ((rd_T50 l0 x7_1).f0.f3)) ∧ w'.cell? ⟨gb230, 4, none⟩ = some (.int .i64 ((rd_T50 l0 x7_1).f0.f4)) ∧ w'.cell? ⟨gb230, 5, none⟩ = some (.int .i64 ((rd_T50 l0 x7_1).f1)) ∧ w'.cell? (ad229.add (((ji11)).toNat * 6)) = some (.string ((rd_T50 l0 (ji11)).f0.f0)) ∧ w'.cell? ⟨(ad229.add (((ji11)).toNat * 6)).block, (ad229.add (((ji11)).toNat * 6)).off + 1, none⟩ = some (.string ((rd_T50 l0 (ji11)).f0.f1)) ∧ w'.cell? ⟨(ad229.add (((ji11)).toNat * 6)).block, (ad229.add (((ji11)).toNat * 6)).off + 2, none⟩ = some (.string ((rd_T50 l0 (ji11)).f0.f2)) ∧ w'.cell? ⟨(ad229.add (((ji11)).toNat * 6)).block, (ad229.add (((ji11)).toNat * 6)).off + 3, none⟩ = some (.string ((rd_T50 l0 (ji11)).f0.f3)) ∧ w'.cell? ⟨(ad229.add (((ji11)).toNat * 6)).block, (ad229.add (((ji11)).toNat * 6)).off + 4, none⟩ = some (.int .i64 ((rd_T50 l0 (ji11)).f0.f4)) ∧ w'.cell? ⟨(ad229.add (((ji11)).toNat * 6)).block, (ad229.add (((ji11)).toNat * 6)).off + 5, none⟩ = some (.int .i64 ((rd_T50 l0 (ji11)).f1))) (ds := []) (bz 19 0) (by kernel_rfl) rfl rfl ⟨(blk_cell BK230.out 0).trans rfl, (blk_cell BK230.out 1).trans rfl, (blk_cell BK230.out 2).trans rfl, (blk_cell BK230.out 3).trans rfl, (blk_cell BK230.out 4).trans rfl, (blk_cell BK230.out 5).trans rfl, (RFn.hb HB hw231_0), (RFn.hb HB hw231_1), (RFn.hb HB hw231_2), (RFn.hb HB hw231_3), (RFn.hb HB hw231_4), (RFn.hb HB hw231_5)⟩ (fun hHeld => ?_); refine with_tabW fact_Right.tab4 fact_Right.bits4 (fun HT_ HW_ => ?_)
           generalize w18.drew = w19 at BK230 HB hx231_0 hx231_1 hx231_2 hx231_3 hx231_4 hx231_5 hHeld ⊢
           refine RFn.pA (i := 0) (N := some 12) (bz 19 1) HT_ ?_
           refine RFn.tA (i := 1) (N := some 13) (bz 19 3) rfl HT_ HW_ hHeld (by rintro w' ⟨s0, s1, s2, s3, s4, s5, s6, s7, s8, s9, s10, s11⟩; go_simp; with_reducible rfl) ?_
           refine RFn.pA (i := 2) (N := some 14) (bz 19 7) HT_ ?_
           refine RFn.pA (i := 3) (N := some 15) (bz 19 15) HT_ ?_
           refine RFn.pA (i := 4) (N := some 16) (bz 19 31) HT_ ?_
           refine RFn.pA (i := 5) (N := some 17) (bz 19 63) HT_ ?_
           refine RFn.pA (i := 6) (N := some 18) (bz 19 127) HT_ ?_
           refine RFn.pA (i := 7) (N := some 19) (bz 19 255) HT_ ?_
           refine RFn.pA (i := 8) (N := some 20) (bz 19 511) HT_ ?_
           refine RFn.pA (i := 9) (N := some 21) (bz 19 1023) HT_ ?_
           refine RFn.pA (i := 10) (N := some 22) (bz 19 2047) HT_ ?_
           refine RFn.pA (i := 11) (N := some 23) (bz 19 4095) HT_ ?_
           refine RFn.pA (i := 13) (N := some 25) (bz 19 12287) HT_ ?_
           refine RFn.tA (i := 12) (N := some 24) (bz 19 16383) rfl HT_ HW_ hHeld (by rintro w' ⟨s0, s1, s2, s3, s4, s5, s6, s7, s8, s9, s10, s11⟩; go_simp; with_reducible rfl) ?_
           refine RFn.tA (i := 14) (N := some 26) (bz 19 32767) rfl HT_ HW_ hHeld (by rintro w' ⟨s0, s1, s2, s3, s4, s5, s6, s7, s8, s9, s10, s11⟩; go_simp; with_reducible rfl) ?_
           refine RFn.o1 (i := 15) (N := some 27) (bz 19 65535) HT_ fun K hK => ?_
           refine goes_ Tryz.func32 (by kernel_rfl) rfl #[.agg #[.string ((rd_T50 l0 (ji11)).f0.f0), .string ((rd_T50 l0 (ji11)).f0.f1), .string ((rd_T50 l0 (ji11)).f0.f2), .string ((rd_T50 l0 (ji11)).f0.f3), .int .i64 ((rd_T50 l0 (ji11)).f0.f4)], .agg #[.string ((rd_T50 l0 x7_1).f0.f0), .string ((rd_T50 l0 x7_1).f0.f1), .string ((rd_T50 l0 x7_1).f0.f2), .string ((rd_T50 l0 x7_1).f0.f3), .int .i64 ((rd_T50 l0 x7_1).f0.f4)]] (by rfl) rfl rfl (by (try simp only [List.map_toArray, List.map_cons, List.map_nil]); first | done | (simp only [hji11]; rfl) | rfl | (simp only [List.length_drop, List.length_take]; rfl)) ?_
           with_reducible refine (fact_Cmp.calls k1 ((rd_T50 l0 (ji11)).f0.f0) ((rd_T50 l0 (ji11)).f0.f1) ((rd_T50 l0 (ji11)).f0.f2) ((rd_T50 l0 (ji11)).f0.f3) ((rd_T50 l0 (ji11)).f0.f4) ((rd_T50 l0 x7_1).f0.f0) ((rd_T50 l0 x7_1).f0.f1) ((rd_T50 l0 x7_1).f0.f2) ((rd_T50 l0 x7_1).f0.f3) ((rd_T50 l0 x7_1).f0.f4) t232 _ A14.out).mono ?_
           rintro e w20 ⟨rfl, hb⟩
           refine ⟨_, rfl, ?_⟩
           have n0_ := Aside0.mk (blk_below (g := gb230) RFn.blk hb)
           have n1_ := Aside0.mk (below_step RFn.bels hb)
           clear BK230
           clear HB
           have BK230 := n0_
           have HB := n1_
           clear n0_ n1_
           (try clear hb)
           refine hK.out _ _ ⟨(blk_cell BK230.out 0).trans rfl, (blk_cell BK230.out 1).trans rfl, (blk_cell BK230.out 2).trans rfl, (blk_cell BK230.out 3).trans rfl, (blk_cell BK230.out 4).trans rfl, (blk_cell BK230.out 5).trans rfl, (RFn.hb HB hw231_0), (RFn.hb HB hw231_1), (RFn.hb HB hw231_2), (RFn.hb HB hw231_3), (RFn.hb HB hw231_4), (RFn.hb HB hw231_5)⟩ (fun hHeld => ?_)
           clear hK K
           refine RFn.nm (some 27) ?_
           refine RFn.pA (i := 16) (N := some 28) (bz 19 131071) HT_ ?_
           refine RFn.pA (i := 17) (N := some 29) (bz 19 262143) HT_ ?_
           refine RFn.pA (i := 18) (N := some 30) (bz 19 524287) HT_ ?_
           refine RFn.dn HT_ ?_
           try go_wp2
           go_ret
           exact ⟨by first | rfl | (simp [errW_none, errW_some] <;> rfl) | (simp only [← hji11]; first | rfl | (simp [errW_none, errW_some] <;> rfl)) | (simp [*, errW_none, errW_some] <;> rfl), RFn.bels⟩
          ·rw [if_neg c15] at H
           have c15b0 : decide (0 ≤ t232) = false := decide_eq_false c15
           clear c15
           have H' := Aside0.mk H
           clear H
           have p229 : 0 ≤ (x7_1 : Int) := RFn.od
           have q229 : x7_1 < (l0.length : Int) := RFn.od
           obtain ⟨ad229, e229, hx229_0, hx229_1, hx229_2, hx229_3, hx229_4, hx229_5⟩ := at_T50 HR0.out x7_1 p229 q229
           cases e229
           replace hx229_0 := RFn.hb HB hx229_0
           replace hx229_1 := RFn.hb HB hx229_1
           replace hx229_2 := RFn.hb HB hx229_2
           replace hx229_3 := RFn.hb HB hx229_3
           replace hx229_4 := RFn.hb HB hx229_4
           replace hx229_5 := RFn.hb HB hx229_5
           replace p229 := eq_true p229
           replace q229 := eq_true q229
           try go_wp2_with (first | ((with_reducible refine gate_dst (N := 4) rfl ?_); refine box_event ?hg (N := 4) ?hd (cs := #[.string (⟨#[]⟩ : ByteArray), .string (⟨#[]⟩ : ByteArray), .string (⟨#[]⟩ : ByteArray), .string (⟨#[]⟩ : ByteArray), .int .i64 0, .int .i64 0]) (t := 50) ?hr ?_; (case hd => rfl); (case hg => rfl); (case hr => first | (go_simp; done) | (go_simp; rfl)); intro gb230 hg w21 hbox hb; have n0_ := Aside0.mk (below_step (RFn.bel) hb); have n1_ := Aside0.mk (hbox); have n2_ := Aside0.mk ((by rw [hg]; exact (below_size (RFn.bel)) : w.heap.size ≤ gb230)); have n3_ := Aside0.mk ((by rw [hg]; exact (below_size (RFn.bel)) : w.heap.size ≤ gb230)); clear HB; have HB := n0_; have BK230 := n1_; have GW230 := n2_; have GE230 := n3_; clear n0_ n1_ n2_ n3_; clear hb hbox hg; obtain ⟨hcz22_0, hcz22_1, hcz22_2, hcz22_3, hcz22_4, hcz22_5⟩ := RFn.bc6 BK230; obtain ⟨hfz22_0, hfz22_1, hfz22_2, hfz22_3, hfz22_4, hfz22_5⟩ := RFn.bf6 BK230))
           have n0_ : Aside0 (((((((w21.setCell ⟨gb230, 0, none⟩ (.string ((rd_T50 l0 x7_1).f0.f0))).setCell ⟨gb230, 1, none⟩ (.string ((rd_T50 l0 x7_1).f0.f1))).setCell ⟨gb230, 2, none⟩ (.string ((rd_T50 l0 x7_1).f0.f2))).setCell ⟨gb230, 3, none⟩ (.string ((rd_T50 l0 x7_1).f0.f3))).setCell ⟨gb230, 4, none⟩ (.int .i64 ((rd_T50 l0 x7_1).f0.f4))).setCell ⟨gb230, 5, none⟩ (.int .i64 ((rd_T50 l0 x7_1).f1))).heap[gb230]? = some (.cells #[.string ((rd_T50 l0 x7_1).f0.f0), .string ((rd_T50 l0 x7_1).f0.f1), .string ((rd_T50 l0 x7_1).f0.f2), .string ((rd_T50 l0 x7_1).f0.f3), .int .i64 ((rd_T50 l0 x7_1).f0.f4), .int .i64 ((rd_T50 l0 x7_1).f1)] 50 (0, 0))) := ⟨by refine RFn.d3 ?_; refine blk_put (cs := #[.string ((rd_T50 l0 x7_1).f0.f0), .string ((rd_T50 l0 x7_1).f0.f1), .string ((rd_T50 l0 x7_1).f0.f2), .string ((rd_T50 l0 x7_1).f0.f3), .int .i64 ((rd_T50 l0 x7_1).f0.f4), .int .i64 0]) ?_ 5 _ rfl; refine RFn.d3 ?_; refine blk_put (cs := #[.string ((rd_T50 l0 x7_1).f0.f0), .string ((rd_T50 l0 x7_1).f0.f1), .string ((rd_T50 l0 x7_1).f0.f2), .string ((rd_T50 l0 x7_1).f0.f3), .int .i64 0, .int .i64 0]) ?_ 4 _ rfl; refine RFn.d3 ?_; refine blk_put (cs := #[.string ((rd_T50 l0 x7_1).f0.f0), .string ((rd_T50 l0 x7_1).f0.f1), .string ((rd_T50 l0 x7_1).f0.f2), .string (⟨#[]⟩ : ByteArray), .int .i64 0, .int .i64 0]) ?_ 3 _ rfl; refine RFn.d3 ?_; refine blk_put (cs := #[.string ((rd_T50 l0 x7_1).f0.f0), .string ((rd_T50 l0 x7_1).f0.f1), .string (⟨#[]⟩ : ByteArray), .string (⟨#[]⟩ : ByteArray), .int .i64 0, .int .i64 0]) ?_ 2 _ rfl; refine RFn.d3 ?_; refine blk_put (cs := #[.string ((rd_T50 l0 x7_1).f0.f0), .string (⟨#[]⟩ : ByteArray), .string (⟨#[]⟩ : ByteArray), .string (⟨#[]⟩ : ByteArray), .int .i64 0, .int .i64 0]) ?_ 1 _ rfl; refine RFn.d3 ?_; refine blk_put (cs := #[.string (⟨#[]⟩ : ByteArray), .string (⟨#[]⟩ : ByteArray), .string (⟨#[]⟩ : ByteArray), .string (⟨#[]⟩ : ByteArray), .int .i64 0, .int .i64 0]) ?_ 0 _ rfl; refine RFn.d3 ?_; exact BK230.out⟩
           have n1_ : Aside0 (Below w.heap.size w ((((((w21.setCell ⟨gb230, 0, none⟩ (.string ((rd_T50 l0 x7_1).f0.f0))).setCell ⟨gb230, 1, none⟩ (.string ((rd_T50 l0 x7_1).f0.f1))).setCell ⟨gb230, 2, none⟩ (.string ((rd_T50 l0 x7_1).f0.f2))).setCell ⟨gb230, 3, none⟩ (.string ((rd_T50 l0 x7_1).f0.f3))).setCell ⟨gb230, 4, none⟩ (.int .i64 ((rd_T50 l0 x7_1).f0.f4))).setCell ⟨gb230, 5, none⟩ (.int .i64 ((rd_T50 l0 x7_1).f1)))) := ⟨RFn.bels⟩
           (try clear BK230)
           (try clear HB)
           generalize ((((((w21.setCell ⟨gb230, 0, none⟩ (.string ((rd_T50 l0 x7_1).f0.f0))).setCell ⟨gb230, 1, none⟩ (.string ((rd_T50 l0 x7_1).f0.f1))).setCell ⟨gb230, 2, none⟩ (.string ((rd_T50 l0 x7_1).f0.f2))).setCell ⟨gb230, 3, none⟩ (.string ((rd_T50 l0 x7_1).f0.f3))).setCell ⟨gb230, 4, none⟩ (.int .i64 ((rd_T50 l0 x7_1).f0.f4))).setCell ⟨gb230, 5, none⟩ (.int .i64 ((rd_T50 l0 x7_1).f1))) = w23 at n0_ n1_ ⊢
           have BK230 := n0_
           have HB := n1_
           clear n0_ n1_
           have n0_ := Aside0.mk (blk_drew BK230.out)
           have n1_ := Aside0.mk (below_drew1 HB.out)
           clear BK230
           clear HB
           have BK230 := n0_
           have HB := n1_
           clear n0_ n1_
           have p231 : 0 ≤ ((ji11) : Int) := RFn.od
           have q231 : (ji11) < (l0.length : Int) := RFn.od
           obtain ⟨ad231, e231, hx231_0, hx231_1, hx231_2, hx231_3, hx231_4, hx231_5⟩ := at_T50 HR0.out (ji11) p231 q231
           have hw231_5 := hx231_5
           have hw231_4 := hx231_4
           have hw231_3 := hx231_3
           have hw231_2 := hx231_2
           have hw231_1 := hx231_1
           have hw231_0 := hx231_0
           obtain rfl : ad229 = ad231 := (by injection e231)
           replace hx231_0 := RFn.hb HB hx231_0
           replace hx231_1 := RFn.hb HB hx231_1
           replace hx231_2 := RFn.hb HB hx231_2
           replace hx231_3 := RFn.hb HB hx231_3
           replace hx231_4 := RFn.hb HB hx231_4
           replace hx231_5 := RFn.hb HB hx231_5
           replace p231 := eq_true p231
           replace q231 := eq_true q231
           refine start_ (n := 19) (S := fun w' => w'.cell? ⟨gb230, 0, none⟩ = some (.string ((rd_T50 l0 x7_1).f0.f0)) ∧ w'.cell? ⟨gb230, 1, none⟩ = some (.string ((rd_T50 l0 x7_1).f0.f1)) ∧ w'.cell? ⟨gb230, 2, none⟩ = some (.string ((rd_T50 l0 x7_1).f0.f2)) ∧ w'.cell? ⟨gb230, 3, none⟩ = some (.string ((rd_T50 l0 x7_1).f0.f3)) ∧ w'.cell? ⟨gb230, 4, none⟩ = some (.int .i64 ((rd_T50 l0 x7_1).f0.f4)) ∧ w'.cell? ⟨gb230, 5, none⟩ = some (.int .i64 ((rd_T50 l0 x7_1).f1)) ∧ w'.cell? (ad229.add (((ji11)).toNat * 6)) = some (.string ((rd_T50 l0 (ji11)).f0.f0)) ∧ w'.cell? ⟨(ad229.add (((ji11)).toNat * 6)).block, (ad229.add (((ji11)).toNat * 6)).off + 1, none⟩ = some (.string ((rd_T50 l0 (ji11)).f0.f1)) ∧ w'.cell? ⟨(ad229.add (((ji11)).toNat * 6)).block, (ad229.add (((ji11)).toNat * 6)).off + 2, none⟩ = some (.string ((rd_T50 l0 (ji11)).f0.f2)) ∧ w'.cell? ⟨(ad229.add (((ji11)).toNat * 6)).block, (ad229.add (((ji11)).toNat * 6)).off + 3, none⟩ = some (.string ((rd_T50 l0 (ji11)).f0.f3)) ∧ w'.cell? ⟨(ad229.add (((ji11)).toNat * 6)).block, (ad229.add (((ji11)).toNat * 6)).off + 4, none⟩ = some (.int .i64 ((rd_T50 l0 (ji11)).f0.f4)) ∧ w'.cell? ⟨(ad229.add (((ji11)).toNat * 6)).block, (ad229.add (((ji11)).toNat * 6)).off + 5, none⟩ = some (.int .i64 ((rd_T50 l0 (ji11)).f1))) (ds := []) (bz 19 0) (by kernel_rfl) rfl rfl ⟨(blk_cell BK230.out 0).trans rfl, (blk_cell BK230.out 1).trans rfl, (blk_cell BK230.out 2).trans rfl, (blk_cell BK230.out 3).trans rfl, (blk_cell BK230.out 4).trans rfl, (blk_cell BK230.out 5).trans rfl, (RFn.hb HB hw231_0), (RFn.hb HB hw231_1), (RFn.hb HB hw231_2), (RFn.hb HB hw231_3), (RFn.hb HB hw231_4), (RFn.hb HB hw231_5)⟩ (fun hHeld => ?_); refine with_tabW fact_Right.tab4 fact_Right.bits4 (fun HT_ HW_ => ?_)
           generalize w23.drew = w24 at BK230 HB hx231_0 hx231_1 hx231_2 hx231_3 hx231_4 hx231_5 hHeld ⊢
           refine RFn.pA (i := 0) (N := some 12) (bz 19 1) HT_ ?_
           refine RFn.tA (i := 1) (N := some 13) (bz 19 3) rfl HT_ HW_ hHeld (by rintro w' ⟨s0, s1, s2, s3, s4, s5, s6, s7, s8, s9, s10, s11⟩; go_simp; with_reducible rfl) ?_
           refine RFn.pA (i := 2) (N := some 14) (bz 19 7) HT_ ?_
           refine RFn.pA (i := 3) (N := some 15) (bz 19 15) HT_ ?_
           refine RFn.pA (i := 4) (N := some 16) (bz 19 31) HT_ ?_
           refine RFn.pA (i := 5) (N := some 17) (bz 19 63) HT_ ?_
           refine RFn.pA (i := 6) (N := some 18) (bz 19 127) HT_ ?_
           refine RFn.pA (i := 7) (N := some 19) (bz 19 255) HT_ ?_
           refine RFn.pA (i := 8) (N := some 20) (bz 19 511) HT_ ?_
           refine RFn.pA (i := 9) (N := some 21) (bz 19 1023) HT_ ?_
           refine RFn.pA (i := 10) (N := some 22) (bz 19 2047) HT_ ?_
           refine RFn.pA (i := 11) (N := some 23) (bz 19 4095) HT_ ?_
           refine RFn.pA (i := 13) (N := some 25) (bz 19 12287) HT_ ?_
           refine RFn.tA (i := 12) (N := some 24) (bz 19 16383) rfl HT_ HW_ hHeld (by rintro w' ⟨s0, s1, s2, s3, s4, s5, s6, s7, s8, s9, s10, s11⟩; go_simp; with_reducible rfl) ?_
           refine RFn.tA (i := 14) (N := some 26) (bz 19 32767) rfl HT_ HW_ hHeld (by rintro w' ⟨s0, s1, s2, s3, s4, s5, s6, s7, s8, s9, s10, s11⟩; go_simp; with_reducible rfl) ?_
           refine RFn.o1 (i := 15) (N := some 27) (bz 19 65535) HT_ fun K hK => ?_
           refine goes_ Tryz.func32 (by kernel_rfl) rfl #[.agg #[.string ((rd_T50 l0 (ji11)).f0.f0), .string ((rd_T50 l0 (ji11)).f0.f1), .string ((rd_T50 l0 (ji11)).f0.f2), .string ((rd_T50 l0 (ji11)).f0.f3), .int .i64 ((rd_T50 l0 (ji11)).f0.f4)], .agg #[.string ((rd_T50 l0 x7_1).f0.f0), .string ((rd_T50 l0 x7_1).f0.f1), .string ((rd_T50 l0 x7_1).f0.f2), .string ((rd_T50 l0 x7_1).f0.f3), .int .i64 ((rd_T50 l0 x7_1).f0.f4)]] (by rfl) rfl rfl (by (try simp only [List.map_toArray, List.map_cons, List.map_nil]); first | done | (simp only [hji11]; rfl) | rfl | (simp only [List.length_drop, List.length_take]; rfl)) ?_
           with_reducible refine (fact_Cmp.calls k1 ((rd_T50 l0 (ji11)).f0.f0) ((rd_T50 l0 (ji11)).f0.f1) ((rd_T50 l0 (ji11)).f0.f2) ((rd_T50 l0 (ji11)).f0.f3) ((rd_T50 l0 (ji11)).f0.f4) ((rd_T50 l0 x7_1).f0.f0) ((rd_T50 l0 x7_1).f0.f1) ((rd_T50 l0 x7_1).f0.f2) ((rd_T50 l0 x7_1).f0.f3) ((rd_T50 l0 x7_1).f0.f4) t232 _ A14.out).mono ?_
           rintro e w25 ⟨rfl, hb⟩
           refine ⟨_, rfl, ?_⟩
           have n0_ := Aside0.mk (blk_below (g := gb230) RFn.blk hb)
           have n1_ := Aside0.mk (below_step RFn.bels hb)
           clear BK230
           clear HB
           have BK230 := n0_
           have HB := n1_
           clear n0_ n1_
           (try clear hb)
           refine hK.out _ _ ⟨(blk_cell BK230.out 0).trans rfl, (blk_cell BK230.out 1).trans rfl, (blk_cell BK230.out 2).trans rfl, (blk_cell BK230.out 3).trans rfl, (blk_cell BK230.out 4).trans rfl, (blk_cell BK230.out 5).trans rfl, (RFn.hb HB hw231_0), (RFn.hb HB hw231_1), (RFn.hb HB hw231_2), (RFn.hb HB hw231_3), (RFn.hb HB hw231_4), (RFn.hb HB hw231_5)⟩ (fun hHeld => ?_)
           clear hK K
           refine RFn.nm (some 27) ?_
           refine RFn.pA (i := 16) (N := some 28) (bz 19 131071) HT_ ?_
           refine RFn.pA (i := 17) (N := some 29) (bz 19 262143) HT_ ?_
           refine RFn.pA (i := 18) (N := some 30) (bz 19 524287) HT_ ?_
           refine RFn.dn HT_ ?_
           try go_wp2
           go_roundg k1
           case measure => have := HK1.out; omega
           case rel => exact ⟨(wrap64 (x7_1 + 1)), (by first | rfl | (simp; done) | (simp [*]; done)), H', ⟨RFn.lk HK1⟩, ⟨RFn.bels⟩⟩
         ·rw [if_neg c13] at H
          exact absurd H (by simp)
        ·rw [if_neg c12] at H
         exact absurd H (by simp)
       ·rw [if_neg c10] at H
        have c10b0 : decide (0 < x7_1) = false := decide_eq_false c10
        clear c10
        have H' := Aside0.mk H
        clear H
        have p229 : 0 ≤ (x7_1 : Int) := RFn.od
        have q229 : x7_1 < (l0.length : Int) := RFn.od
        obtain ⟨ad229, e229, hx229_0, hx229_1, hx229_2, hx229_3, hx229_4, hx229_5⟩ := at_T50 HR0.out x7_1 p229 q229
        cases e229
        replace hx229_0 := RFn.hb HB hx229_0
        replace hx229_1 := RFn.hb HB hx229_1
        replace hx229_2 := RFn.hb HB hx229_2
        replace hx229_3 := RFn.hb HB hx229_3
        replace hx229_4 := RFn.hb HB hx229_4
        replace hx229_5 := RFn.hb HB hx229_5
        replace p229 := eq_true p229
        replace q229 := eq_true q229
        try go_wp2_with (first | ((with_reducible refine gate_dst (N := 4) rfl ?_); refine box_event ?hg (N := 4) ?hd (cs := #[.string (⟨#[]⟩ : ByteArray), .string (⟨#[]⟩ : ByteArray), .string (⟨#[]⟩ : ByteArray), .string (⟨#[]⟩ : ByteArray), .int .i64 0, .int .i64 0]) (t := 50) ?hr ?_; (case hd => rfl); (case hg => rfl); (case hr => first | (go_simp; done) | (go_simp; rfl)); intro gb230 hg w26 hbox hb; have n0_ := Aside0.mk (below_step (RFn.bel) hb); have n1_ := Aside0.mk (hbox); have n2_ := Aside0.mk ((by rw [hg]; exact (below_size (RFn.bel)) : w.heap.size ≤ gb230)); have n3_ := Aside0.mk ((by rw [hg]; exact (below_size (RFn.bel)) : w.heap.size ≤ gb230)); clear HB; have HB := n0_; have BK230 := n1_; have GW230 := n2_; have GE230 := n3_; clear n0_ n1_ n2_ n3_; clear hb hbox hg; obtain ⟨hcz27_0, hcz27_1, hcz27_2, hcz27_3, hcz27_4, hcz27_5⟩ := RFn.bc6 BK230; obtain ⟨hfz27_0, hfz27_1, hfz27_2, hfz27_3, hfz27_4, hfz27_5⟩ := RFn.bf6 BK230))
        have n0_ : Aside0 (((((((w26.setCell ⟨gb230, 0, none⟩ (.string ((rd_T50 l0 x7_1).f0.f0))).setCell ⟨gb230, 1, none⟩ (.string ((rd_T50 l0 x7_1).f0.f1))).setCell ⟨gb230, 2, none⟩ (.string ((rd_T50 l0 x7_1).f0.f2))).setCell ⟨gb230, 3, none⟩ (.string ((rd_T50 l0 x7_1).f0.f3))).setCell ⟨gb230, 4, none⟩ (.int .i64 ((rd_T50 l0 x7_1).f0.f4))).setCell ⟨gb230, 5, none⟩ (.int .i64 ((rd_T50 l0 x7_1).f1))).heap[gb230]? = some (.cells #[.string ((rd_T50 l0 x7_1).f0.f0), .string ((rd_T50 l0 x7_1).f0.f1), .string ((rd_T50 l0 x7_1).f0.f2), .string ((rd_T50 l0 x7_1).f0.f3), .int .i64 ((rd_T50 l0 x7_1).f0.f4), .int .i64 ((rd_T50 l0 x7_1).f1)] 50 (0, 0))) := ⟨by refine RFn.d3 ?_; refine blk_put (cs := #[.string ((rd_T50 l0 x7_1).f0.f0), .string ((rd_T50 l0 x7_1).f0.f1), .string ((rd_T50 l0 x7_1).f0.f2), .string ((rd_T50 l0 x7_1).f0.f3), .int .i64 ((rd_T50 l0 x7_1).f0.f4), .int .i64 0]) ?_ 5 _ rfl; refine RFn.d3 ?_; refine blk_put (cs := #[.string ((rd_T50 l0 x7_1).f0.f0), .string ((rd_T50 l0 x7_1).f0.f1), .string ((rd_T50 l0 x7_1).f0.f2), .string ((rd_T50 l0 x7_1).f0.f3), .int .i64 0, .int .i64 0]) ?_ 4 _ rfl; refine RFn.d3 ?_; refine blk_put (cs := #[.string ((rd_T50 l0 x7_1).f0.f0), .string ((rd_T50 l0 x7_1).f0.f1), .string ((rd_T50 l0 x7_1).f0.f2), .string (⟨#[]⟩ : ByteArray), .int .i64 0, .int .i64 0]) ?_ 3 _ rfl; refine RFn.d3 ?_; refine blk_put (cs := #[.string ((rd_T50 l0 x7_1).f0.f0), .string ((rd_T50 l0 x7_1).f0.f1), .string (⟨#[]⟩ : ByteArray), .string (⟨#[]⟩ : ByteArray), .int .i64 0, .int .i64 0]) ?_ 2 _ rfl; refine RFn.d3 ?_; refine blk_put (cs := #[.string ((rd_T50 l0 x7_1).f0.f0), .string (⟨#[]⟩ : ByteArray), .string (⟨#[]⟩ : ByteArray), .string (⟨#[]⟩ : ByteArray), .int .i64 0, .int .i64 0]) ?_ 1 _ rfl; refine RFn.d3 ?_; refine blk_put (cs := #[.string (⟨#[]⟩ : ByteArray), .string (⟨#[]⟩ : ByteArray), .string (⟨#[]⟩ : ByteArray), .string (⟨#[]⟩ : ByteArray), .int .i64 0, .int .i64 0]) ?_ 0 _ rfl; refine RFn.d3 ?_; exact BK230.out⟩
        have n1_ : Aside0 (Below w.heap.size w ((((((w26.setCell ⟨gb230, 0, none⟩ (.string ((rd_T50 l0 x7_1).f0.f0))).setCell ⟨gb230, 1, none⟩ (.string ((rd_T50 l0 x7_1).f0.f1))).setCell ⟨gb230, 2, none⟩ (.string ((rd_T50 l0 x7_1).f0.f2))).setCell ⟨gb230, 3, none⟩ (.string ((rd_T50 l0 x7_1).f0.f3))).setCell ⟨gb230, 4, none⟩ (.int .i64 ((rd_T50 l0 x7_1).f0.f4))).setCell ⟨gb230, 5, none⟩ (.int .i64 ((rd_T50 l0 x7_1).f1)))) := ⟨RFn.bels⟩
        (try clear BK230)
        (try clear HB)
        generalize ((((((w26.setCell ⟨gb230, 0, none⟩ (.string ((rd_T50 l0 x7_1).f0.f0))).setCell ⟨gb230, 1, none⟩ (.string ((rd_T50 l0 x7_1).f0.f1))).setCell ⟨gb230, 2, none⟩ (.string ((rd_T50 l0 x7_1).f0.f2))).setCell ⟨gb230, 3, none⟩ (.string ((rd_T50 l0 x7_1).f0.f3))).setCell ⟨gb230, 4, none⟩ (.int .i64 ((rd_T50 l0 x7_1).f0.f4))).setCell ⟨gb230, 5, none⟩ (.int .i64 ((rd_T50 l0 x7_1).f1))) = w28 at n0_ n1_ ⊢
        have BK230 := n0_
        have HB := n1_
        clear n0_ n1_
        have n0_ := Aside0.mk (blk_drew BK230.out)
        have n1_ := Aside0.mk (below_drew1 HB.out)
        clear BK230
        clear HB
        have BK230 := n0_
        have HB := n1_
        clear n0_ n1_
        refine start_ (n := 19) (S := fun w' => w'.cell? ⟨gb230, 0, none⟩ = some (.string ((rd_T50 l0 x7_1).f0.f0)) ∧ w'.cell? ⟨gb230, 1, none⟩ = some (.string ((rd_T50 l0 x7_1).f0.f1)) ∧ w'.cell? ⟨gb230, 2, none⟩ = some (.string ((rd_T50 l0 x7_1).f0.f2)) ∧ w'.cell? ⟨gb230, 3, none⟩ = some (.string ((rd_T50 l0 x7_1).f0.f3)) ∧ w'.cell? ⟨gb230, 4, none⟩ = some (.int .i64 ((rd_T50 l0 x7_1).f0.f4)) ∧ w'.cell? ⟨gb230, 5, none⟩ = some (.int .i64 ((rd_T50 l0 x7_1).f1))) (ds := []) (bz 19 0) (by kernel_rfl) rfl rfl (RFn.bc6 BK230) (fun hHeld => ?_); refine with_tabW fact_Right.tab4 fact_Right.bits4 (fun HT_ HW_ => ?_)
        generalize w28.drew = w29 at BK230 HB hHeld ⊢
        refine RFn.pA (i := 0) (N := some 12) (bz 19 1) HT_ ?_
        refine RFn.tA (i := 1) (N := some 13) (bz 19 3) rfl HT_ HW_ hHeld (by rintro w' ⟨s0, s1, s2, s3, s4, s5⟩; go_simp; with_reducible rfl) ?_
        refine RFn.pA (i := 2) (N := some 14) (bz 19 7) HT_ ?_
        refine RFn.pA (i := 3) (N := some 15) (bz 19 15) HT_ ?_
        refine RFn.pA (i := 4) (N := some 16) (bz 19 31) HT_ ?_
        refine RFn.pA (i := 5) (N := some 17) (bz 19 63) HT_ ?_
        refine RFn.pA (i := 6) (N := some 18) (bz 19 127) HT_ ?_
        refine RFn.pU (i := 7) (N := some 19) (bz 19 255) HT_ ?_
        refine RFn.pU (i := 8) (N := some 20) (bz 19 511) HT_ ?_
        refine RFn.pU (i := 9) (N := some 21) (bz 19 1023) HT_ ?_
        refine RFn.pU (i := 10) (N := some 22) (bz 19 2047) HT_ ?_
        refine RFn.pU (i := 11) (N := some 23) (bz 19 4095) HT_ ?_
        refine RFn.pU (i := 12) (N := some 24) (bz 19 8191) HT_ ?_
        refine RFn.pU (i := 13) (N := some 25) (bz 19 16383) HT_ ?_
        refine RFn.pU (i := 14) (N := some 26) (bz 19 32767) HT_ ?_
        refine RFn.pU (i := 15) (N := some 27) (bz 19 65535) HT_ ?_
        refine RFn.pU (i := 16) (N := some 28) (bz 19 131071) HT_ ?_
        refine RFn.pA (i := 17) (N := some 29) (bz 19 262143) HT_ ?_
        refine RFn.pA (i := 18) (N := some 30) (bz 19 524287) HT_ ?_
        refine RFn.dn HT_ ?_
        try go_wp2
        go_roundg k1
        case measure => have := HK1.out; omega
        case rel => exact ⟨(wrap64 (x7_1 + 1)), (by first | rfl | (simp; done) | (simp [*]; done)), H', ⟨RFn.lk HK1⟩, ⟨RFn.bels⟩⟩
     ·rw [if_neg c4] at H
      exact absurd H (by simp)
    ·rw [if_neg c3] at H
     exact absurd H (by simp)
   ·rw [if_neg c2] at H
    have c2b0 : decide (x7_1 < (l0.length : Int)) = false := decide_eq_false c2
    clear c2
    obtain rfl := Option.some.inj H
    go_wp2
    go_ret
    exact ⟨by first | rfl | (simp [errW_none, errW_some] <;> rfl) | (simp [*, errW_none, errW_some] <;> rfl), RFn.bel⟩
end Go.Proofs.YtjbdkdmoacdbpaaGreatDoor.Q
