/- printed by a program of this session (wip/tools/pr.sh): it is not a print of the kit -/
import Derived.Test.YtpfhoenjndmoaaaDoorQx0
namespace Go.Proofs.YtpfhoenjndmoaaaDoor.Q
open Go.RowKit Go.Proofs.YtpfhoenjndmoaaaDoorW.PrintWords Go.Proofs.YtpfhoenjndmoaaaDoorW.PrintLast Go.Proofs.YtpfhoenjndmoaaaDoorW.PrintMore
attribute [local go_sem] max2_int min2_int max_two min_two max_three min_three max_four min_four   -- for this text's walks alone
set_option linter.unusedVariables false
set_option linter.unusedSimpArgs false

/-! ### cent_Parse: function 10 -/
def cent_Parse.f (a0 : ByteArray) : Option (Int × Int) := if a0.size ≤ 281474976710656 then some (Go.Proofs.YtpfhoenjndmoaaaDoor.X.parseF a0.data.toList) else none
theorem cent_Parse.calls (a0 : ByteArray) (r1 : Int) (r2 : Int) (w : World) (h : cent_Parse.f a0 = some (r1, r2)) (hLd_ : Go.Proofs.YtpfhoenjndmoaaaDoor.X.LaidW w) :
  Calls Tryd.prog 10 #[.string a0] w fun e w' => e = .returned (.tuple #[.int .i64 r1, .int .i64 r2]) ∧ Below w.heap.size w w' := by
 unfold cent_Parse.f at h
 split at h
 · rename_i hs
   have e := Option.some.inj h
   have := Go.Proofs.YtpfhoenjndmoaaaDoor.X.parse_walk a0 w hLd_ hs (Go.Proofs.YtpfhoenjndmoaaaDoor.X.trim_size hs)
   rw [e] at this; exact this
 · cases h

/-! ### cent_Print: function 12 -/
def cent_Print.f (a0 : Int) : Option (ByteArray) := if -9223372036854775808 ≤ a0 ∧ a0 ≤ 9223372036854775807 then some ⟨(Lib.itoa a0).toArray⟩ else none
theorem cent_Print.calls (a0 : Int) (r : ByteArray) (w : World) (h : cent_Print.f a0 = some r) (hLd_ : Go.Proofs.YtpfhoenjndmoaaaDoor.X.LaidW w) :
  Calls Tryd.prog 12 #[.int .i64 a0] w fun e w' => e = .returned (.string r) ∧ Below w.heap.size w w' := by
 unfold cent_Print.f at h
 split at h
 · rename_i hs
   obtain rfl := Option.some.inj h
   exact Go.Proofs.YtpfhoenjndmoaaaDoor.X.print_walk a0 hs.1 hs.2 w hLd_
 · cases h

/-! ### cent_Add: function 15 -/
def cent_Add.f (a0 : Int) (a1 : Int) : Option (Int × Int) := if (Go.bits .and .i64 (Go.bits .xor .i64 a0 (wrap64 (a0 + a1))) (Go.bits .xor .i64 a1 (wrap64 (a0 + a1)))) < 0 then (some (0, 2)) else (some (wrap64 (a0 + a1), 0))
set_option maxHeartbeats 8000000 in
set_option maxRecDepth 100000 in
theorem cent_Add.calls (a0 : Int) (a1 : Int) (r1 : Int) (r2 : Int) (w : World) (h : cent_Add.f a0 a1 = some (r1, r2)) :
  Calls Tryd.prog 15 #[.int .i64 a0, .int .i64 a1] w fun e w' => e = .returned (.tuple #[.int .i64 r1, .int .i64 r2]) ∧ Drawn0 w w' := by
 have H : (if (Go.bits .and .i64 (Go.bits .xor .i64 a0 (wrap64 (a0 + a1))) (Go.bits .xor .i64 a1 (wrap64 (a0 + a1)))) < 0 then (some (0, 2)) else (some (wrap64 (a0 + a1), 0))) = some (r1, r2) := h
 clear h
 by_cases c3 : (Go.bits .and .i64 (Go.bits .xor .i64 a0 (wrap64 (a0 + a1))) (Go.bits .xor .i64 a1 (wrap64 (a0 + a1)))) < 0
 ·rw [if_pos c3] at H
  have c3b0 : decide ((Go.bits .and .i64 (Go.bits .xor .i64 a0 (wrap64 (a0 + a1))) (Go.bits .xor .i64 a1 (wrap64 (a0 + a1)))) < 0) = true := decide_eq_true c3
  clear c3
  simp only [Option.some.injEq, Prod.mk.injEq] at H
  obtain ⟨rfl, rfl⟩ := H
  go_enter Tryd.func15, Tryd.ntmps15
  go_wp2
  go_ret2
  exact ⟨by first | rfl | (simp; done) | (simp [*]; done), by repeat (first | exact Drawn0.refl _ | apply Drawn0.step)⟩
 ·rw [if_neg c3] at H
  have c3b0 : decide ((Go.bits .and .i64 (Go.bits .xor .i64 a0 (wrap64 (a0 + a1))) (Go.bits .xor .i64 a1 (wrap64 (a0 + a1)))) < 0) = false := decide_eq_false c3
  clear c3
  simp only [Option.some.injEq, Prod.mk.injEq] at H
  obtain ⟨rfl, rfl⟩ := H
  go_enter Tryd.func15, Tryd.ntmps15
  go_wp2
  go_ret2
  exact ⟨by first | rfl | (simp; done) | (simp [*]; done), by repeat (first | exact Drawn0.refl _ | apply Drawn0.step)⟩

/-! ### cent_Sum: function 14 -/
def cent_Sum.l0 : Nat → Int → List Int → Int → Int → Option (Int × Int)
 | 0, _, _, _, _ => none
 | k + 1, x2, x6, x7, x8 => if x8 < x7 then (if 0 ≤ x8 then (if x8 < (x6.length : Int) then ((cent_Add.f x2 (rd x6 x8)).bind fun bt102 => (if bt102.2 = 0 then (cent_Sum.l0 k bt102.1 x6 x7 (wrap64 (x8 + 1))) else (some (0, bt102.2)))) else (none)) else (none)) else (some (x2, 0))
def cent_Sum.f (k : Nat) (l0 : List Int) : Option (Int × Int) := cent_Sum.l0 k 0 l0 (l0.length : Int) 0
theorem cent_Sum.mono_l : ∀ k, (∀ y0 y1 y2 y3, LeO (cent_Sum.l0 k y0 y1 y2 y3) (cent_Sum.l0 (k + 1) y0 y1 y2 y3))
 | 0 => fun _ _ _ _ r h => by simp [cent_Sum.l0] at h
 | k + 1 => by
  have ih0 := cent_Sum.mono_l k
  ·intro y0 y1 y2 y3
   unfold cent_Sum.l0
   repeat' first
   | (with_reducible exact ih0 _ _ _ _)
   | (with_reducible exact LeO.refl _)
   | (with_reducible exact LeO.none _)
   | (with_reducible refine LeO.ite ?_ ?_)
   | (with_reducible refine LeO.bind ?_ (fun _ => ?_))
   | exact ih0 _ _ _ _
   | exact LeO.none _
   | refine LeO.ite ?_ ?_
   | refine LeO.bind ?_ (fun _ => ?_)
theorem cent_Sum.mono : ∀ a0 k, LeO (cent_Sum.f k a0) (cent_Sum.f (k + 1) a0) := by
 intro a0 k
 have ih0 := cent_Sum.mono_l k
 unfold cent_Sum.f
 repeat' first
   | (with_reducible exact ih0 _ _ _ _)
   | (with_reducible exact LeO.refl _)
   | (with_reducible exact LeO.none _)
   | (with_reducible refine LeO.ite ?_ ?_)
   | (with_reducible refine LeO.bind ?_ (fun _ => ?_))
   | exact ih0 _ _ _ _
   | exact LeO.none _
   | refine LeO.ite ?_ ?_
   | refine LeO.bind ?_ (fun _ => ?_)
set_option maxHeartbeats 8000000 in
set_option maxRecDepth 100000 in
theorem cent_Sum.calls (k : Nat) (A0 : Option Addr) (c0 : Nat) (l0 : List Int) (r1 : Int) (r2 : Int) (w : World) (hr0 : Kd.C (Kd.int .i64) w A0 l0.length l0) (hc0 : l0.length ≤ c0) (h : cent_Sum.f k l0 = some (r1, r2)) :
  Calls Tryd.prog 14 #[.slice A0 l0.length c0] w fun e w' => e = .returned (.tuple #[.int .i64 r1, .int .i64 r2]) ∧ Drawn0 w w' := by
 have HR0 := Aside0.mk hr0
 have HC0 := Aside0.mk hc0
 clear hr0 hc0
 have H : (cent_Sum.l0 k 0 l0 (l0.length : Int) 0) = some (r1, r2) := h
 clear h
 have H' := Aside0.mk H
 clear H
 go_enter Tryd.func14, Tryd.ntmps14
 go_wp2
 go_loopg [2, 8] k (fun kq v2 v8 w' => ∃ (x2_1 : Int) (x8_1 : Int), v2 = .int .i64 x2_1 ∧ v8 = .int .i64 x8_1 ∧ Aside0 (cent_Sum.l0 kq x2_1 l0 (l0.length : Int) x8_1 = some (r1, r2)) ∧ Aside0 (kq ≤ k) ∧ Drawn0 w w')
 case atStart => exact ⟨(0), (0), (by first | rfl | (simp; done) | (simp [*]; done)), (by first | rfl | (simp; done) | (simp [*]; done)), H', ⟨Nat.le_refl _⟩, by repeat (first | exact Drawn0.refl _ | apply Drawn0.step)⟩
 case round =>
  clear H'
  try clear c1
  obtain ⟨x2_1, x8_1, rfl, rfl, HA, HK1, ⟨m1, rfl⟩⟩ := hrel
  cases gk with
  | zero => exact absurd HA.out (by simp [cent_Sum.l0])
  | succ k1 =>
   have H := HA.out
   clear HA
   simp only [cent_Sum.l0] at H
   by_cases c2 : x8_1 < (l0.length : Int)
   ·rw [if_pos c2] at H
    have c2b0 : decide (x8_1 < (l0.length : Int)) = true := decide_eq_true c2
    clear c2
    by_cases c3 : 0 ≤ x8_1
    ·rw [if_pos c3] at H
     have c3b0 : decide (0 ≤ x8_1) = true := decide_eq_true c3
     clear c3
     by_cases c4 : x8_1 < (l0.length : Int)
     ·rw [if_pos c4] at H
      have c4b0 : decide (x8_1 < (l0.length : Int)) = true := decide_eq_true c4
      clear c4
      replace H := Option.bind_eq_some_iff.mp H
      obtain ⟨⟨t102, t103⟩, A50, H⟩ := H
      replace H : (if t103 = 0 then (cent_Sum.l0 k1 t102 l0 (l0.length : Int) (wrap64 (x8_1 + 1))) else (some (0, t103))) = some (r1, r2) := H
      have A5 := Aside0.mk A50
      clear A50
      by_cases c6 : t103 = 0
      ·rw [if_pos c6] at H
       have c6b0 : (t103 == 0) = true := beq_iff_eq.mpr c6
       have c6b1 : (t103 != 0) = false := bne_eq_false_iff_eq.mpr c6
       clear c6
       have H' := Aside0.mk H
       clear H
       have p101 : 0 ≤ (x8_1 : Int) := of_decide_eq_true (by first | (with_reducible assumption) | assumption)
       have q101 : x8_1 < (l0.length : Int) := of_decide_eq_true (by first | (with_reducible assumption) | assumption)
       obtain ⟨ad101, e101, hx101_0⟩ := Kd.at_int HR0.out x8_1 p101 q101
       cases e101
       replace p101 := eq_true p101
       replace q101 := eq_true q101
       go_wp2_with (first | ((with_reducible refine gate_callee (f := 15) rfl ?_); refine RFn.goesM (some 15) Tryd.func15 #[.int .i64 x2_1, .int .i64 (rd l0 x8_1)] rfl ?_; (with_reducible refine (cent_Add.calls x2_1 (rd l0 x8_1) t102 t103 _ A5.out).mono ?_); rintro e w' ⟨rfl, ⟨nd, rfl⟩⟩; refine ⟨_, rfl, ?_⟩))
       go_roundg k1
       case measure => have := HK1.out; omega
       case rel => exact ⟨(t102), (wrap64 (x8_1 + 1)), (by first | rfl | (simp; done) | (simp [*]; done)), (by first | rfl | (simp; done) | (simp [*]; done)), H', ⟨by have := HK1.out; omega⟩, by repeat (first | exact Drawn0.refl _ | apply Drawn0.step)⟩
      ·rw [if_neg c6] at H
       have c6b0 : (t103 == 0) = false := beq_eq_false_iff_ne.mpr c6
       have c6b1 : (t103 != 0) = true := bne_iff_ne.mpr c6
       simp only [Option.some.injEq, Prod.mk.injEq] at H
       obtain ⟨rfl, rfl⟩ := H
       have p101 : 0 ≤ (x8_1 : Int) := of_decide_eq_true (by first | (with_reducible assumption) | assumption)
       have q101 : x8_1 < (l0.length : Int) := of_decide_eq_true (by first | (with_reducible assumption) | assumption)
       obtain ⟨ad101, e101, hx101_0⟩ := Kd.at_int HR0.out x8_1 p101 q101
       cases e101
       replace p101 := eq_true p101
       replace q101 := eq_true q101
       go_wp2_with (first | ((with_reducible refine gate_callee (f := 15) rfl ?_); refine RFn.goesM (some 15) Tryd.func15 #[.int .i64 x2_1, .int .i64 (rd l0 x8_1)] rfl ?_; (with_reducible refine (cent_Add.calls x2_1 (rd l0 x8_1) t102 t103 _ A5.out).mono ?_); rintro e w' ⟨rfl, ⟨nd, rfl⟩⟩; refine ⟨_, rfl, ?_⟩))
       go_ret2
       exact ⟨by first | rfl | (simp; done) | (simp [*]; done), by repeat (first | exact Drawn0.refl _ | apply Drawn0.step)⟩
     ·rw [if_neg c4] at H
      exact absurd H (by simp)
    ·rw [if_neg c3] at H
     exact absurd H (by simp)
   ·rw [if_neg c2] at H
    have c2b0 : decide (x8_1 < (l0.length : Int)) = false := decide_eq_false c2
    clear c2
    simp only [Option.some.injEq, Prod.mk.injEq] at H
    obtain ⟨rfl, rfl⟩ := H
    go_wp2
    go_ret2
    exact ⟨by first | rfl | (simp; done) | (simp [*]; done), by repeat (first | exact Drawn0.refl _ | apply Drawn0.step)⟩

/-! ### law01_alive: function 9 -/
def law01_alive.f (k : Nat)  : Option (Bool) := (cent_Add.f 2 3).bind fun bt104 => ((cent_Add.f 9223372036854775807 1).bind fun bt106 => ((cent_Parse.f (⟨#[45, 49, 50]⟩ : ByteArray)).bind fun bt108 => ((cent_Parse.f (⟨#[45, 48]⟩ : ByteArray)).bind fun bt110 => ((cent_Sum.f k (([1, 2, 3] : List Int))).bind fun bt115 => (if bt104.1 = 5 then (if bt104.2 = 0 then (if bt106.2 = 2 then (if bt108.1 = (-12) then (if bt108.2 = 0 then (if bt110.2 = 5 then ((cent_Print.f (-7)).bind fun t117 => (if t117.toList = ([45, 55] : List UInt8) then (if bt115.1 = 6 then (some (bt115.2 == 0)) else (some false)) else (some false))) else (some false)) else (some false)) else (some false)) else (some false)) else (some false)) else (some false))))))
theorem law01_alive.mono : ∀ k, LeO (law01_alive.f k ) (law01_alive.f (k + 1) ) := by
 intro  k
 unfold law01_alive.f
 repeat' first
   | (with_reducible exact cent_Sum.mono _ _)
   | (with_reducible exact LeO.refl _)
   | (with_reducible exact LeO.none _)
   | (with_reducible refine LeO.ite ?_ ?_)
   | (with_reducible refine LeO.bind ?_ (fun _ => ?_))
   | exact cent_Sum.mono _ _
   | exact LeO.none _
   | refine LeO.ite ?_ ?_
   | refine LeO.bind ?_ (fun _ => ?_)
set_option maxHeartbeats 8000000 in
set_option maxRecDepth 100000 in
theorem law01_alive.calls (k : Nat)  (r : Bool) (w : World) (h : law01_alive.f k  = some r) (hLd_ : Go.Proofs.YtpfhoenjndmoaaaDoor.X.LaidW w) :
  Calls Tryd.prog 9 #[] w fun e w' => e = .returned (.bool r) ∧ Below w.heap.size w w' := by
 have HB := Aside0.mk (Below.refl w.heap.size w)
 have H : ((cent_Add.f 2 3).bind fun bt104 => ((cent_Add.f 9223372036854775807 1).bind fun bt106 => ((cent_Parse.f (⟨#[45, 49, 50]⟩ : ByteArray)).bind fun bt108 => ((cent_Parse.f (⟨#[45, 48]⟩ : ByteArray)).bind fun bt110 => ((cent_Sum.f k (([1, 2, 3] : List Int))).bind fun bt115 => (if bt104.1 = 5 then (if bt104.2 = 0 then (if bt106.2 = 2 then (if bt108.1 = (-12) then (if bt108.2 = 0 then (if bt110.2 = 5 then ((cent_Print.f (-7)).bind fun t117 => (if t117.toList = ([45, 55] : List UInt8) then (if bt115.1 = 6 then (some (bt115.2 == 0)) else (some false)) else (some false))) else (some false)) else (some false)) else (some false)) else (some false)) else (some false)) else (some false))))))) = some r := h
 clear h
 replace H := Option.bind_eq_some_iff.mp H
 obtain ⟨⟨t104, t105⟩, A10, H⟩ := H
 replace H : ((cent_Add.f 9223372036854775807 1).bind fun bt106 => ((cent_Parse.f (⟨#[45, 49, 50]⟩ : ByteArray)).bind fun bt108 => ((cent_Parse.f (⟨#[45, 48]⟩ : ByteArray)).bind fun bt110 => ((cent_Sum.f k (([1, 2, 3] : List Int))).bind fun bt115 => (if t104 = 5 then (if t105 = 0 then (if bt106.2 = 2 then (if bt108.1 = (-12) then (if bt108.2 = 0 then (if bt110.2 = 5 then ((cent_Print.f (-7)).bind fun t117 => (if t117.toList = ([45, 55] : List UInt8) then (if bt115.1 = 6 then (some (bt115.2 == 0)) else (some false)) else (some false))) else (some false)) else (some false)) else (some false)) else (some false)) else (some false)) else (some false)))))) = some r := H
 have A1 := Aside0.mk A10
 clear A10
 replace H := Option.bind_eq_some_iff.mp H
 obtain ⟨⟨t106, t107⟩, A20, H⟩ := H
 replace H : ((cent_Parse.f (⟨#[45, 49, 50]⟩ : ByteArray)).bind fun bt108 => ((cent_Parse.f (⟨#[45, 48]⟩ : ByteArray)).bind fun bt110 => ((cent_Sum.f k (([1, 2, 3] : List Int))).bind fun bt115 => (if t104 = 5 then (if t105 = 0 then (if t107 = 2 then (if bt108.1 = (-12) then (if bt108.2 = 0 then (if bt110.2 = 5 then ((cent_Print.f (-7)).bind fun t117 => (if t117.toList = ([45, 55] : List UInt8) then (if bt115.1 = 6 then (some (bt115.2 == 0)) else (some false)) else (some false))) else (some false)) else (some false)) else (some false)) else (some false)) else (some false)) else (some false))))) = some r := H
 have A2 := Aside0.mk A20
 clear A20
 replace H := Option.bind_eq_some_iff.mp H
 obtain ⟨⟨t108, t109⟩, A30, H⟩ := H
 replace H : ((cent_Parse.f (⟨#[45, 48]⟩ : ByteArray)).bind fun bt110 => ((cent_Sum.f k (([1, 2, 3] : List Int))).bind fun bt115 => (if t104 = 5 then (if t105 = 0 then (if t107 = 2 then (if t108 = (-12) then (if t109 = 0 then (if bt110.2 = 5 then ((cent_Print.f (-7)).bind fun t117 => (if t117.toList = ([45, 55] : List UInt8) then (if bt115.1 = 6 then (some (bt115.2 == 0)) else (some false)) else (some false))) else (some false)) else (some false)) else (some false)) else (some false)) else (some false)) else (some false)))) = some r := H
 have A3 := Aside0.mk A30
 clear A30
 replace H := Option.bind_eq_some_iff.mp H
 obtain ⟨⟨t110, t111⟩, A40, H⟩ := H
 replace H : ((cent_Sum.f k (([1, 2, 3] : List Int))).bind fun bt115 => (if t104 = 5 then (if t105 = 0 then (if t107 = 2 then (if t108 = (-12) then (if t109 = 0 then (if t111 = 5 then ((cent_Print.f (-7)).bind fun t117 => (if t117.toList = ([45, 55] : List UInt8) then (if bt115.1 = 6 then (some (bt115.2 == 0)) else (some false)) else (some false))) else (some false)) else (some false)) else (some false)) else (some false)) else (some false)) else (some false))) = some r := H
 have A4 := Aside0.mk A40
 clear A40
 obtain ⟨y112, hy112⟩ : ∃ y_ : List Int, y_ = (([1, 2, 3] : List Int)) := ⟨_, rfl⟩
 replace H : ((cent_Sum.f k y112).bind fun bt115 => (if t104 = 5 then (if t105 = 0 then (if t107 = 2 then (if t108 = (-12) then (if t109 = 0 then (if t111 = 5 then ((cent_Print.f (-7)).bind fun t117 => (if t117.toList = ([45, 55] : List UInt8) then (if bt115.1 = 6 then (some (bt115.2 == 0)) else (some false)) else (some false))) else (some false)) else (some false)) else (some false)) else (some false)) else (some false)) else (some false))) = some r := by first | (rw [hy112]; with_reducible exact H) | (have H2_ := (Option.bind_some _ _).symm.trans H; rw [hy112]; with_reducible exact H2_) | (have H2_ := (Option.bind_some _ _).symm.trans H; with_reducible exact H2_) | with_reducible exact H | (rw [hy112]; exact H) | exact H
 have Ny112 := Aside0.mk hy112
 clear hy112
 replace H := Option.bind_eq_some_iff.mp H
 obtain ⟨⟨t115, t116⟩, A50, H⟩ := H
 replace H : (if t104 = 5 then (if t105 = 0 then (if t107 = 2 then (if t108 = (-12) then (if t109 = 0 then (if t111 = 5 then ((cent_Print.f (-7)).bind fun t117 => (if t117.toList = ([45, 55] : List UInt8) then (if t115 = 6 then (some (t116 == 0)) else (some false)) else (some false))) else (some false)) else (some false)) else (some false)) else (some false)) else (some false)) else (some false)) = some r := H
 have A5 := Aside0.mk A50
 clear A50
 by_cases c6 : t104 = 5
 ·rw [if_pos c6] at H
  have c6b0 : (t104 == 5) = true := beq_iff_eq.mpr c6
  have c6b1 : (t104 != 5) = false := bne_eq_false_iff_eq.mpr c6
  clear c6
  by_cases c7 : t105 = 0
  ·rw [if_pos c7] at H
   have c7b0 : (t105 == 0) = true := beq_iff_eq.mpr c7
   have c7b1 : (t105 != 0) = false := bne_eq_false_iff_eq.mpr c7
   clear c7
   by_cases c8 : t107 = 2
   ·rw [if_pos c8] at H
    have c8b0 : (t107 == 2) = true := beq_iff_eq.mpr c8
    have c8b1 : (t107 != 2) = false := bne_eq_false_iff_eq.mpr c8
    clear c8
    by_cases c9 : t108 = (-12)
    ·rw [if_pos c9] at H
     have c9b0 : (t108 == (-12)) = true := beq_iff_eq.mpr c9
     have c9b1 : (t108 != (-12)) = false := bne_eq_false_iff_eq.mpr c9
     clear c9
     by_cases c10 : t109 = 0
     ·rw [if_pos c10] at H
      have c10b0 : (t109 == 0) = true := beq_iff_eq.mpr c10
      have c10b1 : (t109 != 0) = false := bne_eq_false_iff_eq.mpr c10
      clear c10
      by_cases c11 : t111 = 5
      ·rw [if_pos c11] at H
       have c11b0 : (t111 == 5) = true := beq_iff_eq.mpr c11
       have c11b1 : (t111 != 5) = false := bne_eq_false_iff_eq.mpr c11
       clear c11
       replace H := Option.bind_eq_some_iff.mp H
       obtain ⟨t117, A120, H⟩ := H
       replace H : (if t117.toList = ([45, 55] : List UInt8) then (if t115 = 6 then (some (t116 == 0)) else (some false)) else (some false)) = some r := H
       have A12 := Aside0.mk A120
       clear A120
       by_cases c13 : t117.toList = ([45, 55] : List UInt8)
       ·rw [if_pos c13] at H
        have c13b0 : (t117.toList == ([45, 55] : List UInt8)) = true := beq_iff_eq.mpr c13
        have c13b1 : (t117.toList != ([45, 55] : List UInt8)) = false := bne_eq_false_iff_eq.mpr c13
        clear c13
        by_cases c14 : t115 = 6
        ·rw [if_pos c14] at H
         have c14b0 : (t115 == 6) = true := beq_iff_eq.mpr c14
         have c14b1 : (t115 != 6) = false := bne_eq_false_iff_eq.mpr c14
         clear c14
         obtain rfl := Option.some.inj H
         go_enter Tryd.func9, Tryd.ntmps9
         go_wp2_with (first | ((with_reducible refine gate_callee (f := 15) rfl ?_); refine RFn.goesM (some 12) Tryd.func15 #[.int .i64 2, .int .i64 3] rfl ?_; (with_reducible refine (cent_Add.calls 2 3 t104 t105 _ A1.out).mono ?_); rintro e w' ⟨rfl, ⟨nd, rfl⟩⟩; refine ⟨_, rfl, ?_⟩) | ((with_reducible refine gate_callee (f := 15) rfl ?_); refine RFn.goesM (some 16) Tryd.func15 #[.int .i64 9223372036854775807, .int .i64 1] rfl ?_; (with_reducible refine (cent_Add.calls 9223372036854775807 1 t106 t107 _ A2.out).mono ?_); rintro e w' ⟨rfl, ⟨nd, rfl⟩⟩; refine ⟨_, rfl, ?_⟩) | ((with_reducible refine gate_callee (f := 10) rfl ?_); refine RFn.goesM (some 20) Tryd.func10 #[.string (⟨#[45, 49, 50]⟩ : ByteArray)] rfl ?_; (with_reducible refine (cent_Parse.calls (⟨#[45, 49, 50]⟩ : ByteArray) t108 t109 _ A3.out (Go.Proofs.YtpfhoenjndmoaaaDoor.X.LaidW.below hLd_ RFn.bel)).mono ?_); rintro e w15 ⟨rfl, hb⟩; refine ⟨_, rfl, ?_⟩; have n0_ := Aside0.mk (below_step (RFn.bel) hb); clear HB; have HB := n0_; clear n0_; (try clear hb); (try clear hb2); (try clear hk); (try clear hi)) | ((with_reducible refine gate_callee (f := 10) rfl ?_); refine RFn.goesM (some 24) Tryd.func10 #[.string (⟨#[45, 48]⟩ : ByteArray)] rfl ?_; (with_reducible refine (cent_Parse.calls (⟨#[45, 48]⟩ : ByteArray) t110 t111 _ A4.out (Go.Proofs.YtpfhoenjndmoaaaDoor.X.LaidW.below hLd_ RFn.bel)).mono ?_); rintro e w16 ⟨rfl, hb⟩; refine ⟨_, rfl, ?_⟩; have n0_ := Aside0.mk (below_step (RFn.bel) hb); clear HB; have HB := n0_; clear n0_; (try clear hb); (try clear hb2); (try clear hk); (try clear hi)) | ((with_reducible refine gate_dst (N := 28) rfl ?_); refine Kd.R_lit (Kd.int .i64) _ 2 ?hg (N := 28) ?hd (xs := ([1, 2, 3] : List Int)) (inner := [.int .i64 1, .int .i64 2, .int .i64 3]) (ok := fun _ => True) (okp := fun _ => True) ?hr ?hp (fun _ hk => hk) trivial (Below.refl _ _) (Nat.le_refl _) (by simp) ?_; (case hd => rfl); (case hg => rfl); (case hr => first | (go_simp; done) | (go_simp; rfl)); (case hp => exact (Reps.one (show Kd.M (Kd.int .i64) _ _ _ 1 [.int .i64 1] from rfl) (Reps.one (show Kd.M (Kd.int .i64) _ _ _ 2 [.int .i64 2] from rfl) (Reps.one (show Kd.M (Kd.int .i64) _ _ _ 3 [.int .i64 3] from rfl) (Reps.none _ _))))); intro v113 w17 ho18 hb hg_ hnew_; clear hg_ hnew_; (first | rw [← Ny112.out] at ho18 | (simp only [Int.reduceToNat] at ho18; rw [← Ny112.out] at ho18)); have n0_ := Aside0.mk (Kd.R_lower ho18 (below_size (RFn.bel))); have n1_ := Aside0.mk (below_step (RFn.bel) hb); clear HB; have HO114 := n0_; have HB := n1_; clear n0_ n1_; clear hb ho18; obtain ⟨Ao19, co19, eo19⟩ := Kd.R_slice HO114.out; subst eo19) | ((with_reducible refine gate_callee (f := 14) rfl ?_); refine RFn.goesM (some 29) Tryd.func14 #[.slice Ao19 y112.length co19] rfl ?_; (with_reducible refine (cent_Sum.calls k _ _ y112 t115 t116 _ ?side1 ?side2 A5.out).mono ?_); (case side1 => repeat (first | exact (Kd.R_reads' HO114.out).2.2 | (with_reducible refine Kd.C_alloc ?_ _) | (with_reducible refine Kd.C_drewN ?_ _) | (with_reducible refine Kd.C_drew ?_))); (case side2 => exact (Kd.R_reads' HO114.out).2.1); rintro e w' ⟨rfl, ⟨nd, rfl⟩⟩; refine ⟨_, rfl, ?_⟩) | (go_at_call 12; (with_reducible refine (cent_Print.calls (-7) t117 _ A12.out (Go.Proofs.YtpfhoenjndmoaaaDoor.X.LaidW.below hLd_ RFn.bel)).mono ?_); rintro e w20 ⟨rfl, hb⟩; have n0_ := Aside0.mk (Kd.R_below (by (with_reducible repeat (first | apply Kd.R_alloc | apply Kd.R_drewN | apply Kd.R_drew)); exact HO114.out) hb); have n1_ := Aside0.mk (below_step (RFn.bel) hb); clear HO114; clear HB; have HO114 := n0_; have HB := n1_; clear n0_ n1_; (try clear hb); (try clear hb2); (try clear hk); (try clear hi)))
         go_ret
         exact ⟨by first | rfl | (simp [errW_none, errW_some] <;> rfl) | (simp [*, errW_none, errW_some] <;> rfl), RFn.bel⟩
        ·rw [if_neg c14] at H
         have c14b0 : (t115 == 6) = false := beq_eq_false_iff_ne.mpr c14
         have c14b1 : (t115 != 6) = true := bne_iff_ne.mpr c14
         obtain rfl := Option.some.inj H
         go_enter Tryd.func9, Tryd.ntmps9
         go_wp2_with (first | ((with_reducible refine gate_callee (f := 15) rfl ?_); refine RFn.goesM (some 12) Tryd.func15 #[.int .i64 2, .int .i64 3] rfl ?_; (with_reducible refine (cent_Add.calls 2 3 t104 t105 _ A1.out).mono ?_); rintro e w' ⟨rfl, ⟨nd, rfl⟩⟩; refine ⟨_, rfl, ?_⟩) | ((with_reducible refine gate_callee (f := 15) rfl ?_); refine RFn.goesM (some 16) Tryd.func15 #[.int .i64 9223372036854775807, .int .i64 1] rfl ?_; (with_reducible refine (cent_Add.calls 9223372036854775807 1 t106 t107 _ A2.out).mono ?_); rintro e w' ⟨rfl, ⟨nd, rfl⟩⟩; refine ⟨_, rfl, ?_⟩) | ((with_reducible refine gate_callee (f := 10) rfl ?_); refine RFn.goesM (some 20) Tryd.func10 #[.string (⟨#[45, 49, 50]⟩ : ByteArray)] rfl ?_; (with_reducible refine (cent_Parse.calls (⟨#[45, 49, 50]⟩ : ByteArray) t108 t109 _ A3.out (Go.Proofs.YtpfhoenjndmoaaaDoor.X.LaidW.below hLd_ RFn.bel)).mono ?_); rintro e w21 ⟨rfl, hb⟩; refine ⟨_, rfl, ?_⟩; have n0_ := Aside0.mk (below_step (RFn.bel) hb); clear HB; have HB := n0_; clear n0_; (try clear hb); (try clear hb2); (try clear hk); (try clear hi)) | ((with_reducible refine gate_callee (f := 10) rfl ?_); refine RFn.goesM (some 24) Tryd.func10 #[.string (⟨#[45, 48]⟩ : ByteArray)] rfl ?_; (with_reducible refine (cent_Parse.calls (⟨#[45, 48]⟩ : ByteArray) t110 t111 _ A4.out (Go.Proofs.YtpfhoenjndmoaaaDoor.X.LaidW.below hLd_ RFn.bel)).mono ?_); rintro e w22 ⟨rfl, hb⟩; refine ⟨_, rfl, ?_⟩; have n0_ := Aside0.mk (below_step (RFn.bel) hb); clear HB; have HB := n0_; clear n0_; (try clear hb); (try clear hb2); (try clear hk); (try clear hi)) | ((with_reducible refine gate_dst (N := 28) rfl ?_); refine Kd.R_lit (Kd.int .i64) _ 2 ?hg (N := 28) ?hd (xs := ([1, 2, 3] : List Int)) (inner := [.int .i64 1, .int .i64 2, .int .i64 3]) (ok := fun _ => True) (okp := fun _ => True) ?hr ?hp (fun _ hk => hk) trivial (Below.refl _ _) (Nat.le_refl _) (by simp) ?_; (case hd => rfl); (case hg => rfl); (case hr => first | (go_simp; done) | (go_simp; rfl)); (case hp => exact (Reps.one (show Kd.M (Kd.int .i64) _ _ _ 1 [.int .i64 1] from rfl) (Reps.one (show Kd.M (Kd.int .i64) _ _ _ 2 [.int .i64 2] from rfl) (Reps.one (show Kd.M (Kd.int .i64) _ _ _ 3 [.int .i64 3] from rfl) (Reps.none _ _))))); intro v113 w23 ho24 hb hg_ hnew_; clear hg_ hnew_; (first | rw [← Ny112.out] at ho24 | (simp only [Int.reduceToNat] at ho24; rw [← Ny112.out] at ho24)); have n0_ := Aside0.mk (Kd.R_lower ho24 (below_size (RFn.bel))); have n1_ := Aside0.mk (below_step (RFn.bel) hb); clear HB; have HO114 := n0_; have HB := n1_; clear n0_ n1_; clear hb ho24; obtain ⟨Ao25, co25, eo25⟩ := Kd.R_slice HO114.out; subst eo25) | ((with_reducible refine gate_callee (f := 14) rfl ?_); refine RFn.goesM (some 29) Tryd.func14 #[.slice Ao25 y112.length co25] rfl ?_; (with_reducible refine (cent_Sum.calls k _ _ y112 t115 t116 _ ?side1 ?side2 A5.out).mono ?_); (case side1 => repeat (first | exact (Kd.R_reads' HO114.out).2.2 | (with_reducible refine Kd.C_alloc ?_ _) | (with_reducible refine Kd.C_drewN ?_ _) | (with_reducible refine Kd.C_drew ?_))); (case side2 => exact (Kd.R_reads' HO114.out).2.1); rintro e w' ⟨rfl, ⟨nd, rfl⟩⟩; refine ⟨_, rfl, ?_⟩) | (go_at_call 12; (with_reducible refine (cent_Print.calls (-7) t117 _ A12.out (Go.Proofs.YtpfhoenjndmoaaaDoor.X.LaidW.below hLd_ RFn.bel)).mono ?_); rintro e w26 ⟨rfl, hb⟩; have n0_ := Aside0.mk (Kd.R_below (by (with_reducible repeat (first | apply Kd.R_alloc | apply Kd.R_drewN | apply Kd.R_drew)); exact HO114.out) hb); have n1_ := Aside0.mk (below_step (RFn.bel) hb); clear HO114; clear HB; have HO114 := n0_; have HB := n1_; clear n0_ n1_; (try clear hb); (try clear hb2); (try clear hk); (try clear hi)))
         go_ret
         exact ⟨by first | rfl | (simp [errW_none, errW_some] <;> rfl) | (simp [*, errW_none, errW_some] <;> rfl), RFn.bel⟩
       ·rw [if_neg c13] at H
        have c13b0 : (t117.toList == ([45, 55] : List UInt8)) = false := beq_eq_false_iff_ne.mpr c13
        have c13b1 : (t117.toList != ([45, 55] : List UInt8)) = true := bne_iff_ne.mpr c13
        obtain rfl := Option.some.inj H
        go_enter Tryd.func9, Tryd.ntmps9
        go_wp2_with (first | ((with_reducible refine gate_callee (f := 15) rfl ?_); refine RFn.goesM (some 12) Tryd.func15 #[.int .i64 2, .int .i64 3] rfl ?_; (with_reducible refine (cent_Add.calls 2 3 t104 t105 _ A1.out).mono ?_); rintro e w' ⟨rfl, ⟨nd, rfl⟩⟩; refine ⟨_, rfl, ?_⟩) | ((with_reducible refine gate_callee (f := 15) rfl ?_); refine RFn.goesM (some 16) Tryd.func15 #[.int .i64 9223372036854775807, .int .i64 1] rfl ?_; (with_reducible refine (cent_Add.calls 9223372036854775807 1 t106 t107 _ A2.out).mono ?_); rintro e w' ⟨rfl, ⟨nd, rfl⟩⟩; refine ⟨_, rfl, ?_⟩) | ((with_reducible refine gate_callee (f := 10) rfl ?_); refine RFn.goesM (some 20) Tryd.func10 #[.string (⟨#[45, 49, 50]⟩ : ByteArray)] rfl ?_; (with_reducible refine (cent_Parse.calls (⟨#[45, 49, 50]⟩ : ByteArray) t108 t109 _ A3.out (Go.Proofs.YtpfhoenjndmoaaaDoor.X.LaidW.below hLd_ RFn.bel)).mono ?_); rintro e w27 ⟨rfl, hb⟩; refine ⟨_, rfl, ?_⟩; have n0_ := Aside0.mk (below_step (RFn.bel) hb); clear HB; have HB := n0_; clear n0_; (try clear hb); (try clear hb2); (try clear hk); (try clear hi)) | ((with_reducible refine gate_callee (f := 10) rfl ?_); refine RFn.goesM (some 24) Tryd.func10 #[.string (⟨#[45, 48]⟩ : ByteArray)] rfl ?_; (with_reducible refine (cent_Parse.calls (⟨#[45, 48]⟩ : ByteArray) t110 t111 _ A4.out (Go.Proofs.YtpfhoenjndmoaaaDoor.X.LaidW.below hLd_ RFn.bel)).mono ?_); rintro e w28 ⟨rfl, hb⟩; refine ⟨_, rfl, ?_⟩; have n0_ := Aside0.mk (below_step (RFn.bel) hb); clear HB; have HB := n0_; clear n0_; (try clear hb); (try clear hb2); (try clear hk); (try clear hi)) | ((with_reducible refine gate_dst (N := 28) rfl ?_); refine Kd.R_lit (Kd.int .i64) _ 2 ?hg (N := 28) ?hd (xs := ([1, 2, 3] : List Int)) (inner := [.int .i64 1, .int .i64 2, .int .i64 3]) (ok := fun _ => True) (okp := fun _ => True) ?hr ?hp (fun _ hk => hk) trivial (Below.refl _ _) (Nat.le_refl _) (by simp) ?_; (case hd => rfl); (case hg => rfl); (case hr => first | (go_simp; done) | (go_simp; rfl)); (case hp => exact (Reps.one (show Kd.M (Kd.int .i64) _ _ _ 1 [.int .i64 1] from rfl) (Reps.one (show Kd.M (Kd.int .i64) _ _ _ 2 [.int .i64 2] from rfl) (Reps.one (show Kd.M (Kd.int .i64) _ _ _ 3 [.int .i64 3] from rfl) (Reps.none _ _))))); intro v113 w29 ho30 hb hg_ hnew_; clear hg_ hnew_; (first | rw [← Ny112.out] at ho30 | (simp only [Int.reduceToNat] at ho30; rw [← Ny112.out] at ho30)); have n0_ := Aside0.mk (Kd.R_lower ho30 (below_size (RFn.bel))); have n1_ := Aside0.mk (below_step (RFn.bel) hb); clear HB; have HO114 := n0_; have HB := n1_; clear n0_ n1_; clear hb ho30; obtain ⟨Ao31, co31, eo31⟩ := Kd.R_slice HO114.out; subst eo31) | ((with_reducible refine gate_callee (f := 14) rfl ?_); refine RFn.goesM (some 29) Tryd.func14 #[.slice Ao31 y112.length co31] rfl ?_; (with_reducible refine (cent_Sum.calls k _ _ y112 t115 t116 _ ?side1 ?side2 A5.out).mono ?_); (case side1 => repeat (first | exact (Kd.R_reads' HO114.out).2.2 | (with_reducible refine Kd.C_alloc ?_ _) | (with_reducible refine Kd.C_drewN ?_ _) | (with_reducible refine Kd.C_drew ?_))); (case side2 => exact (Kd.R_reads' HO114.out).2.1); rintro e w' ⟨rfl, ⟨nd, rfl⟩⟩; refine ⟨_, rfl, ?_⟩) | (go_at_call 12; (with_reducible refine (cent_Print.calls (-7) t117 _ A12.out (Go.Proofs.YtpfhoenjndmoaaaDoor.X.LaidW.below hLd_ RFn.bel)).mono ?_); rintro e w32 ⟨rfl, hb⟩; have n0_ := Aside0.mk (Kd.R_below (by (with_reducible repeat (first | apply Kd.R_alloc | apply Kd.R_drewN | apply Kd.R_drew)); exact HO114.out) hb); have n1_ := Aside0.mk (below_step (RFn.bel) hb); clear HO114; clear HB; have HO114 := n0_; have HB := n1_; clear n0_ n1_; (try clear hb); (try clear hb2); (try clear hk); (try clear hi)))
        go_ret
        exact ⟨by first | rfl | (simp [errW_none, errW_some] <;> rfl) | (simp [*, errW_none, errW_some] <;> rfl), RFn.bel⟩
      ·rw [if_neg c11] at H
       have c11b0 : (t111 == 5) = false := beq_eq_false_iff_ne.mpr c11
       have c11b1 : (t111 != 5) = true := bne_iff_ne.mpr c11
       obtain rfl := Option.some.inj H
       go_enter Tryd.func9, Tryd.ntmps9
       go_wp2_with (first | ((with_reducible refine gate_callee (f := 15) rfl ?_); refine RFn.goesM (some 12) Tryd.func15 #[.int .i64 2, .int .i64 3] rfl ?_; (with_reducible refine (cent_Add.calls 2 3 t104 t105 _ A1.out).mono ?_); rintro e w' ⟨rfl, ⟨nd, rfl⟩⟩; refine ⟨_, rfl, ?_⟩) | ((with_reducible refine gate_callee (f := 15) rfl ?_); refine RFn.goesM (some 16) Tryd.func15 #[.int .i64 9223372036854775807, .int .i64 1] rfl ?_; (with_reducible refine (cent_Add.calls 9223372036854775807 1 t106 t107 _ A2.out).mono ?_); rintro e w' ⟨rfl, ⟨nd, rfl⟩⟩; refine ⟨_, rfl, ?_⟩) | ((with_reducible refine gate_callee (f := 10) rfl ?_); refine RFn.goesM (some 20) Tryd.func10 #[.string (⟨#[45, 49, 50]⟩ : ByteArray)] rfl ?_; (with_reducible refine (cent_Parse.calls (⟨#[45, 49, 50]⟩ : ByteArray) t108 t109 _ A3.out (Go.Proofs.YtpfhoenjndmoaaaDoor.X.LaidW.below hLd_ RFn.bel)).mono ?_); rintro e w33 ⟨rfl, hb⟩; refine ⟨_, rfl, ?_⟩; have n0_ := Aside0.mk (below_step (RFn.bel) hb); clear HB; have HB := n0_; clear n0_; (try clear hb); (try clear hb2); (try clear hk); (try clear hi)) | ((with_reducible refine gate_callee (f := 10) rfl ?_); refine RFn.goesM (some 24) Tryd.func10 #[.string (⟨#[45, 48]⟩ : ByteArray)] rfl ?_; (with_reducible refine (cent_Parse.calls (⟨#[45, 48]⟩ : ByteArray) t110 t111 _ A4.out (Go.Proofs.YtpfhoenjndmoaaaDoor.X.LaidW.below hLd_ RFn.bel)).mono ?_); rintro e w34 ⟨rfl, hb⟩; refine ⟨_, rfl, ?_⟩; have n0_ := Aside0.mk (below_step (RFn.bel) hb); clear HB; have HB := n0_; clear n0_; (try clear hb); (try clear hb2); (try clear hk); (try clear hi)) | ((with_reducible refine gate_dst (N := 28) rfl ?_); refine Kd.R_lit (Kd.int .i64) _ 2 ?hg (N := 28) ?hd (xs := ([1, 2, 3] : List Int)) (inner := [.int .i64 1, .int .i64 2, .int .i64 3]) (ok := fun _ => True) (okp := fun _ => True) ?hr ?hp (fun _ hk => hk) trivial (Below.refl _ _) (Nat.le_refl _) (by simp) ?_; (case hd => rfl); (case hg => rfl); (case hr => first | (go_simp; done) | (go_simp; rfl)); (case hp => exact (Reps.one (show Kd.M (Kd.int .i64) _ _ _ 1 [.int .i64 1] from rfl) (Reps.one (show Kd.M (Kd.int .i64) _ _ _ 2 [.int .i64 2] from rfl) (Reps.one (show Kd.M (Kd.int .i64) _ _ _ 3 [.int .i64 3] from rfl) (Reps.none _ _))))); intro v113 w35 ho36 hb hg_ hnew_; clear hg_ hnew_; (first | rw [← Ny112.out] at ho36 | (simp only [Int.reduceToNat] at ho36; rw [← Ny112.out] at ho36)); have n0_ := Aside0.mk (Kd.R_lower ho36 (below_size (RFn.bel))); have n1_ := Aside0.mk (below_step (RFn.bel) hb); clear HB; have HO114 := n0_; have HB := n1_; clear n0_ n1_; clear hb ho36; obtain ⟨Ao37, co37, eo37⟩ := Kd.R_slice HO114.out; subst eo37) | ((with_reducible refine gate_callee (f := 14) rfl ?_); refine RFn.goesM (some 29) Tryd.func14 #[.slice Ao37 y112.length co37] rfl ?_; (with_reducible refine (cent_Sum.calls k _ _ y112 t115 t116 _ ?side1 ?side2 A5.out).mono ?_); (case side1 => repeat (first | exact (Kd.R_reads' HO114.out).2.2 | (with_reducible refine Kd.C_alloc ?_ _) | (with_reducible refine Kd.C_drewN ?_ _) | (with_reducible refine Kd.C_drew ?_))); (case side2 => exact (Kd.R_reads' HO114.out).2.1); rintro e w' ⟨rfl, ⟨nd, rfl⟩⟩; refine ⟨_, rfl, ?_⟩))
       go_ret
       exact ⟨by first | rfl | (simp [errW_none, errW_some] <;> rfl) | (simp [*, errW_none, errW_some] <;> rfl), RFn.bel⟩
     ·rw [if_neg c10] at H
      have c10b0 : (t109 == 0) = false := beq_eq_false_iff_ne.mpr c10
      have c10b1 : (t109 != 0) = true := bne_iff_ne.mpr c10
      obtain rfl := Option.some.inj H
      go_enter Tryd.func9, Tryd.ntmps9
      go_wp2_with (first | ((with_reducible refine gate_callee (f := 15) rfl ?_); refine RFn.goesM (some 12) Tryd.func15 #[.int .i64 2, .int .i64 3] rfl ?_; (with_reducible refine (cent_Add.calls 2 3 t104 t105 _ A1.out).mono ?_); rintro e w' ⟨rfl, ⟨nd, rfl⟩⟩; refine ⟨_, rfl, ?_⟩) | ((with_reducible refine gate_callee (f := 15) rfl ?_); refine RFn.goesM (some 16) Tryd.func15 #[.int .i64 9223372036854775807, .int .i64 1] rfl ?_; (with_reducible refine (cent_Add.calls 9223372036854775807 1 t106 t107 _ A2.out).mono ?_); rintro e w' ⟨rfl, ⟨nd, rfl⟩⟩; refine ⟨_, rfl, ?_⟩) | ((with_reducible refine gate_callee (f := 10) rfl ?_); refine RFn.goesM (some 20) Tryd.func10 #[.string (⟨#[45, 49, 50]⟩ : ByteArray)] rfl ?_; (with_reducible refine (cent_Parse.calls (⟨#[45, 49, 50]⟩ : ByteArray) t108 t109 _ A3.out (Go.Proofs.YtpfhoenjndmoaaaDoor.X.LaidW.below hLd_ RFn.bel)).mono ?_); rintro e w38 ⟨rfl, hb⟩; refine ⟨_, rfl, ?_⟩; have n0_ := Aside0.mk (below_step (RFn.bel) hb); clear HB; have HB := n0_; clear n0_; (try clear hb); (try clear hb2); (try clear hk); (try clear hi)) | ((with_reducible refine gate_callee (f := 10) rfl ?_); refine RFn.goesM (some 24) Tryd.func10 #[.string (⟨#[45, 48]⟩ : ByteArray)] rfl ?_; (with_reducible refine (cent_Parse.calls (⟨#[45, 48]⟩ : ByteArray) t110 t111 _ A4.out (Go.Proofs.YtpfhoenjndmoaaaDoor.X.LaidW.below hLd_ RFn.bel)).mono ?_); rintro e w39 ⟨rfl, hb⟩; refine ⟨_, rfl, ?_⟩; have n0_ := Aside0.mk (below_step (RFn.bel) hb); clear HB; have HB := n0_; clear n0_; (try clear hb); (try clear hb2); (try clear hk); (try clear hi)) | ((with_reducible refine gate_dst (N := 28) rfl ?_); refine Kd.R_lit (Kd.int .i64) _ 2 ?hg (N := 28) ?hd (xs := ([1, 2, 3] : List Int)) (inner := [.int .i64 1, .int .i64 2, .int .i64 3]) (ok := fun _ => True) (okp := fun _ => True) ?hr ?hp (fun _ hk => hk) trivial (Below.refl _ _) (Nat.le_refl _) (by simp) ?_; (case hd => rfl); (case hg => rfl); (case hr => first | (go_simp; done) | (go_simp; rfl)); (case hp => exact (Reps.one (show Kd.M (Kd.int .i64) _ _ _ 1 [.int .i64 1] from rfl) (Reps.one (show Kd.M (Kd.int .i64) _ _ _ 2 [.int .i64 2] from rfl) (Reps.one (show Kd.M (Kd.int .i64) _ _ _ 3 [.int .i64 3] from rfl) (Reps.none _ _))))); intro v113 w40 ho41 hb hg_ hnew_; clear hg_ hnew_; (first | rw [← Ny112.out] at ho41 | (simp only [Int.reduceToNat] at ho41; rw [← Ny112.out] at ho41)); have n0_ := Aside0.mk (Kd.R_lower ho41 (below_size (RFn.bel))); have n1_ := Aside0.mk (below_step (RFn.bel) hb); clear HB; have HO114 := n0_; have HB := n1_; clear n0_ n1_; clear hb ho41; obtain ⟨Ao42, co42, eo42⟩ := Kd.R_slice HO114.out; subst eo42) | ((with_reducible refine gate_callee (f := 14) rfl ?_); refine RFn.goesM (some 29) Tryd.func14 #[.slice Ao42 y112.length co42] rfl ?_; (with_reducible refine (cent_Sum.calls k _ _ y112 t115 t116 _ ?side1 ?side2 A5.out).mono ?_); (case side1 => repeat (first | exact (Kd.R_reads' HO114.out).2.2 | (with_reducible refine Kd.C_alloc ?_ _) | (with_reducible refine Kd.C_drewN ?_ _) | (with_reducible refine Kd.C_drew ?_))); (case side2 => exact (Kd.R_reads' HO114.out).2.1); rintro e w' ⟨rfl, ⟨nd, rfl⟩⟩; refine ⟨_, rfl, ?_⟩))
      go_ret
      exact ⟨by first | rfl | (simp [errW_none, errW_some] <;> rfl) | (simp [*, errW_none, errW_some] <;> rfl), RFn.bel⟩
    ·rw [if_neg c9] at H
     have c9b0 : (t108 == (-12)) = false := beq_eq_false_iff_ne.mpr c9
     have c9b1 : (t108 != (-12)) = true := bne_iff_ne.mpr c9
     obtain rfl := Option.some.inj H
     go_enter Tryd.func9, Tryd.ntmps9
     go_wp2_with (first | ((with_reducible refine gate_callee (f := 15) rfl ?_); refine RFn.goesM (some 12) Tryd.func15 #[.int .i64 2, .int .i64 3] rfl ?_; (with_reducible refine (cent_Add.calls 2 3 t104 t105 _ A1.out).mono ?_); rintro e w' ⟨rfl, ⟨nd, rfl⟩⟩; refine ⟨_, rfl, ?_⟩) | ((with_reducible refine gate_callee (f := 15) rfl ?_); refine RFn.goesM (some 16) Tryd.func15 #[.int .i64 9223372036854775807, .int .i64 1] rfl ?_; (with_reducible refine (cent_Add.calls 9223372036854775807 1 t106 t107 _ A2.out).mono ?_); rintro e w' ⟨rfl, ⟨nd, rfl⟩⟩; refine ⟨_, rfl, ?_⟩) | ((with_reducible refine gate_callee (f := 10) rfl ?_); refine RFn.goesM (some 20) Tryd.func10 #[.string (⟨#[45, 49, 50]⟩ : ByteArray)] rfl ?_; (with_reducible refine (cent_Parse.calls (⟨#[45, 49, 50]⟩ : ByteArray) t108 t109 _ A3.out (Go.Proofs.YtpfhoenjndmoaaaDoor.X.LaidW.below hLd_ RFn.bel)).mono ?_); rintro e w43 ⟨rfl, hb⟩; refine ⟨_, rfl, ?_⟩; have n0_ := Aside0.mk (below_step (RFn.bel) hb); clear HB; have HB := n0_; clear n0_; (try clear hb); (try clear hb2); (try clear hk); (try clear hi)) | ((with_reducible refine gate_callee (f := 10) rfl ?_); refine RFn.goesM (some 24) Tryd.func10 #[.string (⟨#[45, 48]⟩ : ByteArray)] rfl ?_; (with_reducible refine (cent_Parse.calls (⟨#[45, 48]⟩ : ByteArray) t110 t111 _ A4.out (Go.Proofs.YtpfhoenjndmoaaaDoor.X.LaidW.below hLd_ RFn.bel)).mono ?_); rintro e w44 ⟨rfl, hb⟩; refine ⟨_, rfl, ?_⟩; have n0_ := Aside0.mk (below_step (RFn.bel) hb); clear HB; have HB := n0_; clear n0_; (try clear hb); (try clear hb2); (try clear hk); (try clear hi)) | ((with_reducible refine gate_dst (N := 28) rfl ?_); refine Kd.R_lit (Kd.int .i64) _ 2 ?hg (N := 28) ?hd (xs := ([1, 2, 3] : List Int)) (inner := [.int .i64 1, .int .i64 2, .int .i64 3]) (ok := fun _ => True) (okp := fun _ => True) ?hr ?hp (fun _ hk => hk) trivial (Below.refl _ _) (Nat.le_refl _) (by simp) ?_; (case hd => rfl); (case hg => rfl); (case hr => first | (go_simp; done) | (go_simp; rfl)); (case hp => exact (Reps.one (show Kd.M (Kd.int .i64) _ _ _ 1 [.int .i64 1] from rfl) (Reps.one (show Kd.M (Kd.int .i64) _ _ _ 2 [.int .i64 2] from rfl) (Reps.one (show Kd.M (Kd.int .i64) _ _ _ 3 [.int .i64 3] from rfl) (Reps.none _ _))))); intro v113 w45 ho46 hb hg_ hnew_; clear hg_ hnew_; (first | rw [← Ny112.out] at ho46 | (simp only [Int.reduceToNat] at ho46; rw [← Ny112.out] at ho46)); have n0_ := Aside0.mk (Kd.R_lower ho46 (below_size (RFn.bel))); have n1_ := Aside0.mk (below_step (RFn.bel) hb); clear HB; have HO114 := n0_; have HB := n1_; clear n0_ n1_; clear hb ho46; obtain ⟨Ao47, co47, eo47⟩ := Kd.R_slice HO114.out; subst eo47) | ((with_reducible refine gate_callee (f := 14) rfl ?_); refine RFn.goesM (some 29) Tryd.func14 #[.slice Ao47 y112.length co47] rfl ?_; (with_reducible refine (cent_Sum.calls k _ _ y112 t115 t116 _ ?side1 ?side2 A5.out).mono ?_); (case side1 => repeat (first | exact (Kd.R_reads' HO114.out).2.2 | (with_reducible refine Kd.C_alloc ?_ _) | (with_reducible refine Kd.C_drewN ?_ _) | (with_reducible refine Kd.C_drew ?_))); (case side2 => exact (Kd.R_reads' HO114.out).2.1); rintro e w' ⟨rfl, ⟨nd, rfl⟩⟩; refine ⟨_, rfl, ?_⟩))
     go_ret
     exact ⟨by first | rfl | (simp [errW_none, errW_some] <;> rfl) | (simp [*, errW_none, errW_some] <;> rfl), RFn.bel⟩
   ·rw [if_neg c8] at H
    have c8b0 : (t107 == 2) = false := beq_eq_false_iff_ne.mpr c8
    have c8b1 : (t107 != 2) = true := bne_iff_ne.mpr c8
    obtain rfl := Option.some.inj H
    go_enter Tryd.func9, Tryd.ntmps9
    go_wp2_with (first | ((with_reducible refine gate_callee (f := 15) rfl ?_); refine RFn.goesM (some 12) Tryd.func15 #[.int .i64 2, .int .i64 3] rfl ?_; (with_reducible refine (cent_Add.calls 2 3 t104 t105 _ A1.out).mono ?_); rintro e w' ⟨rfl, ⟨nd, rfl⟩⟩; refine ⟨_, rfl, ?_⟩) | ((with_reducible refine gate_callee (f := 15) rfl ?_); refine RFn.goesM (some 16) Tryd.func15 #[.int .i64 9223372036854775807, .int .i64 1] rfl ?_; (with_reducible refine (cent_Add.calls 9223372036854775807 1 t106 t107 _ A2.out).mono ?_); rintro e w' ⟨rfl, ⟨nd, rfl⟩⟩; refine ⟨_, rfl, ?_⟩) | ((with_reducible refine gate_callee (f := 10) rfl ?_); refine RFn.goesM (some 20) Tryd.func10 #[.string (⟨#[45, 49, 50]⟩ : ByteArray)] rfl ?_; (with_reducible refine (cent_Parse.calls (⟨#[45, 49, 50]⟩ : ByteArray) t108 t109 _ A3.out (Go.Proofs.YtpfhoenjndmoaaaDoor.X.LaidW.below hLd_ RFn.bel)).mono ?_); rintro e w48 ⟨rfl, hb⟩; refine ⟨_, rfl, ?_⟩; have n0_ := Aside0.mk (below_step (RFn.bel) hb); clear HB; have HB := n0_; clear n0_; (try clear hb); (try clear hb2); (try clear hk); (try clear hi)) | ((with_reducible refine gate_callee (f := 10) rfl ?_); refine RFn.goesM (some 24) Tryd.func10 #[.string (⟨#[45, 48]⟩ : ByteArray)] rfl ?_; (with_reducible refine (cent_Parse.calls (⟨#[45, 48]⟩ : ByteArray) t110 t111 _ A4.out (Go.Proofs.YtpfhoenjndmoaaaDoor.X.LaidW.below hLd_ RFn.bel)).mono ?_); rintro e w49 ⟨rfl, hb⟩; refine ⟨_, rfl, ?_⟩; have n0_ := Aside0.mk (below_step (RFn.bel) hb); clear HB; have HB := n0_; clear n0_; (try clear hb); (try clear hb2); (try clear hk); (try clear hi)) | ((with_reducible refine gate_dst (N := 28) rfl ?_); refine Kd.R_lit (Kd.int .i64) _ 2 ?hg (N := 28) ?hd (xs := ([1, 2, 3] : List Int)) (inner := [.int .i64 1, .int .i64 2, .int .i64 3]) (ok := fun _ => True) (okp := fun _ => True) ?hr ?hp (fun _ hk => hk) trivial (Below.refl _ _) (Nat.le_refl _) (by simp) ?_; (case hd => rfl); (case hg => rfl); (case hr => first | (go_simp; done) | (go_simp; rfl)); (case hp => exact (Reps.one (show Kd.M (Kd.int .i64) _ _ _ 1 [.int .i64 1] from rfl) (Reps.one (show Kd.M (Kd.int .i64) _ _ _ 2 [.int .i64 2] from rfl) (Reps.one (show Kd.M (Kd.int .i64) _ _ _ 3 [.int .i64 3] from rfl) (Reps.none _ _))))); intro v113 w50 ho51 hb hg_ hnew_; clear hg_ hnew_; (first | rw [← Ny112.out] at ho51 | (simp only [Int.reduceToNat] at ho51; rw [← Ny112.out] at ho51)); have n0_ := Aside0.mk (Kd.R_lower ho51 (below_size (RFn.bel))); have n1_ := Aside0.mk (below_step (RFn.bel) hb); clear HB; have HO114 := n0_; have HB := n1_; clear n0_ n1_; clear hb ho51; obtain ⟨Ao52, co52, eo52⟩ := Kd.R_slice HO114.out; subst eo52) | ((with_reducible refine gate_callee (f := 14) rfl ?_); refine RFn.goesM (some 29) Tryd.func14 #[.slice Ao52 y112.length co52] rfl ?_; (with_reducible refine (cent_Sum.calls k _ _ y112 t115 t116 _ ?side1 ?side2 A5.out).mono ?_); (case side1 => repeat (first | exact (Kd.R_reads' HO114.out).2.2 | (with_reducible refine Kd.C_alloc ?_ _) | (with_reducible refine Kd.C_drewN ?_ _) | (with_reducible refine Kd.C_drew ?_))); (case side2 => exact (Kd.R_reads' HO114.out).2.1); rintro e w' ⟨rfl, ⟨nd, rfl⟩⟩; refine ⟨_, rfl, ?_⟩))
    go_ret
    exact ⟨by first | rfl | (simp [errW_none, errW_some] <;> rfl) | (simp [*, errW_none, errW_some] <;> rfl), RFn.bel⟩
  ·rw [if_neg c7] at H
   have c7b0 : (t105 == 0) = false := beq_eq_false_iff_ne.mpr c7
   have c7b1 : (t105 != 0) = true := bne_iff_ne.mpr c7
   obtain rfl := Option.some.inj H
   go_enter Tryd.func9, Tryd.ntmps9
   go_wp2_with (first | ((with_reducible refine gate_callee (f := 15) rfl ?_); refine RFn.goesM (some 12) Tryd.func15 #[.int .i64 2, .int .i64 3] rfl ?_; (with_reducible refine (cent_Add.calls 2 3 t104 t105 _ A1.out).mono ?_); rintro e w' ⟨rfl, ⟨nd, rfl⟩⟩; refine ⟨_, rfl, ?_⟩) | ((with_reducible refine gate_callee (f := 15) rfl ?_); refine RFn.goesM (some 16) Tryd.func15 #[.int .i64 9223372036854775807, .int .i64 1] rfl ?_; (with_reducible refine (cent_Add.calls 9223372036854775807 1 t106 t107 _ A2.out).mono ?_); rintro e w' ⟨rfl, ⟨nd, rfl⟩⟩; refine ⟨_, rfl, ?_⟩) | ((with_reducible refine gate_callee (f := 10) rfl ?_); refine RFn.goesM (some 20) Tryd.func10 #[.string (⟨#[45, 49, 50]⟩ : ByteArray)] rfl ?_; (with_reducible refine (cent_Parse.calls (⟨#[45, 49, 50]⟩ : ByteArray) t108 t109 _ A3.out (Go.Proofs.YtpfhoenjndmoaaaDoor.X.LaidW.below hLd_ RFn.bel)).mono ?_); rintro e w53 ⟨rfl, hb⟩; refine ⟨_, rfl, ?_⟩; have n0_ := Aside0.mk (below_step (RFn.bel) hb); clear HB; have HB := n0_; clear n0_; (try clear hb); (try clear hb2); (try clear hk); (try clear hi)) | ((with_reducible refine gate_callee (f := 10) rfl ?_); refine RFn.goesM (some 24) Tryd.func10 #[.string (⟨#[45, 48]⟩ : ByteArray)] rfl ?_; (with_reducible refine (cent_Parse.calls (⟨#[45, 48]⟩ : ByteArray) t110 t111 _ A4.out (Go.Proofs.YtpfhoenjndmoaaaDoor.X.LaidW.below hLd_ RFn.bel)).mono ?_); rintro e w54 ⟨rfl, hb⟩; refine ⟨_, rfl, ?_⟩; have n0_ := Aside0.mk (below_step (RFn.bel) hb); clear HB; have HB := n0_; clear n0_; (try clear hb); (try clear hb2); (try clear hk); (try clear hi)) | ((with_reducible refine gate_dst (N := 28) rfl ?_); refine Kd.R_lit (Kd.int .i64) _ 2 ?hg (N := 28) ?hd (xs := ([1, 2, 3] : List Int)) (inner := [.int .i64 1, .int .i64 2, .int .i64 3]) (ok := fun _ => True) (okp := fun _ => True) ?hr ?hp (fun _ hk => hk) trivial (Below.refl _ _) (Nat.le_refl _) (by simp) ?_; (case hd => rfl); (case hg => rfl); (case hr => first | (go_simp; done) | (go_simp; rfl)); (case hp => exact (Reps.one (show Kd.M (Kd.int .i64) _ _ _ 1 [.int .i64 1] from rfl) (Reps.one (show Kd.M (Kd.int .i64) _ _ _ 2 [.int .i64 2] from rfl) (Reps.one (show Kd.M (Kd.int .i64) _ _ _ 3 [.int .i64 3] from rfl) (Reps.none _ _))))); intro v113 w55 ho56 hb hg_ hnew_; clear hg_ hnew_; (first | rw [← Ny112.out] at ho56 | (simp only [Int.reduceToNat] at ho56; rw [← Ny112.out] at ho56)); have n0_ := Aside0.mk (Kd.R_lower ho56 (below_size (RFn.bel))); have n1_ := Aside0.mk (below_step (RFn.bel) hb); clear HB; have HO114 := n0_; have HB := n1_; clear n0_ n1_; clear hb ho56; obtain ⟨Ao57, co57, eo57⟩ := Kd.R_slice HO114.out; subst eo57) | ((with_reducible refine gate_callee (f := 14) rfl ?_); refine RFn.goesM (some 29) Tryd.func14 #[.slice Ao57 y112.length co57] rfl ?_; (with_reducible refine (cent_Sum.calls k _ _ y112 t115 t116 _ ?side1 ?side2 A5.out).mono ?_); (case side1 => repeat (first | exact (Kd.R_reads' HO114.out).2.2 | (with_reducible refine Kd.C_alloc ?_ _) | (with_reducible refine Kd.C_drewN ?_ _) | (with_reducible refine Kd.C_drew ?_))); (case side2 => exact (Kd.R_reads' HO114.out).2.1); rintro e w' ⟨rfl, ⟨nd, rfl⟩⟩; refine ⟨_, rfl, ?_⟩))
   go_ret
   exact ⟨by first | rfl | (simp [errW_none, errW_some] <;> rfl) | (simp [*, errW_none, errW_some] <;> rfl), RFn.bel⟩
 ·rw [if_neg c6] at H
  have c6b0 : (t104 == 5) = false := beq_eq_false_iff_ne.mpr c6
  have c6b1 : (t104 != 5) = true := bne_iff_ne.mpr c6
  obtain rfl := Option.some.inj H
  go_enter Tryd.func9, Tryd.ntmps9
  go_wp2_with (first | ((with_reducible refine gate_callee (f := 15) rfl ?_); refine RFn.goesM (some 12) Tryd.func15 #[.int .i64 2, .int .i64 3] rfl ?_; (with_reducible refine (cent_Add.calls 2 3 t104 t105 _ A1.out).mono ?_); rintro e w' ⟨rfl, ⟨nd, rfl⟩⟩; refine ⟨_, rfl, ?_⟩) | ((with_reducible refine gate_callee (f := 15) rfl ?_); refine RFn.goesM (some 16) Tryd.func15 #[.int .i64 9223372036854775807, .int .i64 1] rfl ?_; (with_reducible refine (cent_Add.calls 9223372036854775807 1 t106 t107 _ A2.out).mono ?_); rintro e w' ⟨rfl, ⟨nd, rfl⟩⟩; refine ⟨_, rfl, ?_⟩) | ((with_reducible refine gate_callee (f := 10) rfl ?_); refine RFn.goesM (some 20) Tryd.func10 #[.string (⟨#[45, 49, 50]⟩ : ByteArray)] rfl ?_; (with_reducible refine (cent_Parse.calls (⟨#[45, 49, 50]⟩ : ByteArray) t108 t109 _ A3.out (Go.Proofs.YtpfhoenjndmoaaaDoor.X.LaidW.below hLd_ RFn.bel)).mono ?_); rintro e w58 ⟨rfl, hb⟩; refine ⟨_, rfl, ?_⟩; have n0_ := Aside0.mk (below_step (RFn.bel) hb); clear HB; have HB := n0_; clear n0_; (try clear hb); (try clear hb2); (try clear hk); (try clear hi)) | ((with_reducible refine gate_callee (f := 10) rfl ?_); refine RFn.goesM (some 24) Tryd.func10 #[.string (⟨#[45, 48]⟩ : ByteArray)] rfl ?_; (with_reducible refine (cent_Parse.calls (⟨#[45, 48]⟩ : ByteArray) t110 t111 _ A4.out (Go.Proofs.YtpfhoenjndmoaaaDoor.X.LaidW.below hLd_ RFn.bel)).mono ?_); rintro e w59 ⟨rfl, hb⟩; refine ⟨_, rfl, ?_⟩; have n0_ := Aside0.mk (below_step (RFn.bel) hb); clear HB; have HB := n0_; clear n0_; (try clear hb); (try clear hb2); (try clear hk); (try clear hi)) | ((with_reducible refine gate_dst (N := 28) rfl ?_); refine Kd.R_lit (Kd.int .i64) _ 2 ?hg (N := 28) ?hd (xs := ([1, 2, 3] : List Int)) (inner := [.int .i64 1, .int .i64 2, .int .i64 3]) (ok := fun _ => True) (okp := fun _ => True) ?hr ?hp (fun _ hk => hk) trivial (Below.refl _ _) (Nat.le_refl _) (by simp) ?_; (case hd => rfl); (case hg => rfl); (case hr => first | (go_simp; done) | (go_simp; rfl)); (case hp => exact (Reps.one (show Kd.M (Kd.int .i64) _ _ _ 1 [.int .i64 1] from rfl) (Reps.one (show Kd.M (Kd.int .i64) _ _ _ 2 [.int .i64 2] from rfl) (Reps.one (show Kd.M (Kd.int .i64) _ _ _ 3 [.int .i64 3] from rfl) (Reps.none _ _))))); intro v113 w60 ho61 hb hg_ hnew_; clear hg_ hnew_; (first | rw [← Ny112.out] at ho61 | (simp only [Int.reduceToNat] at ho61; rw [← Ny112.out] at ho61)); have n0_ := Aside0.mk (Kd.R_lower ho61 (below_size (RFn.bel))); have n1_ := Aside0.mk (below_step (RFn.bel) hb); clear HB; have HO114 := n0_; have HB := n1_; clear n0_ n1_; clear hb ho61; obtain ⟨Ao62, co62, eo62⟩ := Kd.R_slice HO114.out; subst eo62) | ((with_reducible refine gate_callee (f := 14) rfl ?_); refine RFn.goesM (some 29) Tryd.func14 #[.slice Ao62 y112.length co62] rfl ?_; (with_reducible refine (cent_Sum.calls k _ _ y112 t115 t116 _ ?side1 ?side2 A5.out).mono ?_); (case side1 => repeat (first | exact (Kd.R_reads' HO114.out).2.2 | (with_reducible refine Kd.C_alloc ?_ _) | (with_reducible refine Kd.C_drewN ?_ _) | (with_reducible refine Kd.C_drew ?_))); (case side2 => exact (Kd.R_reads' HO114.out).2.1); rintro e w' ⟨rfl, ⟨nd, rfl⟩⟩; refine ⟨_, rfl, ?_⟩))
  go_ret
  exact ⟨by first | rfl | (simp [errW_none, errW_some] <;> rfl) | (simp [*, errW_none, errW_some] <;> rfl), RFn.bel⟩

/-! ### ref01_Neg: function 20 -/
def ref01_Neg.f (a0 : Int) : Option (Int × Int) := if a0 = (-9223372036854775808) then (some (0, 2)) else (some (wrap64 (-a0), 0))
set_option maxHeartbeats 8000000 in
set_option maxRecDepth 100000 in
theorem ref01_Neg.calls (a0 : Int) (r1 : Int) (r2 : Int) (w : World) (h : ref01_Neg.f a0 = some (r1, r2)) :
  Calls Tryd.prog 20 #[.int .i64 a0] w fun e w' => e = .returned (.tuple #[.int .i64 r1, .int .i64 r2]) ∧ Drawn0 w w' := by
 have H : (if a0 = (-9223372036854775808) then (some (0, 2)) else (some (wrap64 (-a0), 0))) = some (r1, r2) := h
 clear h
 by_cases c2 : a0 = (-9223372036854775808)
 ·rw [if_pos c2] at H
  have c2b0 : (a0 == (-9223372036854775808)) = true := beq_iff_eq.mpr c2
  have c2b1 : (a0 != (-9223372036854775808)) = false := bne_eq_false_iff_eq.mpr c2
  clear c2
  simp only [Option.some.injEq, Prod.mk.injEq] at H
  obtain ⟨rfl, rfl⟩ := H
  go_enter Tryd.func20, Tryd.ntmps20
  go_wp2
  go_ret2
  exact ⟨by first | rfl | (simp; done) | (simp [*]; done), by repeat (first | exact Drawn0.refl _ | apply Drawn0.step)⟩
 ·rw [if_neg c2] at H
  have c2b0 : (a0 == (-9223372036854775808)) = false := beq_eq_false_iff_ne.mpr c2
  have c2b1 : (a0 != (-9223372036854775808)) = true := bne_iff_ne.mpr c2
  simp only [Option.some.injEq, Prod.mk.injEq] at H
  obtain ⟨rfl, rfl⟩ := H
  go_enter Tryd.func20, Tryd.ntmps20
  go_wp2
  go_ret2
  exact ⟨by first | rfl | (simp; done) | (simp [*]; done), by repeat (first | exact Drawn0.refl _ | apply Drawn0.step)⟩

/-! ### ref01_form: function 26 -/
mutual
def ref01_form.j0 : Nat → ByteArray → Bool → Option (Bool)
 | 0, _, _ => none
 | k + 1, x0, x11 => if x11 = true then (if 1 ≤ (x0.size : Int) then (if ((x0.extract 1 x0.size).size : Int) > 0 then (if 0 < ((x0.extract 1 x0.size).size : Int) then (if (bt (x0.extract 1 x0.size) 0) = 48 then (some false) else (ref01_form.j1 k (x0.extract 1 x0.size))) else (none)) else (ref01_form.j1 k (x0.extract 1 x0.size))) else (none)) else (ref01_form.j1 k x0)
def ref01_form.j1 : Nat → ByteArray → Option (Bool)
 | 0, _ => none
 | k + 1, x0 => if (x0.size : Int) = 0 then (ref01_form.j2 k x0 true) else (if (x0.size : Int) > 1 then (if 0 < (x0.size : Int) then (ref01_form.j2 k x0 ((bt x0 0) == 48)) else (none)) else (ref01_form.j2 k x0 false))
def ref01_form.j2 : Nat → ByteArray → Bool → Option (Bool)
 | 0, _, _ => none
 | k + 1, x0, x34 => if x34 = true then (some false) else (ref01_form.l0 k x0 0)
def ref01_form.l0 : Nat → ByteArray → Int → Option (Bool)
 | 0, _, _ => none
 | k + 1, x0, x3 => if x3 < (x0.size : Int) then (if 0 ≤ x3 then (if (bt x0 x3) < 48 then (some false) else (if (bt x0 x3) > 57 then (some false) else (ref01_form.l0 k x0 (wrap64 (x3 + 1))))) else (none)) else (some true)
end
def ref01_form.f (k : Nat) (a0 : ByteArray) : Option (Bool) := if (a0.size : Int) > 0 then (if 0 < (a0.size : Int) then (ref01_form.j0 k a0 ((bt a0 0) == 45)) else (none)) else (ref01_form.j0 k a0 false)
theorem ref01_form.mono_l : ∀ k, (∀ y0 y1, LeO (ref01_form.j0 k y0 y1) (ref01_form.j0 (k + 1) y0 y1)) ∧ (∀ y0, LeO (ref01_form.j1 k y0) (ref01_form.j1 (k + 1) y0)) ∧ (∀ y0 y1, LeO (ref01_form.j2 k y0 y1) (ref01_form.j2 (k + 1) y0 y1)) ∧ (∀ y0 y1, LeO (ref01_form.l0 k y0 y1) (ref01_form.l0 (k + 1) y0 y1))
 | 0 => ⟨fun _ _ r h => by simp [ref01_form.j0] at h, fun _ r h => by simp [ref01_form.j1] at h, fun _ _ r h => by simp [ref01_form.j2] at h, fun _ _ r h => by simp [ref01_form.l0] at h⟩
 | k + 1 => by
  obtain ⟨ih0, ih1, ih2, ih3⟩ := ref01_form.mono_l k
  refine ⟨?_, ?_, ?_, ?_⟩
  ·intro y0 y1
   unfold ref01_form.j0
   repeat' first
   | (with_reducible exact ih0 _ _)
   | (with_reducible exact ih1 _)
   | (with_reducible exact ih2 _ _)
   | (with_reducible exact ih3 _ _)
   | (with_reducible exact LeO.refl _)
   | (with_reducible exact LeO.none _)
   | (with_reducible refine LeO.ite ?_ ?_)
   | (with_reducible refine LeO.bind ?_ (fun _ => ?_))
   | exact ih0 _ _
   | exact ih1 _
   | exact ih2 _ _
   | exact ih3 _ _
   | exact LeO.none _
   | refine LeO.ite ?_ ?_
   | refine LeO.bind ?_ (fun _ => ?_)
  ·intro y0
   unfold ref01_form.j1
   repeat' first
   | (with_reducible exact ih0 _ _)
   | (with_reducible exact ih1 _)
   | (with_reducible exact ih2 _ _)
   | (with_reducible exact ih3 _ _)
   | (with_reducible exact LeO.refl _)
   | (with_reducible exact LeO.none _)
   | (with_reducible refine LeO.ite ?_ ?_)
   | (with_reducible refine LeO.bind ?_ (fun _ => ?_))
   | exact ih0 _ _
   | exact ih1 _
   | exact ih2 _ _
   | exact ih3 _ _
   | exact LeO.none _
   | refine LeO.ite ?_ ?_
   | refine LeO.bind ?_ (fun _ => ?_)
  ·intro y0 y1
   unfold ref01_form.j2
   repeat' first
   | (with_reducible exact ih0 _ _)
   | (with_reducible exact ih1 _)
   | (with_reducible exact ih2 _ _)
   | (with_reducible exact ih3 _ _)
   | (with_reducible exact LeO.refl _)
   | (with_reducible exact LeO.none _)
   | (with_reducible refine LeO.ite ?_ ?_)
   | (with_reducible refine LeO.bind ?_ (fun _ => ?_))
   | exact ih0 _ _
   | exact ih1 _
   | exact ih2 _ _
   | exact ih3 _ _
   | exact LeO.none _
   | refine LeO.ite ?_ ?_
   | refine LeO.bind ?_ (fun _ => ?_)
  ·intro y0 y1
   unfold ref01_form.l0
   repeat' first
   | (with_reducible exact ih0 _ _)
   | (with_reducible exact ih1 _)
   | (with_reducible exact ih2 _ _)
   | (with_reducible exact ih3 _ _)
   | (with_reducible exact LeO.refl _)
   | (with_reducible exact LeO.none _)
   | (with_reducible refine LeO.ite ?_ ?_)
   | (with_reducible refine LeO.bind ?_ (fun _ => ?_))
   | exact ih0 _ _
   | exact ih1 _
   | exact ih2 _ _
   | exact ih3 _ _
   | exact LeO.none _
   | refine LeO.ite ?_ ?_
   | refine LeO.bind ?_ (fun _ => ?_)
theorem ref01_form.mono : ∀ a0 k, LeO (ref01_form.f k a0) (ref01_form.f (k + 1) a0) := by
 intro a0 k
 obtain ⟨ih0, ih1, ih2, ih3⟩ := ref01_form.mono_l k
 unfold ref01_form.f
 repeat' first
   | (with_reducible exact ih0 _ _)
   | (with_reducible exact ih1 _)
   | (with_reducible exact ih2 _ _)
   | (with_reducible exact ih3 _ _)
   | (with_reducible exact LeO.refl _)
   | (with_reducible exact LeO.none _)
   | (with_reducible refine LeO.ite ?_ ?_)
   | (with_reducible refine LeO.bind ?_ (fun _ => ?_))
   | exact ih0 _ _
   | exact ih1 _
   | exact ih2 _ _
   | exact ih3 _ _
   | exact LeO.none _
   | refine LeO.ite ?_ ?_
   | refine LeO.bind ?_ (fun _ => ?_)
set_option maxHeartbeats 8000000 in
set_option maxRecDepth 100000 in
theorem ref01_form.calls (k : Nat) (a0 : ByteArray) (r : Bool) (w : World) (h : ref01_form.f k a0 = some r) :
  Calls Tryd.prog 26 #[.string a0] w fun e w' => e = .returned (.bool r) ∧ Drawn0 w w' := by
 have H : (if (a0.size : Int) > 0 then (if 0 < (a0.size : Int) then (ref01_form.j0 k a0 ((bt a0 0) == 45)) else (none)) else (ref01_form.j0 k a0 false)) = some r := h
 clear h
 have HC2 := Aside0.mk H
 clear H
 go_enter Tryd.func26, Tryd.ntmps26
 go_upto_region 1 with (fail)
 go_cut [11] (fun v11 wc => ∃ (kq : Nat) (x11_1 : Bool), v11 = .bool x11_1 ∧ Aside0 (ref01_form.j0 kq a0 x11_1 = some r) ∧ Aside0 (kq ≤ k) ∧ Drawn0 w wc)
 case first =>
  have H := HC2.out
  clear HC2
  by_cases c3 : (a0.size : Int) > 0
  ·rw [if_pos c3] at H
   have c3b0 : decide (0 < (a0.size : Int)) = true := decide_eq_true c3
   have c3b1 : decide (0 < a0.size) = true := decide_eq_true (by omega)
   clear c3
   (first | rw [c3b0] | (simp only [i64_w, i32_w]; rw [c3b0]) | skip)
   by_cases c4 : 0 < (a0.size : Int)
   ·rw [if_pos c4] at H
    have c4b0 : decide (0 < (a0.size : Int)) = true := decide_eq_true c4
    have c4b1 : decide (0 < a0.size) = true := decide_eq_true (by omega)
    clear c4
    have H' := Aside0.mk H
    clear H
    have p5 : 0 ≤ (0 : Int) := (by omega)
    have q5 : 0 < a0.size := (by have : (0 : Int) < (a0.size : Int) := of_decide_eq_true (by first | (with_reducible assumption) | assumption); omega)
    have hx5 : ∀ h : 0 < a0.size, ((a0[0]'h).toNat : Int) = bt a0 0 := bt_at a0 0
    clear p5
    have qi5 : (0 < (a0.size : Int)) = True := eq_true (of_decide_eq_true (by first | (with_reducible assumption) | assumption))
    replace q5 := eq_true q5
    go_wp2
    go_meet
    case rel => exact ⟨_, (((bt a0 0) == 45)), (by first | rfl | (simp; done) | (simp [*]; done)), H', ⟨by first | omega | exact Nat.le_refl _⟩, by repeat (first | exact Drawn0.refl _ | apply Drawn0.step)⟩
   ·rw [if_neg c4] at H
    exact absurd H (by simp)
  ·rw [if_neg c3] at H
   have c3b0 : decide (0 < (a0.size : Int)) = false := decide_eq_false c3
   have c3b1 : decide (0 < a0.size) = false := decide_eq_false (by omega)
   clear c3
   (first | rw [c3b0] | (simp only [i64_w, i32_w]; rw [c3b0]) | skip)
   have H' := Aside0.mk H
   clear H
   go_wp2
   go_meet
   case rel => exact ⟨_, (false), (by first | rfl | (simp; done) | (simp [*]; done)), H', ⟨by first | omega | exact Nat.le_refl _⟩, by repeat (first | exact Drawn0.refl _ | apply Drawn0.step)⟩
 case rest =>
  clear HC2
  try clear c2
  try clear p2
  try clear c3
  try clear c3b0
  try clear c3b1
  try clear c4
  try clear c4b0
  try clear c4b1
  try clear p5
  try clear q5
  try clear hx5
  try clear qi5
  try clear p5
  try clear q5
  obtain ⟨kq, x11_1, rfl, HA, HJ1, ⟨mc1, rfl⟩⟩ := hcut
  cases kq with
  | zero => exact absurd HA.out (by simp [ref01_form.j0])
  | succ kj1 =>
   have H := HA.out
   clear HA
   simp only [ref01_form.j0] at H
   have HC6 := Aside0.mk H
   clear H
   go_upto_if 11 with (fail)
   go_cut [0] (fun v0 wc => ∃ (kq : Nat) (x0_5 : ByteArray), v0 = .string x0_5 ∧ Aside0 (ref01_form.j1 kq x0_5 = some r) ∧ Aside0 (kq ≤ kj1) ∧ Drawn0 w wc)
   case first =>
    have H := HC6.out
    clear HC6
    by_cases c7 : x11_1 = true
    ·subst c7
     have H1 : (if 1 ≤ (a0.size : Int) then (if ((a0.extract 1 a0.size).size : Int) > 0 then (if 0 < ((a0.extract 1 a0.size).size : Int) then (if (bt (a0.extract 1 a0.size) 0) = 48 then (some false) else (ref01_form.j1 kj1 (a0.extract 1 a0.size))) else (none)) else (ref01_form.j1 kj1 (a0.extract 1 a0.size))) else (none)) = some r := by rw [if_pos rfl] at H; exact H
     clear H
     have H := H1
     clear H1
     by_cases c8 : 1 ≤ (a0.size : Int)
     ·rw [if_pos c8] at H
      have c8b0 := eq_true c8
      have c8b1 : decide (1 ≤ (a0.size : Int)) = true := decide_eq_true c8
      clear c8
      by_cases c9 : ((a0.extract 1 a0.size).size : Int) > 0
      ·rw [if_pos c9] at H
       have c9b0 : decide (0 < ((a0.extract 1 a0.size).size : Int)) = true := decide_eq_true c9
       (try (have c9b0x := c9b0; simp only [ByteArray.size_extract, Nat.min_self] at c9b0x))
       have c9b1 : decide (0 < (a0.extract 1 a0.size).size) = true := decide_eq_true (by omega)
       (try (have c9b1x := c9b1; simp only [ByteArray.size_extract, Nat.min_self] at c9b1x))
       clear c9
       (first | rw [c9b0] | (simp only [i64_w, i32_w]; rw [c9b0]) | skip)
       by_cases c10 : 0 < ((a0.extract 1 a0.size).size : Int)
       ·rw [if_pos c10] at H
        have c10b0 : decide (0 < ((a0.extract 1 a0.size).size : Int)) = true := decide_eq_true c10
        (try (have c10b0x := c10b0; simp only [ByteArray.size_extract, Nat.min_self] at c10b0x))
        have c10b1 : decide (0 < (a0.extract 1 a0.size).size) = true := decide_eq_true (by omega)
        (try (have c10b1x := c10b1; simp only [ByteArray.size_extract, Nat.min_self] at c10b1x))
        clear c10
        by_cases c12 : (bt (a0.extract 1 a0.size) 0) = 48
        ·rw [if_pos c12] at H
         have c12b0 : ((bt (a0.extract 1 a0.size) 0) == 48) = true := beq_iff_eq.mpr c12
         have c12b1 : ((bt (a0.extract 1 a0.size) 0) != 48) = false := bne_eq_false_iff_eq.mpr c12
         clear c12
         obtain rfl := Option.some.inj H
         have p11 : 0 ≤ (0 : Int) := (by omega)
         have q11 : 0 < (a0.extract 1 a0.size).size := (by have : (0 : Int) < ((a0.extract 1 a0.size).size : Int) := of_decide_eq_true (by first | (with_reducible assumption) | assumption); omega)
         have hx11 : ∀ h : 0 < (a0.extract 1 a0.size).size, (((a0.extract 1 a0.size)[0]'h).toNat : Int) = bt (a0.extract 1 a0.size) 0 := bt_at (a0.extract 1 a0.size) 0
         clear p11
         have qi11 : (0 < ((a0.extract 1 a0.size).size : Int)) = True := eq_true (of_decide_eq_true (by first | (with_reducible assumption) | assumption))
         replace q11 := eq_true q11
         (try (have q11x := q11; rw [ByteArray.size_extract, Nat.min_self] at q11x))
         go_wp2
         go_ret
         exact ⟨by first | rfl | (simp; done) | (simp [*]; done), by repeat (first | exact Drawn0.refl _ | apply Drawn0.step)⟩
        ·rw [if_neg c12] at H
         have c12b0 : ((bt (a0.extract 1 a0.size) 0) == 48) = false := beq_eq_false_iff_ne.mpr c12
         have c12b1 : ((bt (a0.extract 1 a0.size) 0) != 48) = true := bne_iff_ne.mpr c12
         have H' := Aside0.mk H
         clear H
         have p11 : 0 ≤ (0 : Int) := (by omega)
         have q11 : 0 < (a0.extract 1 a0.size).size := (by have : (0 : Int) < ((a0.extract 1 a0.size).size : Int) := of_decide_eq_true (by first | (with_reducible assumption) | assumption); omega)
         have hx11 : ∀ h : 0 < (a0.extract 1 a0.size).size, (((a0.extract 1 a0.size)[0]'h).toNat : Int) = bt (a0.extract 1 a0.size) 0 := bt_at (a0.extract 1 a0.size) 0
         clear p11
         have qi11 : (0 < ((a0.extract 1 a0.size).size : Int)) = True := eq_true (of_decide_eq_true (by first | (with_reducible assumption) | assumption))
         replace q11 := eq_true q11
         (try (have q11x := q11; rw [ByteArray.size_extract, Nat.min_self] at q11x))
         go_wp2
         first | go_meet | (simp only [c12b0] at *; go_meet)
         case rel => exact ⟨_, (a0.extract 1 a0.size), (by first | rfl | (simp; done) | (simp [*]; done)), H', ⟨by have := HJ1.out; first | omega | exact Nat.le_refl _⟩, by repeat (first | exact Drawn0.refl _ | apply Drawn0.step)⟩
       ·rw [if_neg c10] at H
        exact absurd H (by simp)
      ·rw [if_neg c9] at H
       have c9b0 : decide (0 < ((a0.extract 1 a0.size).size : Int)) = false := decide_eq_false c9
       (try (have c9b0x := c9b0; simp only [ByteArray.size_extract, Nat.min_self] at c9b0x))
       have c9b1 : decide (0 < (a0.extract 1 a0.size).size) = false := decide_eq_false (by omega)
       (try (have c9b1x := c9b1; simp only [ByteArray.size_extract, Nat.min_self] at c9b1x))
       clear c9
       (first | rw [c9b0] | (simp only [i64_w, i32_w]; rw [c9b0]) | skip)
       have H' := Aside0.mk H
       clear H
       go_wp2
       go_meet
       case rel => exact ⟨_, (a0.extract 1 a0.size), (by first | rfl | (simp; done) | (simp [*]; done)), H', ⟨by have := HJ1.out; first | omega | exact Nat.le_refl _⟩, by repeat (first | exact Drawn0.refl _ | apply Drawn0.step)⟩
     ·rw [if_neg c8] at H
      exact absurd H (by simp)
    ·replace c7 := Bool.eq_false_iff.mpr c7
     subst c7
     have H1 : (ref01_form.j1 kj1 a0) = some r := by rw [if_neg (show ¬ (false = true) by decide)] at H; exact H
     clear H
     have H := H1
     clear H1
     have H' := Aside0.mk H
     clear H
     go_wp2
     go_meet
     case rel => exact ⟨_, (a0), (by first | rfl | (simp; done) | (simp [*]; done)), H', ⟨by have := HJ1.out; first | omega | exact Nat.le_refl _⟩, by repeat (first | exact Drawn0.refl _ | apply Drawn0.step)⟩
   case rest =>
    clear HC6
    try clear c1
    try clear p1
    try clear q1
    try clear hx1
    try clear qi1
    try clear c2
    try clear p2
    try clear c3
    try clear c3b0
    try clear c3b1
    try clear c4
    try clear c4b0
    try clear c4b1
    try clear p5
    try clear q5
    try clear hx5
    try clear qi5
    try clear c7
    try clear c8
    try clear c8b0
    try clear c8b1
    try clear c9
    try clear c9b0
    try clear c9b1
    try clear c10
    try clear c10b0
    try clear c10b1
    try clear p11
    try clear q11
    try clear hx11
    try clear qi11
    try clear c12
    try clear c12b0
    try clear c12b1
    try clear p11
    try clear p2
    try clear p5
    try clear q11
    try clear q5
    obtain ⟨kq, x0_5, rfl, HA, HJ5, ⟨mc5, rfl⟩⟩ := hcut
    cases kq with
    | zero => exact absurd HA.out (by simp [ref01_form.j1])
    | succ kj5 =>
     have H := HA.out
     clear HA
     simp only [ref01_form.j1] at H
     have HC13 := Aside0.mk H
     clear H
     go_upto_region 5 with (fail)
     go_cut [34] (fun v34 wc => ∃ (kq : Nat) (x34_12 : Bool), v34 = .bool x34_12 ∧ Aside0 (ref01_form.j2 kq x0_5 x34_12 = some r) ∧ Aside0 (kq ≤ kj5) ∧ Drawn0 w wc)
     case first =>
      have H := HC13.out
      clear HC13
      by_cases c14 : (x0_5.size : Int) = 0
      ·rw [if_pos c14] at H
       have c14b0 : ((x0_5.size : Int) == 0) = true := beq_iff_eq.mpr c14
       have c14b1 : ((x0_5.size : Int) != 0) = false := bne_eq_false_iff_eq.mpr c14
       clear c14
       (first | rw [c14b0] | (simp only [i64_w, i32_w]; rw [c14b0]) | skip)
       have H' := Aside0.mk H
       clear H
       go_wp2
       first | go_meet | (simp only [c14b0] at *; go_meet)
       case rel => exact ⟨_, (true), (by first | rfl | (simp; done) | (simp [*]; done)), H', ⟨by have := HJ1.out; have := HJ5.out; first | omega | exact Nat.le_refl _⟩, by repeat (first | exact Drawn0.refl _ | apply Drawn0.step)⟩
      ·rw [if_neg c14] at H
       have c14b0 : ((x0_5.size : Int) == 0) = false := beq_eq_false_iff_ne.mpr c14
       have c14b1 : ((x0_5.size : Int) != 0) = true := bne_iff_ne.mpr c14
       (first | rw [c14b0] | (simp only [i64_w, i32_w]; rw [c14b0]) | skip)
       by_cases c15 : (x0_5.size : Int) > 1
       ·rw [if_pos c15] at H
        have c15b0 : decide (1 < (x0_5.size : Int)) = true := decide_eq_true c15
        have c15b1 : decide (1 < x0_5.size) = true := decide_eq_true (by omega)
        clear c15
        by_cases c16 : 0 < (x0_5.size : Int)
        ·rw [if_pos c16] at H
         have c16b0 : decide (0 < (x0_5.size : Int)) = true := decide_eq_true c16
         have c16b1 : decide (0 < x0_5.size) = true := decide_eq_true (by omega)
         clear c16
         have H' := Aside0.mk H
         clear H
         have p17 : 0 ≤ (0 : Int) := (by omega)
         have q17 : 0 < x0_5.size := (by have : (0 : Int) < (x0_5.size : Int) := of_decide_eq_true (by first | (with_reducible assumption) | assumption); omega)
         have hx17 : ∀ h : 0 < x0_5.size, ((x0_5[0]'h).toNat : Int) = bt x0_5 0 := bt_at x0_5 0
         clear p17
         have qi17 : (0 < (x0_5.size : Int)) = True := eq_true (of_decide_eq_true (by first | (with_reducible assumption) | assumption))
         replace q17 := eq_true q17
         go_wp2
         first | go_meet | (simp only [c14b0] at *; go_meet)
         case rel => exact ⟨_, (((bt x0_5 0) == 48)), (by first | rfl | (simp; done) | (simp [*]; done)), H', ⟨by have := HJ1.out; have := HJ5.out; first | omega | exact Nat.le_refl _⟩, by repeat (first | exact Drawn0.refl _ | apply Drawn0.step)⟩
        ·rw [if_neg c16] at H
         exact absurd H (by simp)
       ·rw [if_neg c15] at H
        have c15b0 : decide (1 < (x0_5.size : Int)) = false := decide_eq_false c15
        have c15b1 : decide (1 < x0_5.size) = false := decide_eq_false (by omega)
        clear c15
        have H' := Aside0.mk H
        clear H
        go_wp2
        first | go_meet | (simp only [c14b0] at *; go_meet)
        case rel => exact ⟨_, (false), (by first | rfl | (simp; done) | (simp [*]; done)), H', ⟨by have := HJ1.out; have := HJ5.out; first | omega | exact Nat.le_refl _⟩, by repeat (first | exact Drawn0.refl _ | apply Drawn0.step)⟩
     case rest =>
      clear HC13
      try clear c1
      try clear p1
      try clear q1
      try clear hx1
      try clear qi1
      try clear c2
      try clear p2
      try clear c3
      try clear c3b0
      try clear c3b1
      try clear c4
      try clear c4b0
      try clear c4b1
      try clear c5
      try clear p5
      try clear q5
      try clear hx5
      try clear qi5
      try clear c7
      try clear c8
      try clear c8b0
      try clear c8b1
      try clear c9
      try clear c9b0
      try clear c9b1
      try clear c10
      try clear c10b0
      try clear c10b1
      try clear p11
      try clear q11
      try clear hx11
      try clear qi11
      try clear c12
      try clear c12b0
      try clear c12b1
      try clear c14
      try clear c14b0
      try clear c14b1
      try clear c15
      try clear c15b0
      try clear c15b1
      try clear c16
      try clear c16b0
      try clear c16b1
      try clear p17
      try clear q17
      try clear hx17
      try clear qi17
      try clear p1
      try clear p11
      try clear p17
      try clear p2
      try clear p5
      try clear q1
      try clear q11
      try clear q17
      try clear q5
      obtain ⟨kq, x34_12, rfl, HA, HJ12, ⟨mc12, rfl⟩⟩ := hcut
      cases kq with
      | zero => exact absurd HA.out (by simp [ref01_form.j2])
      | succ kj12 =>
       have H := HA.out
       clear HA
       simp only [ref01_form.j2] at H
       by_cases c18 : x34_12 = true
       ·subst c18
        have H1 : (some false) = some r := by rw [if_pos rfl] at H; exact H
        clear H
        have H := H1
        clear H1
        obtain rfl := Option.some.inj H
        go_wp2
        go_ret
        exact ⟨by first | rfl | (simp; done) | (simp [*]; done), by repeat (first | exact Drawn0.refl _ | apply Drawn0.step)⟩
       ·replace c18 := Bool.eq_false_iff.mpr c18
        subst c18
        have H1 : (ref01_form.l0 kj12 x0_5 0) = some r := by rw [if_neg (show ¬ (false = true) by decide)] at H; exact H
        clear H
        have H := H1
        clear H1
        have H' := Aside0.mk H
        clear H
        go_wp2
        go_loopg [3] kj12 (fun kq v3 w' => ∃ (x3_4 : Int), v3 = .int .i64 x3_4 ∧ Aside0 (ref01_form.l0 kq x0_5 x3_4 = some r) ∧ Aside0 (kq ≤ kj12) ∧ Drawn0 w w')
        case atStart => exact ⟨(0), (by first | rfl | (simp; done) | (simp [*]; done)), H', ⟨Nat.le_refl _⟩, by repeat (first | exact Drawn0.refl _ | apply Drawn0.step)⟩
        case round =>
         clear H'
         try clear c1
         try clear p1
         try clear q1
         try clear hx1
         try clear qi1
         try clear c2
         try clear p2
         try clear c3
         try clear c3b0
         try clear c3b1
         try clear c4
         try clear c4b0
         try clear c4b1
         try clear c5
         try clear p5
         try clear q5
         try clear hx5
         try clear qi5
         try clear c7
         try clear c8
         try clear c8b0
         try clear c8b1
         try clear c9
         try clear c9b0
         try clear c9b1
         try clear c10
         try clear c10b0
         try clear c10b1
         try clear p11
         try clear q11
         try clear hx11
         try clear qi11
         try clear c12
         try clear c12b0
         try clear c12b1
         try clear c14
         try clear c14b0
         try clear c14b1
         try clear c15
         try clear c15b0
         try clear c15b1
         try clear c16
         try clear c16b0
         try clear c16b1
         try clear p17
         try clear q17
         try clear hx17
         try clear qi17
         try clear c18
         try clear p1
         try clear p11
         try clear p17
         try clear p2
         try clear p5
         try clear q1
         try clear q11
         try clear q17
         try clear q5
         obtain ⟨x3_4, rfl, HA, HK4, ⟨m4, rfl⟩⟩ := hrel
         cases gk with
         | zero => exact absurd HA.out (by simp [ref01_form.l0])
         | succ k4 =>
          have H := HA.out
          clear HA
          simp only [ref01_form.l0] at H
          by_cases c19 : x3_4 < (x0_5.size : Int)
          ·rw [if_pos c19] at H
           have c19b0 : decide (x3_4 < (x0_5.size : Int)) = true := decide_eq_true c19
           clear c19
           by_cases c20 : 0 ≤ x3_4
           ·rw [if_pos c20] at H
            have c20b0 : decide (0 ≤ x3_4) = true := decide_eq_true c20
            clear c20
            by_cases c22 : (bt x0_5 x3_4) < 48
            ·rw [if_pos c22] at H
             have c22b0 : decide ((bt x0_5 x3_4) < 48) = true := decide_eq_true c22
             clear c22
             obtain rfl := Option.some.inj H
             have p21 : 0 ≤ (x3_4 : Int) := of_decide_eq_true (by first | (with_reducible assumption) | assumption)
             have q21 : x3_4 < (x0_5.size : Int) := of_decide_eq_true (by first | (with_reducible assumption) | assumption)
             have hx21 := bt_at x0_5 x3_4
             replace p21 := eq_true p21
             replace q21 := eq_true q21
             go_wp2
             go_ret
             exact ⟨by first | rfl | (simp; done) | (simp [*]; done), by repeat (first | exact Drawn0.refl _ | apply Drawn0.step)⟩
            ·rw [if_neg c22] at H
             have c22b0 : decide ((bt x0_5 x3_4) < 48) = false := decide_eq_false c22
             clear c22
             by_cases c24 : (bt x0_5 x3_4) > 57
             ·rw [if_pos c24] at H
              have c24b0 : decide (57 < (bt x0_5 x3_4)) = true := decide_eq_true c24
              clear c24
              obtain rfl := Option.some.inj H
              have p21 : 0 ≤ (x3_4 : Int) := of_decide_eq_true (by first | (with_reducible assumption) | assumption)
              have q21 : x3_4 < (x0_5.size : Int) := of_decide_eq_true (by first | (with_reducible assumption) | assumption)
              have hx21 := bt_at x0_5 x3_4
              replace p21 := eq_true p21
              replace q21 := eq_true q21
              have p23 : 0 ≤ (x3_4 : Int) := of_decide_eq_true (by first | (with_reducible assumption) | assumption)
              have q23 : x3_4 < (x0_5.size : Int) := of_decide_eq_true (by first | (with_reducible assumption) | assumption)
              have hx23 := bt_at x0_5 x3_4
              replace p23 := eq_true p23
              replace q23 := eq_true q23
              go_wp2
              go_ret
              exact ⟨by first | rfl | (simp; done) | (simp [*]; done), by repeat (first | exact Drawn0.refl _ | apply Drawn0.step)⟩
             ·rw [if_neg c24] at H
              have c24b0 : decide (57 < (bt x0_5 x3_4)) = false := decide_eq_false c24
              clear c24
              have H' := Aside0.mk H
              clear H
              have p21 : 0 ≤ (x3_4 : Int) := of_decide_eq_true (by first | (with_reducible assumption) | assumption)
              have q21 : x3_4 < (x0_5.size : Int) := of_decide_eq_true (by first | (with_reducible assumption) | assumption)
              have hx21 := bt_at x0_5 x3_4
              replace p21 := eq_true p21
              replace q21 := eq_true q21
              have p23 : 0 ≤ (x3_4 : Int) := of_decide_eq_true (by first | (with_reducible assumption) | assumption)
              have q23 : x3_4 < (x0_5.size : Int) := of_decide_eq_true (by first | (with_reducible assumption) | assumption)
              have hx23 := bt_at x0_5 x3_4
              replace p23 := eq_true p23
              replace q23 := eq_true q23
              go_wp2
              go_roundg k4
              case measure => have := HJ1.out; have := HJ5.out; have := HJ12.out; have := HK4.out; omega
              case rel => exact ⟨(wrap64 (x3_4 + 1)), (by first | rfl | (simp; done) | (simp [*]; done)), H', ⟨by have := HJ1.out; have := HJ5.out; have := HJ12.out; have := HK4.out; omega⟩, by repeat (first | exact Drawn0.refl _ | apply Drawn0.step)⟩
           ·rw [if_neg c20] at H
            exact absurd H (by simp)
          ·rw [if_neg c19] at H
           have c19b0 : decide (x3_4 < (x0_5.size : Int)) = false := decide_eq_false c19
           clear c19
           obtain rfl := Option.some.inj H
           go_wp2
           go_ret
           exact ⟨by first | rfl | (simp; done) | (simp [*]; done), by repeat (first | exact Drawn0.refl _ | apply Drawn0.step)⟩

/-! ### ref01_Parse: function 11 -/
mutual
def ref01_Parse.j0 : Nat → ByteArray → Bool → Option (Int × Int)
 | 0, _, _ => none
 | k + 1, x0, x4 => ref01_Parse.l0 k x0 x4 0 0
def ref01_Parse.l0 : Nat → ByteArray → Bool → Int → Int → Option (Int × Int)
 | 0, _, _, _, _ => none
 | k + 1, x0, x4, x5, x6 => if x6 < (x0.size : Int) then (if 0 ≤ x6 then (if x5 < (-922337203685477580) then (some (0, 2)) else (if (wrap64 (x5 * 10)) < ((-9223372036854775808) + (((bt x0 x6) - 48) % 256)) then (some (0, 2)) else (ref01_Parse.l0 k x0 x4 (wrap64 ((wrap64 (x5 * 10)) - (((bt x0 x6) - 48) % 256))) (wrap64 (x6 + 1))))) else (none)) else (if x4 = true then (some (x5, 0)) else ((ref01_Neg.f x5).bind fun bt119 => (some (bt119.1, bt119.2))))
end
def ref01_Parse.f (k : Nat) (a0 : ByteArray) : Option (Int × Int) := (ref01_form.f k a0).bind fun t118 => (if t118 = true then (if 0 < (a0.size : Int) then (if (bt a0 0) = 45 then (if 1 ≤ (a0.size : Int) then (ref01_Parse.j0 k (a0.extract 1 a0.size) ((bt a0 0) == 45)) else (none)) else (ref01_Parse.j0 k a0 ((bt a0 0) == 45))) else (none)) else (some (0, 5)))
theorem ref01_Parse.mono_l : ∀ k, (∀ y0 y1, LeO (ref01_Parse.j0 k y0 y1) (ref01_Parse.j0 (k + 1) y0 y1)) ∧ (∀ y0 y1 y2 y3, LeO (ref01_Parse.l0 k y0 y1 y2 y3) (ref01_Parse.l0 (k + 1) y0 y1 y2 y3))
 | 0 => ⟨fun _ _ r h => by simp [ref01_Parse.j0] at h, fun _ _ _ _ r h => by simp [ref01_Parse.l0] at h⟩
 | k + 1 => by
  obtain ⟨ih0, ih1⟩ := ref01_Parse.mono_l k
  refine ⟨?_, ?_⟩
  ·intro y0 y1
   unfold ref01_Parse.j0
   repeat' first
   | (with_reducible exact ih0 _ _)
   | (with_reducible exact ih1 _ _ _ _)
   | (with_reducible exact ref01_form.mono _ _)
   | (with_reducible exact LeO.refl _)
   | (with_reducible exact LeO.none _)
   | (with_reducible refine LeO.ite ?_ ?_)
   | (with_reducible refine LeO.bind ?_ (fun _ => ?_))
   | exact ih0 _ _
   | exact ih1 _ _ _ _
   | exact ref01_form.mono _ _
   | exact LeO.none _
   | refine LeO.ite ?_ ?_
   | refine LeO.bind ?_ (fun _ => ?_)
  ·intro y0 y1 y2 y3
   unfold ref01_Parse.l0
   repeat' first
   | (with_reducible exact ih0 _ _)
   | (with_reducible exact ih1 _ _ _ _)
   | (with_reducible exact ref01_form.mono _ _)
   | (with_reducible exact LeO.refl _)
   | (with_reducible exact LeO.none _)
   | (with_reducible refine LeO.ite ?_ ?_)
   | (with_reducible refine LeO.bind ?_ (fun _ => ?_))
   | exact ih0 _ _
   | exact ih1 _ _ _ _
   | exact ref01_form.mono _ _
   | exact LeO.none _
   | refine LeO.ite ?_ ?_
   | refine LeO.bind ?_ (fun _ => ?_)
theorem ref01_Parse.mono : ∀ a0 k, LeO (ref01_Parse.f k a0) (ref01_Parse.f (k + 1) a0) := by
 intro a0 k
 obtain ⟨ih0, ih1⟩ := ref01_Parse.mono_l k
 unfold ref01_Parse.f
 repeat' first
   | (with_reducible exact ih0 _ _)
   | (with_reducible exact ih1 _ _ _ _)
   | (with_reducible exact ref01_form.mono _ _)
   | (with_reducible exact LeO.refl _)
   | (with_reducible exact LeO.none _)
   | (with_reducible refine LeO.ite ?_ ?_)
   | (with_reducible refine LeO.bind ?_ (fun _ => ?_))
   | exact ih0 _ _
   | exact ih1 _ _ _ _
   | exact ref01_form.mono _ _
   | exact LeO.none _
   | refine LeO.ite ?_ ?_
   | refine LeO.bind ?_ (fun _ => ?_)
set_option maxHeartbeats 8000000 in
set_option maxRecDepth 100000 in
theorem ref01_Parse.calls (k : Nat) (a0 : ByteArray) (r1 : Int) (r2 : Int) (w : World) (h : ref01_Parse.f k a0 = some (r1, r2)) :
  Calls Tryd.prog 11 #[.string a0] w fun e w' => e = .returned (.tuple #[.int .i64 r1, .int .i64 r2]) ∧ Drawn0 w w' := by
 have H : ((ref01_form.f k a0).bind fun t118 => (if t118 = true then (if 0 < (a0.size : Int) then (if (bt a0 0) = 45 then (if 1 ≤ (a0.size : Int) then (ref01_Parse.j0 k (a0.extract 1 a0.size) ((bt a0 0) == 45)) else (none)) else (ref01_Parse.j0 k a0 ((bt a0 0) == 45))) else (none)) else (some (0, 5)))) = some (r1, r2) := h
 clear h
 replace H := Option.bind_eq_some_iff.mp H
 obtain ⟨t118, A20, H⟩ := H
 replace H : (if t118 = true then (if 0 < (a0.size : Int) then (if (bt a0 0) = 45 then (if 1 ≤ (a0.size : Int) then (ref01_Parse.j0 k (a0.extract 1 a0.size) ((bt a0 0) == 45)) else (none)) else (ref01_Parse.j0 k a0 ((bt a0 0) == 45))) else (none)) else (some (0, 5))) = some (r1, r2) := H
 have A2 := Aside0.mk A20
 clear A20
 by_cases c3 : t118 = true
 ·subst c3
  have H1 : (if 0 < (a0.size : Int) then (if (bt a0 0) = 45 then (if 1 ≤ (a0.size : Int) then (ref01_Parse.j0 k (a0.extract 1 a0.size) ((bt a0 0) == 45)) else (none)) else (ref01_Parse.j0 k a0 ((bt a0 0) == 45))) else (none)) = some (r1, r2) := by rw [if_pos rfl] at H; exact H
  clear H
  have H := H1
  clear H1
  by_cases c4 : 0 < (a0.size : Int)
  ·rw [if_pos c4] at H
   have c4b0 : decide (0 < (a0.size : Int)) = true := decide_eq_true c4
   have c4b1 : decide (0 < a0.size) = true := decide_eq_true (by omega)
   clear c4
   have HC6 := Aside0.mk H
   clear H
   go_enter Tryd.func11, Tryd.ntmps11
   go_upto_if 14 with (first | ((with_reducible refine gate_callee (f := 26) rfl ?_); refine RFn.goesM (some 9) Tryd.func26 #[.string a0] rfl ?_; (with_reducible refine (ref01_form.calls k a0 true _ A2.out).mono ?_); rintro e w' ⟨rfl, ⟨nd, rfl⟩⟩; refine ⟨_, rfl, ?_⟩; have p5 : 0 ≤ (0 : Int) := (by omega); have q5 : 0 < a0.size := (by have : (0 : Int) < (a0.size : Int) := of_decide_eq_true (by first | (with_reducible assumption) | assumption); omega); have hx5 : ∀ h : 0 < a0.size, ((a0[0]'h).toNat : Int) = bt a0 0 := bt_at a0 0; clear p5; have qi5 : (0 < (a0.size : Int)) = True := eq_true (of_decide_eq_true (by first | (with_reducible assumption) | assumption)); replace q5 := eq_true q5))
   (try simp only [Act.put, List.setIfInBounds_toArray, List.set_cons_zero, List.set_cons_succ])
   go_cut [0] (fun v0 wc => ∃ (kq : Nat) (x0_5 : ByteArray), v0 = .string x0_5 ∧ Aside0 (ref01_Parse.j0 kq x0_5 ((bt a0 0) == 45) = some (r1, r2)) ∧ Aside0 (kq ≤ k) ∧ Drawn0 w wc)
   case first =>
    have H := HC6.out
    clear HC6
    by_cases c7 : (bt a0 0) = 45
    ·rw [if_pos c7] at H
     have c7b0 : ((bt a0 0) == 45) = true := beq_iff_eq.mpr c7
     have c7b1 : ((bt a0 0) != 45) = false := bne_eq_false_iff_eq.mpr c7
     clear c7
     (first | rw [c7b0] | (simp only [i64_w, i32_w]; rw [c7b0]) | skip)
     by_cases c8 : 1 ≤ (a0.size : Int)
     ·rw [if_pos c8] at H
      have c8b0 := eq_true c8
      have c8b1 : decide (1 ≤ (a0.size : Int)) = true := decide_eq_true c8
      clear c8
      have H' := Aside0.mk H
      clear H
      go_wp2
      first | go_meet | (simp only [c7b0] at *; go_meet)
      case rel => exact ⟨_, (a0.extract 1 a0.size), (by first | rfl | (simp; done) | (simp [*]; done)), H', ⟨by first | omega | exact Nat.le_refl _⟩, by repeat (first | exact Drawn0.refl _ | apply Drawn0.step)⟩
     ·rw [if_neg c8] at H
      exact absurd H (by simp)
    ·rw [if_neg c7] at H
     have c7b0 : ((bt a0 0) == 45) = false := beq_eq_false_iff_ne.mpr c7
     have c7b1 : ((bt a0 0) != 45) = true := bne_iff_ne.mpr c7
     (first | rw [c7b0] | (simp only [i64_w, i32_w]; rw [c7b0]) | skip)
     have H' := Aside0.mk H
     clear H
     go_wp2
     first | go_meet | (simp only [c7b0] at *; go_meet)
     case rel => exact ⟨_, (a0), (by first | rfl | (simp; done) | (simp [*]; done)), H', ⟨by first | omega | exact Nat.le_refl _⟩, by repeat (first | exact Drawn0.refl _ | apply Drawn0.step)⟩
   case rest =>
    clear HC6
    try clear c1
    try clear c2
    try clear p2
    try clear c3
    try clear c4
    try clear c4b0
    try clear c4b1
    try clear p5
    try clear q5
    try clear hx5
    try clear qi5
    try clear c7
    try clear c7b0
    try clear c7b1
    try clear c8
    try clear c8b0
    try clear c8b1
    try clear p5
    try clear q5
    obtain ⟨kq, x0_5, rfl, HA, HJ5, ⟨mc5, rfl⟩⟩ := hcut
    cases kq with
    | zero => exact absurd HA.out (by simp [ref01_Parse.j0])
    | succ kj5 =>
     have H := HA.out
     clear HA
     simp only [ref01_Parse.j0] at H
     have H' := Aside0.mk H
     clear H
     go_wp2
     go_loopg [5, 6] kj5 (fun kq v5 v6 w' => ∃ (x5_2 : Int) (x6_2 : Int), v5 = .int .i64 x5_2 ∧ v6 = .int .i64 x6_2 ∧ Aside0 (ref01_Parse.l0 kq x0_5 ((bt a0 0) == 45) x5_2 x6_2 = some (r1, r2)) ∧ Aside0 (kq ≤ kj5) ∧ Drawn0 w w')
     case atStart => exact ⟨(0), (0), (by first | rfl | (simp; done) | (simp [*]; done)), (by first | rfl | (simp; done) | (simp [*]; done)), H', ⟨Nat.le_refl _⟩, by repeat (first | exact Drawn0.refl _ | apply Drawn0.step)⟩
     case round =>
      clear H'
      try clear c1
      try clear c2
      try clear p2
      try clear c3
      try clear c4
      try clear c4b0
      try clear c4b1
      try clear c5
      try clear p5
      try clear q5
      try clear hx5
      try clear qi5
      try clear c7
      try clear c7b0
      try clear c7b1
      try clear c8
      try clear c8b0
      try clear c8b1
      try clear p2
      try clear p5
      try clear q5
      obtain ⟨x5_2, x6_2, rfl, rfl, HA, HK2, ⟨m2, rfl⟩⟩ := hrel
      cases gk with
      | zero => exact absurd HA.out (by simp [ref01_Parse.l0])
      | succ k2 =>
       have H := HA.out
       clear HA
       simp only [ref01_Parse.l0] at H
       by_cases c9 : x6_2 < (x0_5.size : Int)
       ·rw [if_pos c9] at H
        have c9b0 : decide (x6_2 < (x0_5.size : Int)) = true := decide_eq_true c9
        clear c9
        by_cases c10 : 0 ≤ x6_2
        ·rw [if_pos c10] at H
         have c10b0 : decide (0 ≤ x6_2) = true := decide_eq_true c10
         clear c10
         by_cases c12 : x5_2 < (-922337203685477580)
         ·rw [if_pos c12] at H
          have c12b0 : decide (x5_2 < (-922337203685477580)) = true := decide_eq_true c12
          clear c12
          simp only [Option.some.injEq, Prod.mk.injEq] at H
          obtain ⟨rfl, rfl⟩ := H
          have p11 : 0 ≤ (x6_2 : Int) := of_decide_eq_true (by first | (with_reducible assumption) | assumption)
          have q11 : x6_2 < (x0_5.size : Int) := of_decide_eq_true (by first | (with_reducible assumption) | assumption)
          have hx11 := bt_at x0_5 x6_2
          replace p11 := eq_true p11
          replace q11 := eq_true q11
          go_wp2
          go_ret2
          exact ⟨by first | rfl | (simp; done) | (simp [*]; done), by repeat (first | exact Drawn0.refl _ | apply Drawn0.step)⟩
         ·rw [if_neg c12] at H
          have c12b0 : decide (x5_2 < (-922337203685477580)) = false := decide_eq_false c12
          clear c12
          by_cases c13 : (wrap64 (x5_2 * 10)) < ((-9223372036854775808) + (((bt x0_5 x6_2) - 48) % 256))
          ·rw [if_pos c13] at H
           have c13b0 : decide ((wrap64 (x5_2 * 10)) < ((-9223372036854775808) + (((bt x0_5 x6_2) - 48) % 256))) = true := decide_eq_true c13
           clear c13
           simp only [Option.some.injEq, Prod.mk.injEq] at H
           obtain ⟨rfl, rfl⟩ := H
           have p11 : 0 ≤ (x6_2 : Int) := of_decide_eq_true (by first | (with_reducible assumption) | assumption)
           have q11 : x6_2 < (x0_5.size : Int) := of_decide_eq_true (by first | (with_reducible assumption) | assumption)
           have hx11 := bt_at x0_5 x6_2
           replace p11 := eq_true p11
           replace q11 := eq_true q11
           go_wp2
           go_ret2
           exact ⟨by first | rfl | (simp; done) | (simp [*]; done), by repeat (first | exact Drawn0.refl _ | apply Drawn0.step)⟩
          ·rw [if_neg c13] at H
           have c13b0 : decide ((wrap64 (x5_2 * 10)) < ((-9223372036854775808) + (((bt x0_5 x6_2) - 48) % 256))) = false := decide_eq_false c13
           clear c13
           have H' := Aside0.mk H
           clear H
           have p11 : 0 ≤ (x6_2 : Int) := of_decide_eq_true (by first | (with_reducible assumption) | assumption)
           have q11 : x6_2 < (x0_5.size : Int) := of_decide_eq_true (by first | (with_reducible assumption) | assumption)
           have hx11 := bt_at x0_5 x6_2
           replace p11 := eq_true p11
           replace q11 := eq_true q11
           go_wp2
           go_roundg k2
           case measure => have := HJ5.out; have := HK2.out; omega
           case rel => exact ⟨(wrap64 ((wrap64 (x5_2 * 10)) - (((bt x0_5 x6_2) - 48) % 256))), (wrap64 (x6_2 + 1)), (by first | rfl | (simp; done) | (simp [*]; done)), (by first | rfl | (simp; done) | (simp [*]; done)), H', ⟨by have := HJ5.out; have := HK2.out; omega⟩, by repeat (first | exact Drawn0.refl _ | apply Drawn0.step)⟩
        ·rw [if_neg c10] at H
         exact absurd H (by simp)
       ·rw [if_neg c9] at H
        have c9b0 : decide (x6_2 < (x0_5.size : Int)) = false := decide_eq_false c9
        clear c9
        by_cases c14 : ((bt a0 0) == 45) = true
        ·rw [if_pos c14] at H
         have c14b0 : ((bt a0 0) == 45) = true := c14
         (try (have c14b1 : decide ((bt a0 0) = 45) = true := by simpa using c14))
         (try (have c14b2 : ((bt a0 0) == 45) = true := by simpa using c14))
         clear c14
         simp only [Option.some.injEq, Prod.mk.injEq] at H
         obtain ⟨rfl, rfl⟩ := H
         go_wp2
         go_ret2
         exact ⟨by first | rfl | (simp; done) | (simp [*]; done), by repeat (first | exact Drawn0.refl _ | apply Drawn0.step)⟩
        ·rw [if_neg c14] at H
         have c14b0 : ((bt a0 0) == 45) = false := by simpa using c14
         (try (have c14b1 : decide ((bt a0 0) = 45) = false := by simpa using c14))
         (try (have c14b2 : ((bt a0 0) == 45) = false := by simpa using c14))
         (try (have c14b3 : ¬ ((bt a0 0) = 45) := by simpa using c14))
         clear c14
         replace H := Option.bind_eq_some_iff.mp H
         obtain ⟨⟨t119, t120⟩, A150, H⟩ := H
         replace H : (some (t119, t120)) = some (r1, r2) := H
         have A15 := Aside0.mk A150
         clear A150
         simp only [Option.some.injEq, Prod.mk.injEq] at H
         obtain ⟨rfl, rfl⟩ := H
         go_wp2_with (first | ((with_reducible refine gate_callee (f := 20) rfl ?_); refine RFn.goesM (some 44) Tryd.func20 #[.int .i64 x5_2] rfl ?_; (with_reducible refine (ref01_Neg.calls x5_2 t119 t120 _ A15.out).mono ?_); rintro e w' ⟨rfl, ⟨nd, rfl⟩⟩; refine ⟨_, rfl, ?_⟩))
         go_ret2
         exact ⟨by first | rfl | (simp; done) | (simp [*]; done), by repeat (first | exact Drawn0.refl _ | apply Drawn0.step)⟩
  ·rw [if_neg c4] at H
   exact absurd H (by simp)
 ·replace c3 := Bool.eq_false_iff.mpr c3
  subst c3
  have H1 : (some (0, 5)) = some (r1, r2) := by rw [if_neg (show ¬ (false = true) by decide)] at H; exact H
  clear H
  have H := H1
  clear H1
  simp only [Option.some.injEq, Prod.mk.injEq] at H
  obtain ⟨rfl, rfl⟩ := H
  go_enter Tryd.func11, Tryd.ntmps11
  go_wp2_with (first | ((with_reducible refine gate_callee (f := 26) rfl ?_); refine RFn.goesM (some 9) Tryd.func26 #[.string a0] rfl ?_; (with_reducible refine (ref01_form.calls k a0 false _ A2.out).mono ?_); rintro e w' ⟨rfl, ⟨nd, rfl⟩⟩; refine ⟨_, rfl, ?_⟩))
  go_ret2
  exact ⟨by first | rfl | (simp; done) | (simp [*]; done), by repeat (first | exact Drawn0.refl _ | apply Drawn0.step)⟩

/-! ### ref01_Print: function 13 -/
mutual
def ref01_Print.j0 : Nat → Int → ByteArray → Option (ByteArray)
 | 0, _, _ => none
 | k + 1, x0, x3 => ref01_Print.l0 k x0 x3 (⟨#[]⟩ : ByteArray)
def ref01_Print.l0 : Nat → Int → ByteArray → ByteArray → Option (ByteArray)
 | 0, _, _, _ => none
 | k + 1, x0, x3, x4 => if x0 = 0 then (if x3.size + x4.size ≤ 9223372036854775807 then (some (x3 ++ x4)) else (none)) else (if (Int.tmod x0 10) < 0 then (if 0 ≤ (wrap64 (-(Int.tmod x0 10))) then (if (wrap64 (-(Int.tmod x0 10))) ≤ (wrap64 ((wrap64 (-(Int.tmod x0 10))) + 1)) then (if (wrap64 ((wrap64 (-(Int.tmod x0 10))) + 1)) ≤ 10 then (if ((⟨#[48, 49, 50, 51, 52, 53, 54, 55, 56, 57]⟩ : ByteArray).extract ((wrap64 (-(Int.tmod x0 10))) : Int).toNat ((wrap64 ((wrap64 (-(Int.tmod x0 10))) + 1)) : Int).toNat).size + x4.size ≤ 9223372036854775807 then (ref01_Print.l0 k (wrap64 (Int.tdiv x0 10)) x3 (((⟨#[48, 49, 50, 51, 52, 53, 54, 55, 56, 57]⟩ : ByteArray).extract ((wrap64 (-(Int.tmod x0 10))) : Int).toNat ((wrap64 ((wrap64 (-(Int.tmod x0 10))) + 1)) : Int).toNat) ++ x4)) else (none)) else (none)) else (none)) else (none)) else (if 0 ≤ (Int.tmod x0 10) then (if (Int.tmod x0 10) ≤ (wrap64 ((Int.tmod x0 10) + 1)) then (if (wrap64 ((Int.tmod x0 10) + 1)) ≤ 10 then (if ((⟨#[48, 49, 50, 51, 52, 53, 54, 55, 56, 57]⟩ : ByteArray).extract ((Int.tmod x0 10) : Int).toNat ((wrap64 ((Int.tmod x0 10) + 1)) : Int).toNat).size + x4.size ≤ 9223372036854775807 then (ref01_Print.l0 k (wrap64 (Int.tdiv x0 10)) x3 (((⟨#[48, 49, 50, 51, 52, 53, 54, 55, 56, 57]⟩ : ByteArray).extract ((Int.tmod x0 10) : Int).toNat ((wrap64 ((Int.tmod x0 10) + 1)) : Int).toNat) ++ x4)) else (none)) else (none)) else (none)) else (none)))
end
def ref01_Print.f (k : Nat) (a0 : Int) : Option (ByteArray) := if a0 = 0 then (some (⟨#[48]⟩ : ByteArray)) else (if a0 < 0 then (ref01_Print.j0 k a0 (⟨#[45]⟩ : ByteArray)) else (ref01_Print.j0 k a0 (⟨#[]⟩ : ByteArray)))
theorem ref01_Print.mono_l : ∀ k, (∀ y0 y1, LeO (ref01_Print.j0 k y0 y1) (ref01_Print.j0 (k + 1) y0 y1)) ∧ (∀ y0 y1 y2, LeO (ref01_Print.l0 k y0 y1 y2) (ref01_Print.l0 (k + 1) y0 y1 y2))
 | 0 => ⟨fun _ _ r h => by simp [ref01_Print.j0] at h, fun _ _ _ r h => by simp [ref01_Print.l0] at h⟩
 | k + 1 => by
  obtain ⟨ih0, ih1⟩ := ref01_Print.mono_l k
  refine ⟨?_, ?_⟩
  ·intro y0 y1
   unfold ref01_Print.j0
   repeat' first
   | (with_reducible exact ih0 _ _)
   | (with_reducible exact ih1 _ _ _)
   | (with_reducible exact LeO.refl _)
   | (with_reducible exact LeO.none _)
   | (with_reducible refine LeO.ite ?_ ?_)
   | (with_reducible refine LeO.bind ?_ (fun _ => ?_))
   | exact ih0 _ _
   | exact ih1 _ _ _
   | exact LeO.none _
   | refine LeO.ite ?_ ?_
   | refine LeO.bind ?_ (fun _ => ?_)
  ·intro y0 y1 y2
   unfold ref01_Print.l0
   repeat' first
   | (with_reducible exact ih0 _ _)
   | (with_reducible exact ih1 _ _ _)
   | (with_reducible exact LeO.refl _)
   | (with_reducible exact LeO.none _)
   | (with_reducible refine LeO.ite ?_ ?_)
   | (with_reducible refine LeO.bind ?_ (fun _ => ?_))
   | exact ih0 _ _
   | exact ih1 _ _ _
   | exact LeO.none _
   | refine LeO.ite ?_ ?_
   | refine LeO.bind ?_ (fun _ => ?_)
theorem ref01_Print.mono : ∀ a0 k, LeO (ref01_Print.f k a0) (ref01_Print.f (k + 1) a0) := by
 intro a0 k
 obtain ⟨ih0, ih1⟩ := ref01_Print.mono_l k
 unfold ref01_Print.f
 repeat' first
   | (with_reducible exact ih0 _ _)
   | (with_reducible exact ih1 _ _ _)
   | (with_reducible exact LeO.refl _)
   | (with_reducible exact LeO.none _)
   | (with_reducible refine LeO.ite ?_ ?_)
   | (with_reducible refine LeO.bind ?_ (fun _ => ?_))
   | exact ih0 _ _
   | exact ih1 _ _ _
   | exact LeO.none _
   | refine LeO.ite ?_ ?_
   | refine LeO.bind ?_ (fun _ => ?_)
set_option maxHeartbeats 8000000 in
set_option maxRecDepth 100000 in
theorem ref01_Print.calls (k : Nat) (a0 : Int) (r : ByteArray) (w : World) (h : ref01_Print.f k a0 = some r) :
  Calls Tryd.prog 13 #[.int .i64 a0] w fun e w' => e = .returned (.string r) ∧ Drawn0 w w' := by
 have H : (if a0 = 0 then (some (⟨#[48]⟩ : ByteArray)) else (if a0 < 0 then (ref01_Print.j0 k a0 (⟨#[45]⟩ : ByteArray)) else (ref01_Print.j0 k a0 (⟨#[]⟩ : ByteArray)))) = some r := h
 clear h
 by_cases c2 : a0 = 0
 ·rw [if_pos c2] at H
  have c2b0 : (a0 == 0) = true := beq_iff_eq.mpr c2
  have c2b1 : (a0 != 0) = false := bne_eq_false_iff_eq.mpr c2
  clear c2
  obtain rfl := Option.some.inj H
  go_enter Tryd.func13, Tryd.ntmps13
  go_wp2
  go_ret
  exact ⟨by first | rfl | (simp; done) | (simp [*]; done), by repeat (first | exact Drawn0.refl _ | apply Drawn0.step)⟩
 ·rw [if_neg c2] at H
  have c2b0 : (a0 == 0) = false := beq_eq_false_iff_ne.mpr c2
  have c2b1 : (a0 != 0) = true := bne_iff_ne.mpr c2
  have HC3 := Aside0.mk H
  clear H
  go_enter Tryd.func13, Tryd.ntmps13
  go_upto_if 9 with (fail)
  go_cut [3] (fun v3 wc => ∃ (kq : Nat) (x3_2 : ByteArray), v3 = .string x3_2 ∧ Aside0 (ref01_Print.j0 kq a0 x3_2 = some r) ∧ Aside0 (kq ≤ k) ∧ Drawn0 w wc)
  case first =>
   have H := HC3.out
   clear HC3
   by_cases c4 : a0 < 0
   ·rw [if_pos c4] at H
    have c4b0 : decide (a0 < 0) = true := decide_eq_true c4
    clear c4
    (first | rw [c4b0] | (simp only [i64_w, i32_w]; rw [c4b0]) | skip)
    have H' := Aside0.mk H
    clear H
    go_wp2
    go_meet
    case rel => exact ⟨_, ((⟨#[45]⟩ : ByteArray)), (by first | rfl | (simp; done) | (simp [*]; done)), H', ⟨by first | omega | exact Nat.le_refl _⟩, by repeat (first | exact Drawn0.refl _ | apply Drawn0.step)⟩
   ·rw [if_neg c4] at H
    have c4b0 : decide (a0 < 0) = false := decide_eq_false c4
    clear c4
    (first | rw [c4b0] | (simp only [i64_w, i32_w]; rw [c4b0]) | skip)
    have H' := Aside0.mk H
    clear H
    go_wp2
    go_meet
    case rel => exact ⟨_, ((⟨#[]⟩ : ByteArray)), (by first | rfl | (simp; done) | (simp [*]; done)), H', ⟨by first | omega | exact Nat.le_refl _⟩, by repeat (first | exact Drawn0.refl _ | apply Drawn0.step)⟩
  case rest =>
   clear HC3
   try clear c1
   try clear c2
   try clear c2b0
   try clear c2b1
   try clear p2
   try clear c4
   try clear c4b0
   obtain ⟨kq, x3_2, rfl, HA, HJ2, ⟨mc2, rfl⟩⟩ := hcut
   cases kq with
   | zero => exact absurd HA.out (by simp [ref01_Print.j0])
   | succ kj2 =>
    have H := HA.out
    clear HA
    simp only [ref01_Print.j0] at H
    have H' := Aside0.mk H
    clear H
    go_wp2
    go_loopg [0, 4] kj2 (fun kq v0 v4 w' => ∃ (x0_2 : Int) (x4_2 : ByteArray), v0 = .int .i64 x0_2 ∧ v4 = .string x4_2 ∧ Aside0 (ref01_Print.l0 kq x0_2 x3_2 x4_2 = some r) ∧ Aside0 (kq ≤ kj2) ∧ Drawn0 w w')
    case atStart => exact ⟨(a0), ((⟨#[]⟩ : ByteArray)), (by first | rfl | (simp; done) | (simp [*]; done)), (by first | rfl | (simp; done) | (simp [*]; done)), H', ⟨Nat.le_refl _⟩, by repeat (first | exact Drawn0.refl _ | apply Drawn0.step)⟩
    case round =>
     clear H'
     try clear c1
     try clear c2
     try clear c2b0
     try clear c2b1
     try clear p2
     try clear c4
     try clear c4b0
     try clear p2
     obtain ⟨x0_2, x4_2, rfl, rfl, HA, HK2, ⟨m2, rfl⟩⟩ := hrel
     cases gk with
     | zero => exact absurd HA.out (by simp [ref01_Print.l0])
     | succ k2 =>
      have H := HA.out
      clear HA
      simp only [ref01_Print.l0] at H
      by_cases c5 : x0_2 = 0
      ·rw [if_pos c5] at H
       have c5b0 : (x0_2 == 0) = true := beq_iff_eq.mpr c5
       have c5b1 : (x0_2 != 0) = false := bne_eq_false_iff_eq.mpr c5
       clear c5
       by_cases c6 : x3_2.size + x4_2.size ≤ 9223372036854775807
       ·rw [if_pos c6] at H
        have c6b0 := eq_true c6
        have c6b1 : decide (x3_2.size + x4_2.size ≤ 9223372036854775807) = true := decide_eq_true c6
        try have c6b2 : (9223372036854775807 < x3_2.size + x4_2.size) = False := eq_false (Nat.not_lt.2 c6)
        obtain rfl := Option.some.inj H
        go_wp2
        go_ret
        exact ⟨by first | rfl | (simp; done) | (simp [*]; done), by repeat (first | exact Drawn0.refl _ | apply Drawn0.step)⟩
       ·rw [if_neg c6] at H
        exact absurd H (by simp)
      ·rw [if_neg c5] at H
       have c5b0 : (x0_2 == 0) = false := beq_eq_false_iff_ne.mpr c5
       have c5b1 : (x0_2 != 0) = true := bne_iff_ne.mpr c5
       by_cases c7 : (Int.tmod x0_2 10) < 0
       ·rw [if_pos c7] at H
        have c7b0 : decide ((Int.tmod x0_2 10) < 0) = true := decide_eq_true c7
        clear c7
        obtain ⟨ji8, hji8⟩ : ∃ j_ : Int, (wrap64 (-(Int.tmod x0_2 10))) = j_ := ⟨_, rfl⟩
        replace H : (if 0 ≤ (ji8) then (if (ji8) ≤ (wrap64 ((ji8) + 1)) then (if (wrap64 ((ji8) + 1)) ≤ 10 then (if ((⟨#[48, 49, 50, 51, 52, 53, 54, 55, 56, 57]⟩ : ByteArray).extract ((ji8) : Int).toNat ((wrap64 ((ji8) + 1)) : Int).toNat).size + x4_2.size ≤ 9223372036854775807 then (ref01_Print.l0 k2 (wrap64 (Int.tdiv x0_2 10)) x3_2 (((⟨#[48, 49, 50, 51, 52, 53, 54, 55, 56, 57]⟩ : ByteArray).extract ((ji8) : Int).toNat ((wrap64 ((ji8) + 1)) : Int).toNat) ++ x4_2)) else (none)) else (none)) else (none)) else (none)) = some r := by first | (rw [hji8] at H; exact H) | (simp only [hji8] at H ⊢; exact H)
        have hji8w : (IntKind.i64.wrap (-(Int.tmod x0_2 10))) = ji8 := (i64_w _).trans hji8
        by_cases c9 : 0 ≤ (ji8)
        ·rw [if_pos c9] at H
         have c9b0 := eq_true c9
         have c9b1 : decide (0 ≤ (ji8)) = true := decide_eq_true c9
         clear c9
         by_cases c10 : (ji8) ≤ (wrap64 ((ji8) + 1))
         ·rw [if_pos c10] at H
          have c10b0 := eq_true c10
          have c10b1 : decide ((ji8) ≤ (wrap64 ((ji8) + 1))) = true := decide_eq_true c10
          by_cases c11 : (wrap64 ((ji8) + 1)) ≤ 10
          ·rw [if_pos c11] at H
           have c11b0 := eq_true c11
           have c11b1 : decide ((wrap64 ((ji8) + 1)) ≤ 10) = true := decide_eq_true c11
           by_cases c12 : ((⟨#[48, 49, 50, 51, 52, 53, 54, 55, 56, 57]⟩ : ByteArray).extract ((ji8) : Int).toNat ((wrap64 ((ji8) + 1)) : Int).toNat).size + x4_2.size ≤ 9223372036854775807
           ·rw [if_pos c12] at H
            have c12b0 := eq_true c12
            have c12b1 : decide (((⟨#[48, 49, 50, 51, 52, 53, 54, 55, 56, 57]⟩ : ByteArray).extract ((ji8) : Int).toNat ((wrap64 ((ji8) + 1)) : Int).toNat).size + x4_2.size ≤ 9223372036854775807) = true := decide_eq_true c12
            try have c12b2 : (9223372036854775807 < ((⟨#[48, 49, 50, 51, 52, 53, 54, 55, 56, 57]⟩ : ByteArray).extract ((ji8) : Int).toNat ((wrap64 ((ji8) + 1)) : Int).toNat).size + x4_2.size) = False := eq_false (Nat.not_lt.2 c12)
            have H' := Aside0.mk H
            clear H
            go_wp2
            go_roundg k2
            case measure => have := HJ2.out; have := HK2.out; omega
            case rel => exact ⟨(wrap64 (Int.tdiv x0_2 10)), (((⟨#[48, 49, 50, 51, 52, 53, 54, 55, 56, 57]⟩ : ByteArray).extract ((ji8) : Int).toNat ((wrap64 ((ji8) + 1)) : Int).toNat) ++ x4_2), (by first | rfl | (simp; done) | (simp [*]; done)), (by first | rfl | (simp; done) | (simp only [← hji8] <;> (first | rfl | simp)) | (simp [*]; done)), H', ⟨by have := HJ2.out; have := HK2.out; omega⟩, by repeat (first | exact Drawn0.refl _ | apply Drawn0.step)⟩
           ·rw [if_neg c12] at H
            exact absurd H (by simp)
          ·rw [if_neg c11] at H
           exact absurd H (by simp)
         ·rw [if_neg c10] at H
          exact absurd H (by simp)
        ·rw [if_neg c9] at H
         exact absurd H (by simp)
       ·rw [if_neg c7] at H
        have c7b0 : decide ((Int.tmod x0_2 10) < 0) = false := decide_eq_false c7
        clear c7
        obtain ⟨ji13, hji13⟩ : ∃ j_ : Int, (Int.tmod x0_2 10) = j_ := ⟨_, rfl⟩
        replace H : (if 0 ≤ (ji13) then (if (ji13) ≤ (wrap64 ((ji13) + 1)) then (if (wrap64 ((ji13) + 1)) ≤ 10 then (if ((⟨#[48, 49, 50, 51, 52, 53, 54, 55, 56, 57]⟩ : ByteArray).extract ((ji13) : Int).toNat ((wrap64 ((ji13) + 1)) : Int).toNat).size + x4_2.size ≤ 9223372036854775807 then (ref01_Print.l0 k2 (wrap64 (Int.tdiv x0_2 10)) x3_2 (((⟨#[48, 49, 50, 51, 52, 53, 54, 55, 56, 57]⟩ : ByteArray).extract ((ji13) : Int).toNat ((wrap64 ((ji13) + 1)) : Int).toNat) ++ x4_2)) else (none)) else (none)) else (none)) else (none)) = some r := by first | (rw [hji13] at H; exact H) | (simp only [hji13] at H ⊢; exact H)
        (try rw [hji13] at c7b0)
        by_cases c14 : 0 ≤ (ji13)
        ·rw [if_pos c14] at H
         have c14b0 := eq_true c14
         have c14b1 : decide (0 ≤ (ji13)) = true := decide_eq_true c14
         clear c14
         by_cases c15 : (ji13) ≤ (wrap64 ((ji13) + 1))
         ·rw [if_pos c15] at H
          have c15b0 := eq_true c15
          have c15b1 : decide ((ji13) ≤ (wrap64 ((ji13) + 1))) = true := decide_eq_true c15
          by_cases c16 : (wrap64 ((ji13) + 1)) ≤ 10
          ·rw [if_pos c16] at H
           have c16b0 := eq_true c16
           have c16b1 : decide ((wrap64 ((ji13) + 1)) ≤ 10) = true := decide_eq_true c16
           by_cases c17 : ((⟨#[48, 49, 50, 51, 52, 53, 54, 55, 56, 57]⟩ : ByteArray).extract ((ji13) : Int).toNat ((wrap64 ((ji13) + 1)) : Int).toNat).size + x4_2.size ≤ 9223372036854775807
           ·rw [if_pos c17] at H
            have c17b0 := eq_true c17
            have c17b1 : decide (((⟨#[48, 49, 50, 51, 52, 53, 54, 55, 56, 57]⟩ : ByteArray).extract ((ji13) : Int).toNat ((wrap64 ((ji13) + 1)) : Int).toNat).size + x4_2.size ≤ 9223372036854775807) = true := decide_eq_true c17
            try have c17b2 : (9223372036854775807 < ((⟨#[48, 49, 50, 51, 52, 53, 54, 55, 56, 57]⟩ : ByteArray).extract ((ji13) : Int).toNat ((wrap64 ((ji13) + 1)) : Int).toNat).size + x4_2.size) = False := eq_false (Nat.not_lt.2 c17)
            have H' := Aside0.mk H
            clear H
            go_wp2
            go_roundg k2
            case measure => have := HJ2.out; have := HK2.out; omega
            case rel => exact ⟨(wrap64 (Int.tdiv x0_2 10)), (((⟨#[48, 49, 50, 51, 52, 53, 54, 55, 56, 57]⟩ : ByteArray).extract ((ji13) : Int).toNat ((wrap64 ((ji13) + 1)) : Int).toNat) ++ x4_2), (by first | rfl | (simp; done) | (simp [*]; done)), (by first | rfl | (simp; done) | (simp only [← hji13] <;> (first | rfl | simp)) | (simp [*]; done)), H', ⟨by have := HJ2.out; have := HK2.out; omega⟩, by repeat (first | exact Drawn0.refl _ | apply Drawn0.step)⟩
           ·rw [if_neg c17] at H
            exact absurd H (by simp)
          ·rw [if_neg c16] at H
           exact absurd H (by simp)
         ·rw [if_neg c15] at H
          exact absurd H (by simp)
        ·rw [if_neg c14] at H
         exact absurd H (by simp)

end Go.Proofs.YtpfhoenjndmoaaaDoor.Q
