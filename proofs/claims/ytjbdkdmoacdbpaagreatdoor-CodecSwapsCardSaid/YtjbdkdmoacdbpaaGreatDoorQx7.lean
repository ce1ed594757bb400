/- printed by a program of this session (wip/tools/pr.sh): it is not a print of the kit -/
import Derived.Test.YtjbdkdmoacdbpaaGreatDoorQx0
import Derived.Test.YtjbdkdmoacdbpaaGreatDoorQx5
import Derived.Test.YtjbdkdmoacdbpaaGreatDoorQx6
namespace Go.Proofs.YtjbdkdmoacdbpaaGreatDoor.Q
open Go.RowKit Go.Proofs.YtjbdkdmoacdbpaaGreatDoorW.PrintWords Go.Proofs.YtjbdkdmoacdbpaaGreatDoorW.PrintLast Go.Proofs.YtjbdkdmoacdbpaaGreatDoorW.PrintMore
attribute [local go_sem] max2_int min2_int max_two min_two max_three min_three max_four min_four RFn.gtr_str   -- for this text's walks alone
set_option linter.unusedVariables false
set_option linter.unusedSimpArgs false
/-! ### ref10_Print: function 12 -/
def ref10_Print.l0 : Nat → List (S54) → ByteArray → Int → Option (ByteArray × Int)
 | 0, _, _, _ => none
 | k + 1, x0, x4, x5 => if x5 < (x0.length : Int) then (if 0 ≤ x5 then ((ref10_named.f k ((rd_T54 x0 x5).f0.f0) ((rd_T54 x0 x5).f0.f1) ((rd_T54 x0 x5).f0.f2) ((rd_T54 x0 x5).f0.f3) ((rd_T54 x0 x5).f0.f4)).bind fun t152 => (if t152 = true then (if ((rd_T54 x0 x5).f0.f3).toList = ([] : List UInt8) then (if x4.size + ((rd_T54 x0 x5).f0.f0).size ≤ 9223372036854775807 then (if (x4 ++ ((rd_T54 x0 x5).f0.f0)).size + 1 ≤ 9223372036854775807 then (if ((x4 ++ ((rd_T54 x0 x5).f0.f0)) ++ (⟨#[32]⟩ : ByteArray)).size + ((rd_T54 x0 x5).f0.f1).size ≤ 9223372036854775807 then (if (((x4 ++ ((rd_T54 x0 x5).f0.f0)) ++ (⟨#[32]⟩ : ByteArray)) ++ ((rd_T54 x0 x5).f0.f1)).size + 1 ≤ 9223372036854775807 then (if ((((x4 ++ ((rd_T54 x0 x5).f0.f0)) ++ (⟨#[32]⟩ : ByteArray)) ++ ((rd_T54 x0 x5).f0.f1)) ++ (⟨#[32]⟩ : ByteArray)).size + ((rd_T54 x0 x5).f0.f2).size ≤ 9223372036854775807 then (if (((((x4 ++ ((rd_T54 x0 x5).f0.f0)) ++ (⟨#[32]⟩ : ByteArray)) ++ ((rd_T54 x0 x5).f0.f1)) ++ (⟨#[32]⟩ : ByteArray)) ++ ((rd_T54 x0 x5).f0.f2)).size + 1 ≤ 9223372036854775807 then (if ((((((x4 ++ ((rd_T54 x0 x5).f0.f0)) ++ (⟨#[32]⟩ : ByteArray)) ++ ((rd_T54 x0 x5).f0.f1)) ++ (⟨#[32]⟩ : ByteArray)) ++ ((rd_T54 x0 x5).f0.f2)) ++ (⟨#[32]⟩ : ByteArray)).size + 1 ≤ 9223372036854775807 then (if (((((((x4 ++ ((rd_T54 x0 x5).f0.f0)) ++ (⟨#[32]⟩ : ByteArray)) ++ ((rd_T54 x0 x5).f0.f1)) ++ (⟨#[32]⟩ : ByteArray)) ++ ((rd_T54 x0 x5).f0.f2)) ++ (⟨#[32]⟩ : ByteArray)) ++ (⟨#[45]⟩ : ByteArray)).size + 1 ≤ 9223372036854775807 then ((ref01_Print.f k ((rd_T54 x0 x5).f0.f4)).bind fun t153 => (if ((((((((x4 ++ ((rd_T54 x0 x5).f0.f0)) ++ (⟨#[32]⟩ : ByteArray)) ++ ((rd_T54 x0 x5).f0.f1)) ++ (⟨#[32]⟩ : ByteArray)) ++ ((rd_T54 x0 x5).f0.f2)) ++ (⟨#[32]⟩ : ByteArray)) ++ (⟨#[45]⟩ : ByteArray)) ++ (⟨#[32]⟩ : ByteArray)).size + t153.size ≤ 9223372036854775807 then (if (((((((((x4 ++ ((rd_T54 x0 x5).f0.f0)) ++ (⟨#[32]⟩ : ByteArray)) ++ ((rd_T54 x0 x5).f0.f1)) ++ (⟨#[32]⟩ : ByteArray)) ++ ((rd_T54 x0 x5).f0.f2)) ++ (⟨#[32]⟩ : ByteArray)) ++ (⟨#[45]⟩ : ByteArray)) ++ (⟨#[32]⟩ : ByteArray)) ++ t153).size + 1 ≤ 9223372036854775807 then ((ref01_Print.f k ((rd_T54 x0 x5).f1)).bind fun t155 => (if ((((((((((x4 ++ ((rd_T54 x0 x5).f0.f0)) ++ (⟨#[32]⟩ : ByteArray)) ++ ((rd_T54 x0 x5).f0.f1)) ++ (⟨#[32]⟩ : ByteArray)) ++ ((rd_T54 x0 x5).f0.f2)) ++ (⟨#[32]⟩ : ByteArray)) ++ (⟨#[45]⟩ : ByteArray)) ++ (⟨#[32]⟩ : ByteArray)) ++ t153) ++ (⟨#[32]⟩ : ByteArray)).size + t155.size ≤ 9223372036854775807 then (if (((((((((((x4 ++ ((rd_T54 x0 x5).f0.f0)) ++ (⟨#[32]⟩ : ByteArray)) ++ ((rd_T54 x0 x5).f0.f1)) ++ (⟨#[32]⟩ : ByteArray)) ++ ((rd_T54 x0 x5).f0.f2)) ++ (⟨#[32]⟩ : ByteArray)) ++ (⟨#[45]⟩ : ByteArray)) ++ (⟨#[32]⟩ : ByteArray)) ++ t153) ++ (⟨#[32]⟩ : ByteArray)) ++ t155).size + 1 ≤ 9223372036854775807 then (ref10_Print.l0 k x0 ((((((((((((x4 ++ ((rd_T54 x0 x5).f0.f0)) ++ (⟨#[32]⟩ : ByteArray)) ++ ((rd_T54 x0 x5).f0.f1)) ++ (⟨#[32]⟩ : ByteArray)) ++ ((rd_T54 x0 x5).f0.f2)) ++ (⟨#[32]⟩ : ByteArray)) ++ (⟨#[45]⟩ : ByteArray)) ++ (⟨#[32]⟩ : ByteArray)) ++ t153) ++ (⟨#[32]⟩ : ByteArray)) ++ t155) ++ (⟨#[10]⟩ : ByteArray)) (wrap64 (x5 + 1))) else (none)) else (none))) else (none)) else (none))) else (none)) else (none)) else (none)) else (none)) else (none)) else (none)) else (none)) else (none)) else (if x4.size + ((rd_T54 x0 x5).f0.f0).size ≤ 9223372036854775807 then (if (x4 ++ ((rd_T54 x0 x5).f0.f0)).size + 1 ≤ 9223372036854775807 then (if ((x4 ++ ((rd_T54 x0 x5).f0.f0)) ++ (⟨#[32]⟩ : ByteArray)).size + ((rd_T54 x0 x5).f0.f1).size ≤ 9223372036854775807 then (if (((x4 ++ ((rd_T54 x0 x5).f0.f0)) ++ (⟨#[32]⟩ : ByteArray)) ++ ((rd_T54 x0 x5).f0.f1)).size + 1 ≤ 9223372036854775807 then (if ((((x4 ++ ((rd_T54 x0 x5).f0.f0)) ++ (⟨#[32]⟩ : ByteArray)) ++ ((rd_T54 x0 x5).f0.f1)) ++ (⟨#[32]⟩ : ByteArray)).size + ((rd_T54 x0 x5).f0.f2).size ≤ 9223372036854775807 then (if (((((x4 ++ ((rd_T54 x0 x5).f0.f0)) ++ (⟨#[32]⟩ : ByteArray)) ++ ((rd_T54 x0 x5).f0.f1)) ++ (⟨#[32]⟩ : ByteArray)) ++ ((rd_T54 x0 x5).f0.f2)).size + 1 ≤ 9223372036854775807 then (if ((((((x4 ++ ((rd_T54 x0 x5).f0.f0)) ++ (⟨#[32]⟩ : ByteArray)) ++ ((rd_T54 x0 x5).f0.f1)) ++ (⟨#[32]⟩ : ByteArray)) ++ ((rd_T54 x0 x5).f0.f2)) ++ (⟨#[32]⟩ : ByteArray)).size + ((rd_T54 x0 x5).f0.f3).size ≤ 9223372036854775807 then (if (((((((x4 ++ ((rd_T54 x0 x5).f0.f0)) ++ (⟨#[32]⟩ : ByteArray)) ++ ((rd_T54 x0 x5).f0.f1)) ++ (⟨#[32]⟩ : ByteArray)) ++ ((rd_T54 x0 x5).f0.f2)) ++ (⟨#[32]⟩ : ByteArray)) ++ ((rd_T54 x0 x5).f0.f3)).size + 1 ≤ 9223372036854775807 then ((ref01_Print.f k ((rd_T54 x0 x5).f0.f4)).bind fun t156 => (if ((((((((x4 ++ ((rd_T54 x0 x5).f0.f0)) ++ (⟨#[32]⟩ : ByteArray)) ++ ((rd_T54 x0 x5).f0.f1)) ++ (⟨#[32]⟩ : ByteArray)) ++ ((rd_T54 x0 x5).f0.f2)) ++ (⟨#[32]⟩ : ByteArray)) ++ ((rd_T54 x0 x5).f0.f3)) ++ (⟨#[32]⟩ : ByteArray)).size + t156.size ≤ 9223372036854775807 then (if (((((((((x4 ++ ((rd_T54 x0 x5).f0.f0)) ++ (⟨#[32]⟩ : ByteArray)) ++ ((rd_T54 x0 x5).f0.f1)) ++ (⟨#[32]⟩ : ByteArray)) ++ ((rd_T54 x0 x5).f0.f2)) ++ (⟨#[32]⟩ : ByteArray)) ++ ((rd_T54 x0 x5).f0.f3)) ++ (⟨#[32]⟩ : ByteArray)) ++ t156).size + 1 ≤ 9223372036854775807 then ((ref01_Print.f k ((rd_T54 x0 x5).f1)).bind fun t158 => (if ((((((((((x4 ++ ((rd_T54 x0 x5).f0.f0)) ++ (⟨#[32]⟩ : ByteArray)) ++ ((rd_T54 x0 x5).f0.f1)) ++ (⟨#[32]⟩ : ByteArray)) ++ ((rd_T54 x0 x5).f0.f2)) ++ (⟨#[32]⟩ : ByteArray)) ++ ((rd_T54 x0 x5).f0.f3)) ++ (⟨#[32]⟩ : ByteArray)) ++ t156) ++ (⟨#[32]⟩ : ByteArray)).size + t158.size ≤ 9223372036854775807 then (if (((((((((((x4 ++ ((rd_T54 x0 x5).f0.f0)) ++ (⟨#[32]⟩ : ByteArray)) ++ ((rd_T54 x0 x5).f0.f1)) ++ (⟨#[32]⟩ : ByteArray)) ++ ((rd_T54 x0 x5).f0.f2)) ++ (⟨#[32]⟩ : ByteArray)) ++ ((rd_T54 x0 x5).f0.f3)) ++ (⟨#[32]⟩ : ByteArray)) ++ t156) ++ (⟨#[32]⟩ : ByteArray)) ++ t158).size + 1 ≤ 9223372036854775807 then (ref10_Print.l0 k x0 ((((((((((((x4 ++ ((rd_T54 x0 x5).f0.f0)) ++ (⟨#[32]⟩ : ByteArray)) ++ ((rd_T54 x0 x5).f0.f1)) ++ (⟨#[32]⟩ : ByteArray)) ++ ((rd_T54 x0 x5).f0.f2)) ++ (⟨#[32]⟩ : ByteArray)) ++ ((rd_T54 x0 x5).f0.f3)) ++ (⟨#[32]⟩ : ByteArray)) ++ t156) ++ (⟨#[32]⟩ : ByteArray)) ++ t158) ++ (⟨#[10]⟩ : ByteArray)) (wrap64 (x5 + 1))) else (none)) else (none))) else (none)) else (none))) else (none)) else (none)) else (none)) else (none)) else (none)) else (none)) else (none)) else (none))) else (some ((⟨#[]⟩ : ByteArray), 1)))) else (none)) else (some (x4, 0))
def ref10_Print.f (k : Nat) (l0 : List (S54)) : Option (ByteArray × Int) := (ref09_Right.f k l0).bind fun t148 => (if t148 = true then ((ref01_Print.f k (l0.length : Int)).bind fun t149 => (if 5 + t149.size ≤ 9223372036854775807 then (if ((⟨#[99, 117, 98, 101, 32]⟩ : ByteArray) ++ t149).size + 1 ≤ 9223372036854775807 then (ref10_Print.l0 k l0 (((⟨#[99, 117, 98, 101, 32]⟩ : ByteArray) ++ t149) ++ (⟨#[10]⟩ : ByteArray)) 0) else (none)) else (none))) else (some ((⟨#[]⟩ : ByteArray), 1)))
theorem ref10_Print.mono_l : ∀ k, (∀ y0 y1 y2, LeO (ref10_Print.l0 k y0 y1 y2) (ref10_Print.l0 (k + 1) y0 y1 y2))
 | 0 => fun _ _ _ r h => by simp [ref10_Print.l0] at h
 | k + 1 => by
  have ih0 := ref10_Print.mono_l k
  ·intro y0 y1 y2
   unfold ref10_Print.l0
   repeat' with_reducible first | exact LeO.refl _ | apply ih0 | apply ref01_Print.mono | apply ref09_Right.mono | apply ref10_named.mono | exact LeO.none _ | apply LeO.ite | refine LeO.bind ?_ fun _ => ?_
theorem ref10_Print.mono : ∀ a0 k, LeO (ref10_Print.f k a0) (ref10_Print.f (k + 1) a0) := by
 intro a0 k
 have ih0 := ref10_Print.mono_l k
 unfold ref10_Print.f
 repeat' with_reducible first | exact LeO.refl _ | apply ih0 | apply ref01_Print.mono | apply ref09_Right.mono | apply ref10_named.mono | exact LeO.none _ | apply LeO.ite | refine LeO.bind ?_ fun _ => ?_
def ref10_Print.T13 : Bool × List (List Nat × List Nat) := (true, [([], []), ([], []), ([1], [1]), ([0, 2], [0, 2]), ([3], [3]), ([], []), ([5], [5]), ([4, 6], [4, 6]), ([7], [7]), ([], []), ([9], [9]), ([8, 10], [8, 10]), ([11], [11]), ([], []), ([12, 13], [12, 13]), ([14], [14]), ([], []), ([16], [16]), ([17], [17]), ([15, 18], [15, 18]), ([19], [19]), ([], []), ([], []), ([21, 22], [21, 22]), ([23], [23]), ([24], [24]), ([25, 18], [25]), ([20, 26], [20, 26]), ([27], [27]), ([28, 26, 0, 1, 2, 3, 4, 5, 6, 7, 8, 9, 10, 11, 12, 13, 14, 15, 16, 17, 18, 19, 20, 21, 22, 23, 24, 25, 26, 27, 28], [0, 28])])
def ref10_Print.B13 : List Nat := [0, 0, 2, 7, 15, 0, 32, 127, 255, 0, 512, 2047, 4095, 0, 16383, 32767, 0, 65536, 196608, 524287, 1048575, 0, 0, 6291456, 14680064, 31457280, 65470464, 134217727, 268435455, 536870911]
theorem ref10_Print.tab13 : rtab .any (opsOf Tryz.f12 13) = ref10_Print.T13 := by kernel_rfl
theorem ref10_Print.bits13 : waitsOk ref10_Print.T13.2 ref10_Print.B13 = true := by kernel_rfl
set_option maxHeartbeats 8000000 in
set_option maxRecDepth 100000 in
theorem ref10_Print.calls (k : Nat) (A0 : Option Addr) (c0 : Nat) (l0 : List (S54)) (r1 : ByteArray) (r2 : Int) (w : World) (hr0 : Kd.C k54 w A0 l0.length l0) (hc0 : l0.length ≤ c0) (h : ref10_Print.f k l0 = some (r1, r2)) :
  Calls Tryz.prog 12 #[.slice A0 l0.length c0] w fun e w' => e = .returned (.tuple #[.string r1, .int .i64 r2]) ∧ Below w.heap.size w w' := by
 have hu52 := Tryz.underlying52
 have HR0 := Aside0.mk hr0
 have HC0 := Aside0.mk hc0
 clear hr0 hc0
 have HB := Aside0.mk (Below.refl w.heap.size w)
 have H : ((ref09_Right.f k l0).bind fun t148 => (if t148 = true then ((ref01_Print.f k (l0.length : Int)).bind fun t149 => (if 5 + t149.size ≤ 9223372036854775807 then (if ((⟨#[99, 117, 98, 101, 32]⟩ : ByteArray) ++ t149).size + 1 ≤ 9223372036854775807 then (ref10_Print.l0 k l0 (((⟨#[99, 117, 98, 101, 32]⟩ : ByteArray) ++ t149) ++ (⟨#[10]⟩ : ByteArray)) 0) else (none)) else (none))) else (some ((⟨#[]⟩ : ByteArray), 1)))) = some (r1, r2) := h
 clear h
 obtain ⟨t148, A2, H⟩ := RFn.bn H
 by_cases c3 : t148 = true
 ·subst c3
  have H1 : ((ref01_Print.f k (l0.length : Int)).bind fun t149 => (if 5 + t149.size ≤ 9223372036854775807 then (if ((⟨#[99, 117, 98, 101, 32]⟩ : ByteArray) ++ t149).size + 1 ≤ 9223372036854775807 then (ref10_Print.l0 k l0 (((⟨#[99, 117, 98, 101, 32]⟩ : ByteArray) ++ t149) ++ (⟨#[10]⟩ : ByteArray)) 0) else (none)) else (none))) = some (r1, r2) := by rw [if_pos rfl] at H; exact H
  clear H
  have H := H1
  clear H1
  obtain ⟨t149, A4, H⟩ := RFn.bn H
  by_cases c5 : 5 + t149.size ≤ 9223372036854775807
  ·rw [if_pos c5] at H
   have c5b0 := eq_true c5
   have c5b1 : decide (5 + t149.size ≤ 9223372036854775807) = true := decide_eq_true c5
   try have c5b2 : (9223372036854775807 < 5 + t149.size) = False := eq_false (Nat.not_lt.2 c5)
   by_cases c6 : ((⟨#[99, 117, 98, 101, 32]⟩ : ByteArray) ++ t149).size + 1 ≤ 9223372036854775807
   ·rw [if_pos c6] at H
    have c6b0 := eq_true c6
    have c6b1 : decide (((⟨#[99, 117, 98, 101, 32]⟩ : ByteArray) ++ t149).size + 1 ≤ 9223372036854775807) = true := decide_eq_true c6
    (try (have c6b1x := c6b1; simp only [ByteArray.size_append, show (⟨#[99, 117, 98, 101, 32]⟩ : ByteArray).size = 5 from rfl] at c6b1x))
    try have c6b2 : (9223372036854775807 < ((⟨#[99, 117, 98, 101, 32]⟩ : ByteArray) ++ t149).size + 1) = False := eq_false (Nat.not_lt.2 c6)
    (try (have c6b2x := c6b2; simp only [ByteArray.size_append, show (⟨#[99, 117, 98, 101, 32]⟩ : ByteArray).size = 5 from rfl] at c6b2x))
    have H' := Aside0.mk H
    clear H
    go_enter Tryz.func12, Tryz.ntmps12
    go_wp2_with (first | ((with_reducible refine gate_callee (f := 22) rfl ?_); refine RFn.goesM (some 9) Tryz.func22 #[.slice A0 l0.length c0] rfl ?_; (with_reducible refine (ref09_Right.calls k _ _ l0 true _ ?side1 ?side2 A2.out).mono ?_); (case side1 => exact RFn.mC HR0.out); (case side2 => exact HC0.out); rintro e w7 ⟨rfl, hb⟩; refine ⟨_, rfl, ?_⟩; have n0_ := Aside0.mk (below_step (RFn.bel) hb); clear HB; have HB := n0_; clear n0_; (try clear hb)) | ((with_reducible refine gate_callee (f := 23) rfl ?_); refine RFn.goesM (some 13) Tryz.func23 #[.int .i64 (l0.length : Int)] rfl ?_; (with_reducible refine (ref01_Print.calls k (l0.length : Int) t149 _ A4.out).mono ?_); rintro e w' ⟨rfl, ⟨nd, rfl⟩⟩; refine ⟨_, rfl, ?_⟩))
    (try simp only [Act.put, List.setIfInBounds_toArray, List.set_cons_succ, List.set_cons_zero])
    go_loopg [4, 5] k (fun kq v4 v5 w' => ∃ (x4_1 : ByteArray) (x5_1 : Int), v4 = .string x4_1 ∧ v5 = .int .i64 x5_1 ∧ Aside0 (ref10_Print.l0 kq l0 x4_1 x5_1 = some (r1, r2)) ∧ Aside0 (kq ≤ k) ∧ Aside0 (Below w.heap.size w w'))
    case atStart => exact ⟨(((⟨#[99, 117, 98, 101, 32]⟩ : ByteArray) ++ t149) ++ (⟨#[10]⟩ : ByteArray)), (0), (by first | rfl | (simp; done) | (simp [*]; done)), (by first | rfl | (simp; done) | (simp [*]; done)), H', ⟨Nat.le_refl _⟩, ⟨RFn.bel⟩⟩
    case round =>
     as_aux_lemma =>
     clear H'
     try clear c3
     try clear c5
     try clear c5b0
     try clear c5b1
     try clear c5b2
     try clear c6
     try clear c6b0
     try clear c6b1
     try clear c6b2
     obtain ⟨x4_1, x5_1, rfl, rfl, HA, HK1, HB⟩ := hrel
     cases gk with
     | zero => exact absurd HA.out (by simp [ref10_Print.l0])
     | succ k1 =>
      have H := HA.out
      clear HA
      simp only [ref10_Print.l0] at H
      by_cases c8 : x5_1 < (l0.length : Int)
      ·rw [if_pos c8] at H
       have c8b0 : decide (x5_1 < (l0.length : Int)) = true := decide_eq_true c8
       clear c8
       by_cases c9 : 0 ≤ x5_1
       ·rw [if_pos c9] at H
        have c9b0 : decide (0 ≤ x5_1) = true := decide_eq_true c9
        clear c9
        obtain ⟨t152, A10, H⟩ := RFn.bn H
        by_cases c11 : t152 = true
        ·subst c11
         have H1 : (if ((rd_T54 l0 x5_1).f0.f3).toList = ([] : List UInt8) then (if x4_1.size + ((rd_T54 l0 x5_1).f0.f0).size ≤ 9223372036854775807 then (if (x4_1 ++ ((rd_T54 l0 x5_1).f0.f0)).size + 1 ≤ 9223372036854775807 then (if ((x4_1 ++ ((rd_T54 l0 x5_1).f0.f0)) ++ (⟨#[32]⟩ : ByteArray)).size + ((rd_T54 l0 x5_1).f0.f1).size ≤ 9223372036854775807 then (if (((x4_1 ++ ((rd_T54 l0 x5_1).f0.f0)) ++ (⟨#[32]⟩ : ByteArray)) ++ ((rd_T54 l0 x5_1).f0.f1)).size + 1 ≤ 9223372036854775807 then (if ((((x4_1 ++ ((rd_T54 l0 x5_1).f0.f0)) ++ (⟨#[32]⟩ : ByteArray)) ++ ((rd_T54 l0 x5_1).f0.f1)) ++ (⟨#[32]⟩ : ByteArray)).size + ((rd_T54 l0 x5_1).f0.f2).size ≤ 9223372036854775807 then (if (((((x4_1 ++ ((rd_T54 l0 x5_1).f0.f0)) ++ (⟨#[32]⟩ : ByteArray)) ++ ((rd_T54 l0 x5_1).f0.f1)) ++ (⟨#[32]⟩ : ByteArray)) ++ ((rd_T54 l0 x5_1).f0.f2)).size + 1 ≤ 9223372036854775807 then (if ((((((x4_1 ++ ((rd_T54 l0 x5_1).f0.f0)) ++ (⟨#[32]⟩ : ByteArray)) ++ ((rd_T54 l0 x5_1).f0.f1)) ++ (⟨#[32]⟩ : ByteArray)) ++ ((rd_T54 l0 x5_1).f0.f2)) ++ (⟨#[32]⟩ : ByteArray)).size + 1 ≤ 9223372036854775807 then (if (((((((x4_1 ++ ((rd_T54 l0 x5_1).f0.f0)) ++ (⟨#[32]⟩ : ByteArray)) ++ ((rd_T54 l0 x5_1).f0.f1)) ++ (⟨#[32]⟩ : ByteArray)) ++ ((rd_T54 l0 x5_1).f0.f2)) ++ (⟨#[32]⟩ : ByteArray)) ++ (⟨#[45]⟩ : ByteArray)).size + 1 ≤ 9223372036854775807 then ((ref01_Print.f k1 ((rd_T54 l0 x5_1).f0.f4)).bind fun t153 => (if ((((((((x4_1 ++ ((rd_T54 l0 x5_1).f0.f0)) ++ (⟨#[32]⟩ : ByteArray)) ++ ((rd_T54 l0 x5_1).f0.f1)) ++ (⟨#[32]⟩ : ByteArray)) ++ ((rd_T54 l0 x5_1).f0.f2)) ++ (⟨#[32]⟩ : ByteArray)) ++ (⟨#[45]⟩ : ByteArray)) ++ (⟨#[32]⟩ : ByteArray)).size + t153.size ≤ 9223372036854775807 then (if (((((((((x4_1 ++ ((rd_T54 l0 x5_1).f0.f0)) ++ (⟨#[32]⟩ : ByteArray)) ++ ((rd_T54 l0 x5_1).f0.f1)) ++ (⟨#[32]⟩ : ByteArray)) ++ ((rd_T54 l0 x5_1).f0.f2)) ++ (⟨#[32]⟩ : ByteArray)) ++ (⟨#[45]⟩ : ByteArray)) ++ (⟨#[32]⟩ : ByteArray)) ++ t153).size + 1 ≤ 9223372036854775807 then ((ref01_Print.f k1 ((rd_T54 l0 x5_1).f1)).bind fun t155 => (if ((((((((((x4_1 ++ ((rd_T54 l0 x5_1).f0.f0)) ++ (⟨#[32]⟩ : ByteArray)) ++ ((rd_T54 l0 x5_1).f0.f1)) ++ (⟨#[32]⟩ : ByteArray)) ++ ((rd_T54 l0 x5_1).f0.f2)) ++ (⟨#[32]⟩ : ByteArray)) ++ (⟨#[45]⟩ : ByteArray)) ++ (⟨#[32]⟩ : ByteArray)) ++ t153) ++ (⟨#[32]⟩ : ByteArray)).size + t155.size ≤ 9223372036854775807 then (if (((((((((((x4_1 ++ ((rd_T54 l0 x5_1).f0.f0)) ++ (⟨#[32]⟩ : ByteArray)) ++ ((rd_T54 l0 x5_1).f0.f1)) ++ (⟨#[32]⟩ : ByteArray)) ++ ((rd_T54 l0 x5_1).f0.f2)) ++ (⟨#[32]⟩ : ByteArray)) ++ (⟨#[45]⟩ : ByteArray)) ++ (⟨#[32]⟩ : ByteArray)) ++ t153) ++ (⟨#[32]⟩ : ByteArray)) ++ t155).size + 1 ≤ 9223372036854775807 then (ref10_Print.l0 k1 l0 ((((((((((((x4_1 ++ ((rd_T54 l0 x5_1).f0.f0)) ++ (⟨#[32]⟩ : ByteArray)) ++ ((rd_T54 l0 x5_1).f0.f1)) ++ (⟨#[32]⟩ : ByteArray)) ++ ((rd_T54 l0 x5_1).f0.f2)) ++ (⟨#[32]⟩ : ByteArray)) ++ (⟨#[45]⟩ : ByteArray)) ++ (⟨#[32]⟩ : ByteArray)) ++ t153) ++ (⟨#[32]⟩ : ByteArray)) ++ t155) ++ (⟨#[10]⟩ : ByteArray)) (wrap64 (x5_1 + 1))) else (none)) else (none))) else (none)) else (none))) else (none)) else (none)) else (none)) else (none)) else (none)) else (none)) else (none)) else (none)) else (if x4_1.size + ((rd_T54 l0 x5_1).f0.f0).size ≤ 9223372036854775807 then (if (x4_1 ++ ((rd_T54 l0 x5_1).f0.f0)).size + 1 ≤ 9223372036854775807 then (if ((x4_1 ++ ((rd_T54 l0 x5_1).f0.f0)) ++ (⟨#[32]⟩ : ByteArray)).size + ((rd_T54 l0 x5_1).f0.f1).size ≤ 9223372036854775807 then (if (((x4_1 ++ ((rd_T54 l0 x5_1).f0.f0)) ++ (⟨#[32]⟩ : ByteArray)) ++ ((rd_T54 l0 x5_1).f0.f1)).size + 1 ≤ 9223372036854775807 then (if ((((x4_1 ++ ((rd_T54 l0 x5_1).f0.f0)) ++ (⟨#[32]⟩ : ByteArray)) ++ ((rd_T54 l0 x5_1).f0.f1)) ++ (⟨#[32]⟩ : ByteArray)).size + ((rd_T54 l0 x5_1).f0.f2).size ≤ 9223372036854775807 then (if (((((x4_1 ++ ((rd_T54 l0 x5_1).f0.f0)) ++ (⟨#[32]⟩ : ByteArray)) ++ ((rd_T54 l0 x5_1).f0.f1)) ++ (⟨#[32]⟩ : ByteArray)) ++ ((rd_T54 l0 x5_1).f0.f2)).size + 1 ≤ 9223372036854775807 then (if ((((((x4_1 ++ ((rd_T54 l0 x5_1).f0.f0)) ++ (⟨#[32]⟩ : ByteArray)) ++ ((rd_T54 l0 x5_1).f0.f1)) ++ (⟨#[32]⟩ : ByteArray)) ++ ((rd_T54 l0 x5_1).f0.f2)) ++ (⟨#[32]⟩ : ByteArray)).size + ((rd_T54 l0 x5_1).f0.f3).size ≤ 9223372036854775807 then (if (((((((x4_1 ++ ((rd_T54 l0 x5_1).f0.f0)) ++ (⟨#[32]⟩ : ByteArray)) ++ ((rd_T54 l0 x5_1).f0.f1)) ++ (⟨#[32]⟩ : ByteArray)) ++ ((rd_T54 l0 x5_1).f0.f2)) ++ (⟨#[32]⟩ : ByteArray)) ++ ((rd_T54 l0 x5_1).f0.f3)).size + 1 ≤ 9223372036854775807 then ((ref01_Print.f k1 ((rd_T54 l0 x5_1).f0.f4)).bind fun t156 => (if ((((((((x4_1 ++ ((rd_T54 l0 x5_1).f0.f0)) ++ (⟨#[32]⟩ : ByteArray)) ++ ((rd_T54 l0 x5_1).f0.f1)) ++ (⟨#[32]⟩ : ByteArray)) ++ ((rd_T54 l0 x5_1).f0.f2)) ++ (⟨#[32]⟩ : ByteArray)) ++ ((rd_T54 l0 x5_1).f0.f3)) ++ (⟨#[32]⟩ : ByteArray)).size + t156.size ≤ 9223372036854775807 then (if (((((((((x4_1 ++ ((rd_T54 l0 x5_1).f0.f0)) ++ (⟨#[32]⟩ : ByteArray)) ++ ((rd_T54 l0 x5_1).f0.f1)) ++ (⟨#[32]⟩ : ByteArray)) ++ ((rd_T54 l0 x5_1).f0.f2)) ++ (⟨#[32]⟩ : ByteArray)) ++ ((rd_T54 l0 x5_1).f0.f3)) ++ (⟨#[32]⟩ : ByteArray)) ++ t156).size + 1 ≤ 9223372036854775807 then ((ref01_Print.f k1 ((rd_T54 l0 x5_1).f1)).bind fun t158 => (if ((((((((((x4_1 ++ ((rd_T54 l0 x5_1).f0.f0)) ++ (⟨#[32]⟩ : ByteArray)) ++ ((rd_T54 l0 x5_1).f0.f1)) ++ (⟨#[32]⟩ : ByteArray)) ++ ((rd_T54 l0 x5_1).f0.f2)) ++ (⟨#[32]⟩ : ByteArray)) ++ ((rd_T54 l0 x5_1).f0.f3)) ++ (⟨#[32]⟩ : ByteArray)) ++ t156) ++ (⟨#[32]⟩ : ByteArray)).size + t158.size ≤ 9223372036854775807 then (if (((((((((((x4_1 ++ ((rd_T54 l0 x5_1).f0.f0)) ++ (⟨#[32]⟩ : ByteArray)) ++ ((rd_T54 l0 x5_1).f0.f1)) ++ (⟨#[32]⟩ : ByteArray)) ++ ((rd_T54 l0 x5_1).f0.f2)) ++ (⟨#[32]⟩ : ByteArray)) ++ ((rd_T54 l0 x5_1).f0.f3)) ++ (⟨#[32]⟩ : ByteArray)) ++ t156) ++ (⟨#[32]⟩ : ByteArray)) ++ t158).size + 1 ≤ 9223372036854775807 then (ref10_Print.l0 k1 l0 ((((((((((((x4_1 ++ ((rd_T54 l0 x5_1).f0.f0)) ++ (⟨#[32]⟩ : ByteArray)) ++ ((rd_T54 l0 x5_1).f0.f1)) ++ (⟨#[32]⟩ : ByteArray)) ++ ((rd_T54 l0 x5_1).f0.f2)) ++ (⟨#[32]⟩ : ByteArray)) ++ ((rd_T54 l0 x5_1).f0.f3)) ++ (⟨#[32]⟩ : ByteArray)) ++ t156) ++ (⟨#[32]⟩ : ByteArray)) ++ t158) ++ (⟨#[10]⟩ : ByteArray)) (wrap64 (x5_1 + 1))) else (none)) else (none))) else (none)) else (none))) else (none)) else (none)) else (none)) else (none)) else (none)) else (none)) else (none)) else (none))) = some (r1, r2) := by rw [if_pos rfl] at H; exact H
         clear H
         have H := H1
         clear H1
         by_cases c12 : ((rd_T54 l0 x5_1).f0.f3).toList = ([] : List UInt8)
         ·rw [if_pos c12] at H
          have c12b0 : (((rd_T54 l0 x5_1).f0.f3).toList == ([] : List UInt8)) = true := beq_iff_eq.mpr c12
          have c12b1 : (((rd_T54 l0 x5_1).f0.f3).toList != ([] : List UInt8)) = false := bne_eq_false_iff_eq.mpr c12
          clear c12
          by_cases c13 : x4_1.size + ((rd_T54 l0 x5_1).f0.f0).size ≤ 9223372036854775807
          ·rw [if_pos c13] at H
           have c13b0 := eq_true c13
           have c13b1 : decide (x4_1.size + ((rd_T54 l0 x5_1).f0.f0).size ≤ 9223372036854775807) = true := decide_eq_true c13
           try have c13b2 : (9223372036854775807 < x4_1.size + ((rd_T54 l0 x5_1).f0.f0).size) = False := eq_false (Nat.not_lt.2 c13)
           by_cases c14 : (x4_1 ++ ((rd_T54 l0 x5_1).f0.f0)).size + 1 ≤ 9223372036854775807
           ·rw [if_pos c14] at H
            have c14b0 := eq_true c14
            have c14b1 : decide ((x4_1 ++ ((rd_T54 l0 x5_1).f0.f0)).size + 1 ≤ 9223372036854775807) = true := decide_eq_true c14
            (try (have c14b1x := c14b1; simp only [ByteArray.size_append] at c14b1x))
            try have c14b2 : (9223372036854775807 < (x4_1 ++ ((rd_T54 l0 x5_1).f0.f0)).size + 1) = False := eq_false (Nat.not_lt.2 c14)
            (try (have c14b2x := c14b2; simp only [ByteArray.size_append] at c14b2x))
            by_cases c15 : ((x4_1 ++ ((rd_T54 l0 x5_1).f0.f0)) ++ (⟨#[32]⟩ : ByteArray)).size + ((rd_T54 l0 x5_1).f0.f1).size ≤ 9223372036854775807
            ·rw [if_pos c15] at H
             have c15b0 := eq_true c15
             have c15b1 : decide (((x4_1 ++ ((rd_T54 l0 x5_1).f0.f0)) ++ (⟨#[32]⟩ : ByteArray)).size + ((rd_T54 l0 x5_1).f0.f1).size ≤ 9223372036854775807) = true := decide_eq_true c15
             (try (have c15b1x := c15b1; simp only [ByteArray.size_append, show (⟨#[32]⟩ : ByteArray).size = 1 from rfl] at c15b1x))
             try have c15b2 : (9223372036854775807 < ((x4_1 ++ ((rd_T54 l0 x5_1).f0.f0)) ++ (⟨#[32]⟩ : ByteArray)).size + ((rd_T54 l0 x5_1).f0.f1).size) = False := eq_false (Nat.not_lt.2 c15)
             (try (have c15b2x := c15b2; simp only [ByteArray.size_append, show (⟨#[32]⟩ : ByteArray).size = 1 from rfl] at c15b2x))
             by_cases c16 : (((x4_1 ++ ((rd_T54 l0 x5_1).f0.f0)) ++ (⟨#[32]⟩ : ByteArray)) ++ ((rd_T54 l0 x5_1).f0.f1)).size + 1 ≤ 9223372036854775807
             ·rw [if_pos c16] at H
              have c16b0 := eq_true c16
              have c16b1 : decide ((((x4_1 ++ ((rd_T54 l0 x5_1).f0.f0)) ++ (⟨#[32]⟩ : ByteArray)) ++ ((rd_T54 l0 x5_1).f0.f1)).size + 1 ≤ 9223372036854775807) = true := decide_eq_true c16
              (try (have c16b1x := c16b1; simp only [ByteArray.size_append, show (⟨#[32]⟩ : ByteArray).size = 1 from rfl] at c16b1x))
              try have c16b2 : (9223372036854775807 < (((x4_1 ++ ((rd_T54 l0 x5_1).f0.f0)) ++ (⟨#[32]⟩ : ByteArray)) ++ ((rd_T54 l0 x5_1).f0.f1)).size + 1) = False := eq_false (Nat.not_lt.2 c16)
              (try (have c16b2x := c16b2; simp only [ByteArray.size_append, show (⟨#[32]⟩ : ByteArray).size = 1 from rfl] at c16b2x))
              by_cases c17 : ((((x4_1 ++ ((rd_T54 l0 x5_1).f0.f0)) ++ (⟨#[32]⟩ : ByteArray)) ++ ((rd_T54 l0 x5_1).f0.f1)) ++ (⟨#[32]⟩ : ByteArray)).size + ((rd_T54 l0 x5_1).f0.f2).size ≤ 9223372036854775807
              ·rw [if_pos c17] at H
               have c17b0 := eq_true c17
               have c17b1 : decide (((((x4_1 ++ ((rd_T54 l0 x5_1).f0.f0)) ++ (⟨#[32]⟩ : ByteArray)) ++ ((rd_T54 l0 x5_1).f0.f1)) ++ (⟨#[32]⟩ : ByteArray)).size + ((rd_T54 l0 x5_1).f0.f2).size ≤ 9223372036854775807) = true := decide_eq_true c17
               (try (have c17b1x := c17b1; simp only [ByteArray.size_append, show (⟨#[32]⟩ : ByteArray).size = 1 from rfl] at c17b1x))
               try have c17b2 : (9223372036854775807 < ((((x4_1 ++ ((rd_T54 l0 x5_1).f0.f0)) ++ (⟨#[32]⟩ : ByteArray)) ++ ((rd_T54 l0 x5_1).f0.f1)) ++ (⟨#[32]⟩ : ByteArray)).size + ((rd_T54 l0 x5_1).f0.f2).size) = False := eq_false (Nat.not_lt.2 c17)
               (try (have c17b2x := c17b2; simp only [ByteArray.size_append, show (⟨#[32]⟩ : ByteArray).size = 1 from rfl] at c17b2x))
               by_cases c18 : (((((x4_1 ++ ((rd_T54 l0 x5_1).f0.f0)) ++ (⟨#[32]⟩ : ByteArray)) ++ ((rd_T54 l0 x5_1).f0.f1)) ++ (⟨#[32]⟩ : ByteArray)) ++ ((rd_T54 l0 x5_1).f0.f2)).size + 1 ≤ 9223372036854775807
               ·rw [if_pos c18] at H
                have c18b0 := eq_true c18
                have c18b1 : decide ((((((x4_1 ++ ((rd_T54 l0 x5_1).f0.f0)) ++ (⟨#[32]⟩ : ByteArray)) ++ ((rd_T54 l0 x5_1).f0.f1)) ++ (⟨#[32]⟩ : ByteArray)) ++ ((rd_T54 l0 x5_1).f0.f2)).size + 1 ≤ 9223372036854775807) = true := decide_eq_true c18
                (try (have c18b1x := c18b1; simp only [ByteArray.size_append, show (⟨#[32]⟩ : ByteArray).size = 1 from rfl] at c18b1x))
                try have c18b2 : (9223372036854775807 < (((((x4_1 ++ ((rd_T54 l0 x5_1).f0.f0)) ++ (⟨#[32]⟩ : ByteArray)) ++ ((rd_T54 l0 x5_1).f0.f1)) ++ (⟨#[32]⟩ : ByteArray)) ++ ((rd_T54 l0 x5_1).f0.f2)).size + 1) = False := eq_false (Nat.not_lt.2 c18)
                (try (have c18b2x := c18b2; simp only [ByteArray.size_append, show (⟨#[32]⟩ : ByteArray).size = 1 from rfl] at c18b2x))
                by_cases c19 : ((((((x4_1 ++ ((rd_T54 l0 x5_1).f0.f0)) ++ (⟨#[32]⟩ : ByteArray)) ++ ((rd_T54 l0 x5_1).f0.f1)) ++ (⟨#[32]⟩ : ByteArray)) ++ ((rd_T54 l0 x5_1).f0.f2)) ++ (⟨#[32]⟩ : ByteArray)).size + 1 ≤ 9223372036854775807
                ·rw [if_pos c19] at H
                 have c19b0 := eq_true c19
                 have c19b1 : decide (((((((x4_1 ++ ((rd_T54 l0 x5_1).f0.f0)) ++ (⟨#[32]⟩ : ByteArray)) ++ ((rd_T54 l0 x5_1).f0.f1)) ++ (⟨#[32]⟩ : ByteArray)) ++ ((rd_T54 l0 x5_1).f0.f2)) ++ (⟨#[32]⟩ : ByteArray)).size + 1 ≤ 9223372036854775807) = true := decide_eq_true c19
                 (try (have c19b1x := c19b1; simp only [ByteArray.size_append, show (⟨#[32]⟩ : ByteArray).size = 1 from rfl] at c19b1x))
                 try have c19b2 : (9223372036854775807 < ((((((x4_1 ++ ((rd_T54 l0 x5_1).f0.f0)) ++ (⟨#[32]⟩ : ByteArray)) ++ ((rd_T54 l0 x5_1).f0.f1)) ++ (⟨#[32]⟩ : ByteArray)) ++ ((rd_T54 l0 x5_1).f0.f2)) ++ (⟨#[32]⟩ : ByteArray)).size + 1) = False := eq_false (Nat.not_lt.2 c19)
                 (try (have c19b2x := c19b2; simp only [ByteArray.size_append, show (⟨#[32]⟩ : ByteArray).size = 1 from rfl] at c19b2x))
                 by_cases c20 : (((((((x4_1 ++ ((rd_T54 l0 x5_1).f0.f0)) ++ (⟨#[32]⟩ : ByteArray)) ++ ((rd_T54 l0 x5_1).f0.f1)) ++ (⟨#[32]⟩ : ByteArray)) ++ ((rd_T54 l0 x5_1).f0.f2)) ++ (⟨#[32]⟩ : ByteArray)) ++ (⟨#[45]⟩ : ByteArray)).size + 1 ≤ 9223372036854775807
                 ·rw [if_pos c20] at H
                  have c20b0 := eq_true c20
                  have c20b1 : decide ((((((((x4_1 ++ ((rd_T54 l0 x5_1).f0.f0)) ++ (⟨#[32]⟩ : ByteArray)) ++ ((rd_T54 l0 x5_1).f0.f1)) ++ (⟨#[32]⟩ : ByteArray)) ++ ((rd_T54 l0 x5_1).f0.f2)) ++ (⟨#[32]⟩ : ByteArray)) ++ (⟨#[45]⟩ : ByteArray)).size + 1 ≤ 9223372036854775807) = true := decide_eq_true c20
                  (try (have c20b1x := c20b1; simp only [ByteArray.size_append, show (⟨#[32]⟩ : ByteArray).size = 1 from rfl, show (⟨#[45]⟩ : ByteArray).size = 1 from rfl] at c20b1x))
                  try have c20b2 : (9223372036854775807 < (((((((x4_1 ++ ((rd_T54 l0 x5_1).f0.f0)) ++ (⟨#[32]⟩ : ByteArray)) ++ ((rd_T54 l0 x5_1).f0.f1)) ++ (⟨#[32]⟩ : ByteArray)) ++ ((rd_T54 l0 x5_1).f0.f2)) ++ (⟨#[32]⟩ : ByteArray)) ++ (⟨#[45]⟩ : ByteArray)).size + 1) = False := eq_false (Nat.not_lt.2 c20)
                  (try (have c20b2x := c20b2; simp only [ByteArray.size_append, show (⟨#[32]⟩ : ByteArray).size = 1 from rfl, show (⟨#[45]⟩ : ByteArray).size = 1 from rfl] at c20b2x))
                  obtain ⟨t153, A21, H⟩ := RFn.bn H
                  by_cases c22 : ((((((((x4_1 ++ ((rd_T54 l0 x5_1).f0.f0)) ++ (⟨#[32]⟩ : ByteArray)) ++ ((rd_T54 l0 x5_1).f0.f1)) ++ (⟨#[32]⟩ : ByteArray)) ++ ((rd_T54 l0 x5_1).f0.f2)) ++ (⟨#[32]⟩ : ByteArray)) ++ (⟨#[45]⟩ : ByteArray)) ++ (⟨#[32]⟩ : ByteArray)).size + t153.size ≤ 9223372036854775807
                  ·rw [if_pos c22] at H
                   have c22b0 := eq_true c22
                   have c22b1 : decide (((((((((x4_1 ++ ((rd_T54 l0 x5_1).f0.f0)) ++ (⟨#[32]⟩ : ByteArray)) ++ ((rd_T54 l0 x5_1).f0.f1)) ++ (⟨#[32]⟩ : ByteArray)) ++ ((rd_T54 l0 x5_1).f0.f2)) ++ (⟨#[32]⟩ : ByteArray)) ++ (⟨#[45]⟩ : ByteArray)) ++ (⟨#[32]⟩ : ByteArray)).size + t153.size ≤ 9223372036854775807) = true := decide_eq_true c22
                   (try (have c22b1x := c22b1; simp only [ByteArray.size_append, show (⟨#[32]⟩ : ByteArray).size = 1 from rfl, show (⟨#[45]⟩ : ByteArray).size = 1 from rfl] at c22b1x))
                   try have c22b2 : (9223372036854775807 < ((((((((x4_1 ++ ((rd_T54 l0 x5_1).f0.f0)) ++ (⟨#[32]⟩ : ByteArray)) ++ ((rd_T54 l0 x5_1).f0.f1)) ++ (⟨#[32]⟩ : ByteArray)) ++ ((rd_T54 l0 x5_1).f0.f2)) ++ (⟨#[32]⟩ : ByteArray)) ++ (⟨#[45]⟩ : ByteArray)) ++ (⟨#[32]⟩ : ByteArray)).size + t153.size) = False := eq_false (Nat.not_lt.2 c22)
                   (try (have c22b2x := c22b2; simp only [ByteArray.size_append, show (⟨#[32]⟩ : ByteArray).size = 1 from rfl, show (⟨#[45]⟩ : ByteArray).size = 1 from rfl] at c22b2x))
                   by_cases c23 : (((((((((x4_1 ++ ((rd_T54 l0 x5_1).f0.f0)) ++ (⟨#[32]⟩ : ByteArray)) ++ ((rd_T54 l0 x5_1).f0.f1)) ++ (⟨#[32]⟩ : ByteArray)) ++ ((rd_T54 l0 x5_1).f0.f2)) ++ (⟨#[32]⟩ : ByteArray)) ++ (⟨#[45]⟩ : ByteArray)) ++ (⟨#[32]⟩ : ByteArray)) ++ t153).size + 1 ≤ 9223372036854775807
                   ·rw [if_pos c23] at H
                    have c23b0 := eq_true c23
                    have c23b1 : decide ((((((((((x4_1 ++ ((rd_T54 l0 x5_1).f0.f0)) ++ (⟨#[32]⟩ : ByteArray)) ++ ((rd_T54 l0 x5_1).f0.f1)) ++ (⟨#[32]⟩ : ByteArray)) ++ ((rd_T54 l0 x5_1).f0.f2)) ++ (⟨#[32]⟩ : ByteArray)) ++ (⟨#[45]⟩ : ByteArray)) ++ (⟨#[32]⟩ : ByteArray)) ++ t153).size + 1 ≤ 9223372036854775807) = true := decide_eq_true c23
                    (try (have c23b1x := c23b1; simp only [ByteArray.size_append, show (⟨#[32]⟩ : ByteArray).size = 1 from rfl, show (⟨#[45]⟩ : ByteArray).size = 1 from rfl] at c23b1x))
                    try have c23b2 : (9223372036854775807 < (((((((((x4_1 ++ ((rd_T54 l0 x5_1).f0.f0)) ++ (⟨#[32]⟩ : ByteArray)) ++ ((rd_T54 l0 x5_1).f0.f1)) ++ (⟨#[32]⟩ : ByteArray)) ++ ((rd_T54 l0 x5_1).f0.f2)) ++ (⟨#[32]⟩ : ByteArray)) ++ (⟨#[45]⟩ : ByteArray)) ++ (⟨#[32]⟩ : ByteArray)) ++ t153).size + 1) = False := eq_false (Nat.not_lt.2 c23)
                    (try (have c23b2x := c23b2; simp only [ByteArray.size_append, show (⟨#[32]⟩ : ByteArray).size = 1 from rfl, show (⟨#[45]⟩ : ByteArray).size = 1 from rfl] at c23b2x))
                    obtain ⟨t155, A24, H⟩ := RFn.bn H
                    by_cases c25 : ((((((((((x4_1 ++ ((rd_T54 l0 x5_1).f0.f0)) ++ (⟨#[32]⟩ : ByteArray)) ++ ((rd_T54 l0 x5_1).f0.f1)) ++ (⟨#[32]⟩ : ByteArray)) ++ ((rd_T54 l0 x5_1).f0.f2)) ++ (⟨#[32]⟩ : ByteArray)) ++ (⟨#[45]⟩ : ByteArray)) ++ (⟨#[32]⟩ : ByteArray)) ++ t153) ++ (⟨#[32]⟩ : ByteArray)).size + t155.size ≤ 9223372036854775807
                    ·rw [if_pos c25] at H
                     have c25b0 := eq_true c25
                     have c25b1 : decide (((((((((((x4_1 ++ ((rd_T54 l0 x5_1).f0.f0)) ++ (⟨#[32]⟩ : ByteArray)) ++ ((rd_T54 l0 x5_1).f0.f1)) ++ (⟨#[32]⟩ : ByteArray)) ++ ((rd_T54 l0 x5_1).f0.f2)) ++ (⟨#[32]⟩ : ByteArray)) ++ (⟨#[45]⟩ : ByteArray)) ++ (⟨#[32]⟩ : ByteArray)) ++ t153) ++ (⟨#[32]⟩ : ByteArray)).size + t155.size ≤ 9223372036854775807) = true := decide_eq_true c25
                     (try (have c25b1x := c25b1; simp only [ByteArray.size_append, show (⟨#[32]⟩ : ByteArray).size = 1 from rfl, show (⟨#[45]⟩ : ByteArray).size = 1 from rfl] at c25b1x))
                     try have c25b2 : (9223372036854775807 < ((((((((((x4_1 ++ ((rd_T54 l0 x5_1).f0.f0)) ++ (⟨#[32]⟩ : ByteArray)) ++ ((rd_T54 l0 x5_1).f0.f1)) ++ (⟨#[32]⟩ : ByteArray)) ++ ((rd_T54 l0 x5_1).f0.f2)) ++ (⟨#[32]⟩ : ByteArray)) ++ (⟨#[45]⟩ : ByteArray)) ++ (⟨#[32]⟩ : ByteArray)) ++ t153) ++ (⟨#[32]⟩ : ByteArray)).size + t155.size) = False := eq_false (Nat.not_lt.2 c25)
                     (try (have c25b2x := c25b2; simp only [ByteArray.size_append, show (⟨#[32]⟩ : ByteArray).size = 1 from rfl, show (⟨#[45]⟩ : ByteArray).size = 1 from rfl] at c25b2x))
                     by_cases c26 : (((((((((((x4_1 ++ ((rd_T54 l0 x5_1).f0.f0)) ++ (⟨#[32]⟩ : ByteArray)) ++ ((rd_T54 l0 x5_1).f0.f1)) ++ (⟨#[32]⟩ : ByteArray)) ++ ((rd_T54 l0 x5_1).f0.f2)) ++ (⟨#[32]⟩ : ByteArray)) ++ (⟨#[45]⟩ : ByteArray)) ++ (⟨#[32]⟩ : ByteArray)) ++ t153) ++ (⟨#[32]⟩ : ByteArray)) ++ t155).size + 1 ≤ 9223372036854775807
                     ·rw [if_pos c26] at H
                      have c26b0 := eq_true c26
                      have c26b1 : decide ((((((((((((x4_1 ++ ((rd_T54 l0 x5_1).f0.f0)) ++ (⟨#[32]⟩ : ByteArray)) ++ ((rd_T54 l0 x5_1).f0.f1)) ++ (⟨#[32]⟩ : ByteArray)) ++ ((rd_T54 l0 x5_1).f0.f2)) ++ (⟨#[32]⟩ : ByteArray)) ++ (⟨#[45]⟩ : ByteArray)) ++ (⟨#[32]⟩ : ByteArray)) ++ t153) ++ (⟨#[32]⟩ : ByteArray)) ++ t155).size + 1 ≤ 9223372036854775807) = true := decide_eq_true c26
                      (try (have c26b1x := c26b1; simp only [ByteArray.size_append, show (⟨#[32]⟩ : ByteArray).size = 1 from rfl, show (⟨#[45]⟩ : ByteArray).size = 1 from rfl] at c26b1x))
                      try have c26b2 : (9223372036854775807 < (((((((((((x4_1 ++ ((rd_T54 l0 x5_1).f0.f0)) ++ (⟨#[32]⟩ : ByteArray)) ++ ((rd_T54 l0 x5_1).f0.f1)) ++ (⟨#[32]⟩ : ByteArray)) ++ ((rd_T54 l0 x5_1).f0.f2)) ++ (⟨#[32]⟩ : ByteArray)) ++ (⟨#[45]⟩ : ByteArray)) ++ (⟨#[32]⟩ : ByteArray)) ++ t153) ++ (⟨#[32]⟩ : ByteArray)) ++ t155).size + 1) = False := eq_false (Nat.not_lt.2 c26)
                      (try (have c26b2x := c26b2; simp only [ByteArray.size_append, show (⟨#[32]⟩ : ByteArray).size = 1 from rfl, show (⟨#[45]⟩ : ByteArray).size = 1 from rfl] at c26b2x))
                      have H' := Aside0.mk H
                      clear H
                      have p150 : 0 ≤ (x5_1 : Int) := RFn.od
                      have q150 : x5_1 < (l0.length : Int) := RFn.od
                      obtain ⟨ad150, e150, hx150_0, hx150_1, hx150_2, hx150_3, hx150_4, hx150_5⟩ := at_T54 HR0.out x5_1 p150 q150
                      cases e150
                      replace hx150_0 := RFn.hb HB hx150_0
                      replace hx150_1 := RFn.hb HB hx150_1
                      replace hx150_2 := RFn.hb HB hx150_2
                      replace hx150_3 := RFn.hb HB hx150_3
                      replace hx150_4 := RFn.hb HB hx150_4
                      replace hx150_5 := RFn.hb HB hx150_5
                      replace p150 := eq_true p150
                      replace q150 := eq_true q150
                      try go_wp2_with (first | ((with_reducible refine gate_dst (N := 6) rfl ?_); refine box_event ?hg (N := 6) ?hd (cs := #[.string (⟨#[]⟩ : ByteArray), .string (⟨#[]⟩ : ByteArray), .string (⟨#[]⟩ : ByteArray), .string (⟨#[]⟩ : ByteArray), .int .i64 0]) (t := 52) ?hr ?_; (case hd => rfl); (case hg => rfl); (case hr => first | (go_simp; done) | (go_simp; rfl)); intro gb151 hg w27 hbox hb; have n0_ := Aside0.mk (below_step (RFn.bel) hb); have n1_ := Aside0.mk (hbox); have n2_ := Aside0.mk ((by rw [hg]; exact (below_size (RFn.bel)) : w.heap.size ≤ gb151)); have n3_ := Aside0.mk ((by rw [hg]; exact (below_size (RFn.bel)) : w.heap.size ≤ gb151)); clear HB; have HB := n0_; have BK151 := n1_; have GW151 := n2_; have GE151 := n3_; clear n0_ n1_ n2_ n3_; clear hb hbox hg; obtain ⟨hcz28_0, hcz28_1, hcz28_2, hcz28_3, hcz28_4⟩ := RFn.bc5 BK151; obtain ⟨hfz28_0, hfz28_1, hfz28_2, hfz28_3, hfz28_4⟩ := RFn.bf5 BK151) | ((with_reducible refine gate_callee (f := 24) rfl ?_); refine RFn.goesM (some 28) Tryz.func24 #[.agg #[.string ((rd_T54 l0 x5_1).f0.f0), .string ((rd_T54 l0 x5_1).f0.f1), .string ((rd_T54 l0 x5_1).f0.f2), .string ((rd_T54 l0 x5_1).f0.f3), .int .i64 ((rd_T54 l0 x5_1).f0.f4)]] rfl ?_; (with_reducible refine (ref10_named.calls k1 ((rd_T54 l0 x5_1).f0.f0) ((rd_T54 l0 x5_1).f0.f1) ((rd_T54 l0 x5_1).f0.f2) ((rd_T54 l0 x5_1).f0.f3) ((rd_T54 l0 x5_1).f0.f4) true _ A10.out).mono ?_); rintro e w29 ⟨rfl, hb⟩; refine ⟨_, rfl, ?_⟩; have n0_ := Aside0.mk (blk_below (g := gb151) (o := .cells #[.string ((rd_T54 l0 x5_1).f0.f0), .string ((rd_T54 l0 x5_1).f0.f1), .string ((rd_T54 l0 x5_1).f0.f2), .string ((rd_T54 l0 x5_1).f0.f3), .int .i64 ((rd_T54 l0 x5_1).f0.f4)] 52 (0, 0)) (by refine RFn.d3 ?_; refine blk_put (cs := #[.string ((rd_T54 l0 x5_1).f0.f0), .string ((rd_T54 l0 x5_1).f0.f1), .string ((rd_T54 l0 x5_1).f0.f2), .string ((rd_T54 l0 x5_1).f0.f3), .int .i64 0]) ?_ 4 _ rfl; refine RFn.d3 ?_; refine blk_put (cs := #[.string ((rd_T54 l0 x5_1).f0.f0), .string ((rd_T54 l0 x5_1).f0.f1), .string ((rd_T54 l0 x5_1).f0.f2), .string (⟨#[]⟩ : ByteArray), .int .i64 0]) ?_ 3 _ rfl; refine RFn.d3 ?_; refine blk_put (cs := #[.string ((rd_T54 l0 x5_1).f0.f0), .string ((rd_T54 l0 x5_1).f0.f1), .string (⟨#[]⟩ : ByteArray), .string (⟨#[]⟩ : ByteArray), .int .i64 0]) ?_ 2 _ rfl; refine RFn.d3 ?_; refine blk_put (cs := #[.string ((rd_T54 l0 x5_1).f0.f0), .string (⟨#[]⟩ : ByteArray), .string (⟨#[]⟩ : ByteArray), .string (⟨#[]⟩ : ByteArray), .int .i64 0]) ?_ 1 _ rfl; refine RFn.d3 ?_; refine blk_put (cs := #[.string (⟨#[]⟩ : ByteArray), .string (⟨#[]⟩ : ByteArray), .string (⟨#[]⟩ : ByteArray), .string (⟨#[]⟩ : ByteArray), .int .i64 0]) ?_ 0 _ rfl; refine RFn.d3 ?_; exact BK151.out) hb); have n1_ := Aside0.mk (below_step RFn.bels hb); clear BK151; clear HB; have BK151 := n0_; have HB := n1_; clear n0_ n1_; (try clear hb); obtain ⟨hcz30_0, hcz30_1, hcz30_2, hcz30_3, hcz30_4⟩ := RFn.bc5 BK151; obtain ⟨hfz30_0, hfz30_1, hfz30_2, hfz30_3, hfz30_4⟩ := RFn.bf5 BK151))
                      have n0_ := Aside0.mk (blk_drew BK151.out)
                      have n1_ := Aside0.mk (below_drew1 HB.out)
                      clear BK151
                      clear HB
                      have BK151 := n0_
                      have HB := n1_
                      clear n0_ n1_
                      have p154 : 0 ≤ (x5_1 : Int) := RFn.od
                      have q154 : x5_1 < (l0.length : Int) := RFn.od
                      obtain ⟨ad154, e154, hx154_0, hx154_1, hx154_2, hx154_3, hx154_4, hx154_5⟩ := at_T54 HR0.out x5_1 p154 q154
                      have hw154_5 := hx154_5
                      have hw154_4 := hx154_4
                      have hw154_3 := hx154_3
                      have hw154_2 := hx154_2
                      have hw154_1 := hx154_1
                      have hw154_0 := hx154_0
                      obtain rfl : ad150 = ad154 := (by injection e154)
                      replace hx154_0 := RFn.hb HB hx154_0
                      replace hx154_1 := RFn.hb HB hx154_1
                      replace hx154_2 := RFn.hb HB hx154_2
                      replace hx154_3 := RFn.hb HB hx154_3
                      replace hx154_4 := RFn.hb HB hx154_4
                      replace hx154_5 := RFn.hb HB hx154_5
                      replace p154 := eq_true p154
                      replace q154 := eq_true q154
                      refine start_ (n := 30) (S := fun w' => w'.cell? ⟨gb151, 0, none⟩ = some (.string ((rd_T54 l0 x5_1).f0.f0)) ∧ w'.cell? ⟨gb151, 1, none⟩ = some (.string ((rd_T54 l0 x5_1).f0.f1)) ∧ w'.cell? ⟨gb151, 2, none⟩ = some (.string ((rd_T54 l0 x5_1).f0.f2)) ∧ w'.cell? ⟨gb151, 3, none⟩ = some (.string ((rd_T54 l0 x5_1).f0.f3)) ∧ w'.cell? ⟨gb151, 4, none⟩ = some (.int .i64 ((rd_T54 l0 x5_1).f0.f4)) ∧ w'.cell? (ad150.add ((x5_1).toNat * 6)) = some (.string ((rd_T54 l0 x5_1).f0.f0)) ∧ w'.cell? ⟨(ad150.add ((x5_1).toNat * 6)).block, (ad150.add ((x5_1).toNat * 6)).off + 1, none⟩ = some (.string ((rd_T54 l0 x5_1).f0.f1)) ∧ w'.cell? ⟨(ad150.add ((x5_1).toNat * 6)).block, (ad150.add ((x5_1).toNat * 6)).off + 2, none⟩ = some (.string ((rd_T54 l0 x5_1).f0.f2)) ∧ w'.cell? ⟨(ad150.add ((x5_1).toNat * 6)).block, (ad150.add ((x5_1).toNat * 6)).off + 3, none⟩ = some (.string ((rd_T54 l0 x5_1).f0.f3)) ∧ w'.cell? ⟨(ad150.add ((x5_1).toNat * 6)).block, (ad150.add ((x5_1).toNat * 6)).off + 4, none⟩ = some (.int .i64 ((rd_T54 l0 x5_1).f0.f4)) ∧ w'.cell? ⟨(ad150.add ((x5_1).toNat * 6)).block, (ad150.add ((x5_1).toNat * 6)).off + 5, none⟩ = some (.int .i64 ((rd_T54 l0 x5_1).f1))) (ds := []) (bz 30 0) (by kernel_rfl) rfl rfl ⟨(blk_cell BK151.out 0).trans rfl, (blk_cell BK151.out 1).trans rfl, (blk_cell BK151.out 2).trans rfl, (blk_cell BK151.out 3).trans rfl, (blk_cell BK151.out 4).trans rfl, (by first | exact RFn.hb HB hw154_0 | exact RFn.hb ⟨pw_below_drewN HB.out _⟩ hw154_0 | exact RFn.hb ⟨pw_below_drewN (pw_below_drewN HB.out _) _⟩ hw154_0), (by first | exact RFn.hb HB hw154_1 | exact RFn.hb ⟨pw_below_drewN HB.out _⟩ hw154_1 | exact RFn.hb ⟨pw_below_drewN (pw_below_drewN HB.out _) _⟩ hw154_1), (by first | exact RFn.hb HB hw154_2 | exact RFn.hb ⟨pw_below_drewN HB.out _⟩ hw154_2 | exact RFn.hb ⟨pw_below_drewN (pw_below_drewN HB.out _) _⟩ hw154_2), (by first | exact RFn.hb HB hw154_3 | exact RFn.hb ⟨pw_below_drewN HB.out _⟩ hw154_3 | exact RFn.hb ⟨pw_below_drewN (pw_below_drewN HB.out _) _⟩ hw154_3), (by first | exact RFn.hb HB hw154_4 | exact RFn.hb ⟨pw_below_drewN HB.out _⟩ hw154_4 | exact RFn.hb ⟨pw_below_drewN (pw_below_drewN HB.out _) _⟩ hw154_4), (by first | exact RFn.hb HB hw154_5 | exact RFn.hb ⟨pw_below_drewN HB.out _⟩ hw154_5 | exact RFn.hb ⟨pw_below_drewN (pw_below_drewN HB.out _) _⟩ hw154_5)⟩ (fun hHeld => ?_); refine with_tabW ref10_Print.tab13 ref10_Print.bits13 (fun HT_ HW_ => ?_)
                      generalize w29.drew = w31 at BK151 HB hx154_0 hx154_1 hx154_2 hx154_3 hx154_4 hx154_5 hHeld ⊢
                      refine RFn.pA (i := 0) (N := some 34) (bz 30 1) HT_ ?_
                      refine RFn.pA (i := 1) (N := some 35) (bz 30 3) HT_ ?_
                      refine RFn.pA (i := 5) (N := some 39) (bz 30 35) HT_ ?_
                      refine RFn.pA (i := 9) (N := some 43) (bz 30 547) HT_ ?_
                      refine RFn.pA (i := 13) (N := some 47) (bz 30 8739) HT_ ?_
                      refine RFn.pA (i := 16) (N := some 50) (bz 30 74275) HT_ ?_
                      refine RFn.pA (i := 21) (N := some 55) (bz 30 2171427) HT_ ?_
                      refine RFn.pA (i := 22) (N := some 56) (bz 30 6365731) HT_ ?_
                      refine RFn.pA (i := 23) (N := some 57) (bz 30 14754339) HT_ ?_
                      refine RFn.pA (i := 24) (N := some 58) (bz 30 31531555) HT_ ?_
                      refine RFn.tA (i := 2) (N := some 36) (bz 30 31531559) rfl HT_ HW_ hHeld (by rintro w' ⟨s0, s1, s2, s3, s4, s5, s6, s7, s8, s9, s10⟩; go_simp; with_reducible rfl) ?_
                      refine RFn.pA (i := 3) (N := some 37) (bz 30 31531567) HT_ ?_
                      refine RFn.pA (i := 4) (N := some 38) (bz 30 31531583) HT_ ?_
                      refine RFn.tA (i := 6) (N := some 40) (bz 30 31531647) rfl HT_ HW_ hHeld (by rintro w' ⟨s0, s1, s2, s3, s4, s5, s6, s7, s8, s9, s10⟩; go_simp; with_reducible rfl) ?_
                      refine RFn.pA (i := 7) (N := some 41) (bz 30 31531775) HT_ ?_
                      refine RFn.pA (i := 8) (N := some 42) (bz 30 31532031) HT_ ?_
                      refine RFn.tA (i := 10) (N := some 44) (bz 30 31533055) rfl HT_ HW_ hHeld (by rintro w' ⟨s0, s1, s2, s3, s4, s5, s6, s7, s8, s9, s10⟩; go_simp; with_reducible rfl) ?_
                      refine RFn.pA (i := 11) (N := some 45) (bz 30 31535103) HT_ ?_
                      refine RFn.pA (i := 12) (N := some 46) (bz 30 31539199) HT_ ?_
                      refine RFn.pA (i := 14) (N := some 48) (bz 30 31555583) HT_ ?_
                      refine RFn.pA (i := 15) (N := some 49) (bz 30 31588351) HT_ ?_
                      refine RFn.tA (i := 17) (N := some 51) (bz 30 31719423) rfl HT_ HW_ hHeld (by rintro w' ⟨s0, s1, s2, s3, s4, s5, s6, s7, s8, s9, s10⟩; go_simp; with_reducible rfl) ?_
                      refine RFn.tA (i := 25) (N := some 59) (bz 30 65273855) rfl HT_ HW_ hHeld (by rintro w' ⟨s0, s1, s2, s3, s4, s5, s6, s7, s8, s9, s10⟩; go_simp; with_reducible rfl) ?_
                      refine RFn.o1 (i := 18) (N := some 52) (bz 30 65535999) HT_ fun K hK => ?_
                      refine RFn.gA Tryz.func23 #[.int .i64 ((rd_T54 l0 x5_1).f0.f4)] rfl ?_
                      with_reducible refine (ref01_Print.calls k1 ((rd_T54 l0 x5_1).f0.f4) t153 _ A21.out).mono ?_
                      rintro e w' ⟨rfl, ⟨nd, rfl⟩⟩
                      refine ⟨_, rfl, ?_⟩
                      refine hK.out _ _ ⟨(blk_cell BK151.out 0).trans rfl, (blk_cell BK151.out 1).trans rfl, (blk_cell BK151.out 2).trans rfl, (blk_cell BK151.out 3).trans rfl, (blk_cell BK151.out 4).trans rfl, (by first | exact RFn.hb HB hw154_0 | exact RFn.hb ⟨pw_below_drewN HB.out _⟩ hw154_0 | exact RFn.hb ⟨pw_below_drewN (pw_below_drewN HB.out _) _⟩ hw154_0), (by first | exact RFn.hb HB hw154_1 | exact RFn.hb ⟨pw_below_drewN HB.out _⟩ hw154_1 | exact RFn.hb ⟨pw_below_drewN (pw_below_drewN HB.out _) _⟩ hw154_1), (by first | exact RFn.hb HB hw154_2 | exact RFn.hb ⟨pw_below_drewN HB.out _⟩ hw154_2 | exact RFn.hb ⟨pw_below_drewN (pw_below_drewN HB.out _) _⟩ hw154_2), (by first | exact RFn.hb HB hw154_3 | exact RFn.hb ⟨pw_below_drewN HB.out _⟩ hw154_3 | exact RFn.hb ⟨pw_below_drewN (pw_below_drewN HB.out _) _⟩ hw154_3), (by first | exact RFn.hb HB hw154_4 | exact RFn.hb ⟨pw_below_drewN HB.out _⟩ hw154_4 | exact RFn.hb ⟨pw_below_drewN (pw_below_drewN HB.out _) _⟩ hw154_4), (by first | exact RFn.hb HB hw154_5 | exact RFn.hb ⟨pw_below_drewN HB.out _⟩ hw154_5 | exact RFn.hb ⟨pw_below_drewN (pw_below_drewN HB.out _) _⟩ hw154_5)⟩ (fun hHeld => ?_)
                      clear hK K
                      refine RFn.nm (some 52) ?_
                      refine RFn.pA (i := 19) (N := some 53) (bz 30 66060287) HT_ ?_
                      refine RFn.pA (i := 20) (N := some 54) (bz 30 67108863) HT_ ?_
                      refine RFn.o1 (i := 26) (N := some 60) (bz 30 134217727) HT_ fun K hK => ?_
                      refine RFn.gA Tryz.func23 #[.int .i64 ((rd_T54 l0 x5_1).f1)] rfl ?_
                      with_reducible refine (ref01_Print.calls k1 ((rd_T54 l0 x5_1).f1) t155 _ A24.out).mono ?_
                      rintro e w' ⟨rfl, ⟨nd, rfl⟩⟩
                      refine ⟨_, rfl, ?_⟩
                      refine hK.out _ _ ⟨(blk_cell BK151.out 0).trans rfl, (blk_cell BK151.out 1).trans rfl, (blk_cell BK151.out 2).trans rfl, (blk_cell BK151.out 3).trans rfl, (blk_cell BK151.out 4).trans rfl, (by first | exact RFn.hb HB hw154_0 | exact RFn.hb ⟨pw_below_drewN HB.out _⟩ hw154_0 | exact RFn.hb ⟨pw_below_drewN (pw_below_drewN HB.out _) _⟩ hw154_0), (by first | exact RFn.hb HB hw154_1 | exact RFn.hb ⟨pw_below_drewN HB.out _⟩ hw154_1 | exact RFn.hb ⟨pw_below_drewN (pw_below_drewN HB.out _) _⟩ hw154_1), (by first | exact RFn.hb HB hw154_2 | exact RFn.hb ⟨pw_below_drewN HB.out _⟩ hw154_2 | exact RFn.hb ⟨pw_below_drewN (pw_below_drewN HB.out _) _⟩ hw154_2), (by first | exact RFn.hb HB hw154_3 | exact RFn.hb ⟨pw_below_drewN HB.out _⟩ hw154_3 | exact RFn.hb ⟨pw_below_drewN (pw_below_drewN HB.out _) _⟩ hw154_3), (by first | exact RFn.hb HB hw154_4 | exact RFn.hb ⟨pw_below_drewN HB.out _⟩ hw154_4 | exact RFn.hb ⟨pw_below_drewN (pw_below_drewN HB.out _) _⟩ hw154_4), (by first | exact RFn.hb HB hw154_5 | exact RFn.hb ⟨pw_below_drewN HB.out _⟩ hw154_5 | exact RFn.hb ⟨pw_below_drewN (pw_below_drewN HB.out _) _⟩ hw154_5)⟩ (fun hHeld => ?_)
                      clear hK K
                      refine RFn.nm (some 60) ?_
                      refine RFn.pA (i := 27) (N := some 61) (bz 30 268435455) HT_ ?_
                      refine RFn.pA (i := 28) (N := some 62) (bz 30 536870911) HT_ ?_
                      refine RFn.pA (i := 29) (N := some 4) (bz 30 1073741823) HT_ ?_
                      refine RFn.dn HT_ ?_
                      try go_wp2
                      go_roundg k1
                      case measure => have := HK1.out; omega
                      case rel => exact ⟨((((((((((((x4_1 ++ ((rd_T54 l0 x5_1).f0.f0)) ++ (⟨#[32]⟩ : ByteArray)) ++ ((rd_T54 l0 x5_1).f0.f1)) ++ (⟨#[32]⟩ : ByteArray)) ++ ((rd_T54 l0 x5_1).f0.f2)) ++ (⟨#[32]⟩ : ByteArray)) ++ (⟨#[45]⟩ : ByteArray)) ++ (⟨#[32]⟩ : ByteArray)) ++ t153) ++ (⟨#[32]⟩ : ByteArray)) ++ t155) ++ (⟨#[10]⟩ : ByteArray)), (wrap64 (x5_1 + 1)), (by first | rfl | (simp; done) | (simp [*]; done)), (by first | rfl | (simp; done) | (simp [*]; done)), H', ⟨RFn.lk HK1⟩, ⟨RFn.bels⟩⟩
                     ·rw [if_neg c26] at H
                      exact absurd H (by simp)
                    ·rw [if_neg c25] at H
                     exact absurd H (by simp)
                   ·rw [if_neg c23] at H
                    exact absurd H (by simp)
                  ·rw [if_neg c22] at H
                   exact absurd H (by simp)
                 ·rw [if_neg c20] at H
                  exact absurd H (by simp)
                ·rw [if_neg c19] at H
                 exact absurd H (by simp)
               ·rw [if_neg c18] at H
                exact absurd H (by simp)
              ·rw [if_neg c17] at H
               exact absurd H (by simp)
             ·rw [if_neg c16] at H
              exact absurd H (by simp)
            ·rw [if_neg c15] at H
             exact absurd H (by simp)
           ·rw [if_neg c14] at H
            exact absurd H (by simp)
          ·rw [if_neg c13] at H
           exact absurd H (by simp)
         ·rw [if_neg c12] at H
          have c12b0 : (((rd_T54 l0 x5_1).f0.f3).toList == ([] : List UInt8)) = false := beq_eq_false_iff_ne.mpr c12
          have c12b1 : (((rd_T54 l0 x5_1).f0.f3).toList != ([] : List UInt8)) = true := bne_iff_ne.mpr c12
          by_cases c32 : x4_1.size + ((rd_T54 l0 x5_1).f0.f0).size ≤ 9223372036854775807
          ·rw [if_pos c32] at H
           have c32b0 := eq_true c32
           have c32b1 : decide (x4_1.size + ((rd_T54 l0 x5_1).f0.f0).size ≤ 9223372036854775807) = true := decide_eq_true c32
           try have c32b2 : (9223372036854775807 < x4_1.size + ((rd_T54 l0 x5_1).f0.f0).size) = False := eq_false (Nat.not_lt.2 c32)
           by_cases c33 : (x4_1 ++ ((rd_T54 l0 x5_1).f0.f0)).size + 1 ≤ 9223372036854775807
           ·rw [if_pos c33] at H
            have c33b0 := eq_true c33
            have c33b1 : decide ((x4_1 ++ ((rd_T54 l0 x5_1).f0.f0)).size + 1 ≤ 9223372036854775807) = true := decide_eq_true c33
            (try (have c33b1x := c33b1; simp only [ByteArray.size_append] at c33b1x))
            try have c33b2 : (9223372036854775807 < (x4_1 ++ ((rd_T54 l0 x5_1).f0.f0)).size + 1) = False := eq_false (Nat.not_lt.2 c33)
            (try (have c33b2x := c33b2; simp only [ByteArray.size_append] at c33b2x))
            by_cases c34 : ((x4_1 ++ ((rd_T54 l0 x5_1).f0.f0)) ++ (⟨#[32]⟩ : ByteArray)).size + ((rd_T54 l0 x5_1).f0.f1).size ≤ 9223372036854775807
            ·rw [if_pos c34] at H
             have c34b0 := eq_true c34
             have c34b1 : decide (((x4_1 ++ ((rd_T54 l0 x5_1).f0.f0)) ++ (⟨#[32]⟩ : ByteArray)).size + ((rd_T54 l0 x5_1).f0.f1).size ≤ 9223372036854775807) = true := decide_eq_true c34
             (try (have c34b1x := c34b1; simp only [ByteArray.size_append, show (⟨#[32]⟩ : ByteArray).size = 1 from rfl] at c34b1x))
             try have c34b2 : (9223372036854775807 < ((x4_1 ++ ((rd_T54 l0 x5_1).f0.f0)) ++ (⟨#[32]⟩ : ByteArray)).size + ((rd_T54 l0 x5_1).f0.f1).size) = False := eq_false (Nat.not_lt.2 c34)
             (try (have c34b2x := c34b2; simp only [ByteArray.size_append, show (⟨#[32]⟩ : ByteArray).size = 1 from rfl] at c34b2x))
             by_cases c35 : (((x4_1 ++ ((rd_T54 l0 x5_1).f0.f0)) ++ (⟨#[32]⟩ : ByteArray)) ++ ((rd_T54 l0 x5_1).f0.f1)).size + 1 ≤ 9223372036854775807
             ·rw [if_pos c35] at H
              have c35b0 := eq_true c35
              have c35b1 : decide ((((x4_1 ++ ((rd_T54 l0 x5_1).f0.f0)) ++ (⟨#[32]⟩ : ByteArray)) ++ ((rd_T54 l0 x5_1).f0.f1)).size + 1 ≤ 9223372036854775807) = true := decide_eq_true c35
              (try (have c35b1x := c35b1; simp only [ByteArray.size_append, show (⟨#[32]⟩ : ByteArray).size = 1 from rfl] at c35b1x))
              try have c35b2 : (9223372036854775807 < (((x4_1 ++ ((rd_T54 l0 x5_1).f0.f0)) ++ (⟨#[32]⟩ : ByteArray)) ++ ((rd_T54 l0 x5_1).f0.f1)).size + 1) = False := eq_false (Nat.not_lt.2 c35)
              (try (have c35b2x := c35b2; simp only [ByteArray.size_append, show (⟨#[32]⟩ : ByteArray).size = 1 from rfl] at c35b2x))
              by_cases c36 : ((((x4_1 ++ ((rd_T54 l0 x5_1).f0.f0)) ++ (⟨#[32]⟩ : ByteArray)) ++ ((rd_T54 l0 x5_1).f0.f1)) ++ (⟨#[32]⟩ : ByteArray)).size + ((rd_T54 l0 x5_1).f0.f2).size ≤ 9223372036854775807
              ·rw [if_pos c36] at H
               have c36b0 := eq_true c36
               have c36b1 : decide (((((x4_1 ++ ((rd_T54 l0 x5_1).f0.f0)) ++ (⟨#[32]⟩ : ByteArray)) ++ ((rd_T54 l0 x5_1).f0.f1)) ++ (⟨#[32]⟩ : ByteArray)).size + ((rd_T54 l0 x5_1).f0.f2).size ≤ 9223372036854775807) = true := decide_eq_true c36
               (try (have c36b1x := c36b1; simp only [ByteArray.size_append, show (⟨#[32]⟩ : ByteArray).size = 1 from rfl] at c36b1x))
               try have c36b2 : (9223372036854775807 < ((((x4_1 ++ ((rd_T54 l0 x5_1).f0.f0)) ++ (⟨#[32]⟩ : ByteArray)) ++ ((rd_T54 l0 x5_1).f0.f1)) ++ (⟨#[32]⟩ : ByteArray)).size + ((rd_T54 l0 x5_1).f0.f2).size) = False := eq_false (Nat.not_lt.2 c36)
               (try (have c36b2x := c36b2; simp only [ByteArray.size_append, show (⟨#[32]⟩ : ByteArray).size = 1 from rfl] at c36b2x))
               by_cases c37 : (((((x4_1 ++ ((rd_T54 l0 x5_1).f0.f0)) ++ (⟨#[32]⟩ : ByteArray)) ++ ((rd_T54 l0 x5_1).f0.f1)) ++ (⟨#[32]⟩ : ByteArray)) ++ ((rd_T54 l0 x5_1).f0.f2)).size + 1 ≤ 9223372036854775807
               ·rw [if_pos c37] at H
                have c37b0 := eq_true c37
                have c37b1 : decide ((((((x4_1 ++ ((rd_T54 l0 x5_1).f0.f0)) ++ (⟨#[32]⟩ : ByteArray)) ++ ((rd_T54 l0 x5_1).f0.f1)) ++ (⟨#[32]⟩ : ByteArray)) ++ ((rd_T54 l0 x5_1).f0.f2)).size + 1 ≤ 9223372036854775807) = true := decide_eq_true c37
                (try (have c37b1x := c37b1; simp only [ByteArray.size_append, show (⟨#[32]⟩ : ByteArray).size = 1 from rfl] at c37b1x))
                try have c37b2 : (9223372036854775807 < (((((x4_1 ++ ((rd_T54 l0 x5_1).f0.f0)) ++ (⟨#[32]⟩ : ByteArray)) ++ ((rd_T54 l0 x5_1).f0.f1)) ++ (⟨#[32]⟩ : ByteArray)) ++ ((rd_T54 l0 x5_1).f0.f2)).size + 1) = False := eq_false (Nat.not_lt.2 c37)
                (try (have c37b2x := c37b2; simp only [ByteArray.size_append, show (⟨#[32]⟩ : ByteArray).size = 1 from rfl] at c37b2x))
                by_cases c38 : ((((((x4_1 ++ ((rd_T54 l0 x5_1).f0.f0)) ++ (⟨#[32]⟩ : ByteArray)) ++ ((rd_T54 l0 x5_1).f0.f1)) ++ (⟨#[32]⟩ : ByteArray)) ++ ((rd_T54 l0 x5_1).f0.f2)) ++ (⟨#[32]⟩ : ByteArray)).size + ((rd_T54 l0 x5_1).f0.f3).size ≤ 9223372036854775807
                ·rw [if_pos c38] at H
                 have c38b0 := eq_true c38
                 have c38b1 : decide (((((((x4_1 ++ ((rd_T54 l0 x5_1).f0.f0)) ++ (⟨#[32]⟩ : ByteArray)) ++ ((rd_T54 l0 x5_1).f0.f1)) ++ (⟨#[32]⟩ : ByteArray)) ++ ((rd_T54 l0 x5_1).f0.f2)) ++ (⟨#[32]⟩ : ByteArray)).size + ((rd_T54 l0 x5_1).f0.f3).size ≤ 9223372036854775807) = true := decide_eq_true c38
                 (try (have c38b1x := c38b1; simp only [ByteArray.size_append, show (⟨#[32]⟩ : ByteArray).size = 1 from rfl] at c38b1x))
                 try have c38b2 : (9223372036854775807 < ((((((x4_1 ++ ((rd_T54 l0 x5_1).f0.f0)) ++ (⟨#[32]⟩ : ByteArray)) ++ ((rd_T54 l0 x5_1).f0.f1)) ++ (⟨#[32]⟩ : ByteArray)) ++ ((rd_T54 l0 x5_1).f0.f2)) ++ (⟨#[32]⟩ : ByteArray)).size + ((rd_T54 l0 x5_1).f0.f3).size) = False := eq_false (Nat.not_lt.2 c38)
                 (try (have c38b2x := c38b2; simp only [ByteArray.size_append, show (⟨#[32]⟩ : ByteArray).size = 1 from rfl] at c38b2x))
                 by_cases c39 : (((((((x4_1 ++ ((rd_T54 l0 x5_1).f0.f0)) ++ (⟨#[32]⟩ : ByteArray)) ++ ((rd_T54 l0 x5_1).f0.f1)) ++ (⟨#[32]⟩ : ByteArray)) ++ ((rd_T54 l0 x5_1).f0.f2)) ++ (⟨#[32]⟩ : ByteArray)) ++ ((rd_T54 l0 x5_1).f0.f3)).size + 1 ≤ 9223372036854775807
                 ·rw [if_pos c39] at H
                  have c39b0 := eq_true c39
                  have c39b1 : decide ((((((((x4_1 ++ ((rd_T54 l0 x5_1).f0.f0)) ++ (⟨#[32]⟩ : ByteArray)) ++ ((rd_T54 l0 x5_1).f0.f1)) ++ (⟨#[32]⟩ : ByteArray)) ++ ((rd_T54 l0 x5_1).f0.f2)) ++ (⟨#[32]⟩ : ByteArray)) ++ ((rd_T54 l0 x5_1).f0.f3)).size + 1 ≤ 9223372036854775807) = true := decide_eq_true c39
                  (try (have c39b1x := c39b1; simp only [ByteArray.size_append, show (⟨#[32]⟩ : ByteArray).size = 1 from rfl] at c39b1x))
                  try have c39b2 : (9223372036854775807 < (((((((x4_1 ++ ((rd_T54 l0 x5_1).f0.f0)) ++ (⟨#[32]⟩ : ByteArray)) ++ ((rd_T54 l0 x5_1).f0.f1)) ++ (⟨#[32]⟩ : ByteArray)) ++ ((rd_T54 l0 x5_1).f0.f2)) ++ (⟨#[32]⟩ : ByteArray)) ++ ((rd_T54 l0 x5_1).f0.f3)).size + 1) = False := eq_false (Nat.not_lt.2 c39)
                  (try (have c39b2x := c39b2; simp only [ByteArray.size_append, show (⟨#[32]⟩ : ByteArray).size = 1 from rfl] at c39b2x))
                  obtain ⟨t156, A40, H⟩ := RFn.bn H
                  by_cases c41 : ((((((((x4_1 ++ ((rd_T54 l0 x5_1).f0.f0)) ++ (⟨#[32]⟩ : ByteArray)) ++ ((rd_T54 l0 x5_1).f0.f1)) ++ (⟨#[32]⟩ : ByteArray)) ++ ((rd_T54 l0 x5_1).f0.f2)) ++ (⟨#[32]⟩ : ByteArray)) ++ ((rd_T54 l0 x5_1).f0.f3)) ++ (⟨#[32]⟩ : ByteArray)).size + t156.size ≤ 9223372036854775807
                  ·rw [if_pos c41] at H
                   have c41b0 := eq_true c41
                   have c41b1 : decide (((((((((x4_1 ++ ((rd_T54 l0 x5_1).f0.f0)) ++ (⟨#[32]⟩ : ByteArray)) ++ ((rd_T54 l0 x5_1).f0.f1)) ++ (⟨#[32]⟩ : ByteArray)) ++ ((rd_T54 l0 x5_1).f0.f2)) ++ (⟨#[32]⟩ : ByteArray)) ++ ((rd_T54 l0 x5_1).f0.f3)) ++ (⟨#[32]⟩ : ByteArray)).size + t156.size ≤ 9223372036854775807) = true := decide_eq_true c41
                   (try (have c41b1x := c41b1; simp only [ByteArray.size_append, show (⟨#[32]⟩ : ByteArray).size = 1 from rfl] at c41b1x))
                   try have c41b2 : (9223372036854775807 < ((((((((x4_1 ++ ((rd_T54 l0 x5_1).f0.f0)) ++ (⟨#[32]⟩ : ByteArray)) ++ ((rd_T54 l0 x5_1).f0.f1)) ++ (⟨#[32]⟩ : ByteArray)) ++ ((rd_T54 l0 x5_1).f0.f2)) ++ (⟨#[32]⟩ : ByteArray)) ++ ((rd_T54 l0 x5_1).f0.f3)) ++ (⟨#[32]⟩ : ByteArray)).size + t156.size) = False := eq_false (Nat.not_lt.2 c41)
                   (try (have c41b2x := c41b2; simp only [ByteArray.size_append, show (⟨#[32]⟩ : ByteArray).size = 1 from rfl] at c41b2x))
                   by_cases c42 : (((((((((x4_1 ++ ((rd_T54 l0 x5_1).f0.f0)) ++ (⟨#[32]⟩ : ByteArray)) ++ ((rd_T54 l0 x5_1).f0.f1)) ++ (⟨#[32]⟩ : ByteArray)) ++ ((rd_T54 l0 x5_1).f0.f2)) ++ (⟨#[32]⟩ : ByteArray)) ++ ((rd_T54 l0 x5_1).f0.f3)) ++ (⟨#[32]⟩ : ByteArray)) ++ t156).size + 1 ≤ 9223372036854775807
                   ·rw [if_pos c42] at H
                    have c42b0 := eq_true c42
                    have c42b1 : decide ((((((((((x4_1 ++ ((rd_T54 l0 x5_1).f0.f0)) ++ (⟨#[32]⟩ : ByteArray)) ++ ((rd_T54 l0 x5_1).f0.f1)) ++ (⟨#[32]⟩ : ByteArray)) ++ ((rd_T54 l0 x5_1).f0.f2)) ++ (⟨#[32]⟩ : ByteArray)) ++ ((rd_T54 l0 x5_1).f0.f3)) ++ (⟨#[32]⟩ : ByteArray)) ++ t156).size + 1 ≤ 9223372036854775807) = true := decide_eq_true c42
                    (try (have c42b1x := c42b1; simp only [ByteArray.size_append, show (⟨#[32]⟩ : ByteArray).size = 1 from rfl] at c42b1x))
                    try have c42b2 : (9223372036854775807 < (((((((((x4_1 ++ ((rd_T54 l0 x5_1).f0.f0)) ++ (⟨#[32]⟩ : ByteArray)) ++ ((rd_T54 l0 x5_1).f0.f1)) ++ (⟨#[32]⟩ : ByteArray)) ++ ((rd_T54 l0 x5_1).f0.f2)) ++ (⟨#[32]⟩ : ByteArray)) ++ ((rd_T54 l0 x5_1).f0.f3)) ++ (⟨#[32]⟩ : ByteArray)) ++ t156).size + 1) = False := eq_false (Nat.not_lt.2 c42)
                    (try (have c42b2x := c42b2; simp only [ByteArray.size_append, show (⟨#[32]⟩ : ByteArray).size = 1 from rfl] at c42b2x))
                    obtain ⟨t158, A43, H⟩ := RFn.bn H
                    by_cases c44 : ((((((((((x4_1 ++ ((rd_T54 l0 x5_1).f0.f0)) ++ (⟨#[32]⟩ : ByteArray)) ++ ((rd_T54 l0 x5_1).f0.f1)) ++ (⟨#[32]⟩ : ByteArray)) ++ ((rd_T54 l0 x5_1).f0.f2)) ++ (⟨#[32]⟩ : ByteArray)) ++ ((rd_T54 l0 x5_1).f0.f3)) ++ (⟨#[32]⟩ : ByteArray)) ++ t156) ++ (⟨#[32]⟩ : ByteArray)).size + t158.size ≤ 9223372036854775807
                    ·rw [if_pos c44] at H
                     have c44b0 := eq_true c44
                     have c44b1 : decide (((((((((((x4_1 ++ ((rd_T54 l0 x5_1).f0.f0)) ++ (⟨#[32]⟩ : ByteArray)) ++ ((rd_T54 l0 x5_1).f0.f1)) ++ (⟨#[32]⟩ : ByteArray)) ++ ((rd_T54 l0 x5_1).f0.f2)) ++ (⟨#[32]⟩ : ByteArray)) ++ ((rd_T54 l0 x5_1).f0.f3)) ++ (⟨#[32]⟩ : ByteArray)) ++ t156) ++ (⟨#[32]⟩ : ByteArray)).size + t158.size ≤ 9223372036854775807) = true := decide_eq_true c44
                     (try (have c44b1x := c44b1; simp only [ByteArray.size_append, show (⟨#[32]⟩ : ByteArray).size = 1 from rfl] at c44b1x))
                     try have c44b2 : (9223372036854775807 < ((((((((((x4_1 ++ ((rd_T54 l0 x5_1).f0.f0)) ++ (⟨#[32]⟩ : ByteArray)) ++ ((rd_T54 l0 x5_1).f0.f1)) ++ (⟨#[32]⟩ : ByteArray)) ++ ((rd_T54 l0 x5_1).f0.f2)) ++ (⟨#[32]⟩ : ByteArray)) ++ ((rd_T54 l0 x5_1).f0.f3)) ++ (⟨#[32]⟩ : ByteArray)) ++ t156) ++ (⟨#[32]⟩ : ByteArray)).size + t158.size) = False := eq_false (Nat.not_lt.2 c44)
                     (try (have c44b2x := c44b2; simp only [ByteArray.size_append, show (⟨#[32]⟩ : ByteArray).size = 1 from rfl] at c44b2x))
                     by_cases c45 : (((((((((((x4_1 ++ ((rd_T54 l0 x5_1).f0.f0)) ++ (⟨#[32]⟩ : ByteArray)) ++ ((rd_T54 l0 x5_1).f0.f1)) ++ (⟨#[32]⟩ : ByteArray)) ++ ((rd_T54 l0 x5_1).f0.f2)) ++ (⟨#[32]⟩ : ByteArray)) ++ ((rd_T54 l0 x5_1).f0.f3)) ++ (⟨#[32]⟩ : ByteArray)) ++ t156) ++ (⟨#[32]⟩ : ByteArray)) ++ t158).size + 1 ≤ 9223372036854775807
                     ·rw [if_pos c45] at H
                      have c45b0 := eq_true c45
                      have c45b1 : decide ((((((((((((x4_1 ++ ((rd_T54 l0 x5_1).f0.f0)) ++ (⟨#[32]⟩ : ByteArray)) ++ ((rd_T54 l0 x5_1).f0.f1)) ++ (⟨#[32]⟩ : ByteArray)) ++ ((rd_T54 l0 x5_1).f0.f2)) ++ (⟨#[32]⟩ : ByteArray)) ++ ((rd_T54 l0 x5_1).f0.f3)) ++ (⟨#[32]⟩ : ByteArray)) ++ t156) ++ (⟨#[32]⟩ : ByteArray)) ++ t158).size + 1 ≤ 9223372036854775807) = true := decide_eq_true c45
                      (try (have c45b1x := c45b1; simp only [ByteArray.size_append, show (⟨#[32]⟩ : ByteArray).size = 1 from rfl] at c45b1x))
                      try have c45b2 : (9223372036854775807 < (((((((((((x4_1 ++ ((rd_T54 l0 x5_1).f0.f0)) ++ (⟨#[32]⟩ : ByteArray)) ++ ((rd_T54 l0 x5_1).f0.f1)) ++ (⟨#[32]⟩ : ByteArray)) ++ ((rd_T54 l0 x5_1).f0.f2)) ++ (⟨#[32]⟩ : ByteArray)) ++ ((rd_T54 l0 x5_1).f0.f3)) ++ (⟨#[32]⟩ : ByteArray)) ++ t156) ++ (⟨#[32]⟩ : ByteArray)) ++ t158).size + 1) = False := eq_false (Nat.not_lt.2 c45)
                      (try (have c45b2x := c45b2; simp only [ByteArray.size_append, show (⟨#[32]⟩ : ByteArray).size = 1 from rfl] at c45b2x))
                      have H' := Aside0.mk H
                      clear H
                      have p150 : 0 ≤ (x5_1 : Int) := RFn.od
                      have q150 : x5_1 < (l0.length : Int) := RFn.od
                      obtain ⟨ad150, e150, hx150_0, hx150_1, hx150_2, hx150_3, hx150_4, hx150_5⟩ := at_T54 HR0.out x5_1 p150 q150
                      cases e150
                      replace hx150_0 := RFn.hb HB hx150_0
                      replace hx150_1 := RFn.hb HB hx150_1
                      replace hx150_2 := RFn.hb HB hx150_2
                      replace hx150_3 := RFn.hb HB hx150_3
                      replace hx150_4 := RFn.hb HB hx150_4
                      replace hx150_5 := RFn.hb HB hx150_5
                      replace p150 := eq_true p150
                      replace q150 := eq_true q150
                      try go_wp2_with (first | ((with_reducible refine gate_dst (N := 6) rfl ?_); refine box_event ?hg (N := 6) ?hd (cs := #[.string (⟨#[]⟩ : ByteArray), .string (⟨#[]⟩ : ByteArray), .string (⟨#[]⟩ : ByteArray), .string (⟨#[]⟩ : ByteArray), .int .i64 0]) (t := 52) ?hr ?_; (case hd => rfl); (case hg => rfl); (case hr => first | (go_simp; done) | (go_simp; rfl)); intro gb151 hg w46 hbox hb; have n0_ := Aside0.mk (below_step (RFn.bel) hb); have n1_ := Aside0.mk (hbox); have n2_ := Aside0.mk ((by rw [hg]; exact (below_size (RFn.bel)) : w.heap.size ≤ gb151)); have n3_ := Aside0.mk ((by rw [hg]; exact (below_size (RFn.bel)) : w.heap.size ≤ gb151)); clear HB; have HB := n0_; have BK151 := n1_; have GW151 := n2_; have GE151 := n3_; clear n0_ n1_ n2_ n3_; clear hb hbox hg; obtain ⟨hcz47_0, hcz47_1, hcz47_2, hcz47_3, hcz47_4⟩ := RFn.bc5 BK151; obtain ⟨hfz47_0, hfz47_1, hfz47_2, hfz47_3, hfz47_4⟩ := RFn.bf5 BK151) | ((with_reducible refine gate_callee (f := 24) rfl ?_); refine RFn.goesM (some 28) Tryz.func24 #[.agg #[.string ((rd_T54 l0 x5_1).f0.f0), .string ((rd_T54 l0 x5_1).f0.f1), .string ((rd_T54 l0 x5_1).f0.f2), .string ((rd_T54 l0 x5_1).f0.f3), .int .i64 ((rd_T54 l0 x5_1).f0.f4)]] rfl ?_; (with_reducible refine (ref10_named.calls k1 ((rd_T54 l0 x5_1).f0.f0) ((rd_T54 l0 x5_1).f0.f1) ((rd_T54 l0 x5_1).f0.f2) ((rd_T54 l0 x5_1).f0.f3) ((rd_T54 l0 x5_1).f0.f4) true _ A10.out).mono ?_); rintro e w48 ⟨rfl, hb⟩; refine ⟨_, rfl, ?_⟩; have n0_ := Aside0.mk (blk_below (g := gb151) (o := .cells #[.string ((rd_T54 l0 x5_1).f0.f0), .string ((rd_T54 l0 x5_1).f0.f1), .string ((rd_T54 l0 x5_1).f0.f2), .string ((rd_T54 l0 x5_1).f0.f3), .int .i64 ((rd_T54 l0 x5_1).f0.f4)] 52 (0, 0)) (by refine RFn.d3 ?_; refine blk_put (cs := #[.string ((rd_T54 l0 x5_1).f0.f0), .string ((rd_T54 l0 x5_1).f0.f1), .string ((rd_T54 l0 x5_1).f0.f2), .string ((rd_T54 l0 x5_1).f0.f3), .int .i64 0]) ?_ 4 _ rfl; refine RFn.d3 ?_; refine blk_put (cs := #[.string ((rd_T54 l0 x5_1).f0.f0), .string ((rd_T54 l0 x5_1).f0.f1), .string ((rd_T54 l0 x5_1).f0.f2), .string (⟨#[]⟩ : ByteArray), .int .i64 0]) ?_ 3 _ rfl; refine RFn.d3 ?_; refine blk_put (cs := #[.string ((rd_T54 l0 x5_1).f0.f0), .string ((rd_T54 l0 x5_1).f0.f1), .string (⟨#[]⟩ : ByteArray), .string (⟨#[]⟩ : ByteArray), .int .i64 0]) ?_ 2 _ rfl; refine RFn.d3 ?_; refine blk_put (cs := #[.string ((rd_T54 l0 x5_1).f0.f0), .string (⟨#[]⟩ : ByteArray), .string (⟨#[]⟩ : ByteArray), .string (⟨#[]⟩ : ByteArray), .int .i64 0]) ?_ 1 _ rfl; refine RFn.d3 ?_; refine blk_put (cs := #[.string (⟨#[]⟩ : ByteArray), .string (⟨#[]⟩ : ByteArray), .string (⟨#[]⟩ : ByteArray), .string (⟨#[]⟩ : ByteArray), .int .i64 0]) ?_ 0 _ rfl; refine RFn.d3 ?_; exact BK151.out) hb); have n1_ := Aside0.mk (below_step RFn.bels hb); clear BK151; clear HB; have BK151 := n0_; have HB := n1_; clear n0_ n1_; (try clear hb); obtain ⟨hcz49_0, hcz49_1, hcz49_2, hcz49_3, hcz49_4⟩ := RFn.bc5 BK151; obtain ⟨hfz49_0, hfz49_1, hfz49_2, hfz49_3, hfz49_4⟩ := RFn.bf5 BK151))
                      have n0_ := Aside0.mk (blk_drew BK151.out)
                      have n1_ := Aside0.mk (below_drew1 HB.out)
                      clear BK151
                      clear HB
                      have BK151 := n0_
                      have HB := n1_
                      clear n0_ n1_
                      have p157 : 0 ≤ (x5_1 : Int) := RFn.od
                      have q157 : x5_1 < (l0.length : Int) := RFn.od
                      obtain ⟨ad157, e157, hx157_0, hx157_1, hx157_2, hx157_3, hx157_4, hx157_5⟩ := at_T54 HR0.out x5_1 p157 q157
                      have hw157_5 := hx157_5
                      have hw157_4 := hx157_4
                      have hw157_3 := hx157_3
                      have hw157_2 := hx157_2
                      have hw157_1 := hx157_1
                      have hw157_0 := hx157_0
                      obtain rfl : ad150 = ad157 := (by injection e157)
                      replace hx157_0 := RFn.hb HB hx157_0
                      replace hx157_1 := RFn.hb HB hx157_1
                      replace hx157_2 := RFn.hb HB hx157_2
                      replace hx157_3 := RFn.hb HB hx157_3
                      replace hx157_4 := RFn.hb HB hx157_4
                      replace hx157_5 := RFn.hb HB hx157_5
                      replace p157 := eq_true p157
                      replace q157 := eq_true q157
                      refine start_ (n := 30) (S := fun w' => w'.cell? ⟨gb151, 0, none⟩ = some (.string ((rd_T54 l0 x5_1).f0.f0)) ∧ w'.cell? ⟨gb151, 1, none⟩ = some (.string ((rd_T54 l0 x5_1).f0.f1)) ∧ w'.cell? ⟨gb151, 2, none⟩ = some (.string ((rd_T54 l0 x5_1).f0.f2)) ∧ w'.cell? ⟨gb151, 3, none⟩ = some (.string ((rd_T54 l0 x5_1).f0.f3)) ∧ w'.cell? ⟨gb151, 4, none⟩ = some (.int .i64 ((rd_T54 l0 x5_1).f0.f4)) ∧ w'.cell? (ad150.add ((x5_1).toNat * 6)) = some (.string ((rd_T54 l0 x5_1).f0.f0)) ∧ w'.cell? ⟨(ad150.add ((x5_1).toNat * 6)).block, (ad150.add ((x5_1).toNat * 6)).off + 1, none⟩ = some (.string ((rd_T54 l0 x5_1).f0.f1)) ∧ w'.cell? ⟨(ad150.add ((x5_1).toNat * 6)).block, (ad150.add ((x5_1).toNat * 6)).off + 2, none⟩ = some (.string ((rd_T54 l0 x5_1).f0.f2)) ∧ w'.cell? ⟨(ad150.add ((x5_1).toNat * 6)).block, (ad150.add ((x5_1).toNat * 6)).off + 3, none⟩ = some (.string ((rd_T54 l0 x5_1).f0.f3)) ∧ w'.cell? ⟨(ad150.add ((x5_1).toNat * 6)).block, (ad150.add ((x5_1).toNat * 6)).off + 4, none⟩ = some (.int .i64 ((rd_T54 l0 x5_1).f0.f4)) ∧ w'.cell? ⟨(ad150.add ((x5_1).toNat * 6)).block, (ad150.add ((x5_1).toNat * 6)).off + 5, none⟩ = some (.int .i64 ((rd_T54 l0 x5_1).f1))) (ds := []) (bz 30 0) (by kernel_rfl) rfl rfl ⟨(blk_cell BK151.out 0).trans rfl, (blk_cell BK151.out 1).trans rfl, (blk_cell BK151.out 2).trans rfl, (blk_cell BK151.out 3).trans rfl, (blk_cell BK151.out 4).trans rfl, (by first | exact RFn.hb HB hw157_0 | exact RFn.hb ⟨pw_below_drewN HB.out _⟩ hw157_0 | exact RFn.hb ⟨pw_below_drewN (pw_below_drewN HB.out _) _⟩ hw157_0), (by first | exact RFn.hb HB hw157_1 | exact RFn.hb ⟨pw_below_drewN HB.out _⟩ hw157_1 | exact RFn.hb ⟨pw_below_drewN (pw_below_drewN HB.out _) _⟩ hw157_1), (by first | exact RFn.hb HB hw157_2 | exact RFn.hb ⟨pw_below_drewN HB.out _⟩ hw157_2 | exact RFn.hb ⟨pw_below_drewN (pw_below_drewN HB.out _) _⟩ hw157_2), (by first | exact RFn.hb HB hw157_3 | exact RFn.hb ⟨pw_below_drewN HB.out _⟩ hw157_3 | exact RFn.hb ⟨pw_below_drewN (pw_below_drewN HB.out _) _⟩ hw157_3), (by first | exact RFn.hb HB hw157_4 | exact RFn.hb ⟨pw_below_drewN HB.out _⟩ hw157_4 | exact RFn.hb ⟨pw_below_drewN (pw_below_drewN HB.out _) _⟩ hw157_4), (by first | exact RFn.hb HB hw157_5 | exact RFn.hb ⟨pw_below_drewN HB.out _⟩ hw157_5 | exact RFn.hb ⟨pw_below_drewN (pw_below_drewN HB.out _) _⟩ hw157_5)⟩ (fun hHeld => ?_); refine with_tabW ref10_Print.tab13 ref10_Print.bits13 (fun HT_ HW_ => ?_)
                      generalize w48.drew = w50 at BK151 HB hx157_0 hx157_1 hx157_2 hx157_3 hx157_4 hx157_5 hHeld ⊢
                      refine RFn.pA (i := 0) (N := some 34) (bz 30 1) HT_ ?_
                      refine RFn.pA (i := 1) (N := some 35) (bz 30 3) HT_ ?_
                      refine RFn.pA (i := 5) (N := some 39) (bz 30 35) HT_ ?_
                      refine RFn.pA (i := 9) (N := some 43) (bz 30 547) HT_ ?_
                      refine RFn.pA (i := 13) (N := some 47) (bz 30 8739) HT_ ?_
                      refine RFn.pA (i := 16) (N := some 50) (bz 30 74275) HT_ ?_
                      refine RFn.pA (i := 21) (N := some 55) (bz 30 2171427) HT_ ?_
                      refine RFn.pA (i := 22) (N := some 56) (bz 30 6365731) HT_ ?_
                      refine RFn.pA (i := 23) (N := some 57) (bz 30 14754339) HT_ ?_
                      refine RFn.pA (i := 24) (N := some 58) (bz 30 31531555) HT_ ?_
                      refine RFn.tA (i := 2) (N := some 36) (bz 30 31531559) rfl HT_ HW_ hHeld (by rintro w' ⟨s0, s1, s2, s3, s4, s5, s6, s7, s8, s9, s10⟩; go_simp; with_reducible rfl) ?_
                      refine RFn.pA (i := 3) (N := some 37) (bz 30 31531567) HT_ ?_
                      refine RFn.pA (i := 4) (N := some 38) (bz 30 31531583) HT_ ?_
                      refine RFn.tA (i := 6) (N := some 40) (bz 30 31531647) rfl HT_ HW_ hHeld (by rintro w' ⟨s0, s1, s2, s3, s4, s5, s6, s7, s8, s9, s10⟩; go_simp; with_reducible rfl) ?_
                      refine RFn.pA (i := 7) (N := some 41) (bz 30 31531775) HT_ ?_
                      refine RFn.pA (i := 8) (N := some 42) (bz 30 31532031) HT_ ?_
                      refine RFn.tA (i := 10) (N := some 44) (bz 30 31533055) rfl HT_ HW_ hHeld (by rintro w' ⟨s0, s1, s2, s3, s4, s5, s6, s7, s8, s9, s10⟩; go_simp; with_reducible rfl) ?_
                      refine RFn.pA (i := 11) (N := some 45) (bz 30 31535103) HT_ ?_
                      refine RFn.pA (i := 12) (N := some 46) (bz 30 31539199) HT_ ?_
                      refine RFn.pA (i := 14) (N := some 48) (bz 30 31555583) HT_ ?_
                      refine RFn.pA (i := 15) (N := some 49) (bz 30 31588351) HT_ ?_
                      refine RFn.tA (i := 17) (N := some 51) (bz 30 31719423) rfl HT_ HW_ hHeld (by rintro w' ⟨s0, s1, s2, s3, s4, s5, s6, s7, s8, s9, s10⟩; go_simp; with_reducible rfl) ?_
                      refine RFn.tA (i := 25) (N := some 59) (bz 30 65273855) rfl HT_ HW_ hHeld (by rintro w' ⟨s0, s1, s2, s3, s4, s5, s6, s7, s8, s9, s10⟩; go_simp; with_reducible rfl) ?_
                      refine RFn.o1 (i := 18) (N := some 52) (bz 30 65535999) HT_ fun K hK => ?_
                      refine RFn.gA Tryz.func23 #[.int .i64 ((rd_T54 l0 x5_1).f0.f4)] rfl ?_
                      with_reducible refine (ref01_Print.calls k1 ((rd_T54 l0 x5_1).f0.f4) t156 _ A40.out).mono ?_
                      rintro e w' ⟨rfl, ⟨nd, rfl⟩⟩
                      refine ⟨_, rfl, ?_⟩
                      refine hK.out _ _ ⟨(blk_cell BK151.out 0).trans rfl, (blk_cell BK151.out 1).trans rfl, (blk_cell BK151.out 2).trans rfl, (blk_cell BK151.out 3).trans rfl, (blk_cell BK151.out 4).trans rfl, (by first | exact RFn.hb HB hw157_0 | exact RFn.hb ⟨pw_below_drewN HB.out _⟩ hw157_0 | exact RFn.hb ⟨pw_below_drewN (pw_below_drewN HB.out _) _⟩ hw157_0), (by first | exact RFn.hb HB hw157_1 | exact RFn.hb ⟨pw_below_drewN HB.out _⟩ hw157_1 | exact RFn.hb ⟨pw_below_drewN (pw_below_drewN HB.out _) _⟩ hw157_1), (by first | exact RFn.hb HB hw157_2 | exact RFn.hb ⟨pw_below_drewN HB.out _⟩ hw157_2 | exact RFn.hb ⟨pw_below_drewN (pw_below_drewN HB.out _) _⟩ hw157_2), (by first | exact RFn.hb HB hw157_3 | exact RFn.hb ⟨pw_below_drewN HB.out _⟩ hw157_3 | exact RFn.hb ⟨pw_below_drewN (pw_below_drewN HB.out _) _⟩ hw157_3), (by first | exact RFn.hb HB hw157_4 | exact RFn.hb ⟨pw_below_drewN HB.out _⟩ hw157_4 | exact RFn.hb ⟨pw_below_drewN (pw_below_drewN HB.out _) _⟩ hw157_4), (by first | exact RFn.hb HB hw157_5 | exact RFn.hb ⟨pw_below_drewN HB.out _⟩ hw157_5 | exact RFn.hb ⟨pw_below_drewN (pw_below_drewN HB.out _) _⟩ hw157_5)⟩ (fun hHeld => ?_)
                      clear hK K
                      refine RFn.nm (some 52) ?_
                      refine RFn.pA (i := 19) (N := some 53) (bz 30 66060287) HT_ ?_
                      refine RFn.pA (i := 20) (N := some 54) (bz 30 67108863) HT_ ?_
                      refine RFn.o1 (i := 26) (N := some 60) (bz 30 134217727) HT_ fun K hK => ?_
                      refine RFn.gA Tryz.func23 #[.int .i64 ((rd_T54 l0 x5_1).f1)] rfl ?_
                      with_reducible refine (ref01_Print.calls k1 ((rd_T54 l0 x5_1).f1) t158 _ A43.out).mono ?_
                      rintro e w' ⟨rfl, ⟨nd, rfl⟩⟩
                      refine ⟨_, rfl, ?_⟩
                      refine hK.out _ _ ⟨(blk_cell BK151.out 0).trans rfl, (blk_cell BK151.out 1).trans rfl, (blk_cell BK151.out 2).trans rfl, (blk_cell BK151.out 3).trans rfl, (blk_cell BK151.out 4).trans rfl, (by first | exact RFn.hb HB hw157_0 | exact RFn.hb ⟨pw_below_drewN HB.out _⟩ hw157_0 | exact RFn.hb ⟨pw_below_drewN (pw_below_drewN HB.out _) _⟩ hw157_0), (by first | exact RFn.hb HB hw157_1 | exact RFn.hb ⟨pw_below_drewN HB.out _⟩ hw157_1 | exact RFn.hb ⟨pw_below_drewN (pw_below_drewN HB.out _) _⟩ hw157_1), (by first | exact RFn.hb HB hw157_2 | exact RFn.hb ⟨pw_below_drewN HB.out _⟩ hw157_2 | exact RFn.hb ⟨pw_below_drewN (pw_below_drewN HB.out _) _⟩ hw157_2), (by first | exact RFn.hb HB hw157_3 | exact RFn.hb ⟨pw_below_drewN HB.out _⟩ hw157_3 | exact RFn.hb ⟨pw_below_drewN (pw_below_drewN HB.out _) _⟩ hw157_3), (by first | exact RFn.hb HB hw157_4 | exact RFn.hb ⟨pw_below_drewN HB.out _⟩ hw157_4 | exact RFn.hb ⟨pw_below_drewN (pw_below_drewN HB.out _) _⟩ hw157_4), (by first | exact RFn.hb HB hw157_5 | exact RFn.hb ⟨pw_below_drewN HB.out _⟩ hw157_5 | exact RFn.hb ⟨pw_below_drewN (pw_below_drewN HB.out _) _⟩ hw157_5)⟩ (fun hHeld => ?_)
                      clear hK K
                      refine RFn.nm (some 60) ?_
                      refine RFn.pA (i := 27) (N := some 61) (bz 30 268435455) HT_ ?_
                      refine RFn.pA (i := 28) (N := some 62) (bz 30 536870911) HT_ ?_
                      refine RFn.pA (i := 29) (N := some 4) (bz 30 1073741823) HT_ ?_
                      refine RFn.dn HT_ ?_
                      try go_wp2
                      go_roundg k1
                      case measure => have := HK1.out; omega
                      case rel => exact ⟨((((((((((((x4_1 ++ ((rd_T54 l0 x5_1).f0.f0)) ++ (⟨#[32]⟩ : ByteArray)) ++ ((rd_T54 l0 x5_1).f0.f1)) ++ (⟨#[32]⟩ : ByteArray)) ++ ((rd_T54 l0 x5_1).f0.f2)) ++ (⟨#[32]⟩ : ByteArray)) ++ ((rd_T54 l0 x5_1).f0.f3)) ++ (⟨#[32]⟩ : ByteArray)) ++ t156) ++ (⟨#[32]⟩ : ByteArray)) ++ t158) ++ (⟨#[10]⟩ : ByteArray)), (wrap64 (x5_1 + 1)), (by first | rfl | (simp; done) | (simp [*]; done)), (by first | rfl | (simp; done) | (simp [*]; done)), H', ⟨RFn.lk HK1⟩, ⟨RFn.bels⟩⟩
                     ·rw [if_neg c45] at H
                      exact absurd H (by simp)
                    ·rw [if_neg c44] at H
                     exact absurd H (by simp)
                   ·rw [if_neg c42] at H
                    exact absurd H (by simp)
                  ·rw [if_neg c41] at H
                   exact absurd H (by simp)
                 ·rw [if_neg c39] at H
                  exact absurd H (by simp)
                ·rw [if_neg c38] at H
                 exact absurd H (by simp)
               ·rw [if_neg c37] at H
                exact absurd H (by simp)
              ·rw [if_neg c36] at H
               exact absurd H (by simp)
             ·rw [if_neg c35] at H
              exact absurd H (by simp)
            ·rw [if_neg c34] at H
             exact absurd H (by simp)
           ·rw [if_neg c33] at H
            exact absurd H (by simp)
          ·rw [if_neg c32] at H
           exact absurd H (by simp)
        ·replace c11 := Bool.eq_false_iff.mpr c11
         subst c11
         have H1 : (some ((⟨#[]⟩ : ByteArray), 1)) = some (r1, r2) := by rw [if_neg (show ¬ (false = true) by decide)] at H; exact H
         clear H
         have H := H1
         clear H1
         simp only [Option.some.injEq, Prod.mk.injEq] at H
         obtain ⟨rfl, rfl⟩ := H
         have p150 : 0 ≤ (x5_1 : Int) := RFn.od
         have q150 : x5_1 < (l0.length : Int) := RFn.od
         obtain ⟨ad150, e150, hx150_0, hx150_1, hx150_2, hx150_3, hx150_4, hx150_5⟩ := at_T54 HR0.out x5_1 p150 q150
         cases e150
         replace hx150_0 := RFn.hb HB hx150_0
         replace hx150_1 := RFn.hb HB hx150_1
         replace hx150_2 := RFn.hb HB hx150_2
         replace hx150_3 := RFn.hb HB hx150_3
         replace hx150_4 := RFn.hb HB hx150_4
         replace hx150_5 := RFn.hb HB hx150_5
         replace p150 := eq_true p150
         replace q150 := eq_true q150
         go_wp2_with (first | ((with_reducible refine gate_dst (N := 6) rfl ?_); refine box_event ?hg (N := 6) ?hd (cs := #[.string (⟨#[]⟩ : ByteArray), .string (⟨#[]⟩ : ByteArray), .string (⟨#[]⟩ : ByteArray), .string (⟨#[]⟩ : ByteArray), .int .i64 0]) (t := 52) ?hr ?_; (case hd => rfl); (case hg => rfl); (case hr => first | (go_simp; done) | (go_simp; rfl)); intro gb151 hg w51 hbox hb; have n0_ := Aside0.mk (below_step (RFn.bel) hb); have n1_ := Aside0.mk (hbox); have n2_ := Aside0.mk ((by rw [hg]; exact (below_size (RFn.bel)) : w.heap.size ≤ gb151)); have n3_ := Aside0.mk ((by rw [hg]; exact (below_size (RFn.bel)) : w.heap.size ≤ gb151)); clear HB; have HB := n0_; have BK151 := n1_; have GW151 := n2_; have GE151 := n3_; clear n0_ n1_ n2_ n3_; clear hb hbox hg; obtain ⟨hcz52_0, hcz52_1, hcz52_2, hcz52_3, hcz52_4⟩ := RFn.bc5 BK151; obtain ⟨hfz52_0, hfz52_1, hfz52_2, hfz52_3, hfz52_4⟩ := RFn.bf5 BK151) | ((with_reducible refine gate_callee (f := 24) rfl ?_); refine RFn.goesM (some 28) Tryz.func24 #[.agg #[.string ((rd_T54 l0 x5_1).f0.f0), .string ((rd_T54 l0 x5_1).f0.f1), .string ((rd_T54 l0 x5_1).f0.f2), .string ((rd_T54 l0 x5_1).f0.f3), .int .i64 ((rd_T54 l0 x5_1).f0.f4)]] rfl ?_; (with_reducible refine (ref10_named.calls k1 ((rd_T54 l0 x5_1).f0.f0) ((rd_T54 l0 x5_1).f0.f1) ((rd_T54 l0 x5_1).f0.f2) ((rd_T54 l0 x5_1).f0.f3) ((rd_T54 l0 x5_1).f0.f4) false _ A10.out).mono ?_); rintro e w53 ⟨rfl, hb⟩; refine ⟨_, rfl, ?_⟩; have n0_ := Aside0.mk (blk_below (g := gb151) (o := .cells #[.string ((rd_T54 l0 x5_1).f0.f0), .string ((rd_T54 l0 x5_1).f0.f1), .string ((rd_T54 l0 x5_1).f0.f2), .string ((rd_T54 l0 x5_1).f0.f3), .int .i64 ((rd_T54 l0 x5_1).f0.f4)] 52 (0, 0)) (by refine RFn.d3 ?_; refine blk_put (cs := #[.string ((rd_T54 l0 x5_1).f0.f0), .string ((rd_T54 l0 x5_1).f0.f1), .string ((rd_T54 l0 x5_1).f0.f2), .string ((rd_T54 l0 x5_1).f0.f3), .int .i64 0]) ?_ 4 _ rfl; refine RFn.d3 ?_; refine blk_put (cs := #[.string ((rd_T54 l0 x5_1).f0.f0), .string ((rd_T54 l0 x5_1).f0.f1), .string ((rd_T54 l0 x5_1).f0.f2), .string (⟨#[]⟩ : ByteArray), .int .i64 0]) ?_ 3 _ rfl; refine RFn.d3 ?_; refine blk_put (cs := #[.string ((rd_T54 l0 x5_1).f0.f0), .string ((rd_T54 l0 x5_1).f0.f1), .string (⟨#[]⟩ : ByteArray), .string (⟨#[]⟩ : ByteArray), .int .i64 0]) ?_ 2 _ rfl; refine RFn.d3 ?_; refine blk_put (cs := #[.string ((rd_T54 l0 x5_1).f0.f0), .string (⟨#[]⟩ : ByteArray), .string (⟨#[]⟩ : ByteArray), .string (⟨#[]⟩ : ByteArray), .int .i64 0]) ?_ 1 _ rfl; refine RFn.d3 ?_; refine blk_put (cs := #[.string (⟨#[]⟩ : ByteArray), .string (⟨#[]⟩ : ByteArray), .string (⟨#[]⟩ : ByteArray), .string (⟨#[]⟩ : ByteArray), .int .i64 0]) ?_ 0 _ rfl; refine RFn.d3 ?_; exact BK151.out) hb); have n1_ := Aside0.mk (below_step RFn.bels hb); clear BK151; clear HB; have BK151 := n0_; have HB := n1_; clear n0_ n1_; (try clear hb)))
         go_ret2
         exact ⟨by first | rfl | (simp [errW_none, errW_some] <;> rfl) | (simp [*, errW_none, errW_some] <;> rfl), RFn.bels⟩
       ·rw [if_neg c9] at H
        exact absurd H (by simp)
      ·rw [if_neg c8] at H
       have c8b0 : decide (x5_1 < (l0.length : Int)) = false := decide_eq_false c8
       clear c8
       simp only [Option.some.injEq, Prod.mk.injEq] at H
       obtain ⟨rfl, rfl⟩ := H
       go_wp2
       go_ret2
       exact ⟨by first | rfl | (simp [errW_none, errW_some] <;> rfl) | (simp [*, errW_none, errW_some] <;> rfl), RFn.bel⟩
   ·rw [if_neg c6] at H
    exact absurd H (by simp)
  ·rw [if_neg c5] at H
   exact absurd H (by simp)
 ·replace c3 := Bool.eq_false_iff.mpr c3
  subst c3
  have H1 : (some ((⟨#[]⟩ : ByteArray), 1)) = some (r1, r2) := by rw [if_neg (show ¬ (false = true) by decide)] at H; exact H
  clear H
  have H := H1
  clear H1
  simp only [Option.some.injEq, Prod.mk.injEq] at H
  obtain ⟨rfl, rfl⟩ := H
  go_enter Tryz.func12, Tryz.ntmps12
  go_wp2_with (first | ((with_reducible refine gate_callee (f := 22) rfl ?_); refine RFn.goesM (some 9) Tryz.func22 #[.slice A0 l0.length c0] rfl ?_; (with_reducible refine (ref09_Right.calls k _ _ l0 false _ ?side1 ?side2 A2.out).mono ?_); (case side1 => exact RFn.mC HR0.out); (case side2 => exact HC0.out); rintro e w54 ⟨rfl, hb⟩; refine ⟨_, rfl, ?_⟩; have n0_ := Aside0.mk (below_step (RFn.bel) hb); clear HB; have HB := n0_; clear n0_; (try clear hb)))
  go_ret2
  exact ⟨by first | rfl | (simp [errW_none, errW_some] <;> rfl) | (simp [*, errW_none, errW_some] <;> rfl), RFn.bel⟩
/-! ### ref05_Words: function 30 -/
mutual
def ref05_Words.l0 : Nat → ByteArray → List ByteArray → ByteArray → Int → Option (List ByteArray)
 | 0, _, _, _, _ => none
 | k + 1, x0, x3, x4, x5 => if x5 < (x0.size : Int) then (if 0 ≤ x5 then (ref05_Words.j1 k x0 x3 x4 x5 ((bt x0 x5) != 35)) else (none)) else (ref05_Words.j1 k x0 x3 x4 x5 false)
def ref05_Words.j1 : Nat → ByteArray → List ByteArray → ByteArray → Int → Bool → Option (List ByteArray)
 | 0, _, _, _, _, _ => none
 | k + 1, x0, x3, x4, x5, x15 => if x15 = true then (if 0 ≤ x5 then (if x5 < (x0.size : Int) then (if (bt x0 x5) = 9 then (ref05_Words.j2 k x0 x3 x4 x5 true) else (ref05_Words.j2 k x0 x3 x4 x5 ((bt x0 x5) == 32))) else (none)) else (none)) else (if x4.toList = ([] : List UInt8) then (some x3) else (if x3.length < 8796093022208 then (some (x3 ++ [x4])) else (none)))
def ref05_Words.j2 : Nat → ByteArray → List ByteArray → ByteArray → Int → Bool → Option (List ByteArray)
 | 0, _, _, _, _, _ => none
 | k + 1, x0, x3, x4, x5, x27 => if x27 = true then (if x4.toList = ([] : List UInt8) then (ref05_Words.l0 k x0 x3 (⟨#[]⟩ : ByteArray) (wrap64 (x5 + 1))) else (if x3.length < 8796093022208 then (ref05_Words.l0 k x0 (x3 ++ [x4]) (⟨#[]⟩ : ByteArray) (wrap64 (x5 + 1))) else (none))) else (if 0 ≤ x5 then (if x5 ≤ (wrap64 (x5 + 1)) then (if (wrap64 (x5 + 1)) ≤ (x0.size : Int) then (if x4.size + (x0.extract (x5 : Int).toNat ((wrap64 (x5 + 1)) : Int).toNat).size ≤ 9223372036854775807 then (ref05_Words.l0 k x0 x3 (x4 ++ (x0.extract (x5 : Int).toNat ((wrap64 (x5 + 1)) : Int).toNat)) (wrap64 (x5 + 1))) else (none)) else (none)) else (none)) else (none))
end
def ref05_Words.f (k : Nat) (a0 : ByteArray) : Option (List ByteArray) := ref05_Words.l0 k a0 ([] : List ByteArray) (⟨#[]⟩ : ByteArray) 0
theorem ref05_Words.mono_l : ∀ k, (∀ y0 y1 y2 y3, LeO (ref05_Words.l0 k y0 y1 y2 y3) (ref05_Words.l0 (k + 1) y0 y1 y2 y3)) ∧ (∀ y0 y1 y2 y3 y4, LeO (ref05_Words.j1 k y0 y1 y2 y3 y4) (ref05_Words.j1 (k + 1) y0 y1 y2 y3 y4)) ∧ (∀ y0 y1 y2 y3 y4, LeO (ref05_Words.j2 k y0 y1 y2 y3 y4) (ref05_Words.j2 (k + 1) y0 y1 y2 y3 y4))
 | 0 => ⟨fun _ _ _ _ r h => by simp [ref05_Words.l0] at h, fun _ _ _ _ _ r h => by simp [ref05_Words.j1] at h, fun _ _ _ _ _ r h => by simp [ref05_Words.j2] at h⟩
 | k + 1 => by
  obtain ⟨ih0, ih1, ih2⟩ := ref05_Words.mono_l k
  refine ⟨?_, ?_, ?_⟩
  ·intro y0 y1 y2 y3
   unfold ref05_Words.l0
   repeat' with_reducible first | exact LeO.refl _ | apply ih0 | apply ih1 | apply ih2 | exact LeO.none _ | apply LeO.ite | refine LeO.bind ?_ fun _ => ?_
  ·intro y0 y1 y2 y3 y4
   unfold ref05_Words.j1
   repeat' with_reducible first | exact LeO.refl _ | apply ih0 | apply ih1 | apply ih2 | exact LeO.none _ | apply LeO.ite | refine LeO.bind ?_ fun _ => ?_
  ·intro y0 y1 y2 y3 y4
   unfold ref05_Words.j2
   repeat' with_reducible first | exact LeO.refl _ | apply ih0 | apply ih1 | apply ih2 | exact LeO.none _ | apply LeO.ite | refine LeO.bind ?_ fun _ => ?_
theorem ref05_Words.mono : ∀ a0 k, LeO (ref05_Words.f k a0) (ref05_Words.f (k + 1) a0) := by
 intro a0 k
 obtain ⟨ih0, ih1, ih2⟩ := ref05_Words.mono_l k
 unfold ref05_Words.f
 repeat' with_reducible first | exact LeO.refl _ | apply ih0 | apply ih1 | apply ih2 | exact LeO.none _ | apply LeO.ite | refine LeO.bind ?_ fun _ => ?_
set_option maxHeartbeats 8000000 in
set_option maxRecDepth 100000 in
theorem ref05_Words.calls (k : Nat) (a0 : ByteArray) (r : List ByteArray) (w : World) (h : ref05_Words.f k a0 = some r) :
  Calls Tryz.prog 30 #[.string a0] w fun e w' => ∃ v0_ : Value, e = .returned (v0_) ∧ Kd.R Kd.string 9 w' w.heap.size (fun _ => True) v0_ r ∧ Below w.heap.size w w' := by
 have HB := Aside0.mk (Below.refl w.heap.size w)
 have H : (ref05_Words.l0 k a0 ([] : List ByteArray) (⟨#[]⟩ : ByteArray) 0) = some r := h
 clear h
 have H' := Aside0.mk H
 clear H
 go_enter Tryz.func30, Tryz.ntmps30
 go_wp2
 go_loopg [3, 4, 5] k (fun kq v3 v4 v5 w' => ∃ (x3_1 : List ByteArray) (x4_1 : ByteArray) (x5_1 : Int), v4 = .string x4_1 ∧ v5 = .int .i64 x5_1 ∧ Aside0 (ref05_Words.l0 kq a0 x3_1 x4_1 x5_1 = some r) ∧ Aside0 (kq ≤ k) ∧ Aside0 (Kd.R Kd.string 9 w' w.heap.size (fun _ => True) v3 x3_1) ∧ Aside0 (Below w.heap.size w w'))
 case atStart => exact ⟨(([] : List ByteArray)), ((⟨#[]⟩ : ByteArray)), (0), (by first | rfl | (simp; done) | (simp [*]; done)), (by first | rfl | (simp; done) | (simp [*]; done)), H', ⟨Nat.le_refl _⟩, ⟨RFn.kn⟩, ⟨RFn.bel⟩⟩
 case round =>
  clear H'
  obtain ⟨x3_1, x4_1, x5_1, rfl, rfl, HA, HK1, HO_3, HB⟩ := hrel
  cases gk with
  | zero => exact absurd HA.out (by simp [ref05_Words.l0])
  | succ k1 =>
   have H := HA.out
   clear HA
   simp only [ref05_Words.l0] at H
   have HC2 := Aside0.mk H
   clear H
   go_upto_region 4 with (fail)
   go_cut [15] (fun v15 wc => ∃ (kq : Nat) (x15_1 : Bool), v15 = .bool x15_1 ∧ Aside0 (ref05_Words.j1 kq a0 x3_1 x4_1 x5_1 x15_1 = some r) ∧ Aside0 (kq ≤ k1) ∧ Aside0 (Kd.R Kd.string 9 wc w.heap.size (fun _ => True) u3 x3_1) ∧ Aside0 (Below w.heap.size w wc))
   case first =>
    have H := HC2.out
    clear HC2
    by_cases c3 : x5_1 < (a0.size : Int)
    ·rw [if_pos c3] at H
     have c3b0 : decide (x5_1 < (a0.size : Int)) = true := decide_eq_true c3
     clear c3
     (first | rw [c3b0] | (simp only [i64_w, i32_w]; rw [c3b0]) | skip)
     by_cases c4 : 0 ≤ x5_1
     ·rw [if_pos c4] at H
      have c4b0 : decide (0 ≤ x5_1) = true := decide_eq_true c4
      clear c4
      have H' := Aside0.mk H
      clear H
      have p5 : 0 ≤ (x5_1 : Int) := RFn.od
      have q5 : x5_1 < (a0.size : Int) := RFn.od
      have hx5 := bt_at a0 x5_1
      replace p5 := eq_true p5
      replace q5 := eq_true q5
      go_wp2
      go_meet
      case rel => exact ⟨_, (((bt a0 x5_1) != 35)), (by first | rfl | (simp; done) | (simp [*]; done)), H', ⟨by have := HK1.out; first | omega | exact Nat.le_refl _⟩, ⟨RFn.mR HO_3⟩, ⟨RFn.bel⟩⟩
     ·rw [if_neg c4] at H
      exact absurd H (by simp)
    ·rw [if_neg c3] at H
     have c3b0 : decide (x5_1 < (a0.size : Int)) = false := decide_eq_false c3
     clear c3
     (first | rw [c3b0] | (simp only [i64_w, i32_w]; rw [c3b0]) | skip)
     have H' := Aside0.mk H
     clear H
     go_wp2
     go_meet
     case rel => exact ⟨_, (false), (by first | rfl | (simp; done) | (simp [*]; done)), H', ⟨by have := HK1.out; first | omega | exact Nat.le_refl _⟩, ⟨RFn.mR HO_3⟩, ⟨RFn.bel⟩⟩
   case rest =>
    clear HC2
    try clear c3
    try clear c3b0
    try clear c4
    try clear c4b0
    try clear p5
    try clear q5
    try clear hx5
    try clear p5
    try clear q5
    obtain ⟨kq, x15_1, rfl, HA, HJ1, HO_3, HB⟩ := hcut
    cases kq with
    | zero => exact absurd HA.out (by simp [ref05_Words.j1])
    | succ kj1 =>
     have H := HA.out
     clear HA
     simp only [ref05_Words.j1] at H
     by_cases c6 : x15_1 = true
     ·subst c6
      have H1 : (if 0 ≤ x5_1 then (if x5_1 < (a0.size : Int) then (if (bt a0 x5_1) = 9 then (ref05_Words.j2 kj1 a0 x3_1 x4_1 x5_1 true) else (ref05_Words.j2 kj1 a0 x3_1 x4_1 x5_1 ((bt a0 x5_1) == 32))) else (none)) else (none)) = some r := by rw [if_pos rfl] at H; exact H
      clear H
      have H := H1
      clear H1
      have HC7 := Aside0.mk H
      clear H
      go_upto_region 6 with (fail)
      go_cut [27] (fun v27 wc => ∃ (kq : Nat) (x27_6 : Bool), v27 = .bool x27_6 ∧ Aside0 (ref05_Words.j2 kq a0 x3_1 x4_1 x5_1 x27_6 = some r) ∧ Aside0 (kq ≤ kj1) ∧ Aside0 (Kd.R Kd.string 9 wc w.heap.size (fun _ => True) u3 x3_1) ∧ Aside0 (Below w.heap.size w wc))
      case first =>
       have H := HC7.out
       clear HC7
       by_cases c8 : 0 ≤ x5_1
       ·rw [if_pos c8] at H
        have c8b0 : decide (0 ≤ x5_1) = true := decide_eq_true c8
        clear c8
        (first | rw [c8b0] | (simp only [i64_w, i32_w]; rw [c8b0]) | skip)
        by_cases c9 : x5_1 < (a0.size : Int)
        ·rw [if_pos c9] at H
         have c9b0 : decide (x5_1 < (a0.size : Int)) = true := decide_eq_true c9
         clear c9
         by_cases c11 : (bt a0 x5_1) = 9
         ·rw [if_pos c11] at H
          have c11b0 : ((bt a0 x5_1) == 9) = true := beq_iff_eq.mpr c11
          have c11b1 : ((bt a0 x5_1) != 9) = false := bne_eq_false_iff_eq.mpr c11
          clear c11
          have H' := Aside0.mk H
          clear H
          have p10 : 0 ≤ (x5_1 : Int) := RFn.od
          have q10 : x5_1 < (a0.size : Int) := RFn.od
          have hx10 := bt_at a0 x5_1
          replace p10 := eq_true p10
          replace q10 := eq_true q10
          go_wp2
          first | go_meet | (simp only [c11b0] at *; go_meet)
          case rel => exact ⟨_, (true), (by first | rfl | (simp; done) | (simp [*]; done)), H', ⟨by have := HK1.out; have := HJ1.out; first | omega | exact Nat.le_refl _⟩, ⟨RFn.mR HO_3⟩, ⟨RFn.bel⟩⟩
         ·rw [if_neg c11] at H
          have c11b0 : ((bt a0 x5_1) == 9) = false := beq_eq_false_iff_ne.mpr c11
          have c11b1 : ((bt a0 x5_1) != 9) = true := bne_iff_ne.mpr c11
          have H' := Aside0.mk H
          clear H
          have p10 : 0 ≤ (x5_1 : Int) := RFn.od
          have q10 : x5_1 < (a0.size : Int) := RFn.od
          have hx10 := bt_at a0 x5_1
          replace p10 := eq_true p10
          replace q10 := eq_true q10
          have p12 : 0 ≤ (x5_1 : Int) := RFn.od
          have q12 : x5_1 < (a0.size : Int) := RFn.od
          have hx12 := bt_at a0 x5_1
          replace p12 := eq_true p12
          replace q12 := eq_true q12
          go_wp2
          first | go_meet | (simp only [c11b0] at *; go_meet)
          case rel => exact ⟨_, (((bt a0 x5_1) == 32)), (by first | rfl | (simp; done) | (simp [*]; done)), H', ⟨by have := HK1.out; have := HJ1.out; first | omega | exact Nat.le_refl _⟩, ⟨RFn.mR HO_3⟩, ⟨RFn.bel⟩⟩
        ·rw [if_neg c9] at H
         exact absurd H (by simp)
       ·rw [if_neg c8] at H
        exact absurd H (by simp)
      case rest =>
       clear HC7
       try clear c3
       try clear c3b0
       try clear c4
       try clear c4b0
       try clear p5
       try clear q5
       try clear hx5
       try clear c6
       try clear c8
       try clear c8b0
       try clear c9
       try clear c9b0
       try clear p10
       try clear q10
       try clear hx10
       try clear c11
       try clear c11b0
       try clear c11b1
       try clear p12
       try clear q12
       try clear hx12
       try clear p10
       try clear p12
       try clear p5
       try clear q10
       try clear q12
       try clear q5
       obtain ⟨kq, x27_6, rfl, HA, HJ6, HO_3, HB⟩ := hcut
       cases kq with
       | zero => exact absurd HA.out (by simp [ref05_Words.j2])
       | succ kj6 =>
        have H := HA.out
        clear HA
        simp only [ref05_Words.j2] at H
        by_cases c13 : x27_6 = true
        ·subst c13
         have H1 : (if x4_1.toList = ([] : List UInt8) then (ref05_Words.l0 kj6 a0 x3_1 (⟨#[]⟩ : ByteArray) (wrap64 (x5_1 + 1))) else (if x3_1.length < 8796093022208 then (ref05_Words.l0 kj6 a0 (x3_1 ++ [x4_1]) (⟨#[]⟩ : ByteArray) (wrap64 (x5_1 + 1))) else (none))) = some r := by rw [if_pos rfl] at H; exact H
         clear H
         have H := H1
         clear H1
         by_cases c14 : x4_1.toList = ([] : List UInt8)
         ·rw [if_pos c14] at H
          have c14b0 : (x4_1.toList == ([] : List UInt8)) = true := beq_iff_eq.mpr c14
          have c14b1 : (x4_1.toList != ([] : List UInt8)) = false := bne_eq_false_iff_eq.mpr c14
          clear c14
          have H' := Aside0.mk H
          clear H
          go_wp2
          go_roundg kj6
          case measure => have := HK1.out; have := HJ1.out; have := HJ6.out; omega
          case rel => exact ⟨(x3_1), ((⟨#[]⟩ : ByteArray)), (wrap64 (x5_1 + 1)), (by first | rfl | (simp; done) | (simp [*]; done)), (by first | rfl | (simp; done) | (simp [*]; done)), H', ⟨by have := HK1.out; have := HJ1.out; have := HJ6.out; omega⟩, ⟨RFn.mR HO_3⟩, ⟨RFn.bel⟩⟩
         ·rw [if_neg c14] at H
          have c14b0 : (x4_1.toList == ([] : List UInt8)) = false := beq_eq_false_iff_ne.mpr c14
          have c14b1 : (x4_1.toList != ([] : List UInt8)) = true := bne_iff_ne.mpr c14
          by_cases c15 : x3_1.length < 8796093022208
          ·rw [if_pos c15] at H
           have LMc15 := Aside0.mk c15
           clear c15
           obtain ⟨y162, hy162⟩ : ∃ y_ : List ByteArray, y_ = (x3_1 ++ [x4_1]) := ⟨_, rfl⟩
           replace H : (ref05_Words.l0 kj6 a0 y162 (⟨#[]⟩ : ByteArray) (wrap64 (x5_1 + 1))) = some r := RFn.rp H hy162
           have Ny162 := Aside0.mk hy162
           clear hy162
           have H' := Aside0.mk H
           clear H
           go_wp2_with (first | ((with_reducible refine gate_builtin (b := .append) (xs := #[.tmp 30, .tmp 32]) rfl ?_); at_builtin; refine Kd.R_append Kd.string (w0 := w) w.heap.size rfl (.tmp 30) (.tmp 32) 43 9 (.string ⟨#[]⟩) 16 rfl Tryz.underlying43 info9 rfl (by decide) (by omega) u3 x3_1 x4_1 [.string x4_1] (fun _ => True) (fun _ => False) rfl rfl ?aP (fun _ hk => hk.elim) ?aF ?aO ?aB ?aS ?aL ?_; (case aP => exact rfl); (case aB => exact (RFn.bel)); (case aF => exact (fun _ _ => trivial)); (case aO => exact (RFn.mR HO_3)); (case aS => exact (below_size (RFn.bel))); (case aL => have := LMc15.out; omega); intro v163 w16 ho hb hg hat; rw [← Ny162.out] at ho; have n0_ := Aside0.mk (hb); have n1_ := Aside0.mk (ho); clear HB; clear HO_3; have HB := n0_; have HO164 := n1_; clear n0_ n1_; clear ho hb hg hat))
           go_roundg kj6
           case measure => have := HK1.out; have := HJ1.out; have := HJ6.out; omega
           case rel => exact ⟨(y162), ((⟨#[]⟩ : ByteArray)), (wrap64 (x5_1 + 1)), (by first | rfl | (simp; done) | (simp [*]; done)), (by first | rfl | (simp; done) | (simp [*]; done)), H', ⟨by have := HK1.out; have := HJ1.out; have := HJ6.out; omega⟩, ⟨RFn.mR HO164⟩, ⟨RFn.bel⟩⟩
          ·rw [if_neg c15] at H
           exact absurd H (by simp)
        ·replace c13 := Bool.eq_false_iff.mpr c13
         subst c13
         have H1 : (if 0 ≤ x5_1 then (if x5_1 ≤ (wrap64 (x5_1 + 1)) then (if (wrap64 (x5_1 + 1)) ≤ (a0.size : Int) then (if x4_1.size + (a0.extract (x5_1 : Int).toNat ((wrap64 (x5_1 + 1)) : Int).toNat).size ≤ 9223372036854775807 then (ref05_Words.l0 kj6 a0 x3_1 (x4_1 ++ (a0.extract (x5_1 : Int).toNat ((wrap64 (x5_1 + 1)) : Int).toNat)) (wrap64 (x5_1 + 1))) else (none)) else (none)) else (none)) else (none)) = some r := by rw [if_neg (show ¬ (false = true) by decide)] at H; exact H
         clear H
         have H := H1
         clear H1
         by_cases c17 : 0 ≤ x5_1
         ·rw [if_pos c17] at H
          have c17b0 := eq_true c17
          have c17b1 : decide (0 ≤ x5_1) = true := decide_eq_true c17
          clear c17
          by_cases c18 : x5_1 ≤ (wrap64 (x5_1 + 1))
          ·rw [if_pos c18] at H
           have c18b0 := eq_true c18
           have c18b1 : decide (x5_1 ≤ (wrap64 (x5_1 + 1))) = true := decide_eq_true c18
           by_cases c19 : (wrap64 (x5_1 + 1)) ≤ (a0.size : Int)
           ·rw [if_pos c19] at H
            have c19b0 := eq_true c19
            have c19b1 : decide ((wrap64 (x5_1 + 1)) ≤ (a0.size : Int)) = true := decide_eq_true c19
            by_cases c20 : x4_1.size + (a0.extract (x5_1 : Int).toNat ((wrap64 (x5_1 + 1)) : Int).toNat).size ≤ 9223372036854775807
            ·rw [if_pos c20] at H
             have c20b0 := eq_true c20
             have c20b1 : decide (x4_1.size + (a0.extract (x5_1 : Int).toNat ((wrap64 (x5_1 + 1)) : Int).toNat).size ≤ 9223372036854775807) = true := decide_eq_true c20
             try have c20b2 : (9223372036854775807 < x4_1.size + (a0.extract (x5_1 : Int).toNat ((wrap64 (x5_1 + 1)) : Int).toNat).size) = False := eq_false (Nat.not_lt.2 c20)
             have H' := Aside0.mk H
             clear H
             go_wp2
             go_roundg kj6
             case measure => have := HK1.out; have := HJ1.out; have := HJ6.out; omega
             case rel => exact ⟨(x3_1), (x4_1 ++ (a0.extract (x5_1 : Int).toNat ((wrap64 (x5_1 + 1)) : Int).toNat)), (wrap64 (x5_1 + 1)), (by first | rfl | (simp; done) | (simp [*]; done)), (by first | rfl | (simp; done) | (simp [*]; done)), H', ⟨by have := HK1.out; have := HJ1.out; have := HJ6.out; omega⟩, ⟨RFn.mR HO_3⟩, ⟨RFn.bel⟩⟩
            ·rw [if_neg c20] at H
             exact absurd H (by simp)
           ·rw [if_neg c19] at H
            exact absurd H (by simp)
          ·rw [if_neg c18] at H
           exact absurd H (by simp)
         ·rw [if_neg c17] at H
          exact absurd H (by simp)
     ·replace c6 := Bool.eq_false_iff.mpr c6
      subst c6
      have H1 : (if x4_1.toList = ([] : List UInt8) then (some x3_1) else (if x3_1.length < 8796093022208 then (some (x3_1 ++ [x4_1])) else (none))) = some r := by rw [if_neg (show ¬ (false = true) by decide)] at H; exact H
      clear H
      have H := H1
      clear H1
      by_cases c21 : x4_1.toList = ([] : List UInt8)
      ·rw [if_pos c21] at H
       have c21b0 : (x4_1.toList == ([] : List UInt8)) = true := beq_iff_eq.mpr c21
       have c21b1 : (x4_1.toList != ([] : List UInt8)) = false := bne_eq_false_iff_eq.mpr c21
       clear c21
       obtain rfl := Option.some.inj H
       go_wp2
       go_ret
       exact ⟨_, by first | rfl | (simp [errW_none, errW_some] <;> rfl) | (simp [*, errW_none, errW_some] <;> rfl), RFn.mR HO_3, RFn.bel⟩
      ·rw [if_neg c21] at H
       have c21b0 : (x4_1.toList == ([] : List UInt8)) = false := beq_eq_false_iff_ne.mpr c21
       have c21b1 : (x4_1.toList != ([] : List UInt8)) = true := bne_iff_ne.mpr c21
       by_cases c22 : x3_1.length < 8796093022208
       ·rw [if_pos c22] at H
        have LMc22 := Aside0.mk c22
        clear c22
        obtain ⟨y159, hy159⟩ : ∃ y_ : List ByteArray, y_ = (x3_1 ++ [x4_1]) := ⟨_, rfl⟩
        replace H : (some y159) = some r := RFn.rp H hy159
        have Ny159 := Aside0.mk hy159
        clear hy159
        obtain rfl := Option.some.inj H
        go_wp2_with (first | ((with_reducible refine gate_builtin (b := .append) (xs := #[.tmp 43, .tmp 45]) rfl ?_); at_builtin; refine Kd.R_append Kd.string (w0 := w) w.heap.size rfl (.tmp 43) (.tmp 45) 43 9 (.string ⟨#[]⟩) 16 rfl Tryz.underlying43 info9 rfl (by decide) (by omega) u3 x3_1 x4_1 [.string x4_1] (fun _ => True) (fun _ => False) rfl rfl ?aP (fun _ hk => hk.elim) ?aF ?aO ?aB ?aS ?aL ?_; (case aP => exact rfl); (case aB => exact (RFn.bel)); (case aF => exact (fun _ _ => trivial)); (case aO => exact (RFn.mR HO_3)); (case aS => exact (below_size (RFn.bel))); (case aL => have := LMc22.out; omega); intro v160 w23 ho hb hg hat; rw [← Ny159.out] at ho; have n0_ := Aside0.mk (hb); have n1_ := Aside0.mk (ho); clear HB; clear HO_3; have HB := n0_; have HO161 := n1_; clear n0_ n1_; clear ho hb hg hat))
        go_ret
        exact ⟨_, by first | rfl | (simp [errW_none, errW_some] <;> rfl) | (simp [*, errW_none, errW_some] <;> rfl), RFn.mR HO161, RFn.bel⟩
       ·rw [if_neg c22] at H
        exact absurd H (by simp)
end Go.Proofs.YtjbdkdmoacdbpaaGreatDoor.Q
