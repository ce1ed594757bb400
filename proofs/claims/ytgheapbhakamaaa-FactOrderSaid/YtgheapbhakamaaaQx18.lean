/- printed by a program of this session (wip/tools/pr.sh): it is not a print of the kit -/
import Derived.Test.YtgheapbhakamaaaRSt
import Derived.Test.YtgheapbhakamaaaQx0
import Derived.Test.YtgheapbhakamaaaQx6
import Derived.Test.YtgheapbhakamaaaQx7
import Derived.Test.YtgheapbhakamaaaQx8
import Derived.Test.YtgheapbhakamaaaQx10
import Derived.Test.YtgheapbhakamaaaQx12
import Derived.Test.YtgheapbhakamaaaQx17
namespace Go.Proofs.Ytgheapbhakamaaa.Q
open Go.RowKit Go.Proofs.YtgheapbhakamaaaW.PrintWords Go.Proofs.YtgheapbhakamaaaW.PrintLast Go.Proofs.YtgheapbhakamaaaW.PrintMore
attribute [local go_sem] max2_int min2_int max_two min_two max_three min_three max_four min_four RFn.gtr_str   -- for this text's walks alone
set_option linter.unusedVariables false
set_option linter.unusedSimpArgs false
/-! ### law09_FactOrder: function 5 -/
mutual
def law09_FactOrder.j0 : Nat → List (S28) → Int → Bool → Bool → Option (Bool)
 | 0, _, _, _, _ => none
 | k + 1, x0, x1, x2, x34 => if x34 = true then (some true) else (if (x0.length : Int) = 0 then (none) else (if 0 ≤ (Int.tmod (wrap64 (x1)) (x0.length : Int)) then (if (Int.tmod (wrap64 (x1)) (x0.length : Int)) ≤ (x0.length : Int) then ((some (x0.drop ((Int.tmod (wrap64 (x1)) (x0.length : Int)) : Int).toNat : List (S28))).bind fun y452 => (if ([] : List (S28)).length + y452.length < 1759218604441 then ((some (([] : List (S28)) ++ y452 : List (S28))).bind fun y456 => ((some (x0.take ((Int.tmod (wrap64 (x1)) (x0.length : Int)) : Int).toNat : List (S28))).bind fun y459 => (if y456.length + y459.length < 1759218604441 then ((some (y456 ++ y459 : List (S28))).bind fun y463 => (if x2 = true then (law09_FactOrder.l0 k x0 (Int.tmod (wrap64 (x1)) (x0.length : Int)) y463 (wrap64 ((y463.length : Int) / 2)) 0) else (law09_FactOrder.j2 k x0 (Int.tmod (wrap64 (x1)) (x0.length : Int)) y463))) else (none)))) else (none))) else (none)) else (none)))
def law09_FactOrder.j2 : Nat → List (S28) → Int → List (S28) → Option (Bool)
 | 0, _, _, _ => none
 | k + 1, x0, x7, x8 => (law09_Theirs.f k x0).bind fun t470 => ((fact_Of.f k t470).bind fun bt473 => ((law09_Theirs.f k x8).bind fun t477 => ((fact_Of.f k t477).bind fun bt480 => (if 0 ≤ x7 then (if x7 ≤ (x0.length : Int) then ((law09_Theirs.f k (x0.take (x7 : Int).toNat)).bind fun t488 => ((fact_Of.f k t488).bind fun bt491 => ((law09_Theirs.f k (x0.drop (x7 : Int).toNat)).bind fun t499 => ((fact_Of.f k t499).bind fun bt502 => ((fact_Add.f k bt491.1 bt502.1).bind fun bt506 => (law09_FactOrder.j3 k bt473.1 bt473.2 bt480.1 bt480.2 bt491.2 bt502.2 bt506.1 bt506.2)))))) else (none)) else (none)))))
def law09_FactOrder.j3 : Nat → List (S60) → Int → List (S60) → Int → Int → Int → List (S60) → Int → Option (Bool)
 | 0, _, _, _, _, _, _, _, _ => none
 | k + 1, x10, x11, x12, x13, x15, x17, x18, x19 => if x11 = 0 then (if x13 = 0 then (if x15 = 0 then (if x17 = 0 then (if x19 = 0 then ((law09_Ours.f k x10).bind fun t510 => ((law09_Ours.f k x12).bind fun t513 => ((ref09_Same.f k t510 t513).bind fun t516 => (if t516 = true then ((law09_Ours.f k x10).bind fun t517 => ((law09_Ours.f k x18).bind fun t520 => ((ref09_Same.f k t517 t520).bind fun t523 => (if t523 = true then ((fact_Right.f k x10).bind fun t524 => (some t524)) else (some false))))) else (some false))))) else (some false)) else (some false)) else (some false)) else (some false)) else (some false)
def law09_FactOrder.l0 : Nat → List (S28) → Int → List (S28) → Int → Int → Option (Bool)
 | 0, _, _, _, _, _ => none
 | k + 1, x0, x7, x8, x51, x52 => if x52 < x51 then (if 0 ≤ (wrap64 ((wrap64 ((x8.length : Int) - 1)) - x52)) then (if (wrap64 ((wrap64 ((x8.length : Int) - 1)) - x52)) < (x8.length : Int) then (if 0 ≤ x52 then (if x52 < (x8.length : Int) then (law09_FactOrder.l0 k x0 x7 ((x8.set (x52 : Int).toNat (⟨(⟨(rd_T28 x8 (wrap64 ((wrap64 ((x8.length : Int) - 1)) - x52))).f0.f0, (rd_T28 x8 (wrap64 ((wrap64 ((x8.length : Int) - 1)) - x52))).f0.f1, (rd_T28 x8 (wrap64 ((wrap64 ((x8.length : Int) - 1)) - x52))).f0.f2, (rd_T28 x8 (wrap64 ((wrap64 ((x8.length : Int) - 1)) - x52))).f0.f3, (rd_T28 x8 (wrap64 ((wrap64 ((x8.length : Int) - 1)) - x52))).f0.f4⟩ : S24), (rd_T28 x8 (wrap64 ((wrap64 ((x8.length : Int) - 1)) - x52))).f1⟩ : S28)).set ((wrap64 ((wrap64 ((x8.length : Int) - 1)) - x52)) : Int).toNat (⟨(⟨(rd_T28 x8 x52).f0.f0, (rd_T28 x8 x52).f0.f1, (rd_T28 x8 x52).f0.f2, (rd_T28 x8 x52).f0.f3, (rd_T28 x8 x52).f0.f4⟩ : S24), (rd_T28 x8 x52).f1⟩ : S28)) x51 (wrap64 (x52 + 1))) else (none)) else (none)) else (none)) else (none)) else (law09_FactOrder.j2 k x0 x7 x8)
end
def law09_FactOrder.f (k : Nat) (l0 : List (S28)) (a1 : Int) (a2 : Bool) : Option (Bool) := (law09_alive.f k).bind fun t449 => (if t449 = true then ((law09_Few.f k l0).bind fun t450 => (if t450 = true then ((law09_small.f k l0).bind fun t451 => (if t451 = true then (law09_FactOrder.j0 k l0 a1 a2 ((l0.length : Int) == 0)) else (law09_FactOrder.j0 k l0 a1 a2 true))) else (law09_FactOrder.j0 k l0 a1 a2 true))) else (some false))
theorem law09_FactOrder.mono_l : ∀ k, (∀ y0 y1 y2 y3, LeO (law09_FactOrder.j0 k y0 y1 y2 y3) (law09_FactOrder.j0 (k + 1) y0 y1 y2 y3)) ∧ (∀ y0 y1 y2, LeO (law09_FactOrder.j2 k y0 y1 y2) (law09_FactOrder.j2 (k + 1) y0 y1 y2)) ∧ (∀ y0 y1 y2 y3 y4 y5 y6 y7, LeO (law09_FactOrder.j3 k y0 y1 y2 y3 y4 y5 y6 y7) (law09_FactOrder.j3 (k + 1) y0 y1 y2 y3 y4 y5 y6 y7)) ∧ (∀ y0 y1 y2 y3 y4, LeO (law09_FactOrder.l0 k y0 y1 y2 y3 y4) (law09_FactOrder.l0 (k + 1) y0 y1 y2 y3 y4))
 | 0 => ⟨fun _ _ _ _ r h => by simp [law09_FactOrder.j0] at h, fun _ _ _ r h => by simp [law09_FactOrder.j2] at h, fun _ _ _ _ _ _ _ _ r h => by simp [law09_FactOrder.j3] at h, fun _ _ _ _ _ r h => by simp [law09_FactOrder.l0] at h⟩
 | k + 1 => by
  obtain ⟨ih0, ih1, ih2, ih3⟩ := law09_FactOrder.mono_l k
  refine ⟨?_, ?_, ?_, ?_⟩
  ·intro y0 y1 y2 y3
   unfold law09_FactOrder.j0
   repeat' first | exact LeO.refl _ | with_reducible first | apply ih0 | apply ih1 | apply ih2 | apply ih3 | apply fact_Add.mono | apply fact_Of.mono | apply fact_Right.mono | apply law09_Few.mono | apply law09_Ours.mono | apply law09_Theirs.mono | apply law09_alive.mono | apply law09_small.mono | apply ref09_Same.mono | exact LeO.none _ | apply LeO.ite | refine LeO.bind ?_ fun _ => ?_
  ·intro y0 y1 y2
   unfold law09_FactOrder.j2
   repeat' first | exact LeO.refl _ | with_reducible first | apply ih0 | apply ih1 | apply ih2 | apply ih3 | apply fact_Add.mono | apply fact_Of.mono | apply fact_Right.mono | apply law09_Few.mono | apply law09_Ours.mono | apply law09_Theirs.mono | apply law09_alive.mono | apply law09_small.mono | apply ref09_Same.mono | exact LeO.none _ | apply LeO.ite | refine LeO.bind ?_ fun _ => ?_
  ·intro y0 y1 y2 y3 y4 y5 y6 y7
   unfold law09_FactOrder.j3
   repeat' first | exact LeO.refl _ | with_reducible first | apply ih0 | apply ih1 | apply ih2 | apply ih3 | apply fact_Add.mono | apply fact_Of.mono | apply fact_Right.mono | apply law09_Few.mono | apply law09_Ours.mono | apply law09_Theirs.mono | apply law09_alive.mono | apply law09_small.mono | apply ref09_Same.mono | exact LeO.none _ | apply LeO.ite | refine LeO.bind ?_ fun _ => ?_
  ·intro y0 y1 y2 y3 y4
   unfold law09_FactOrder.l0
   repeat' first | exact LeO.refl _ | with_reducible first | apply ih0 | apply ih1 | apply ih2 | apply ih3 | apply fact_Add.mono | apply fact_Of.mono | apply fact_Right.mono | apply law09_Few.mono | apply law09_Ours.mono | apply law09_Theirs.mono | apply law09_alive.mono | apply law09_small.mono | apply ref09_Same.mono | exact LeO.none _ | apply LeO.ite | refine LeO.bind ?_ fun _ => ?_
theorem law09_FactOrder.mono : ∀ a0 a1 a2 k, LeO (law09_FactOrder.f k a0 a1 a2) (law09_FactOrder.f (k + 1) a0 a1 a2) := by
 intro a0 a1 a2 k
 obtain ⟨ih0, ih1, ih2, ih3⟩ := law09_FactOrder.mono_l k
 unfold law09_FactOrder.f
 repeat' first | exact LeO.refl _ | with_reducible first | apply ih0 | apply ih1 | apply ih2 | apply ih3 | apply fact_Add.mono | apply fact_Of.mono | apply fact_Right.mono | apply law09_Few.mono | apply law09_Ours.mono | apply law09_Theirs.mono | apply law09_alive.mono | apply law09_small.mono | apply ref09_Same.mono | exact LeO.none _ | apply LeO.ite | refine LeO.bind ?_ fun _ => ?_
def law09_FactOrder.T6 : Bool × List (List Nat × List Nat) := (true, [([], []), ([], []), ([0, 1], [0, 1]), ([2], [2]), ([], []), ([], []), ([4, 5], [4, 5]), ([3, 6, 3], [3, 6]), ([7, 7, 0, 1, 2, 3, 4, 5, 6, 7], [7])])
def law09_FactOrder.B6 : List Nat := [0, 0, 3, 7, 0, 0, 48, 127, 255]
theorem law09_FactOrder.tab6 : rtab .any (opsOf Try.f5 6) = law09_FactOrder.T6 := by kernel_rfl
theorem law09_FactOrder.bits6 : waitsOk law09_FactOrder.T6.2 law09_FactOrder.B6 = true := by kernel_rfl
def law09_FactOrder.T11 : Bool × List (List Nat × List Nat) := (true, [([], []), ([], []), ([], []), ([], []), ([3], [3]), ([4], [4]), ([], []), ([5, 6], [5, 6]), ([], []), ([], []), ([9], [9]), ([10], [10]), ([], []), ([11, 12], [11, 12]), ([8, 13], [8, 13]), ([14], [14]), ([], []), ([], []), ([16, 17], [16, 17]), ([18], [18]), ([0, 1, 0, 1, 8, 9, 10, 11, 12, 13, 14, 15, 19], [0, 1]), ([20, 15, 0, 1, 8, 9, 10, 11, 12, 13, 14, 15, 19], [15, 20]), ([2, 7, 0, 1, 2, 3, 4, 5, 6, 7, 8, 9, 10, 11, 12, 13, 14, 15, 16, 17, 18, 19, 20, 21], [2, 7]), ([22, 19, 21, 0, 1, 2, 3, 4, 5, 6, 7, 8, 9, 10, 11, 12, 13, 14, 15, 16, 17, 18, 19, 20, 21], [19, 22])])
def law09_FactOrder.B11 : List Nat := [0, 0, 0, 0, 8, 24, 0, 120, 0, 0, 512, 1536, 0, 7680, 16128, 32512, 0, 0, 196608, 458752, 1048323, 2096899, 4194303, 8388607]
theorem law09_FactOrder.tab11 : rtab .any (opsOf Try.f5 11) = law09_FactOrder.T11 := by kernel_rfl
theorem law09_FactOrder.bits11 : waitsOk law09_FactOrder.T11.2 law09_FactOrder.B11 = true := by kernel_rfl
set_option maxHeartbeats 8000000 in
set_option maxRecDepth 100000 in
theorem law09_FactOrder.calls (k : Nat) (A0 : Option Addr) (c0 : Nat) (l0 : List (S28)) (a1 : Int) (a2 : Bool) (r : Bool) (w : World) (hr0 : Kd.C k28 w A0 l0.length l0) (hc0 : l0.length ≤ c0) (h : law09_FactOrder.f k l0 a1 a2 = some r) :
  Calls Try.prog 5 #[.slice A0 l0.length c0, .int .u8 a1, .bool a2] w fun e w' => e = .returned (.bool r) ∧ Below w.heap.size w w' := by
 have hu28 := Try.underlying28
 have HR0 := Aside0.mk hr0
 have HC0 := Aside0.mk hc0
 clear hr0 hc0
 have HB := Aside0.mk (Below.refl w.heap.size w)
 have H : ((law09_alive.f k).bind fun t449 => (if t449 = true then ((law09_Few.f k l0).bind fun t450 => (if t450 = true then ((law09_small.f k l0).bind fun t451 => (if t451 = true then (law09_FactOrder.j0 k l0 a1 a2 ((l0.length : Int) == 0)) else (law09_FactOrder.j0 k l0 a1 a2 true))) else (law09_FactOrder.j0 k l0 a1 a2 true))) else (some false))) = some r := h
 clear h
 obtain ⟨t449, A4, H⟩ := RFn.bn H
 by_cases c5 : t449 = true
 ·subst c5
  have H1 : ((law09_Few.f k l0).bind fun t450 => (if t450 = true then ((law09_small.f k l0).bind fun t451 => (if t451 = true then (law09_FactOrder.j0 k l0 a1 a2 ((l0.length : Int) == 0)) else (law09_FactOrder.j0 k l0 a1 a2 true))) else (law09_FactOrder.j0 k l0 a1 a2 true))) = some r := by rw [if_pos rfl] at H; exact H
  clear H
  have H := H1
  clear H1
  have HC6 := Aside0.mk H
  clear H
  go_enter Try.func5, Try.ntmps5
  go_upto_region 3 with (first | ((with_reducible refine gate_callee (f := 10) rfl ?_); refine RFn.goesM (some 20) Try.func10 #[] rfl ?_; (with_reducible refine (law09_alive.calls k  true _ A4.out).mono ?_); rintro e w7 ⟨rfl, hb⟩; refine ⟨_, rfl, ?_⟩; have n0_ := Aside0.mk (below_step (RFn.bel) hb); clear HB; have HB := n0_; clear n0_; (try clear hb); (try clear hb2); (try clear hk); (try clear hi)))
  (try simp only [Act.put, List.setIfInBounds_toArray, List.set_cons_zero, List.set_cons_succ])
  go_cut [34] (fun v34 wc => ∃ (kq : Nat) (x34_5 : Bool), v34 = .bool x34_5 ∧ Aside0 (law09_FactOrder.j0 kq l0 a1 a2 x34_5 = some r) ∧ Aside0 (kq ≤ k) ∧ Aside0 (Below w.heap.size w wc))
  case first =>
   have H := HC6.out
   clear HC6
   obtain ⟨t450, A8, H⟩ := RFn.bn H
   by_cases c9 : t450 = true
   ·subst c9
    have H1 : ((law09_small.f k l0).bind fun t451 => (if t451 = true then (law09_FactOrder.j0 k l0 a1 a2 ((l0.length : Int) == 0)) else (law09_FactOrder.j0 k l0 a1 a2 true))) = some r := by rw [if_pos rfl] at H; exact H
    clear H
    have H := H1
    clear H1
    obtain ⟨t451, A10, H⟩ := RFn.bn H
    by_cases c11 : t451 = true
    ·subst c11
     have H1 : (law09_FactOrder.j0 k l0 a1 a2 ((l0.length : Int) == 0)) = some r := by rw [if_pos rfl] at H; exact H
     clear H
     have H := H1
     clear H1
     have H' := Aside0.mk H
     clear H
     go_wp2_with (first | ((with_reducible refine gate_callee (f := 11) rfl ?_); refine RFn.goesM (some 23) Try.func11 #[.slice A0 l0.length c0] rfl ?_; (with_reducible refine (law09_Few.calls k _ _ l0 true _ ?side1 ?side2 A8.out).mono ?_); (case side1 => exact RFn.mC (Kd.C_below HR0.out HB.out)); (case side2 => exact HC0.out); rintro e w12 ⟨rfl, hb⟩; refine ⟨_, rfl, ?_⟩; have n0_ := Aside0.mk (below_step (RFn.bel) hb); clear HB; have HB := n0_; clear n0_; (try clear hb); (try clear hb2); (try clear hk); (try clear hi)) | (go_at_call 29; (with_reducible refine (law09_small.calls k _ _ l0 true _ ?side1 ?side2 A10.out).mono ?_); (case side1 => exact RFn.mC (Kd.C_below HR0.out HB.out)); (case side2 => exact HC0.out); rintro e w13 ⟨rfl, hb⟩; have n0_ := Aside0.mk (below_step (RFn.bel) hb); clear HB; have HB := n0_; clear n0_; (try clear hb); (try clear hb2); (try clear hk); (try clear hi)))
     go_meet
     case rel => exact ⟨_, (((l0.length : Int) == 0)), (by first | rfl | (simp; done) | (simp [*]; done)), H', ⟨by first | omega | exact Nat.le_refl _⟩, ⟨RFn.bel⟩⟩
    ·replace c11 := Bool.eq_false_iff.mpr c11
     subst c11
     have H1 : (law09_FactOrder.j0 k l0 a1 a2 true) = some r := by rw [if_neg (show ¬ (false = true) by decide)] at H; exact H
     clear H
     have H := H1
     clear H1
     have H' := Aside0.mk H
     clear H
     go_wp2_with (first | ((with_reducible refine gate_callee (f := 11) rfl ?_); refine RFn.goesM (some 23) Try.func11 #[.slice A0 l0.length c0] rfl ?_; (with_reducible refine (law09_Few.calls k _ _ l0 true _ ?side1 ?side2 A8.out).mono ?_); (case side1 => exact RFn.mC (Kd.C_below HR0.out HB.out)); (case side2 => exact HC0.out); rintro e w14 ⟨rfl, hb⟩; refine ⟨_, rfl, ?_⟩; have n0_ := Aside0.mk (below_step (RFn.bel) hb); clear HB; have HB := n0_; clear n0_; (try clear hb); (try clear hb2); (try clear hk); (try clear hi)) | (go_at_call 29; (with_reducible refine (law09_small.calls k _ _ l0 false _ ?side1 ?side2 A10.out).mono ?_); (case side1 => exact RFn.mC (Kd.C_below HR0.out HB.out)); (case side2 => exact HC0.out); rintro e w15 ⟨rfl, hb⟩; have n0_ := Aside0.mk (below_step (RFn.bel) hb); clear HB; have HB := n0_; clear n0_; (try clear hb); (try clear hb2); (try clear hk); (try clear hi)))
     go_meet
     case rel => exact ⟨_, (true), (by first | rfl | (simp; done) | (simp [*]; done)), H', ⟨by first | omega | exact Nat.le_refl _⟩, ⟨RFn.bel⟩⟩
   ·replace c9 := Bool.eq_false_iff.mpr c9
    subst c9
    have H1 : (law09_FactOrder.j0 k l0 a1 a2 true) = some r := by rw [if_neg (show ¬ (false = true) by decide)] at H; exact H
    clear H
    have H := H1
    clear H1
    have H' := Aside0.mk H
    clear H
    go_wp2_with (first | ((with_reducible refine gate_callee (f := 11) rfl ?_); refine RFn.goesM (some 23) Try.func11 #[.slice A0 l0.length c0] rfl ?_; (with_reducible refine (law09_Few.calls k _ _ l0 false _ ?side1 ?side2 A8.out).mono ?_); (case side1 => exact RFn.mC (Kd.C_below HR0.out HB.out)); (case side2 => exact HC0.out); rintro e w16 ⟨rfl, hb⟩; refine ⟨_, rfl, ?_⟩; have n0_ := Aside0.mk (below_step (RFn.bel) hb); clear HB; have HB := n0_; clear n0_; (try clear hb); (try clear hb2); (try clear hk); (try clear hi)))
    go_meet
    case rel => exact ⟨_, (true), (by first | rfl | (simp; done) | (simp [*]; done)), H', ⟨by first | omega | exact Nat.le_refl _⟩, ⟨RFn.bel⟩⟩
  case rest =>
   clear HC6
   try clear c1
   try clear p2
   try clear c5
   try clear c9
   try clear c10
   try clear c11
   obtain ⟨kq, x34_5, rfl, HA, HJ5, HB⟩ := hcut
   cases kq with
   | zero => exact absurd HA.out (by simp [law09_FactOrder.j0])
   | succ kj5 =>
    have H := HA.out
    clear HA
    simp only [law09_FactOrder.j0] at H
    by_cases c17 : x34_5 = true
    ·subst c17
     have H1 : (some true) = some r := by rw [if_pos rfl] at H; exact H
     clear H
     have H := H1
     clear H1
     obtain rfl := Option.some.inj H
     go_wp2
     go_ret
     exact ⟨by first | rfl | (simp [errW_none, errW_some] <;> rfl) | (simp [*, errW_none, errW_some] <;> rfl), RFn.bel⟩
    ·replace c17 := Bool.eq_false_iff.mpr c17
     subst c17
     have H1 : (if (l0.length : Int) = 0 then (none) else (if 0 ≤ (Int.tmod (wrap64 (a1)) (l0.length : Int)) then (if (Int.tmod (wrap64 (a1)) (l0.length : Int)) ≤ (l0.length : Int) then ((some (l0.drop ((Int.tmod (wrap64 (a1)) (l0.length : Int)) : Int).toNat : List (S28))).bind fun y452 => (if ([] : List (S28)).length + y452.length < 1759218604441 then ((some (([] : List (S28)) ++ y452 : List (S28))).bind fun y456 => ((some (l0.take ((Int.tmod (wrap64 (a1)) (l0.length : Int)) : Int).toNat : List (S28))).bind fun y459 => (if y456.length + y459.length < 1759218604441 then ((some (y456 ++ y459 : List (S28))).bind fun y463 => (if a2 = true then (law09_FactOrder.l0 kj5 l0 (Int.tmod (wrap64 (a1)) (l0.length : Int)) y463 (wrap64 ((y463.length : Int) / 2)) 0) else (law09_FactOrder.j2 kj5 l0 (Int.tmod (wrap64 (a1)) (l0.length : Int)) y463))) else (none)))) else (none))) else (none)) else (none))) = some r := by rw [if_neg (show ¬ (false = true) by decide)] at H; exact H
     clear H
     have H := H1
     clear H1
     by_cases c18 : (l0.length : Int) = 0
     ·rw [if_pos c18] at H
      exact absurd H (by simp)
     ·rw [if_neg c18] at H
      have c18b0 : ((l0.length : Int) == 0) = false := beq_eq_false_iff_ne.mpr c18
      have c18b1 : ((l0.length : Int) != 0) = true := bne_iff_ne.mpr c18
      have c18b2 : ¬ (l0 = []) := fun h_ => c18 (by rw [h_]; rfl)
      obtain ⟨ji19, hji19⟩ : ∃ j_ : Int, (Int.tmod (wrap64 (a1)) (l0.length : Int)) = j_ := ⟨_, rfl⟩
      replace H : (if 0 ≤ (ji19) then (if (ji19) ≤ (l0.length : Int) then ((some (l0.drop ((ji19) : Int).toNat : List (S28))).bind fun y452 => (if ([] : List (S28)).length + y452.length < 1759218604441 then ((some (([] : List (S28)) ++ y452 : List (S28))).bind fun y456 => ((some (l0.take ((ji19) : Int).toNat : List (S28))).bind fun y459 => (if y456.length + y459.length < 1759218604441 then ((some (y456 ++ y459 : List (S28))).bind fun y463 => (if a2 = true then (law09_FactOrder.l0 kj5 l0 ji19 y463 (wrap64 ((y463.length : Int) / 2)) 0) else (law09_FactOrder.j2 kj5 l0 ji19 y463))) else (none)))) else (none))) else (none)) else (none)) = some r := by first | (rw [hji19] at H; exact H) | (simp only [hji19] at H ⊢; exact H)
      by_cases c20 : 0 ≤ (ji19)
      ·rw [if_pos c20] at H
       have c20b0 := eq_true c20
       have c20b1 : decide (0 ≤ (ji19)) = true := decide_eq_true c20
       clear c20
       by_cases c21 : (ji19) ≤ (l0.length : Int)
       ·rw [if_pos c21] at H
        have c21b0 := eq_true c21
        have c21b1 : decide ((ji19) ≤ (l0.length : Int)) = true := decide_eq_true c21
        clear c21
        obtain ⟨y452, hy452⟩ : ∃ y_ : List (S28), y_ = (l0.drop ((ji19) : Int).toNat) := ⟨_, rfl⟩
        replace H : (if ([] : List (S28)).length + y452.length < 1759218604441 then ((some (([] : List (S28)) ++ y452 : List (S28))).bind fun y456 => ((some (l0.take ((ji19) : Int).toNat : List (S28))).bind fun y459 => (if y456.length + y459.length < 1759218604441 then ((some (y456 ++ y459 : List (S28))).bind fun y463 => (if a2 = true then (law09_FactOrder.l0 kj5 l0 ji19 y463 (wrap64 ((y463.length : Int) / 2)) 0) else (law09_FactOrder.j2 kj5 l0 ji19 y463))) else (none)))) else (none)) = some r := RFn.rp H hy452
        have Ny452 := Aside0.mk hy452
        clear hy452
        by_cases c22 : ([] : List (S28)).length + y452.length < 1759218604441
        ·rw [if_pos c22] at H
         have LMc22 := Aside0.mk c22
         clear c22
         obtain ⟨y456, hy456⟩ : ∃ y_ : List (S28), y_ = (([] : List (S28)) ++ y452) := ⟨_, rfl⟩
         replace H : ((some (l0.take ((ji19) : Int).toNat : List (S28))).bind fun y459 => (if y456.length + y459.length < 1759218604441 then ((some (y456 ++ y459 : List (S28))).bind fun y463 => (if a2 = true then (law09_FactOrder.l0 kj5 l0 ji19 y463 (wrap64 ((y463.length : Int) / 2)) 0) else (law09_FactOrder.j2 kj5 l0 ji19 y463))) else (none))) = some r := RFn.rp H hy456
         have Ny456 := Aside0.mk hy456
         clear hy456
         have c23b0 := eq_true (RFn.od : 0 ≤ (ji19))
         have c24b0 := eq_true (RFn.od : (ji19) ≤ (l0.length : Int))
         obtain ⟨y459, hy459⟩ : ∃ y_ : List (S28), y_ = (l0.take ((ji19) : Int).toNat) := ⟨_, rfl⟩
         replace H : (if y456.length + y459.length < 1759218604441 then ((some (y456 ++ y459 : List (S28))).bind fun y463 => (if a2 = true then (law09_FactOrder.l0 kj5 l0 ji19 y463 (wrap64 ((y463.length : Int) / 2)) 0) else (law09_FactOrder.j2 kj5 l0 ji19 y463))) else (none)) = some r := RFn.rp H hy459
         have Ny459 := Aside0.mk hy459
         clear hy459
         by_cases c25 : y456.length + y459.length < 1759218604441
         ·rw [if_pos c25] at H
          have LMc25 := Aside0.mk c25
          clear c25
          obtain ⟨y463, hy463⟩ : ∃ y_ : List (S28), y_ = (y456 ++ y459) := ⟨_, rfl⟩
          replace H : (if a2 = true then (law09_FactOrder.l0 kj5 l0 ji19 y463 (wrap64 ((y463.length : Int) / 2)) 0) else (law09_FactOrder.j2 kj5 l0 ji19 y463)) = some r := RFn.rp H hy463
          have Ny463 := Aside0.mk hy463
          clear hy463
          have HC26 := Aside0.mk H
          clear H
          try go_wp2
          have n0_ := Aside0.mk (below_drew1 HB.out)
          clear HB
          have HB := n0_
          clear n0_
          have q28 : ((ji19) : Int) ≤ ((l0.length : Int) : Int) := RFn.od
          obtain ⟨i028, hi028, _, hsz28, _⟩ := info_parts info28
          have hroom28 : l0.length ≤ c0 := HC0.out
          have hC28 : Kd.C k28 _ A0 l0.length l0 := HR0.out
          have q028 : (0 : Int) ≤ ((ji19) : Int) := RFn.od
          have hcut28 := cut_from (P := Try.prog) 22 28 .i64 Try.underlying22 hi028 6 hsz28 A0 l0.length c0 (ji19) q028 q28
          have hr28 := Kd.C_drop (m := ((ji19) : Int).toNat) (c := c0) hC28 (by omega) hroom28
          obtain ⟨A28, hA28⟩ : ∃ A1, A1 = (if c0 = ((ji19) : Int).toNat then A0 else (A0 : Option Addr).map (·.add (((ji19) : Int).toNat * 6))) := ⟨_, rfl⟩
          obtain ⟨c28, hc28⟩ : ∃ c1, c1 = c0 - ((ji19) : Int).toNat := ⟨_, rfl⟩
          have hy28 : y452.length = l0.length - ((ji19) : Int).toNat := (by rw [Ny452.out, List.length_drop] <;> omega)
          rw [show (l0).drop ((ji19) : Int).toNat = y452 from Ny452.out.symm] at hr28
          replace hr28 : Kd.C k28 _ A28 y452.length y452 := (by rw [hA28]; exact hr28)
          rw [← hy28, ← hA28, ← hc28] at hcut28
          have HR455 := Aside0.mk hr28
          have HC455 := Aside0.mk (show y452.length ≤ c28 from by rw [hy28, hc28]; exact Nat.sub_le_sub_right hroom28 _)
          clear hr28 hC28 hroom28 hi028 hsz28 hc28
          have KY28 := Aside0.mk hy28
          have KA28 := Aside0.mk hA28
          clear hy28 hA28
          replace q28 := eq_true q28
          have q29 : ((ji19) : Int) ≤ ((l0.length : Int) : Int) := RFn.od
          obtain ⟨i029, hi029, _, hsz29, _⟩ := info_parts info28
          have hroom29 : l0.length ≤ c0 := HC0.out
          have hC29 : Kd.C k28 _ A0 l0.length l0 := HR0.out
          have hcut29 := cut_to (P := Try.prog) 22 28 .i64 Try.underlying22 hi029 A0 l0.length c0 (ji19) (RFn.od) q29 hroom29
          have hr29 := Kd.C_take (m := ((ji19) : Int).toNat) hC29 (by omega)
          have hy29 : y459.length = ((ji19) : Int).toNat := (by rw [Ny459.out, List.length_take]; omega)
          rw [← Ny459.out] at hr29
          rw [← hy29] at hcut29
          have HR462 := Aside0.mk hr29
          have HC462 := Aside0.mk (show y459.length ≤ c0 from by omega)
          clear hr29 hC29 hroom29 hi029 hsz29
          have KY29 := Aside0.mk hy29
          clear hy29
          replace q29 := eq_true q29
          refine start_ (n := 9) (S := fun w' => True) (ds := []) (bs 9 0) (by kernel_rfl) rfl rfl trivial (fun hHeld => ?_); refine with_tabW law09_FactOrder.tab6 law09_FactOrder.bits6 (fun HT_ HW_ => ?_)
          generalize wc.drew = w27 at HB HR455 HR462 hHeld ⊢
          refine RFn.pA (i := 0) (N := some 40) (bs 9 1) HT_ ?_
          refine RFn.pA (i := 1) (N := some 41) (bs 9 3) HT_ ?_
          refine RFn.pA (i := 2) (N := some 42) (bs 9 7) HT_ ?_
          refine RFn.pA (i := 4) (N := some 44) (bs 9 23) HT_ ?_
          refine RFn.pA (i := 5) (N := some 45) (bs 9 55) HT_ ?_
          refine RFn.pA (i := 6) (N := some 46) (bs 9 119) HT_ ?_
          refine RFn.o1 (i := 3) (N := some 43) (bs 9 127) HT_ fun K hK => ?_
          refine Kd.R_append_rows_step k28 (w0 := w) w.heap.size (by rfl) (.const (.slice none 0 0)) (.tmp 42) 22 28 (.agg #[(.string ⟨#[]⟩), (.string ⟨#[]⟩), (.string ⟨#[]⟩), (.string ⟨#[]⟩), (.int .i64 0), (.int .i64 0)]) 80 rfl Try.underlying22 info28 rfl (by decide) (by omega) (.slice none 0 0) ([] : List (S28)) y452 _ _ _ (fun _ => True) (fun _ => False) rfl rfl ?aO ?aR (fun _ _ h => h) (fun _ h => h.elim) ?aF ?aB ?aS ?aL ?_
          (case aR => exact RFn.mC (Kd.C_below HR455.out HB.out))
          (case aB => exact (RFn.bel))
          (case aF => exact (fun _ _ => trivial))
          (case aO => exact ((Kd.R_nil _ _ _ _ (fun _ => True))))
          (case aS => exact (below_size (RFn.bel)))
          (case aL => have := LMc22.out; omega)
          intro v457 w30 ho hb hg hat
          rw [← Ny456.out] at ho
          have n0_ := Aside0.mk (hb)
          have n1_ := Aside0.mk (ho)
          clear HB
          have HB := n0_
          have HO458 := n1_
          clear n0_ n1_
          clear ho hb hg hat
          refine hK.out _ _ trivial (fun hHeld => ?_)
          clear hK K
          refine RFn.nm (some 43) ?_
          refine RFn.o1 (i := 7) (N := some 47) (bs 9 255) HT_ fun K hK => ?_
          refine Kd.R_append_rows_step k28 (w0 := w) w.heap.size (by rfl) (.tmp 43) (.tmp 46) 22 28 (.agg #[(.string ⟨#[]⟩), (.string ⟨#[]⟩), (.string ⟨#[]⟩), (.string ⟨#[]⟩), (.int .i64 0), (.int .i64 0)]) 80 rfl Try.underlying22 info28 rfl (by decide) (by omega) v457 y456 y459 _ _ _ (fun _ => True) (fun _ => False) rfl rfl ?aO ?aR (fun _ _ h => h) (fun _ h => h.elim) ?aF ?aB ?aS ?aL ?_
          (case aR => exact RFn.mC (Kd.C_below HR462.out HB.out))
          (case aB => exact (RFn.bel))
          (case aF => exact (fun _ _ => trivial))
          (case aO => exact (RFn.mR HO458))
          (case aS => exact (below_size (RFn.bel)))
          (case aL => have := LMc25.out; omega)
          intro v464 w31 ho hb hg hat
          rw [← Ny463.out] at ho
          have n0_ := Aside0.mk (hb)
          have n1_ := Aside0.mk (ho)
          clear HB
          clear HO458
          have HB := n0_
          have HO465 := n1_
          clear n0_ n1_
          clear ho hb hg hat
          refine hK.out _ _ trivial (fun hHeld => ?_)
          clear hK K
          refine RFn.nm (some 47) ?_
          refine RFn.pA (i := 8) (N := some 8) (bs 9 511) HT_ ?_
          refine RFn.dn HT_ ?_
          go_upto_if 48 with (fail)
          go_cut [] (fun wc => ∃ (kq : Nat) (x8_25 : List (S28)), Aside0 (law09_FactOrder.j2 kq l0 ji19 x8_25 = some r) ∧ Aside0 (kq ≤ kj5) ∧ Aside0 (Kd.R k28 28 wc w.heap.size (fun _ => True) v464 x8_25) ∧ Aside0 (Below w.heap.size w wc))
          case first =>
           have H := HC26.out
           clear HC26
           by_cases c32 : a2 = true
           ·subst c32
            have H1 : (law09_FactOrder.l0 kj5 l0 ji19 y463 (wrap64 ((y463.length : Int) / 2)) 0) = some r := by rw [if_pos rfl] at H; exact H
            clear H
            have H := H1
            clear H1
            have H' := Aside0.mk H
            clear H
            obtain ⟨Ao33, co33, eo33⟩ := Kd.R_slice HO465.out
            subst eo33
            go_wp2
            go_loopg [52] kj5 (fun kq v52 w' => ∃ (x8_2 : List (S28)) (x52_2 : Int), v52 = .int .i64 x52_2 ∧ Aside0 (law09_FactOrder.l0 kq l0 ji19 x8_2 (wrap64 ((y463.length : Int) / 2)) x52_2 = some r) ∧ Aside0 (kq ≤ kj5) ∧ Aside0 (Kd.R k28 28 w' w.heap.size (fun _ => True) (.slice Ao33 y463.length co33) x8_2) ∧ Aside0 (Below w.heap.size w w'))
            case atStart => exact ⟨(y463), (0), (by first | rfl | (simp; done) | (simp [*]; done)), H', ⟨Nat.le_refl _⟩, ⟨RFn.mR HO465⟩, ⟨RFn.bel⟩⟩
            case round =>
             clear H'
             try clear c1
             try clear c2
             try clear p2
             try clear q2
             try clear c3
             try clear c5
             try clear p6
             try clear c9
             try clear c10
             try clear c11
             try clear c17
             try clear c18
             try clear c18b0
             try clear c18b1
             try clear c18b2
             try clear c20
             try clear c20b0
             try clear c20b1
             try clear c21
             try clear c21b0
             try clear c21b1
             try clear c22
             try clear c23
             try clear c23b0
             try clear c24
             try clear c24b0
             try clear c25
             try clear c28
             try clear q28
             try clear q29
             try clear c32
             try clear p2
             try clear q028
             try clear q28
             try clear q29
             obtain ⟨x8_2, x52_2, rfl, HA, HK2, HO_8, HB⟩ := hrel
             have hl8_2 := (Kd.R_reads' HO_8.out).1
             rw [hl8_2] at HO_8
             (try simp only [hl8_2])
             cases gk with
             | zero => exact absurd HA.out (by simp [law09_FactOrder.l0])
             | succ k2 =>
              have H := HA.out
              clear HA
              simp only [law09_FactOrder.l0] at H
              by_cases c34 : x52_2 < (wrap64 ((y463.length : Int) / 2))
              ·rw [if_pos c34] at H
               have c34b0 : decide (x52_2 < (wrap64 ((y463.length : Int) / 2))) = true := decide_eq_true c34
               (try (have c34b0h := c34b0; simp only [hl8_2] at c34b0h))
               clear c34
               (first | rw [c34b0] | (simp only [i64_w, i32_w]; rw [c34b0]) | skip)
               obtain ⟨ji35, hji35⟩ : ∃ j_ : Int, (wrap64 ((wrap64 ((x8_2.length : Int) - 1)) - x52_2)) = j_ := ⟨_, rfl⟩
               replace H : (if 0 ≤ (ji35) then (if (ji35) < (x8_2.length : Int) then (if 0 ≤ x52_2 then (if x52_2 < (x8_2.length : Int) then (law09_FactOrder.l0 k2 l0 ji19 ((x8_2.set (x52_2 : Int).toNat (⟨(⟨(rd_T28 x8_2 (ji35)).f0.f0, (rd_T28 x8_2 (ji35)).f0.f1, (rd_T28 x8_2 (ji35)).f0.f2, (rd_T28 x8_2 (ji35)).f0.f3, (rd_T28 x8_2 (ji35)).f0.f4⟩ : S24), (rd_T28 x8_2 (ji35)).f1⟩ : S28)).set ((ji35) : Int).toNat (⟨(⟨(rd_T28 x8_2 x52_2).f0.f0, (rd_T28 x8_2 x52_2).f0.f1, (rd_T28 x8_2 x52_2).f0.f2, (rd_T28 x8_2 x52_2).f0.f3, (rd_T28 x8_2 x52_2).f0.f4⟩ : S24), (rd_T28 x8_2 x52_2).f1⟩ : S28)) (wrap64 ((y463.length : Int) / 2)) (wrap64 (x52_2 + 1))) else (none)) else (none)) else (none)) else (none)) = some r := by first | (rw [hji35] at H; exact H) | (simp only [hji35] at H ⊢; exact H)
               have hji35w : (IntKind.i64.wrap ((wrap64 ((x8_2.length : Int) - 1)) - x52_2)) = ji35 := (i64_w _).trans hji35
               by_cases c36 : 0 ≤ (ji35)
               ·rw [if_pos c36] at H
                have c36b0 : decide (0 ≤ (ji35)) = true := decide_eq_true c36
                clear c36
                by_cases c37 : (ji35) < (x8_2.length : Int)
                ·rw [if_pos c37] at H
                 have c37b0 : decide ((ji35) < (x8_2.length : Int)) = true := decide_eq_true c37
                 (try (have c37b0h := c37b0; simp only [hl8_2] at c37b0h))
                 clear c37
                 by_cases c38 : 0 ≤ x52_2
                 ·rw [if_pos c38] at H
                  have c38b0 : decide (0 ≤ x52_2) = true := decide_eq_true c38
                  clear c38
                  by_cases c39 : x52_2 < (x8_2.length : Int)
                  ·rw [if_pos c39] at H
                   have c39b0 : decide (x52_2 < (x8_2.length : Int)) = true := decide_eq_true c39
                   (try (have c39b0h := c39b0; simp only [hl8_2] at c39b0h))
                   clear c39
                   obtain ⟨y468, hy468⟩ : ∃ y_ : List (S28), y_ = (x8_2.set (x52_2 : Int).toNat (⟨(⟨(rd_T28 x8_2 (ji35)).f0.f0, (rd_T28 x8_2 (ji35)).f0.f1, (rd_T28 x8_2 (ji35)).f0.f2, (rd_T28 x8_2 (ji35)).f0.f3, (rd_T28 x8_2 (ji35)).f0.f4⟩ : S24), (rd_T28 x8_2 (ji35)).f1⟩ : S28)) := ⟨_, rfl⟩
                   replace H : (law09_FactOrder.l0 k2 l0 ji19 (y468.set ((ji35) : Int).toNat (⟨(⟨(rd_T28 x8_2 x52_2).f0.f0, (rd_T28 x8_2 x52_2).f0.f1, (rd_T28 x8_2 x52_2).f0.f2, (rd_T28 x8_2 x52_2).f0.f3, (rd_T28 x8_2 x52_2).f0.f4⟩ : S24), (rd_T28 x8_2 x52_2).f1⟩ : S28)) (wrap64 ((y463.length : Int) / 2)) (wrap64 (x52_2 + 1))) = some r := RFn.rp H hy468
                   have Ny468 := Aside0.mk hy468
                   clear hy468
                   obtain ⟨y469, hy469⟩ : ∃ y_ : List (S28), y_ = (y468.set ((ji35) : Int).toNat (⟨(⟨(rd_T28 x8_2 x52_2).f0.f0, (rd_T28 x8_2 x52_2).f0.f1, (rd_T28 x8_2 x52_2).f0.f2, (rd_T28 x8_2 x52_2).f0.f3, (rd_T28 x8_2 x52_2).f0.f4⟩ : S24), (rd_T28 x8_2 x52_2).f1⟩ : S28)) := ⟨_, rfl⟩
                   replace H : (law09_FactOrder.l0 k2 l0 ji19 y469 (wrap64 ((y463.length : Int) / 2)) (wrap64 (x52_2 + 1))) = some r := RFn.rp H hy469
                   have Ny469 := Aside0.mk hy469
                   clear hy469
                   have H' := Aside0.mk H
                   clear H
                   try go_wp2
                   have n0_ := Aside0.mk (Kd.R_drew HO_8.out)
                   have n1_ := Aside0.mk (below_drew1 HB.out)
                   clear HO_8
                   clear HB
                   have HO_8 := n0_
                   have HB := n1_
                   clear n0_ n1_
                   have p466 : 0 ≤ ((ji35) : Int) := RFn.od
                   have q466 : (ji35) < (x8_2.length : Int) := RFn.od
                   obtain ⟨ad466, e466, hx466_0, hx466_1, hx466_2, hx466_3, hx466_4, hx466_5⟩ := at_T28 (Kd.R_reads' HO_8.out).2.2 (ji35) p466 q466
                   cases e466
                   replace p466 := eq_true p466
                   replace q466 := eq_true q466
                   have p467 : 0 ≤ (x52_2 : Int) := RFn.od
                   have q467 : x52_2 < (x8_2.length : Int) := RFn.od
                   obtain ⟨ad467, e467, hx467_0, hx467_1, hx467_2, hx467_3, hx467_4, hx467_5⟩ := at_T28 (Kd.R_reads' HO_8.out).2.2 x52_2 p467 q467
                   obtain rfl : ad466 = ad467 := (by injection e467)
                   replace p467 := eq_true p467
                   replace q467 := eq_true q467
                   have p40 : 0 ≤ (x52_2 : Int) := RFn.od
                   have q40 : (x52_2 : Int) < ((x8_2.length : Int) : Int) := RFn.od
                   obtain ⟨go40, co40, eo40, gb40, gl40, cl40, HG40⟩ := Kd.R_form HO_8.out (by omega)
                   (first | cases eo40 | (injection eo40 with ea_ en_ ec_; (first | subst ea_ | (injection ea_ with ea_; subst ea_)); subst ec_; clear en_))
                   have GB40 := Aside0.mk gb40
                   have GG40 := Aside0.mk HG40
                   clear gb40 gl40 HG40
                   (first | simp only [add_plain] at hx466_0 | skip)
                   (first | simp only [add_plain] at hx466_1 | skip)
                   (first | simp only [add_plain] at hx466_2 | skip)
                   (first | simp only [add_plain] at hx466_3 | skip)
                   (first | simp only [add_plain] at hx466_4 | skip)
                   (first | simp only [add_plain] at hx466_5 | skip)
                   (first | simp only [add_plain] at hx467_0 | skip)
                   (first | simp only [add_plain] at hx467_1 | skip)
                   (first | simp only [add_plain] at hx467_2 | skip)
                   (first | simp only [add_plain] at hx467_3 | skip)
                   (first | simp only [add_plain] at hx467_4 | skip)
                   (first | simp only [add_plain] at hx467_5 | skip)
                   obtain ⟨ce40, hcl40, hM40, hcc40, hfr40⟩ := Kd.R_elem HO_8.out z28 (x52_2 : Int) p40 q40
                   obtain rfl := k28_openM hM40
                   have hx40_0 : World.cell? _ ⟨go40, (x52_2 : Int).toNat * 6, none⟩ = some (.string ((rd_T28 x8_2 x52_2).f0.f0)) := hcc40 0 _ rfl
                   have hx40_1 : World.cell? _ ⟨go40, (x52_2 : Int).toNat * 6 + 1, none⟩ = some (.string ((rd_T28 x8_2 x52_2).f0.f1)) := hcc40 1 _ rfl
                   have hx40_2 : World.cell? _ ⟨go40, (x52_2 : Int).toNat * 6 + 2, none⟩ = some (.string ((rd_T28 x8_2 x52_2).f0.f2)) := hcc40 2 _ rfl
                   have hx40_3 : World.cell? _ ⟨go40, (x52_2 : Int).toNat * 6 + 3, none⟩ = some (.string ((rd_T28 x8_2 x52_2).f0.f3)) := hcc40 3 _ rfl
                   have hx40_4 : World.cell? _ ⟨go40, (x52_2 : Int).toNat * 6 + 4, none⟩ = some (.int .i64 ((rd_T28 x8_2 x52_2).f0.f4)) := hcc40 4 _ rfl
                   have hx40_5 : World.cell? _ ⟨go40, (x52_2 : Int).toNat * 6 + 5, none⟩ = some (.int .i64 ((rd_T28 x8_2 x52_2).f1)) := hcc40 5 _ rfl
                   have hf40_0 : World.frozen? _ ⟨go40, (x52_2 : Int).toNat * 6, none⟩ = false := hfr40 0
                   have hf40_1 : World.frozen? _ ⟨go40, (x52_2 : Int).toNat * 6 + 1, none⟩ = false := hfr40 1
                   have hf40_2 : World.frozen? _ ⟨go40, (x52_2 : Int).toNat * 6 + 2, none⟩ = false := hfr40 2
                   have hf40_3 : World.frozen? _ ⟨go40, (x52_2 : Int).toNat * 6 + 3, none⟩ = false := hfr40 3
                   have hf40_4 : World.frozen? _ ⟨go40, (x52_2 : Int).toNat * 6 + 4, none⟩ = false := hfr40 4
                   have hf40_5 : World.frozen? _ ⟨go40, (x52_2 : Int).toNat * 6 + 5, none⟩ = false := hfr40 5
                   clear hcl40 hcc40 hfr40 hM40
                   replace p40 := eq_true p40
                   replace q40 := eq_true q40
                   obtain ⟨ce43, hcl43, hM43, hcc43, hfr43⟩ := Kd.R_elem HO_8.out z28 (x52_2 : Int) (RFn.od) (by have h_ : (x52_2 : Int) < ((x8_2.length : Int) : Int) := RFn.od; first | exact h_ | (have e_ := (Kd.R_reads' HO_8.out).1; omega) | simpa using h_)
                   obtain rfl := k28_openM hM43
                   have HP43 := (Kd.R_seg HO_8.out (x52_2 : Int) (RFn.od) (by have h_ : (x52_2 : Int) < ((x8_2.length : Int) : Int) := RFn.od; first | exact h_ | (have e_ := (Kd.R_reads' HO_8.out).1; omega) | simpa using h_) (seg := [.string ((rd_T28 x8_2 (ji35)).f0.f0), .string ((rd_T28 x8_2 (ji35)).f0.f1), .string ((rd_T28 x8_2 (ji35)).f0.f2), .string ((rd_T28 x8_2 (ji35)).f0.f3), .int .i64 ((rd_T28 x8_2 (ji35)).f0.f4), .int .i64 ((rd_T28 x8_2 (ji35)).f1)]) (j := 0) hcl43 hcc43 (show 6 ≤ 6 from by decide) (x' := (⟨(⟨(rd_T28 x8_2 (ji35)).f0.f0, (rd_T28 x8_2 (ji35)).f0.f1, (rd_T28 x8_2 (ji35)).f0.f2, (rd_T28 x8_2 (ji35)).f0.f3, (rd_T28 x8_2 (ji35)).f0.f4⟩ : S24), (rd_T28 x8_2 (ji35)).f1⟩ : S28)) (k28_mkM _ _ _ (⟨(⟨(rd_T28 x8_2 (ji35)).f0.f0, (rd_T28 x8_2 (ji35)).f0.f1, (rd_T28 x8_2 (ji35)).f0.f2, (rd_T28 x8_2 (ji35)).f0.f3, (rd_T28 x8_2 (ji35)).f0.f4⟩ : S24), (rd_T28 x8_2 (ji35)).f1⟩ : S28) ) (fun _ hk => hk)).1
                   rw [← Ny468.out] at HP43
                   have HQ43 := Aside0.mk HP43
                   clear hcl43 hcc43 hfr43 hM43 HP43
                   have p41 : 0 ≤ ((ji35) : Int) := RFn.od
                   have q41 : ((ji35) : Int) < ((x8_2.length : Int) : Int) := RFn.od
                   obtain ⟨ce41, hcl41, hM41, hcc41, hfr41⟩ := Kd.R_elem HQ43.out z28 ((ji35) : Int) p41 q41
                   obtain rfl := k28_openM hM41
                   have hx41_0 : World.cell? _ ⟨go40, ((ji35) : Int).toNat * 6, none⟩ = some (.string ((rd_T28 y468 (ji35)).f0.f0)) := hcc41 0 _ rfl
                   have hx41_1 : World.cell? _ ⟨go40, ((ji35) : Int).toNat * 6 + 1, none⟩ = some (.string ((rd_T28 y468 (ji35)).f0.f1)) := hcc41 1 _ rfl
                   have hx41_2 : World.cell? _ ⟨go40, ((ji35) : Int).toNat * 6 + 2, none⟩ = some (.string ((rd_T28 y468 (ji35)).f0.f2)) := hcc41 2 _ rfl
                   have hx41_3 : World.cell? _ ⟨go40, ((ji35) : Int).toNat * 6 + 3, none⟩ = some (.string ((rd_T28 y468 (ji35)).f0.f3)) := hcc41 3 _ rfl
                   have hx41_4 : World.cell? _ ⟨go40, ((ji35) : Int).toNat * 6 + 4, none⟩ = some (.int .i64 ((rd_T28 y468 (ji35)).f0.f4)) := hcc41 4 _ rfl
                   have hx41_5 : World.cell? _ ⟨go40, ((ji35) : Int).toNat * 6 + 5, none⟩ = some (.int .i64 ((rd_T28 y468 (ji35)).f1)) := hcc41 5 _ rfl
                   have hf41_0 : World.frozen? _ ⟨go40, ((ji35) : Int).toNat * 6, none⟩ = false := hfr41 0
                   have hf41_1 : World.frozen? _ ⟨go40, ((ji35) : Int).toNat * 6 + 1, none⟩ = false := hfr41 1
                   have hf41_2 : World.frozen? _ ⟨go40, ((ji35) : Int).toNat * 6 + 2, none⟩ = false := hfr41 2
                   have hf41_3 : World.frozen? _ ⟨go40, ((ji35) : Int).toNat * 6 + 3, none⟩ = false := hfr41 3
                   have hf41_4 : World.frozen? _ ⟨go40, ((ji35) : Int).toNat * 6 + 4, none⟩ = false := hfr41 4
                   have hf41_5 : World.frozen? _ ⟨go40, ((ji35) : Int).toNat * 6 + 5, none⟩ = false := hfr41 5
                   clear hcl41 hcc41 hfr41 hM41
                   replace p41 := eq_true p41
                   replace q41 := eq_true q41
                   obtain ⟨ce44, hcl44, hM44, hcc44, hfr44⟩ := Kd.R_elem HQ43.out z28 ((ji35) : Int) (RFn.od) (by have h_ : ((ji35) : Int) < ((x8_2.length : Int) : Int) := RFn.od; first | exact h_ | (have e_ := (Kd.R_reads' HO_8.out).1; omega) | simpa using h_)
                   obtain rfl := k28_openM hM44
                   have HP44 := (Kd.R_seg HQ43.out ((ji35) : Int) (RFn.od) (by have h_ : ((ji35) : Int) < ((x8_2.length : Int) : Int) := RFn.od; first | exact h_ | (have e_ := (Kd.R_reads' HO_8.out).1; omega) | simpa using h_) (seg := [.string ((rd_T28 x8_2 x52_2).f0.f0), .string ((rd_T28 x8_2 x52_2).f0.f1), .string ((rd_T28 x8_2 x52_2).f0.f2), .string ((rd_T28 x8_2 x52_2).f0.f3), .int .i64 ((rd_T28 x8_2 x52_2).f0.f4), .int .i64 ((rd_T28 x8_2 x52_2).f1)]) (j := 0) hcl44 hcc44 (show 6 ≤ 6 from by decide) (x' := (⟨(⟨(rd_T28 x8_2 x52_2).f0.f0, (rd_T28 x8_2 x52_2).f0.f1, (rd_T28 x8_2 x52_2).f0.f2, (rd_T28 x8_2 x52_2).f0.f3, (rd_T28 x8_2 x52_2).f0.f4⟩ : S24), (rd_T28 x8_2 x52_2).f1⟩ : S28)) (k28_mkM _ _ _ (⟨(⟨(rd_T28 x8_2 x52_2).f0.f0, (rd_T28 x8_2 x52_2).f0.f1, (rd_T28 x8_2 x52_2).f0.f2, (rd_T28 x8_2 x52_2).f0.f3, (rd_T28 x8_2 x52_2).f0.f4⟩ : S24), (rd_T28 x8_2 x52_2).f1⟩ : S28) ) (fun _ hk => hk)).1
                   rw [← Ny469.out] at HP44
                   have HQ44 := Aside0.mk HP44
                   clear hcl44 hcc44 hfr44 hM44 HP44
                   refine start_ (n := 24) (S := fun w' => w'.cell? ⟨go40, (((ji35)).toNat * 6), none⟩ = some (.string ((rd_T28 x8_2 (ji35)).f0.f0)) ∧ w'.cell? ⟨go40, (((ji35)).toNat * 6) + 1, none⟩ = some (.string ((rd_T28 x8_2 (ji35)).f0.f1)) ∧ w'.cell? ⟨go40, (((ji35)).toNat * 6) + 2, none⟩ = some (.string ((rd_T28 x8_2 (ji35)).f0.f2)) ∧ w'.cell? ⟨go40, (((ji35)).toNat * 6) + 3, none⟩ = some (.string ((rd_T28 x8_2 (ji35)).f0.f3)) ∧ w'.cell? ⟨go40, (((ji35)).toNat * 6) + 4, none⟩ = some (.int .i64 ((rd_T28 x8_2 (ji35)).f0.f4)) ∧ w'.cell? ⟨go40, (((ji35)).toNat * 6) + 5, none⟩ = some (.int .i64 ((rd_T28 x8_2 (ji35)).f1)) ∧ w'.cell? ⟨go40, ((x52_2).toNat * 6), none⟩ = some (.string ((rd_T28 x8_2 x52_2).f0.f0)) ∧ w'.cell? ⟨go40, ((x52_2).toNat * 6) + 1, none⟩ = some (.string ((rd_T28 x8_2 x52_2).f0.f1)) ∧ w'.cell? ⟨go40, ((x52_2).toNat * 6) + 2, none⟩ = some (.string ((rd_T28 x8_2 x52_2).f0.f2)) ∧ w'.cell? ⟨go40, ((x52_2).toNat * 6) + 3, none⟩ = some (.string ((rd_T28 x8_2 x52_2).f0.f3)) ∧ w'.cell? ⟨go40, ((x52_2).toNat * 6) + 4, none⟩ = some (.int .i64 ((rd_T28 x8_2 x52_2).f0.f4)) ∧ w'.cell? ⟨go40, ((x52_2).toNat * 6) + 5, none⟩ = some (.int .i64 ((rd_T28 x8_2 x52_2).f1))) (ds := [21, 23]) (bs 24 0) (by kernel_rfl) rfl rfl ⟨hx466_0, hx466_1, hx466_2, hx466_3, hx466_4, hx466_5, hx467_0, hx467_1, hx467_2, hx467_3, hx467_4, hx467_5⟩ (fun hHeld => ?_); refine with_tabW law09_FactOrder.tab11 law09_FactOrder.bits11 (fun HT_ HW_ => ?_)
                   generalize wr.drew = w42 at HO_8 HB GG40 HQ43 HQ44 hf40_0 hf40_1 hf40_2 hf40_3 hf40_4 hf40_5 hf41_0 hf41_1 hf41_2 hf41_3 hf41_4 hf41_5 hx40_0 hx40_1 hx40_2 hx40_3 hx40_4 hx40_5 hx41_0 hx41_1 hx41_2 hx41_3 hx41_4 hx41_5 hx466_0 hx466_1 hx466_2 hx466_3 hx466_4 hx466_5 hx467_0 hx467_1 hx467_2 hx467_3 hx467_4 hx467_5 hHeld ⊢
                   refine RFn.pA (i := 0) (N := some 55) (bs 24 1) HT_ ?_
                   refine RFn.pA (i := 1) (N := some 56) (bs 24 3) HT_ ?_
                   refine RFn.pA (i := 2) (N := some 57) (bs 24 7) HT_ ?_
                   refine RFn.pA (i := 3) (N := some 58) (bs 24 15) HT_ ?_
                   refine RFn.pA (i := 4) (N := some 59) (bs 24 31) HT_ ?_
                   refine RFn.pA (i := 5) (N := some 60) (bs 24 63) HT_ ?_
                   refine RFn.pA (i := 6) (N := some 61) (bs 24 127) HT_ ?_
                   refine RFn.pA (i := 7) (N := some 62) (bs 24 255) HT_ ?_
                   refine RFn.pA (i := 8) (N := some 63) (bs 24 511) HT_ ?_
                   refine RFn.pA (i := 9) (N := some 64) (bs 24 1023) HT_ ?_
                   refine RFn.pA (i := 10) (N := some 65) (bs 24 2047) HT_ ?_
                   refine RFn.pA (i := 11) (N := some 66) (bs 24 4095) HT_ ?_
                   refine RFn.pA (i := 12) (N := some 67) (bs 24 8191) HT_ ?_
                   refine RFn.pA (i := 13) (N := some 68) (bs 24 16383) HT_ ?_
                   refine RFn.pA (i := 14) (N := some 69) (bs 24 32767) HT_ ?_
                   refine RFn.pA (i := 16) (N := some 71) (bs 24 98303) HT_ ?_
                   refine RFn.pA (i := 17) (N := some 72) (bs 24 229375) HT_ ?_
                   refine RFn.pA (i := 18) (N := some 73) (bs 24 491519) HT_ ?_
                   refine RFn.tA (i := 15) (N := some 70) (bs 24 524287) rfl HT_ HW_ hHeld (by rintro w' ⟨s0, s1, s2, s3, s4, s5, s6, s7, s8, s9, s10, s11⟩; go_simp; with_reducible rfl) ?_
                   refine RFn.tA (i := 19) (N := some 74) (bs 24 1048575) rfl HT_ HW_ hHeld (by rintro w' ⟨s0, s1, s2, s3, s4, s5, s6, s7, s8, s9, s10, s11⟩; go_simp; with_reducible rfl) ?_
                   refine RFn.pA (i := 20) (N := some 75) (bs 24 2097151) HT_ ?_
                   refine Go.Proofs.Ytgheapbhakamaaa.RSt.lastS_ (i := 21) (b := go40) (o := (x52_2 : Int).toNat * k28.sz + 0) (vs := [.string ((rd_T28 x8_2 (ji35)).f0.f0), .string ((rd_T28 x8_2 (ji35)).f0.f1), .string ((rd_T28 x8_2 (ji35)).f0.f2), .string ((rd_T28 x8_2 (ji35)).f0.f3), .int .i64 ((rd_T28 x8_2 (ji35)).f0.f4), .int .i64 ((rd_T28 x8_2 (ji35)).f1)]) (bs 24 4194303) rfl rfl (one_of HT_.out (by kernel_rfl)) (by decide) (by rfl) rfl (by first | rfl | (go_simp; rfl)) (by first | rfl | (go_simp; rfl)) (by rfl) info28 (by rfl) (Go.Proofs.Ytgheapbhakamaaa.RSt.R_in HO_8.out z28 (x52_2 : Int) (of_eq_true p40) (of_eq_true q40) 0) (by rfl) ?_
                   refine RFn.pA (i := 22) (N := some 76) (bs 24 8388607) HT_ ?_
                   refine Go.Proofs.Ytgheapbhakamaaa.RSt.lastS_ (i := 23) (b := go40) (o := ((ji35) : Int).toNat * k28.sz + 0) (vs := [.string ((rd_T28 x8_2 x52_2).f0.f0), .string ((rd_T28 x8_2 x52_2).f0.f1), .string ((rd_T28 x8_2 x52_2).f0.f2), .string ((rd_T28 x8_2 x52_2).f0.f3), .int .i64 ((rd_T28 x8_2 x52_2).f0.f4), .int .i64 ((rd_T28 x8_2 x52_2).f1)]) (bs 24 16777215) rfl rfl (one_of HT_.out (by kernel_rfl)) (by decide) (by rfl) rfl (by first | rfl | (go_simp; rfl)) (by first | rfl | (go_simp; rfl)) (by rfl) info28 (by rfl) (Go.Proofs.Ytgheapbhakamaaa.RSt.R_in HQ43.out z28 ((ji35) : Int) (of_eq_true p41) (of_eq_true q41) 0) (by rfl) ?_
                   refine RFn.dn HT_ ?_
                   try go_wp2
                   (try simp only [← hl8_2])
                   go_roundg k2
                   case measure => have := HJ5.out; have := HK2.out; omega
                   case rel => exact ⟨(y469), (wrap64 (x52_2 + 1)), (by first | rfl | (simp; done) | (simp [*]; done)), H', ⟨by have := HJ5.out; have := HK2.out; omega⟩, ⟨by (try simp only [hl8_2]); (with_reducible repeat (first | apply Kd.R_alloc | apply Kd.R_drewN | apply Kd.R_drew)); exact HQ44.out⟩, ⟨by repeat (first | (with_reducible first | exact HB.out | apply below_alloc | apply pw_below_drewN | apply below_drew1 | refine below_set ?_ GB40.out | refine Go.Proofs.Ytgheapbhakamaaa.RSt.belowS ?_ GB40.out) | exact HB.out)⟩⟩
                  ·rw [if_neg c39] at H
                   exact absurd H (by simp)
                 ·rw [if_neg c38] at H
                  exact absurd H (by simp)
                ·rw [if_neg c37] at H
                 exact absurd H (by simp)
               ·rw [if_neg c36] at H
                exact absurd H (by simp)
              ·rw [if_neg c34] at H
               have c34b0 : decide (x52_2 < (wrap64 ((y463.length : Int) / 2))) = false := decide_eq_false c34
               (try (have c34b0h := c34b0; simp only [hl8_2] at c34b0h))
               clear c34
               (first | rw [c34b0] | (simp only [i64_w, i32_w]; rw [c34b0]) | skip)
               have H' := Aside0.mk H
               clear H
               go_wp2
               (try simp only [← hl8_2])
               first | go_meet | (simp only [c18b0] at *; go_meet)
               case rel => exact ⟨_, (x8_2), H', ⟨by have := HJ5.out; have := HK2.out; first | omega | exact Nat.le_refl _⟩, ⟨by (try simp only [hl8_2]); (with_reducible repeat (first | apply Kd.R_alloc | apply Kd.R_drewN | apply Kd.R_drew)); exact HO_8.out⟩, ⟨RFn.bel⟩⟩
           ·replace c32 := Bool.eq_false_iff.mpr c32
            subst c32
            have H1 : (law09_FactOrder.j2 kj5 l0 ji19 y463) = some r := by rw [if_neg (show ¬ (false = true) by decide)] at H; exact H
            clear H
            have H := H1
            clear H1
            have H' := Aside0.mk H
            clear H
            go_wp2
            first | go_meet | (simp only [c18b0] at *; go_meet)
            case rel => exact ⟨_, (y463), H', ⟨by have := HJ5.out; first | omega | exact Nat.le_refl _⟩, ⟨RFn.mR HO465⟩, ⟨RFn.bel⟩⟩
          case rest =>
           clear HC26
           try clear c1
           try clear c2
           try clear p2
           try clear q2
           try clear c3
           try clear c4
           try clear p4
           try clear q4
           try clear hx4
           try clear hf4
           try clear c5
           try clear p6
           try clear c9
           try clear c10
           try clear c11
           try clear c17
           try clear c18
           try clear c18b0
           try clear c18b1
           try clear c18b2
           try clear c20
           try clear c20b0
           try clear c20b1
           try clear c21
           try clear c21b0
           try clear c21b1
           try clear c22
           try clear c23
           try clear c23b0
           try clear c24
           try clear c24b0
           try clear c25
           try clear c28
           try clear q28
           try clear q29
           try clear c32
           try clear c34
           try clear c34b0
           try clear c36
           try clear c36b0
           try clear c37
           try clear c37b0
           try clear c38
           try clear c38b0
           try clear c39
           try clear c39b0
           try clear c40
           try clear p40
           try clear q40
           try clear hx40
           try clear hf40
           try clear c41
           try clear p41
           try clear q41
           try clear hx41
           try clear hf41
           try clear c43
           try clear c44
           try clear hx40_0
           try clear hx40_1
           try clear hx40_2
           try clear hx40_3
           try clear hx40_4
           try clear hx40_5
           try clear hx41_0
           try clear hx41_1
           try clear hx41_2
           try clear hx41_3
           try clear hx41_4
           try clear hx41_5
           try clear hx466_0
           try clear hx466_1
           try clear hx466_2
           try clear hx466_3
           try clear hx466_4
           try clear hx466_5
           try clear hx467_0
           try clear hx467_1
           try clear hx467_2
           try clear hx467_3
           try clear hx467_4
           try clear hx467_5
           try clear p2
           try clear p40
           try clear p41
           try clear p466
           try clear p467
           try clear p6
           try clear q028
           try clear q2
           try clear q28
           try clear q29
           try clear q40
           try clear q41
           try clear q466
           try clear q467
           obtain ⟨kq, x8_25, HA, HJ25, HO_8, HB⟩ := hcut
           cases kq with
           | zero => exact absurd HA.out (by simp [law09_FactOrder.j2])
           | succ kj25 =>
            have H := HA.out
            clear HA
            simp only [law09_FactOrder.j2] at H
            obtain ⟨t470, A45, H⟩ := RFn.bn H
            obtain ⟨⟨t473, t474⟩, A46, H⟩ := RFn.bn H
            obtain ⟨t477, A47, H⟩ := RFn.bn H
            obtain ⟨⟨t480, t481⟩, A48, H⟩ := RFn.bn H
            by_cases c49 : 0 ≤ ji19
            ·rw [if_pos c49] at H
             have c49b0 := eq_true c49
             have c49b1 : decide (0 ≤ ji19) = true := decide_eq_true c49
             clear c49
             by_cases c50 : ji19 ≤ (l0.length : Int)
             ·rw [if_pos c50] at H
              have c50b0 := eq_true c50
              have c50b1 : decide (ji19 ≤ (l0.length : Int)) = true := decide_eq_true c50
              clear c50
              (try clear hcut29)
              obtain ⟨y484, hy484⟩ : ∃ y_ : List (S28), y_ = (l0.take (ji19 : Int).toNat) := ⟨_, rfl⟩
              replace H : ((law09_Theirs.f kj25 y484).bind fun t488 => ((fact_Of.f kj25 t488).bind fun bt491 => ((law09_Theirs.f kj25 (l0.drop (ji19 : Int).toNat)).bind fun t499 => ((fact_Of.f kj25 t499).bind fun bt502 => ((fact_Add.f kj25 bt491.1 bt502.1).bind fun bt506 => (law09_FactOrder.j3 kj25 t473 t474 t480 t481 bt491.2 bt502.2 bt506.1 bt506.2)))))) = some r := RFn.rp H hy484
              have Ny484 := Aside0.mk hy484
              clear hy484
              obtain ⟨t488, A51, H⟩ := RFn.bn H
              obtain ⟨⟨t491, t492⟩, A52, H⟩ := RFn.bn H
              have c53b0 := eq_true (RFn.od : 0 ≤ ji19)
              have c54b0 := eq_true (RFn.od : ji19 ≤ (l0.length : Int))
              (try clear hcut28)
              obtain ⟨y495, hy495⟩ : ∃ y_ : List (S28), y_ = (l0.drop (ji19 : Int).toNat) := ⟨_, rfl⟩
              replace H : ((law09_Theirs.f kj25 y495).bind fun t499 => ((fact_Of.f kj25 t499).bind fun bt502 => ((fact_Add.f kj25 t491 bt502.1).bind fun bt506 => (law09_FactOrder.j3 kj25 t473 t474 t480 t481 t492 bt502.2 bt506.1 bt506.2)))) = some r := RFn.rp H hy495
              have Ny495 := Aside0.mk hy495
              clear hy495
              obtain ⟨t499, A55, H⟩ := RFn.bn H
              obtain ⟨⟨t502, t503⟩, A56, H⟩ := RFn.bn H
              have HC57 := Aside0.mk H
              clear H
              go_upto_region 17 with (first | ((with_reducible refine gate_callee (f := 13) rfl ?_); refine RFn.goesM (some 80) Try.func13 #[.slice A0 l0.length c0] rfl ?_; (with_reducible refine (law09_Theirs.calls kj25 _ _ l0 t470 _ ?side1 ?side2 A45.out).mono ?_); (case side1 => exact RFn.mC (Kd.C_below HR0.out HB.out)); (case side2 => exact HC0.out); rintro e w58 ⟨v471, rfl, ho0, hb⟩; refine ⟨_, rfl, ?_⟩; have n0_ := Aside0.mk (Kd.R_below (RFn.mR HO_8) hb); have n1_ := Aside0.mk (Kd.R_lower ho0 (below_size (RFn.bel))); have n2_ := Aside0.mk (below_step (RFn.bel) hb); clear HO_8; clear HB; have HO_8 := n0_; have HO472 := n1_; have HB := n2_; clear n0_ n1_ n2_; (try clear hb); (try clear hb2); (try clear hk); (try clear hi); (try clear ho0); obtain ⟨Ao59, co59, eo59⟩ := Kd.R_slice HO472.out; subst eo59) | ((with_reducible refine gate_callee (f := 12) rfl ?_); refine RFn.goesM (some 81) Try.func12 #[.slice Ao59 t470.length co59] rfl ?_; (with_reducible refine (fact_Of.calls kj25 _ _ t470 t473 t474 _ ?side1 ?side2 A46.out).mono ?_); (case side1 => exact RFn.mC (Kd.R_reads' HO472.out).2.2); (case side2 => exact (Kd.R_reads' HO472.out).2.1); rintro e w60 ⟨v475, rfl, ho0, hb⟩; refine ⟨_, rfl, ?_⟩; have n0_ := Aside0.mk (Kd.R_below (RFn.mR HO_8) hb); have n1_ := Aside0.mk (Kd.R_elder' (RFn.mR HO472) (Kd.R_base ho0) hb); have n2_ := Aside0.mk (Kd.R_lower (Kd.R_new' ho0 (Kd.R_lt (RFn.mR HO472))) (below_size (RFn.bel))); have n3_ := Aside0.mk (below_step (RFn.bel) hb); clear HO_8; clear HO472; clear HB; have HO_8 := n0_; have HO472 := n1_; have HO476 := n2_; have HB := n3_; clear n0_ n1_ n2_ n3_; (try clear hb); (try clear hb2); (try clear hk); (try clear hi); (try clear ho0); obtain ⟨Ao61, co61, eo61⟩ := Kd.R_slice HO_8.out; subst eo61) | ((with_reducible refine gate_callee (f := 13) rfl ?_); refine RFn.goesM (some 86) Try.func13 #[.slice Ao61 x8_25.length co61] rfl ?_; (with_reducible refine (law09_Theirs.calls kj25 _ _ x8_25 t477 _ ?side1 ?side2 A47.out).mono ?_); (case side1 => exact RFn.mC (Kd.R_reads' HO_8.out).2.2); (case side2 => exact (Kd.R_reads' HO_8.out).2.1); rintro e w62 ⟨v478, rfl, ho0, hb⟩; refine ⟨_, rfl, ?_⟩; have n0_ := Aside0.mk (Kd.R_below (RFn.mR HO_8) hb); have n1_ := Aside0.mk (Kd.R_elder' (RFn.mR HO472) (Kd.R_base ho0) hb); have n2_ := Aside0.mk (Kd.R_elder' (RFn.mR HO476) (Kd.R_base ho0) hb); have n3_ := Aside0.mk (Kd.R_lower (Kd.R_new' (Kd.R_new' ho0 (Kd.R_lt (RFn.mR HO472))) (Kd.R_lt (RFn.mR HO476))) (below_size (RFn.bel))); have n4_ := Aside0.mk (below_step (RFn.bel) hb); clear HO_8; clear HO472; clear HO476; clear HB; have HO_8 := n0_; have HO472 := n1_; have HO476 := n2_; have HO479 := n3_; have HB := n4_; clear n0_ n1_ n2_ n3_ n4_; (try clear hb); (try clear hb2); (try clear hk); (try clear hi); (try clear ho0); obtain ⟨Ao63, co63, eo63⟩ := Kd.R_slice HO479.out; subst eo63) | ((with_reducible refine gate_callee (f := 12) rfl ?_); refine RFn.goesM (some 87) Try.func12 #[.slice Ao63 t477.length co63] rfl ?_; (with_reducible refine (fact_Of.calls kj25 _ _ t477 t480 t481 _ ?side1 ?side2 A48.out).mono ?_); (case side1 => exact RFn.mC (Kd.R_reads' HO479.out).2.2); (case side2 => exact (Kd.R_reads' HO479.out).2.1); rintro e w64 ⟨v482, rfl, ho0, hb⟩; refine ⟨_, rfl, ?_⟩; have n0_ := Aside0.mk (Kd.R_below (RFn.mR HO_8) hb); have n1_ := Aside0.mk (Kd.R_elder' (RFn.mR HO472) (Kd.R_base ho0) hb); have n2_ := Aside0.mk (Kd.R_elder' (RFn.mR HO476) (Kd.R_base ho0) hb); have n3_ := Aside0.mk (Kd.R_elder' (RFn.mR HO479) (Kd.R_base ho0) hb); have n4_ := Aside0.mk (Kd.R_lower (Kd.R_new' (Kd.R_new' (Kd.R_new' ho0 (Kd.R_lt (RFn.mR HO472))) (Kd.R_lt (RFn.mR HO476))) (Kd.R_lt (RFn.mR HO479))) (below_size (RFn.bel))); have n5_ := Aside0.mk (below_step (RFn.bel) hb); clear HO_8; clear HO472; clear HO476; clear HO479; clear HB; have HO_8 := n0_; have HO472 := n1_; have HO476 := n2_; have HO479 := n3_; have HO483 := n4_; have HB := n5_; clear n0_ n1_ n2_ n3_ n4_ n5_; (try clear hb); (try clear hb2); (try clear hk); (try clear hi); (try clear ho0); have q65 : (ji19 : Int) ≤ ((l0.length : Int) : Int) := RFn.od; obtain ⟨i065, hi065, _, hsz65, _⟩ := info_parts info28; have hroom65 : l0.length ≤ c0 := HC0.out; have hC65 : Kd.C k28 _ A0 l0.length l0 := HR0.out; have hcut65 := cut_to (P := Try.prog) 22 28 .i64 Try.underlying22 hi065 A0 l0.length c0 ji19 (RFn.od) q65 hroom65; have hr65 := Kd.C_take (m := (ji19 : Int).toNat) hC65 (by omega); have hy65 : y484.length = (ji19 : Int).toNat := (by rw [Ny484.out, List.length_take]; omega); rw [← Ny484.out] at hr65; rw [← hy65] at hcut65; have HR487 := Aside0.mk hr65; have HC487 := Aside0.mk (show y484.length ≤ c0 from by omega); clear hr65 hC65 hroom65 hi065 hsz65; have KY65 := Aside0.mk hy65; clear hy65; replace q65 := eq_true q65) | ((with_reducible refine gate_callee (f := 13) rfl ?_); refine RFn.goesM (some 94) Try.func13 #[.slice A0 y484.length c0] rfl ?_; (with_reducible refine (law09_Theirs.calls kj25 _ _ y484 t488 _ ?side1 ?side2 A51.out).mono ?_); (case side1 => exact RFn.mC (Kd.C_below HR487.out HB.out)); (case side2 => exact HC487.out); rintro e w66 ⟨v489, rfl, ho0, hb⟩; refine ⟨_, rfl, ?_⟩; have n0_ := Aside0.mk (Kd.R_below (RFn.mR HO_8) hb); have n1_ := Aside0.mk (Kd.R_elder' (RFn.mR HO472) (Kd.R_base ho0) hb); have n2_ := Aside0.mk (Kd.R_elder' (RFn.mR HO476) (Kd.R_base ho0) hb); have n3_ := Aside0.mk (Kd.R_elder' (RFn.mR HO479) (Kd.R_base ho0) hb); have n4_ := Aside0.mk (Kd.R_elder' (RFn.mR HO483) (Kd.R_base ho0) hb); have n5_ := Aside0.mk (Kd.R_lower (Kd.R_new' (Kd.R_new' (Kd.R_new' (Kd.R_new' ho0 (Kd.R_lt (RFn.mR HO472))) (Kd.R_lt (RFn.mR HO476))) (Kd.R_lt (RFn.mR HO479))) (Kd.R_lt (RFn.mR HO483))) (below_size (RFn.bel))); have n6_ := Aside0.mk (below_step (RFn.bel) hb); clear HO_8; clear HO472; clear HO476; clear HO479; clear HO483; clear HB; have HO_8 := n0_; have HO472 := n1_; have HO476 := n2_; have HO479 := n3_; have HO483 := n4_; have HO490 := n5_; have HB := n6_; clear n0_ n1_ n2_ n3_ n4_ n5_ n6_; (try clear hb); (try clear hb2); (try clear hk); (try clear hi); (try clear ho0); obtain ⟨Ao67, co67, eo67⟩ := Kd.R_slice HO490.out; subst eo67) | ((with_reducible refine gate_callee (f := 12) rfl ?_); refine RFn.goesM (some 95) Try.func12 #[.slice Ao67 t488.length co67] rfl ?_; (with_reducible refine (fact_Of.calls kj25 _ _ t488 t491 t492 _ ?side1 ?side2 A52.out).mono ?_); (case side1 => exact RFn.mC (Kd.R_reads' HO490.out).2.2); (case side2 => exact (Kd.R_reads' HO490.out).2.1); rintro e w68 ⟨v493, rfl, ho0, hb⟩; refine ⟨_, rfl, ?_⟩; have n0_ := Aside0.mk (Kd.R_below (RFn.mR HO_8) hb); have n1_ := Aside0.mk (Kd.R_elder' (RFn.mR HO472) (Kd.R_base ho0) hb); have n2_ := Aside0.mk (Kd.R_elder' (RFn.mR HO476) (Kd.R_base ho0) hb); have n3_ := Aside0.mk (Kd.R_elder' (RFn.mR HO479) (Kd.R_base ho0) hb); have n4_ := Aside0.mk (Kd.R_elder' (RFn.mR HO483) (Kd.R_base ho0) hb); have n5_ := Aside0.mk (Kd.R_elder' (RFn.mR HO490) (Kd.R_base ho0) hb); have n6_ := Aside0.mk (Kd.R_lower (Kd.R_new' (Kd.R_new' (Kd.R_new' (Kd.R_new' (Kd.R_new' ho0 (Kd.R_lt (RFn.mR HO472))) (Kd.R_lt (RFn.mR HO476))) (Kd.R_lt (RFn.mR HO479))) (Kd.R_lt (RFn.mR HO483))) (Kd.R_lt (RFn.mR HO490))) (below_size (RFn.bel))); have n7_ := Aside0.mk (below_step (RFn.bel) hb); clear HO_8; clear HO472; clear HO476; clear HO479; clear HO483; clear HO490; clear HB; have HO_8 := n0_; have HO472 := n1_; have HO476 := n2_; have HO479 := n3_; have HO483 := n4_; have HO490 := n5_; have HO494 := n6_; have HB := n7_; clear n0_ n1_ n2_ n3_ n4_ n5_ n6_ n7_; (try clear hb); (try clear hb2); (try clear hk); (try clear hi); (try clear ho0); have q69 : (ji19 : Int) ≤ ((l0.length : Int) : Int) := RFn.od; obtain ⟨i069, hi069, _, hsz69, _⟩ := info_parts info28; have hroom69 : l0.length ≤ c0 := HC0.out; have hC69 : Kd.C k28 _ A0 l0.length l0 := HR0.out; have q069 : (0 : Int) ≤ (ji19 : Int) := RFn.od; have hcut69 := cut_from (P := Try.prog) 22 28 .i64 Try.underlying22 hi069 6 hsz69 A0 l0.length c0 ji19 q069 q69; have hr69 := Kd.C_drop (m := (ji19 : Int).toNat) (c := c0) hC69 (by omega) hroom69; obtain ⟨A69, hA69⟩ : ∃ A1, A1 = (if c0 = (ji19 : Int).toNat then A0 else (A0 : Option Addr).map (·.add ((ji19 : Int).toNat * 6))) := ⟨_, rfl⟩; obtain ⟨c69, hc69⟩ : ∃ c1, c1 = c0 - (ji19 : Int).toNat := ⟨_, rfl⟩; have hy69 : y495.length = l0.length - (ji19 : Int).toNat := (by rw [Ny495.out, List.length_drop] <;> omega); rw [show (l0).drop (ji19 : Int).toNat = y495 from Ny495.out.symm] at hr69; replace hr69 : Kd.C k28 _ A69 y495.length y495 := (by rw [hA69]; exact hr69); rw [← hy69, ← hA69, ← hc69] at hcut69; have HR498 := Aside0.mk hr69; have HC498 := Aside0.mk (show y495.length ≤ c69 from by rw [hy69, hc69]; exact Nat.sub_le_sub_right hroom69 _); clear hr69 hC69 hroom69 hi069 hsz69 hc69; have KY69 := Aside0.mk hy69; have KA69 := Aside0.mk hA69; clear hy69 hA69; replace q69 := eq_true q69) | ((with_reducible refine gate_callee (f := 13) rfl ?_); refine RFn.goesM (some 102) Try.func13 #[.slice A69 y495.length c69] rfl ?_; (with_reducible refine (law09_Theirs.calls kj25 _ _ y495 t499 _ ?side1 ?side2 A55.out).mono ?_); (case side1 => exact RFn.mC (Kd.C_below HR498.out HB.out)); (case side2 => exact HC498.out); rintro e w70 ⟨v500, rfl, ho0, hb⟩; refine ⟨_, rfl, ?_⟩; have n0_ := Aside0.mk (Kd.R_below (RFn.mR HO_8) hb); have n1_ := Aside0.mk (Kd.R_elder' (RFn.mR HO472) (Kd.R_base ho0) hb); have n2_ := Aside0.mk (Kd.R_elder' (RFn.mR HO476) (Kd.R_base ho0) hb); have n3_ := Aside0.mk (Kd.R_elder' (RFn.mR HO479) (Kd.R_base ho0) hb); have n4_ := Aside0.mk (Kd.R_elder' (RFn.mR HO483) (Kd.R_base ho0) hb); have n5_ := Aside0.mk (Kd.R_elder' (RFn.mR HO490) (Kd.R_base ho0) hb); have n6_ := Aside0.mk (Kd.R_elder' (RFn.mR HO494) (Kd.R_base ho0) hb); have n7_ := Aside0.mk (Kd.R_lower (Kd.R_new' (Kd.R_new' (Kd.R_new' (Kd.R_new' (Kd.R_new' (Kd.R_new' ho0 (Kd.R_lt (RFn.mR HO472))) (Kd.R_lt (RFn.mR HO476))) (Kd.R_lt (RFn.mR HO479))) (Kd.R_lt (RFn.mR HO483))) (Kd.R_lt (RFn.mR HO490))) (Kd.R_lt (RFn.mR HO494))) (below_size (RFn.bel))); have n8_ := Aside0.mk (below_step (RFn.bel) hb); clear HO_8; clear HO472; clear HO476; clear HO479; clear HO483; clear HO490; clear HO494; clear HB; have HO_8 := n0_; have HO472 := n1_; have HO476 := n2_; have HO479 := n3_; have HO483 := n4_; have HO490 := n5_; have HO494 := n6_; have HO501 := n7_; have HB := n8_; clear n0_ n1_ n2_ n3_ n4_ n5_ n6_ n7_ n8_; (try clear hb); (try clear hb2); (try clear hk); (try clear hi); (try clear ho0); obtain ⟨Ao71, co71, eo71⟩ := Kd.R_slice HO501.out; subst eo71) | ((with_reducible refine gate_callee (f := 12) rfl ?_); refine RFn.goesM (some 103) Try.func12 #[.slice Ao71 t499.length co71] rfl ?_; (with_reducible refine (fact_Of.calls kj25 _ _ t499 t502 t503 _ ?side1 ?side2 A56.out).mono ?_); (case side1 => exact RFn.mC (Kd.R_reads' HO501.out).2.2); (case side2 => exact (Kd.R_reads' HO501.out).2.1); rintro e w72 ⟨v504, rfl, ho0, hb⟩; refine ⟨_, rfl, ?_⟩; have n0_ := Aside0.mk (Kd.R_below (RFn.mR HO_8) hb); have n1_ := Aside0.mk (Kd.R_elder' (RFn.mR HO472) (Kd.R_base ho0) hb); have n2_ := Aside0.mk (Kd.R_elder' (RFn.mR HO476) (Kd.R_base ho0) hb); have n3_ := Aside0.mk (Kd.R_elder' (RFn.mR HO479) (Kd.R_base ho0) hb); have n4_ := Aside0.mk (Kd.R_elder' (RFn.mR HO483) (Kd.R_base ho0) hb); have n5_ := Aside0.mk (Kd.R_elder' (RFn.mR HO490) (Kd.R_base ho0) hb); have n6_ := Aside0.mk (Kd.R_elder' (RFn.mR HO494) (Kd.R_base ho0) hb); have n7_ := Aside0.mk (Kd.R_elder' (RFn.mR HO501) (Kd.R_base ho0) hb); have n8_ := Aside0.mk (Kd.R_lower (Kd.R_new' (Kd.R_new' (Kd.R_new' (Kd.R_new' (Kd.R_new' (Kd.R_new' (Kd.R_new' ho0 (Kd.R_lt (RFn.mR HO472))) (Kd.R_lt (RFn.mR HO476))) (Kd.R_lt (RFn.mR HO479))) (Kd.R_lt (RFn.mR HO483))) (Kd.R_lt (RFn.mR HO490))) (Kd.R_lt (RFn.mR HO494))) (Kd.R_lt (RFn.mR HO501))) (below_size (RFn.bel))); have n9_ := Aside0.mk (below_step (RFn.bel) hb); clear HO_8; clear HO472; clear HO476; clear HO479; clear HO483; clear HO490; clear HO494; clear HO501; clear HB; have HO_8 := n0_; have HO472 := n1_; have HO476 := n2_; have HO479 := n3_; have HO483 := n4_; have HO490 := n5_; have HO494 := n6_; have HO501 := n7_; have HO505 := n8_; have HB := n9_; clear n0_ n1_ n2_ n3_ n4_ n5_ n6_ n7_ n8_ n9_; (try clear hb); (try clear hb2); (try clear hk); (try clear hi); (try clear ho0)))
              (try simp only [Act.put, List.setIfInBounds_toArray, List.set_cons_zero, List.set_cons_succ])
              go_cut [18, 19] (fun v18 v19 wc => ∃ (kq : Nat) (x18_56 : List (S60)) (x19_56 : Int), v19 = .int .i64 x19_56 ∧ Aside0 (law09_FactOrder.j3 kq t473 t474 t480 t481 t492 t503 x18_56 x19_56 = some r) ∧ Aside0 (kq ≤ kj25) ∧ Aside0 (Kd.R k60 60 wc w.heap.size (fun k_ => some k_ ≠ (v482 : Value).ownBlock) v475 t473) ∧ Aside0 (Kd.R k60 60 wc w.heap.size (fun k_ => some k_ ≠ (v475 : Value).ownBlock) v482 t480) ∧ Aside0 (Kd.R k60 60 wc w.heap.size (fun _ => True) v18 x18_56) ∧ Aside0 (Below w.heap.size w wc))
              case first =>
               have H := HC57.out
               clear HC57
               obtain ⟨⟨t506, t507⟩, A73, H⟩ := RFn.bn H
               have H' := Aside0.mk H
               clear H
               obtain ⟨Ao74, co74, eo74⟩ := Kd.R_slice HO494.out
               subst eo74
               obtain ⟨Ao75, co75, eo75⟩ := Kd.R_slice HO505.out
               subst eo75
               go_wp2_with (first | ((with_reducible refine gate_callee (f := 21) rfl ?_); refine RFn.goesM (some 109) Try.func21 #[.slice Ao74 t491.length co74, .slice Ao75 t502.length co75] rfl ?_; (with_reducible refine (fact_Add.calls kj25 _ _ t491 _ _ t502 t506 t507 _ ?side1 ?side2 ?side3 ?side4 A73.out).mono ?_); (case side1 => exact RFn.mC (Kd.R_reads' HO494.out).2.2); (case side2 => exact (Kd.R_reads' HO494.out).2.1); (case side3 => exact RFn.mC (Kd.R_reads' HO505.out).2.2); (case side4 => exact (Kd.R_reads' HO505.out).2.1); rintro e w76 ⟨v508, rfl, ho0, hb⟩; refine ⟨_, rfl, ?_⟩; have n0_ := Aside0.mk (Kd.R_below (RFn.mR HO_8) hb); have n1_ := Aside0.mk (Kd.R_elder' (RFn.mR HO472) (Kd.R_base ho0) hb); have n2_ := Aside0.mk (Kd.R_elder' (RFn.mR HO476) (Kd.R_base ho0) hb); have n3_ := Aside0.mk (Kd.R_elder' (RFn.mR HO479) (Kd.R_base ho0) hb); have n4_ := Aside0.mk (Kd.R_elder' (RFn.mR HO483) (Kd.R_base ho0) hb); have n5_ := Aside0.mk (Kd.R_elder' (RFn.mR HO490) (Kd.R_base ho0) hb); have n6_ := Aside0.mk (Kd.R_elder' (RFn.mR HO494) (Kd.R_base ho0) hb); have n7_ := Aside0.mk (Kd.R_elder' (RFn.mR HO501) (Kd.R_base ho0) hb); have n8_ := Aside0.mk (Kd.R_elder' (RFn.mR HO505) (Kd.R_base ho0) hb); have n9_ := Aside0.mk (Kd.R_lower (Kd.R_new' (Kd.R_new' (Kd.R_new' (Kd.R_new' (Kd.R_new' (Kd.R_new' (Kd.R_new' (Kd.R_new' ho0 (Kd.R_lt (RFn.mR HO472))) (Kd.R_lt (RFn.mR HO476))) (Kd.R_lt (RFn.mR HO479))) (Kd.R_lt (RFn.mR HO483))) (Kd.R_lt (RFn.mR HO490))) (Kd.R_lt (RFn.mR HO494))) (Kd.R_lt (RFn.mR HO501))) (Kd.R_lt (RFn.mR HO505))) (below_size (RFn.bel))); have n10_ := Aside0.mk (below_step (RFn.bel) hb); clear HO_8; clear HO472; clear HO476; clear HO479; clear HO483; clear HO490; clear HO494; clear HO501; clear HO505; clear HB; have HO_8 := n0_; have HO472 := n1_; have HO476 := n2_; have HO479 := n3_; have HO483 := n4_; have HO490 := n5_; have HO494 := n6_; have HO501 := n7_; have HO505 := n8_; have HO509 := n9_; have HB := n10_; clear n0_ n1_ n2_ n3_ n4_ n5_ n6_ n7_ n8_ n9_ n10_; (try clear hb); (try clear hb2); (try clear hk); (try clear hi); (try clear ho0)))
               first | go_meet | (simp only [c18b0] at *; go_meet)
               case rel => exact ⟨_, (t506), (t507), (by first | rfl | (simp; done) | (simp [*]; done)), H', ⟨by have := HJ5.out; have := HJ25.out; first | omega | exact Nat.le_refl _⟩, ⟨by (with_reducible repeat (first | apply Kd.R_alloc | apply Kd.R_drewN | apply Kd.R_drew)); exact Kd.R_mono HO476.out (fun _ hk => by first | exact ⟨hk.1.1.1.1.1.2, hk.2⟩ | exact trivial | exact hk.1.1.2 | simp [hk])⟩, ⟨by (with_reducible repeat (first | apply Kd.R_alloc | apply Kd.R_drewN | apply Kd.R_drew)); exact Kd.R_mono HO483.out (fun _ hk => by first | exact ⟨hk.1.1.1.1.1.1.2, hk.2⟩ | exact trivial | exact hk.1.1.2 | simp [hk])⟩, ⟨by (with_reducible repeat (first | apply Kd.R_alloc | apply Kd.R_drewN | apply Kd.R_drew)); exact Kd.R_mono HO509.out (fun _ hk => by first | exact ⟨hk.1.1.1.1.1.1.2, hk.1.1.1.1.2⟩ | exact trivial | exact hk.1.1.2 | simp [hk])⟩, ⟨RFn.bel⟩⟩
              case rest =>
               clear HC57
               try clear c1
               try clear c2
               try clear p2
               try clear q2
               try clear c3
               try clear c4
               try clear p4
               try clear q4
               try clear hx4
               try clear hf4
               try clear c5
               try clear c6
               try clear p6
               try clear q6
               try clear c9
               try clear c10
               try clear c11
               try clear c12
               try clear c13
               try clear c17
               try clear c18
               try clear c18b0
               try clear c18b1
               try clear c18b2
               try clear c20
               try clear c20b0
               try clear c20b1
               try clear c21
               try clear c21b0
               try clear c21b1
               try clear c22
               try clear c23
               try clear c23b0
               try clear c24
               try clear c24b0
               try clear c25
               try clear c28
               try clear q28
               try clear q29
               try clear c32
               try clear c34
               try clear c34b0
               try clear c36
               try clear c36b0
               try clear c37
               try clear c37b0
               try clear c38
               try clear c38b0
               try clear c39
               try clear c39b0
               try clear c40
               try clear p40
               try clear q40
               try clear hx40
               try clear hf40
               try clear c41
               try clear p41
               try clear q41
               try clear hx41
               try clear hf41
               try clear c43
               try clear c44
               try clear p46
               try clear q46
               try clear hx46
               try clear c49
               try clear c49b0
               try clear c49b1
               try clear c50
               try clear c50b0
               try clear c50b1
               try clear c53
               try clear c53b0
               try clear c54
               try clear c54b0
               try clear p64
               try clear q65
               try clear c69
               try clear q69
               try clear hx40_0
               try clear hx40_1
               try clear hx40_2
               try clear hx40_3
               try clear hx40_4
               try clear hx40_5
               try clear hx41_0
               try clear hx41_1
               try clear hx41_2
               try clear hx41_3
               try clear hx41_4
               try clear hx41_5
               try clear hx466_0
               try clear hx466_1
               try clear hx466_2
               try clear hx466_3
               try clear hx466_4
               try clear hx466_5
               try clear hx467_0
               try clear hx467_1
               try clear hx467_2
               try clear hx467_3
               try clear hx467_4
               try clear hx467_5
               try clear p2
               try clear p4
               try clear p40
               try clear p41
               try clear p466
               try clear p467
               try clear p6
               try clear q028
               try clear q069
               try clear q2
               try clear q28
               try clear q29
               try clear q4
               try clear q40
               try clear q41
               try clear q466
               try clear q467
               try clear q65
               try clear q69
               obtain ⟨kq, x18_56, x19_56, rfl, HA, HJ56, HO_10, HO_12, HO_18, HB⟩ := hcut
               cases kq with
               | zero => exact absurd HA.out (by simp [law09_FactOrder.j3])
               | succ kj56 =>
                have H := HA.out
                clear HA
                simp only [law09_FactOrder.j3] at H
                by_cases c77 : t474 = 0
                ·rw [if_pos c77] at H
                 have c77b0 : (t474 == 0) = true := beq_iff_eq.mpr c77
                 have c77b1 : (t474 != 0) = false := bne_eq_false_iff_eq.mpr c77
                 clear c77
                 by_cases c78 : t481 = 0
                 ·rw [if_pos c78] at H
                  have c78b0 : (t481 == 0) = true := beq_iff_eq.mpr c78
                  have c78b1 : (t481 != 0) = false := bne_eq_false_iff_eq.mpr c78
                  clear c78
                  by_cases c79 : t492 = 0
                  ·rw [if_pos c79] at H
                   have c79b0 : (t492 == 0) = true := beq_iff_eq.mpr c79
                   have c79b1 : (t492 != 0) = false := bne_eq_false_iff_eq.mpr c79
                   clear c79
                   by_cases c80 : t503 = 0
                   ·rw [if_pos c80] at H
                    have c80b0 : (t503 == 0) = true := beq_iff_eq.mpr c80
                    have c80b1 : (t503 != 0) = false := bne_eq_false_iff_eq.mpr c80
                    clear c80
                    by_cases c81 : x19_56 = 0
                    ·rw [if_pos c81] at H
                     have c81b0 : (x19_56 == 0) = true := beq_iff_eq.mpr c81
                     have c81b1 : (x19_56 != 0) = false := bne_eq_false_iff_eq.mpr c81
                     clear c81
                     obtain ⟨t510, A82, H⟩ := RFn.bn H
                     obtain ⟨t513, A83, H⟩ := RFn.bn H
                     obtain ⟨t516, A84, H⟩ := RFn.bn H
                     by_cases c85 : t516 = true
                     ·subst c85
                      have H1 : ((law09_Ours.f kj56 t473).bind fun t517 => ((law09_Ours.f kj56 x18_56).bind fun t520 => ((ref09_Same.f kj56 t517 t520).bind fun t523 => (if t523 = true then ((fact_Right.f kj56 t473).bind fun t524 => (some t524)) else (some false))))) = some r := by rw [if_pos rfl] at H; exact H
                      clear H
                      have H := H1
                      clear H1
                      obtain ⟨t517, A86, H⟩ := RFn.bn H
                      obtain ⟨t520, A87, H⟩ := RFn.bn H
                      obtain ⟨t523, A88, H⟩ := RFn.bn H
                      by_cases c89 : t523 = true
                      ·subst c89
                       have H1 : ((fact_Right.f kj56 t473).bind fun t524 => (some t524)) = some r := by rw [if_pos rfl] at H; exact H
                       clear H
                       have H := H1
                       clear H1
                       obtain ⟨t524, A90, H⟩ := RFn.bn H
                       obtain rfl := Option.some.inj H
                       obtain ⟨Ao91, co91, eo91⟩ := Kd.R_slice HO_10.out
                       subst eo91
                       go_wp2_with (first | (go_at_call 16; (with_reducible refine (law09_Ours.calls kj56 _ _ t473 t510 _ ?side1 ?side2 A82.out).mono ?_); (case side1 => exact RFn.mC (Kd.R_reads' HO_10.out).2.2); (case side2 => exact (Kd.R_reads' HO_10.out).2.1); rintro e w92 ⟨v511, rfl, ho0, hb⟩; have n0_ := Aside0.mk (Kd.R_below (RFn.mR HO_10) hb); have n1_ := Aside0.mk (Kd.R_below (RFn.mR HO_12) hb); have n2_ := Aside0.mk (Kd.R_below (RFn.mR HO_18) hb); have n3_ := Aside0.mk (Kd.R_lower ho0 (below_size (RFn.bel))); have n4_ := Aside0.mk (below_step (RFn.bel) hb); clear HO_10; clear HO_12; clear HO_18; clear HB; have HO_10 := n0_; have HO_12 := n1_; have HO_18 := n2_; have HO512 := n3_; have HB := n4_; clear n0_ n1_ n2_ n3_ n4_; (try clear hb); (try clear hb2); (try clear hk); (try clear hi); (try clear ho0); obtain ⟨Ao93, co93, eo93⟩ := Kd.R_slice HO_12.out; subst eo93) | (go_at_call 16; (with_reducible refine (law09_Ours.calls kj56 _ _ t480 t513 _ ?side1 ?side2 A83.out).mono ?_); (case side1 => exact RFn.mC (Kd.R_reads' HO_12.out).2.2); (case side2 => exact (Kd.R_reads' HO_12.out).2.1); rintro e w94 ⟨v514, rfl, ho0, hb⟩; have n0_ := Aside0.mk (Kd.R_below (RFn.mR HO_10) hb); have n1_ := Aside0.mk (Kd.R_below (RFn.mR HO_12) hb); have n2_ := Aside0.mk (Kd.R_below (RFn.mR HO_18) hb); have n3_ := Aside0.mk (Kd.R_elder' (RFn.mR HO512) (Kd.R_base ho0) hb); have n4_ := Aside0.mk (Kd.R_lower (Kd.R_new' ho0 (Kd.R_lt (RFn.mR HO512))) (below_size (RFn.bel))); have n5_ := Aside0.mk (below_step (RFn.bel) hb); clear HO_10; clear HO_12; clear HO_18; clear HO512; clear HB; have HO_10 := n0_; have HO_12 := n1_; have HO_18 := n2_; have HO512 := n3_; have HO515 := n4_; have HB := n5_; clear n0_ n1_ n2_ n3_ n4_ n5_; (try clear hb); (try clear hb2); (try clear hk); (try clear hi); (try clear ho0); obtain ⟨Ao95, co95, eo95⟩ := Kd.R_slice HO512.out; subst eo95; obtain ⟨Ao96, co96, eo96⟩ := Kd.R_slice HO515.out; subst eo96) | (go_at_call 15; (with_reducible refine (ref09_Same.calls kj56 _ _ t510 _ _ t513 true _ ?side1 ?side2 ?side3 ?side4 A84.out).mono ?_); (case side1 => exact RFn.mC (Kd.R_reads' HO512.out).2.2); (case side2 => exact (Kd.R_reads' HO512.out).2.1); (case side3 => exact RFn.mC (Kd.R_reads' HO515.out).2.2); (case side4 => exact (Kd.R_reads' HO515.out).2.1); rintro e w' ⟨rfl, ⟨nd, rfl⟩⟩) | (go_at_call 16; (with_reducible refine (law09_Ours.calls kj56 _ _ t473 t517 _ ?side1 ?side2 A86.out).mono ?_); (case side1 => exact RFn.mC (Kd.R_reads' HO_10.out).2.2); (case side2 => exact (Kd.R_reads' HO_10.out).2.1); rintro e w97 ⟨v518, rfl, ho0, hb⟩; have n0_ := Aside0.mk (Kd.R_below (RFn.mR HO_10) hb); have n1_ := Aside0.mk (Kd.R_below (RFn.mR HO_12) hb); have n2_ := Aside0.mk (Kd.R_below (RFn.mR HO_18) hb); have n3_ := Aside0.mk (Kd.R_elder' (RFn.mR HO512) (Kd.R_base ho0) hb); have n4_ := Aside0.mk (Kd.R_elder' (RFn.mR HO515) (Kd.R_base ho0) hb); have n5_ := Aside0.mk (Kd.R_lower (Kd.R_new' (Kd.R_new' ho0 (Kd.R_lt (RFn.mR HO512))) (Kd.R_lt (RFn.mR HO515))) (below_size (RFn.bel))); have n6_ := Aside0.mk (below_step (RFn.bel) hb); clear HO_10; clear HO_12; clear HO_18; clear HO512; clear HO515; clear HB; have HO_10 := n0_; have HO_12 := n1_; have HO_18 := n2_; have HO512 := n3_; have HO515 := n4_; have HO519 := n5_; have HB := n6_; clear n0_ n1_ n2_ n3_ n4_ n5_ n6_; (try clear hb); (try clear hb2); (try clear hk); (try clear hi); (try clear ho0); obtain ⟨Ao98, co98, eo98⟩ := Kd.R_slice HO_18.out; subst eo98) | (go_at_call 16; (with_reducible refine (law09_Ours.calls kj56 _ _ x18_56 t520 _ ?side1 ?side2 A87.out).mono ?_); (case side1 => exact RFn.mC (Kd.R_reads' HO_18.out).2.2); (case side2 => exact (Kd.R_reads' HO_18.out).2.1); rintro e w99 ⟨v521, rfl, ho0, hb⟩; have n0_ := Aside0.mk (Kd.R_below (RFn.mR HO_10) hb); have n1_ := Aside0.mk (Kd.R_below (RFn.mR HO_12) hb); have n2_ := Aside0.mk (Kd.R_below (RFn.mR HO_18) hb); have n3_ := Aside0.mk (Kd.R_elder' (RFn.mR HO512) (Kd.R_base ho0) hb); have n4_ := Aside0.mk (Kd.R_elder' (RFn.mR HO515) (Kd.R_base ho0) hb); have n5_ := Aside0.mk (Kd.R_elder' (RFn.mR HO519) (Kd.R_base ho0) hb); have n6_ := Aside0.mk (Kd.R_lower (Kd.R_new' (Kd.R_new' (Kd.R_new' ho0 (Kd.R_lt (RFn.mR HO512))) (Kd.R_lt (RFn.mR HO515))) (Kd.R_lt (RFn.mR HO519))) (below_size (RFn.bel))); have n7_ := Aside0.mk (below_step (RFn.bel) hb); clear HO_10; clear HO_12; clear HO_18; clear HO512; clear HO515; clear HO519; clear HB; have HO_10 := n0_; have HO_12 := n1_; have HO_18 := n2_; have HO512 := n3_; have HO515 := n4_; have HO519 := n5_; have HO522 := n6_; have HB := n7_; clear n0_ n1_ n2_ n3_ n4_ n5_ n6_ n7_; (try clear hb); (try clear hb2); (try clear hk); (try clear hi); (try clear ho0); obtain ⟨Ao100, co100, eo100⟩ := Kd.R_slice HO519.out; subst eo100; obtain ⟨Ao101, co101, eo101⟩ := Kd.R_slice HO522.out; subst eo101) | (go_at_call 15; (with_reducible refine (ref09_Same.calls kj56 _ _ t517 _ _ t520 true _ ?side1 ?side2 ?side3 ?side4 A88.out).mono ?_); (case side1 => exact RFn.mC (Kd.R_reads' HO519.out).2.2); (case side2 => exact (Kd.R_reads' HO519.out).2.1); (case side3 => exact RFn.mC (Kd.R_reads' HO522.out).2.2); (case side4 => exact (Kd.R_reads' HO522.out).2.1); rintro e w' ⟨rfl, ⟨nd, rfl⟩⟩) | (go_at_call 19; (with_reducible refine (fact_Right.calls kj56 _ _ t473 t524 _ ?side1 ?side2 A90.out).mono ?_); (case side1 => exact RFn.mC (Kd.R_reads' HO_10.out).2.2); (case side2 => exact (Kd.R_reads' HO_10.out).2.1); rintro e w102 ⟨rfl, hb⟩; have n0_ := Aside0.mk (Kd.R_below (RFn.mR HO_10) hb); have n1_ := Aside0.mk (Kd.R_below (RFn.mR HO_12) hb); have n2_ := Aside0.mk (Kd.R_below (RFn.mR HO_18) hb); have n3_ := Aside0.mk (Kd.R_below (RFn.mR HO512) hb); have n4_ := Aside0.mk (Kd.R_below (RFn.mR HO515) hb); have n5_ := Aside0.mk (Kd.R_below (RFn.mR HO519) hb); have n6_ := Aside0.mk (Kd.R_below (RFn.mR HO522) hb); have n7_ := Aside0.mk (below_step (RFn.bel) hb); clear HO_10; clear HO_12; clear HO_18; clear HO512; clear HO515; clear HO519; clear HO522; clear HB; have HO_10 := n0_; have HO_12 := n1_; have HO_18 := n2_; have HO512 := n3_; have HO515 := n4_; have HO519 := n5_; have HO522 := n6_; have HB := n7_; clear n0_ n1_ n2_ n3_ n4_ n5_ n6_ n7_; (try clear hb); (try clear hb2); (try clear hk); (try clear hi)))
                       go_ret
                       exact ⟨by first | rfl | (simp [errW_none, errW_some] <;> rfl) | (simp only [← hji19]; first | rfl | (simp [errW_none, errW_some] <;> rfl)) | (simp [*, errW_none, errW_some] <;> rfl), RFn.bel⟩
                      ·replace c89 := Bool.eq_false_iff.mpr c89
                       subst c89
                       have H1 : (some false) = some r := by rw [if_neg (show ¬ (false = true) by decide)] at H; exact H
                       clear H
                       have H := H1
                       clear H1
                       obtain rfl := Option.some.inj H
                       obtain ⟨Ao103, co103, eo103⟩ := Kd.R_slice HO_10.out
                       subst eo103
                       go_wp2_with (first | (go_at_call 16; (with_reducible refine (law09_Ours.calls kj56 _ _ t473 t510 _ ?side1 ?side2 A82.out).mono ?_); (case side1 => exact RFn.mC (Kd.R_reads' HO_10.out).2.2); (case side2 => exact (Kd.R_reads' HO_10.out).2.1); rintro e w104 ⟨v511, rfl, ho0, hb⟩; have n0_ := Aside0.mk (Kd.R_below (RFn.mR HO_10) hb); have n1_ := Aside0.mk (Kd.R_below (RFn.mR HO_12) hb); have n2_ := Aside0.mk (Kd.R_below (RFn.mR HO_18) hb); have n3_ := Aside0.mk (Kd.R_lower ho0 (below_size (RFn.bel))); have n4_ := Aside0.mk (below_step (RFn.bel) hb); clear HO_10; clear HO_12; clear HO_18; clear HB; have HO_10 := n0_; have HO_12 := n1_; have HO_18 := n2_; have HO512 := n3_; have HB := n4_; clear n0_ n1_ n2_ n3_ n4_; (try clear hb); (try clear hb2); (try clear hk); (try clear hi); (try clear ho0); obtain ⟨Ao105, co105, eo105⟩ := Kd.R_slice HO_12.out; subst eo105) | (go_at_call 16; (with_reducible refine (law09_Ours.calls kj56 _ _ t480 t513 _ ?side1 ?side2 A83.out).mono ?_); (case side1 => exact RFn.mC (Kd.R_reads' HO_12.out).2.2); (case side2 => exact (Kd.R_reads' HO_12.out).2.1); rintro e w106 ⟨v514, rfl, ho0, hb⟩; have n0_ := Aside0.mk (Kd.R_below (RFn.mR HO_10) hb); have n1_ := Aside0.mk (Kd.R_below (RFn.mR HO_12) hb); have n2_ := Aside0.mk (Kd.R_below (RFn.mR HO_18) hb); have n3_ := Aside0.mk (Kd.R_elder' (RFn.mR HO512) (Kd.R_base ho0) hb); have n4_ := Aside0.mk (Kd.R_lower (Kd.R_new' ho0 (Kd.R_lt (RFn.mR HO512))) (below_size (RFn.bel))); have n5_ := Aside0.mk (below_step (RFn.bel) hb); clear HO_10; clear HO_12; clear HO_18; clear HO512; clear HB; have HO_10 := n0_; have HO_12 := n1_; have HO_18 := n2_; have HO512 := n3_; have HO515 := n4_; have HB := n5_; clear n0_ n1_ n2_ n3_ n4_ n5_; (try clear hb); (try clear hb2); (try clear hk); (try clear hi); (try clear ho0); obtain ⟨Ao107, co107, eo107⟩ := Kd.R_slice HO512.out; subst eo107; obtain ⟨Ao108, co108, eo108⟩ := Kd.R_slice HO515.out; subst eo108) | (go_at_call 15; (with_reducible refine (ref09_Same.calls kj56 _ _ t510 _ _ t513 true _ ?side1 ?side2 ?side3 ?side4 A84.out).mono ?_); (case side1 => exact RFn.mC (Kd.R_reads' HO512.out).2.2); (case side2 => exact (Kd.R_reads' HO512.out).2.1); (case side3 => exact RFn.mC (Kd.R_reads' HO515.out).2.2); (case side4 => exact (Kd.R_reads' HO515.out).2.1); rintro e w' ⟨rfl, ⟨nd, rfl⟩⟩) | (go_at_call 16; (with_reducible refine (law09_Ours.calls kj56 _ _ t473 t517 _ ?side1 ?side2 A86.out).mono ?_); (case side1 => exact RFn.mC (Kd.R_reads' HO_10.out).2.2); (case side2 => exact (Kd.R_reads' HO_10.out).2.1); rintro e w109 ⟨v518, rfl, ho0, hb⟩; have n0_ := Aside0.mk (Kd.R_below (RFn.mR HO_10) hb); have n1_ := Aside0.mk (Kd.R_below (RFn.mR HO_12) hb); have n2_ := Aside0.mk (Kd.R_below (RFn.mR HO_18) hb); have n3_ := Aside0.mk (Kd.R_elder' (RFn.mR HO512) (Kd.R_base ho0) hb); have n4_ := Aside0.mk (Kd.R_elder' (RFn.mR HO515) (Kd.R_base ho0) hb); have n5_ := Aside0.mk (Kd.R_lower (Kd.R_new' (Kd.R_new' ho0 (Kd.R_lt (RFn.mR HO512))) (Kd.R_lt (RFn.mR HO515))) (below_size (RFn.bel))); have n6_ := Aside0.mk (below_step (RFn.bel) hb); clear HO_10; clear HO_12; clear HO_18; clear HO512; clear HO515; clear HB; have HO_10 := n0_; have HO_12 := n1_; have HO_18 := n2_; have HO512 := n3_; have HO515 := n4_; have HO519 := n5_; have HB := n6_; clear n0_ n1_ n2_ n3_ n4_ n5_ n6_; (try clear hb); (try clear hb2); (try clear hk); (try clear hi); (try clear ho0); obtain ⟨Ao110, co110, eo110⟩ := Kd.R_slice HO_18.out; subst eo110) | (go_at_call 16; (with_reducible refine (law09_Ours.calls kj56 _ _ x18_56 t520 _ ?side1 ?side2 A87.out).mono ?_); (case side1 => exact RFn.mC (Kd.R_reads' HO_18.out).2.2); (case side2 => exact (Kd.R_reads' HO_18.out).2.1); rintro e w111 ⟨v521, rfl, ho0, hb⟩; have n0_ := Aside0.mk (Kd.R_below (RFn.mR HO_10) hb); have n1_ := Aside0.mk (Kd.R_below (RFn.mR HO_12) hb); have n2_ := Aside0.mk (Kd.R_below (RFn.mR HO_18) hb); have n3_ := Aside0.mk (Kd.R_elder' (RFn.mR HO512) (Kd.R_base ho0) hb); have n4_ := Aside0.mk (Kd.R_elder' (RFn.mR HO515) (Kd.R_base ho0) hb); have n5_ := Aside0.mk (Kd.R_elder' (RFn.mR HO519) (Kd.R_base ho0) hb); have n6_ := Aside0.mk (Kd.R_lower (Kd.R_new' (Kd.R_new' (Kd.R_new' ho0 (Kd.R_lt (RFn.mR HO512))) (Kd.R_lt (RFn.mR HO515))) (Kd.R_lt (RFn.mR HO519))) (below_size (RFn.bel))); have n7_ := Aside0.mk (below_step (RFn.bel) hb); clear HO_10; clear HO_12; clear HO_18; clear HO512; clear HO515; clear HO519; clear HB; have HO_10 := n0_; have HO_12 := n1_; have HO_18 := n2_; have HO512 := n3_; have HO515 := n4_; have HO519 := n5_; have HO522 := n6_; have HB := n7_; clear n0_ n1_ n2_ n3_ n4_ n5_ n6_ n7_; (try clear hb); (try clear hb2); (try clear hk); (try clear hi); (try clear ho0); obtain ⟨Ao112, co112, eo112⟩ := Kd.R_slice HO519.out; subst eo112; obtain ⟨Ao113, co113, eo113⟩ := Kd.R_slice HO522.out; subst eo113) | (go_at_call 15; (with_reducible refine (ref09_Same.calls kj56 _ _ t517 _ _ t520 false _ ?side1 ?side2 ?side3 ?side4 A88.out).mono ?_); (case side1 => exact RFn.mC (Kd.R_reads' HO519.out).2.2); (case side2 => exact (Kd.R_reads' HO519.out).2.1); (case side3 => exact RFn.mC (Kd.R_reads' HO522.out).2.2); (case side4 => exact (Kd.R_reads' HO522.out).2.1); rintro e w' ⟨rfl, ⟨nd, rfl⟩⟩))
                       go_ret
                       exact ⟨by first | rfl | (simp [errW_none, errW_some] <;> rfl) | (simp only [← hji19]; first | rfl | (simp [errW_none, errW_some] <;> rfl)) | (simp [*, errW_none, errW_some] <;> rfl), RFn.bel⟩
                     ·replace c85 := Bool.eq_false_iff.mpr c85
                      subst c85
                      have H1 : (some false) = some r := by rw [if_neg (show ¬ (false = true) by decide)] at H; exact H
                      clear H
                      have H := H1
                      clear H1
                      obtain rfl := Option.some.inj H
                      obtain ⟨Ao114, co114, eo114⟩ := Kd.R_slice HO_10.out
                      subst eo114
                      go_wp2_with (first | (go_at_call 16; (with_reducible refine (law09_Ours.calls kj56 _ _ t473 t510 _ ?side1 ?side2 A82.out).mono ?_); (case side1 => exact RFn.mC (Kd.R_reads' HO_10.out).2.2); (case side2 => exact (Kd.R_reads' HO_10.out).2.1); rintro e w115 ⟨v511, rfl, ho0, hb⟩; have n0_ := Aside0.mk (Kd.R_below (RFn.mR HO_10) hb); have n1_ := Aside0.mk (Kd.R_below (RFn.mR HO_12) hb); have n2_ := Aside0.mk (Kd.R_below (RFn.mR HO_18) hb); have n3_ := Aside0.mk (Kd.R_lower ho0 (below_size (RFn.bel))); have n4_ := Aside0.mk (below_step (RFn.bel) hb); clear HO_10; clear HO_12; clear HO_18; clear HB; have HO_10 := n0_; have HO_12 := n1_; have HO_18 := n2_; have HO512 := n3_; have HB := n4_; clear n0_ n1_ n2_ n3_ n4_; (try clear hb); (try clear hb2); (try clear hk); (try clear hi); (try clear ho0); obtain ⟨Ao116, co116, eo116⟩ := Kd.R_slice HO_12.out; subst eo116) | (go_at_call 16; (with_reducible refine (law09_Ours.calls kj56 _ _ t480 t513 _ ?side1 ?side2 A83.out).mono ?_); (case side1 => exact RFn.mC (Kd.R_reads' HO_12.out).2.2); (case side2 => exact (Kd.R_reads' HO_12.out).2.1); rintro e w117 ⟨v514, rfl, ho0, hb⟩; have n0_ := Aside0.mk (Kd.R_below (RFn.mR HO_10) hb); have n1_ := Aside0.mk (Kd.R_below (RFn.mR HO_12) hb); have n2_ := Aside0.mk (Kd.R_below (RFn.mR HO_18) hb); have n3_ := Aside0.mk (Kd.R_elder' (RFn.mR HO512) (Kd.R_base ho0) hb); have n4_ := Aside0.mk (Kd.R_lower (Kd.R_new' ho0 (Kd.R_lt (RFn.mR HO512))) (below_size (RFn.bel))); have n5_ := Aside0.mk (below_step (RFn.bel) hb); clear HO_10; clear HO_12; clear HO_18; clear HO512; clear HB; have HO_10 := n0_; have HO_12 := n1_; have HO_18 := n2_; have HO512 := n3_; have HO515 := n4_; have HB := n5_; clear n0_ n1_ n2_ n3_ n4_ n5_; (try clear hb); (try clear hb2); (try clear hk); (try clear hi); (try clear ho0); obtain ⟨Ao118, co118, eo118⟩ := Kd.R_slice HO512.out; subst eo118; obtain ⟨Ao119, co119, eo119⟩ := Kd.R_slice HO515.out; subst eo119) | (go_at_call 15; (with_reducible refine (ref09_Same.calls kj56 _ _ t510 _ _ t513 false _ ?side1 ?side2 ?side3 ?side4 A84.out).mono ?_); (case side1 => exact RFn.mC (Kd.R_reads' HO512.out).2.2); (case side2 => exact (Kd.R_reads' HO512.out).2.1); (case side3 => exact RFn.mC (Kd.R_reads' HO515.out).2.2); (case side4 => exact (Kd.R_reads' HO515.out).2.1); rintro e w' ⟨rfl, ⟨nd, rfl⟩⟩))
                      go_ret
                      exact ⟨by first | rfl | (simp [errW_none, errW_some] <;> rfl) | (simp only [← hji19]; first | rfl | (simp [errW_none, errW_some] <;> rfl)) | (simp [*, errW_none, errW_some] <;> rfl), RFn.bel⟩
                    ·rw [if_neg c81] at H
                     have c81b0 : (x19_56 == 0) = false := beq_eq_false_iff_ne.mpr c81
                     have c81b1 : (x19_56 != 0) = true := bne_iff_ne.mpr c81
                     obtain rfl := Option.some.inj H
                     go_wp2
                     go_ret
                     exact ⟨by first | rfl | (simp [errW_none, errW_some] <;> rfl) | (simp only [← hji19]; first | rfl | (simp [errW_none, errW_some] <;> rfl)) | (simp [*, errW_none, errW_some] <;> rfl), RFn.bel⟩
                   ·rw [if_neg c80] at H
                    have c80b0 : (t503 == 0) = false := beq_eq_false_iff_ne.mpr c80
                    have c80b1 : (t503 != 0) = true := bne_iff_ne.mpr c80
                    obtain rfl := Option.some.inj H
                    go_wp2
                    go_ret
                    exact ⟨by first | rfl | (simp [errW_none, errW_some] <;> rfl) | (simp only [← hji19]; first | rfl | (simp [errW_none, errW_some] <;> rfl)) | (simp [*, errW_none, errW_some] <;> rfl), RFn.bel⟩
                  ·rw [if_neg c79] at H
                   have c79b0 : (t492 == 0) = false := beq_eq_false_iff_ne.mpr c79
                   have c79b1 : (t492 != 0) = true := bne_iff_ne.mpr c79
                   obtain rfl := Option.some.inj H
                   go_wp2
                   go_ret
                   exact ⟨by first | rfl | (simp [errW_none, errW_some] <;> rfl) | (simp only [← hji19]; first | rfl | (simp [errW_none, errW_some] <;> rfl)) | (simp [*, errW_none, errW_some] <;> rfl), RFn.bel⟩
                 ·rw [if_neg c78] at H
                  have c78b0 : (t481 == 0) = false := beq_eq_false_iff_ne.mpr c78
                  have c78b1 : (t481 != 0) = true := bne_iff_ne.mpr c78
                  obtain rfl := Option.some.inj H
                  go_wp2
                  go_ret
                  exact ⟨by first | rfl | (simp [errW_none, errW_some] <;> rfl) | (simp only [← hji19]; first | rfl | (simp [errW_none, errW_some] <;> rfl)) | (simp [*, errW_none, errW_some] <;> rfl), RFn.bel⟩
                ·rw [if_neg c77] at H
                 have c77b0 : (t474 == 0) = false := beq_eq_false_iff_ne.mpr c77
                 have c77b1 : (t474 != 0) = true := bne_iff_ne.mpr c77
                 obtain rfl := Option.some.inj H
                 go_wp2
                 go_ret
                 exact ⟨by first | rfl | (simp [errW_none, errW_some] <;> rfl) | (simp only [← hji19]; first | rfl | (simp [errW_none, errW_some] <;> rfl)) | (simp [*, errW_none, errW_some] <;> rfl), RFn.bel⟩
             ·rw [if_neg c50] at H
              exact absurd H (by simp)
            ·rw [if_neg c49] at H
             exact absurd H (by simp)
         ·rw [if_neg c25] at H
          exact absurd H (by simp)
        ·rw [if_neg c22] at H
         exact absurd H (by simp)
       ·rw [if_neg c21] at H
        exact absurd H (by simp)
      ·rw [if_neg c20] at H
       exact absurd H (by simp)
 ·replace c5 := Bool.eq_false_iff.mpr c5
  subst c5
  have H1 : (some false) = some r := by rw [if_neg (show ¬ (false = true) by decide)] at H; exact H
  clear H
  have H := H1
  clear H1
  obtain rfl := Option.some.inj H
  go_enter Try.func5, Try.ntmps5
  go_wp2_with (first | ((with_reducible refine gate_callee (f := 10) rfl ?_); refine RFn.goesM (some 20) Try.func10 #[] rfl ?_; (with_reducible refine (law09_alive.calls k  false _ A4.out).mono ?_); rintro e w120 ⟨rfl, hb⟩; refine ⟨_, rfl, ?_⟩; have n0_ := Aside0.mk (below_step (RFn.bel) hb); clear HB; have HB := n0_; clear n0_; (try clear hb); (try clear hb2); (try clear hk); (try clear hi)))
  go_ret
  exact ⟨by first | rfl | (simp [errW_none, errW_some] <;> rfl) | (simp [*, errW_none, errW_some] <;> rfl), RFn.bel⟩
/-- THE ONE PURE STATEMENT of law09_FactOrder: ours. -/
def law09_FactOrder.Pure : Prop := ∀ (l0 : List (S28)) (a1 : Int) (a2 : Bool), l0.length ≤ 9223372036854775807 → (∀ x ∈ l0, g28 x) → (Lit.int .u8 a1).wf = true → ∃ k, law09_FactOrder.f k l0 a1 a2 = some true
end Go.Proofs.Ytgheapbhakamaaa.Q
