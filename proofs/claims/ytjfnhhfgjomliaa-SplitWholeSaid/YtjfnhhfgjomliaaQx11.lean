/- printed by a program of this session (wip/tools/pr.sh): it is not a print of the kit -/
import Derived.Test.YtjfnhhfgjomliaaQx0
import Derived.Test.YtjfnhhfgjomliaaQx5
import Derived.Test.YtjfnhhfgjomliaaQx6
import Derived.Test.YtjfnhhfgjomliaaQx7
namespace Go.Proofs.Ytjfnhhfgjomliaa.Q
open Go.RowKit Go.Proofs.YtjfnhhfgjomliaaW.PrintWords Go.Proofs.YtjfnhhfgjomliaaW.PrintLast Go.Proofs.YtjfnhhfgjomliaaW.PrintMore
attribute [local go_sem] max2_int min2_int max_two min_two max_three min_three max_four min_four   -- for this text's walks alone
set_option linter.unusedVariables false
set_option linter.unusedSimpArgs false

/-! ### comptrollerlaw04_SplitWhole: function 4 -/
mutual
def comptrollerlaw04_SplitWhole.l0 : Nat → Int → List Int → List Int → Int → Int → List Int → Int → Int → Option (Bool)
 | 0, _, _, _, _, _, _, _, _ => none
 | k + 1, x0, x1, x5, x7, x8, x29, x30, x31 => if x31 < x30 then (if 0 ≤ x31 then (if x31 < (x29.length : Int) then (comptrollerlaw04_SplitWhole.l0 k x0 x1 x5 (wrap64 (x7 + (rd x29 x31))) x8 x29 x30 (wrap64 (x31 + 1))) else (none)) else (none)) else (if (x5.length : Int) = (x1.length : Int) then (comptrollerlaw04_SplitWhole.l1 k x0 x1 x7 x8 x5 (x5.length : Int) 0) else (some false))
def comptrollerlaw04_SplitWhole.l1 : Nat → Int → List Int → Int → Int → List Int → Int → Int → Option (Bool)
 | 0, _, _, _, _, _, _, _ => none
 | k + 1, x0, x1, x7, x8, x44, x45, x46 => if x46 < x45 then (if 0 ≤ x46 then (if x46 < (x44.length : Int) then (if (rd x44 x46) > 0 then (if x0 < 0 then (comptrollerlaw04_SplitWhole.j2 k x0 x1 x7 (wrap64 (x8 + (rd x44 x46))) x46 (rd x44 x46) x44 x45 x46 true) else (if (rd x44 x46) < 0 then (if x0 > 0 then (comptrollerlaw04_SplitWhole.j2 k x0 x1 x7 (wrap64 (x8 + (rd x44 x46))) x46 (rd x44 x46) x44 x45 x46 true) else (if x46 < (x1.length : Int) then (if (rd x1 x46) = 0 then (comptrollerlaw04_SplitWhole.j2 k x0 x1 x7 (wrap64 (x8 + (rd x44 x46))) x46 (rd x44 x46) x44 x45 x46 ((rd x44 x46) != 0)) else (comptrollerlaw04_SplitWhole.j2 k x0 x1 x7 (wrap64 (x8 + (rd x44 x46))) x46 (rd x44 x46) x44 x45 x46 false)) else (none))) else (if x46 < (x1.length : Int) then (if (rd x1 x46) = 0 then (comptrollerlaw04_SplitWhole.j2 k x0 x1 x7 (wrap64 (x8 + (rd x44 x46))) x46 (rd x44 x46) x44 x45 x46 ((rd x44 x46) != 0)) else (comptrollerlaw04_SplitWhole.j2 k x0 x1 x7 (wrap64 (x8 + (rd x44 x46))) x46 (rd x44 x46) x44 x45 x46 false)) else (none)))) else (if (rd x44 x46) < 0 then (if x0 > 0 then (comptrollerlaw04_SplitWhole.j2 k x0 x1 x7 (wrap64 (x8 + (rd x44 x46))) x46 (rd x44 x46) x44 x45 x46 true) else (if x46 < (x1.length : Int) then (if (rd x1 x46) = 0 then (comptrollerlaw04_SplitWhole.j2 k x0 x1 x7 (wrap64 (x8 + (rd x44 x46))) x46 (rd x44 x46) x44 x45 x46 ((rd x44 x46) != 0)) else (comptrollerlaw04_SplitWhole.j2 k x0 x1 x7 (wrap64 (x8 + (rd x44 x46))) x46 (rd x44 x46) x44 x45 x46 false)) else (none))) else (if x46 < (x1.length : Int) then (if (rd x1 x46) = 0 then (comptrollerlaw04_SplitWhole.j2 k x0 x1 x7 (wrap64 (x8 + (rd x44 x46))) x46 (rd x44 x46) x44 x45 x46 ((rd x44 x46) != 0)) else (comptrollerlaw04_SplitWhole.j2 k x0 x1 x7 (wrap64 (x8 + (rd x44 x46))) x46 (rd x44 x46) x44 x45 x46 false)) else (none)))) else (none)) else (none)) else (some (x8 == x0))
def comptrollerlaw04_SplitWhole.j2 : Nat → Int → List Int → Int → Int → Int → Int → List Int → Int → Int → Bool → Option (Bool)
 | 0, _, _, _, _, _, _, _, _, _, _ => none
 | k + 1, x0, x1, x7, x8, x11, x12, x44, x45, x46, x78 => if x78 = true then (some false) else (if x12 > (-4611686018427387904) then (if x12 < 4611686018427387904 then (if 0 ≤ x11 then (if x11 < (x1.length : Int) then ((comptrollerref02_Cmp.f k (wrap64 (x12 - 1)) x7 x0 (rd x1 x11)).bind fun t345 => (if t345 ≥ 0 then (some false) else ((comptrollerref02_Cmp.f k (wrap64 (x12 + 1)) x7 x0 (rd x1 x11)).bind fun t347 => (if t347 ≤ 0 then (some false) else (comptrollerlaw04_SplitWhole.l1 k x0 x1 x7 x8 x44 x45 (wrap64 (x46 + 1))))))) else (none)) else (none)) else (comptrollerlaw04_SplitWhole.l1 k x0 x1 x7 x8 x44 x45 (wrap64 (x46 + 1)))) else (comptrollerlaw04_SplitWhole.l1 k x0 x1 x7 x8 x44 x45 (wrap64 (x46 + 1))))
end
def comptrollerlaw04_SplitWhole.f (k : Nat) (a0 : Int) (l1 : List Int) : Option (Bool) := (comptrollerlaw04_alive.f k).bind fun t333 => (if t333 = true then (if (l1.length : Int) > 200 then (some true) else ((split_By.f k a0 l1).bind fun bt334 => (if bt334.2 = 0 then (comptrollerlaw04_SplitWhole.l0 k a0 l1 bt334.1 0 0 l1 (l1.length : Int) 0) else (some ((bt334.1.length : Int) == 0))))) else (some false))
theorem comptrollerlaw04_SplitWhole.mono_l : ∀ k, (∀ y0 y1 y2 y3 y4 y5 y6 y7, LeO (comptrollerlaw04_SplitWhole.l0 k y0 y1 y2 y3 y4 y5 y6 y7) (comptrollerlaw04_SplitWhole.l0 (k + 1) y0 y1 y2 y3 y4 y5 y6 y7)) ∧ (∀ y0 y1 y2 y3 y4 y5 y6, LeO (comptrollerlaw04_SplitWhole.l1 k y0 y1 y2 y3 y4 y5 y6) (comptrollerlaw04_SplitWhole.l1 (k + 1) y0 y1 y2 y3 y4 y5 y6)) ∧ (∀ y0 y1 y2 y3 y4 y5 y6 y7 y8 y9, LeO (comptrollerlaw04_SplitWhole.j2 k y0 y1 y2 y3 y4 y5 y6 y7 y8 y9) (comptrollerlaw04_SplitWhole.j2 (k + 1) y0 y1 y2 y3 y4 y5 y6 y7 y8 y9))
 | 0 => ⟨fun _ _ _ _ _ _ _ _ r h => by simp [comptrollerlaw04_SplitWhole.l0] at h, fun _ _ _ _ _ _ _ r h => by simp [comptrollerlaw04_SplitWhole.l1] at h, fun _ _ _ _ _ _ _ _ _ _ r h => by simp [comptrollerlaw04_SplitWhole.j2] at h⟩
 | k + 1 => by
  obtain ⟨ih0, ih1, ih2⟩ := comptrollerlaw04_SplitWhole.mono_l k
  refine ⟨?_, ?_, ?_⟩
  ·intro y0 y1 y2 y3 y4 y5 y6 y7
   unfold comptrollerlaw04_SplitWhole.l0
   repeat' first
   | (with_reducible exact ih0 _ _ _ _ _ _ _ _)
   | (with_reducible exact ih1 _ _ _ _ _ _ _)
   | (with_reducible exact ih2 _ _ _ _ _ _ _ _ _ _)
   | (with_reducible exact comptrollerlaw04_alive.mono _)
   | (with_reducible exact comptrollerref02_Cmp.mono _ _ _ _ _)
   | (with_reducible exact split_By.mono _ _ _)
   | (with_reducible exact LeO.refl _)
   | (with_reducible exact LeO.none _)
   | (with_reducible refine LeO.ite ?_ ?_)
   | (with_reducible refine LeO.bind ?_ (fun _ => ?_))
   | exact ih0 _ _ _ _ _ _ _ _
   | exact ih1 _ _ _ _ _ _ _
   | exact ih2 _ _ _ _ _ _ _ _ _ _
   | exact comptrollerlaw04_alive.mono _
   | exact comptrollerref02_Cmp.mono _ _ _ _ _
   | exact split_By.mono _ _ _
   | exact LeO.none _
   | refine LeO.ite ?_ ?_
   | refine LeO.bind ?_ (fun _ => ?_)
  ·intro y0 y1 y2 y3 y4 y5 y6
   unfold comptrollerlaw04_SplitWhole.l1
   repeat' first
   | (with_reducible exact ih0 _ _ _ _ _ _ _ _)
   | (with_reducible exact ih1 _ _ _ _ _ _ _)
   | (with_reducible exact ih2 _ _ _ _ _ _ _ _ _ _)
   | (with_reducible exact comptrollerlaw04_alive.mono _)
   | (with_reducible exact comptrollerref02_Cmp.mono _ _ _ _ _)
   | (with_reducible exact split_By.mono _ _ _)
   | (with_reducible exact LeO.refl _)
   | (with_reducible exact LeO.none _)
   | (with_reducible refine LeO.ite ?_ ?_)
   | (with_reducible refine LeO.bind ?_ (fun _ => ?_))
   | exact ih0 _ _ _ _ _ _ _ _
   | exact ih1 _ _ _ _ _ _ _
   | exact ih2 _ _ _ _ _ _ _ _ _ _
   | exact comptrollerlaw04_alive.mono _
   | exact comptrollerref02_Cmp.mono _ _ _ _ _
   | exact split_By.mono _ _ _
   | exact LeO.none _
   | refine LeO.ite ?_ ?_
   | refine LeO.bind ?_ (fun _ => ?_)
  ·intro y0 y1 y2 y3 y4 y5 y6 y7 y8 y9
   unfold comptrollerlaw04_SplitWhole.j2
   repeat' first
   | (with_reducible exact ih0 _ _ _ _ _ _ _ _)
   | (with_reducible exact ih1 _ _ _ _ _ _ _)
   | (with_reducible exact ih2 _ _ _ _ _ _ _ _ _ _)
   | (with_reducible exact comptrollerlaw04_alive.mono _)
   | (with_reducible exact comptrollerref02_Cmp.mono _ _ _ _ _)
   | (with_reducible exact split_By.mono _ _ _)
   | (with_reducible exact LeO.refl _)
   | (with_reducible exact LeO.none _)
   | (with_reducible refine LeO.ite ?_ ?_)
   | (with_reducible refine LeO.bind ?_ (fun _ => ?_))
   | exact ih0 _ _ _ _ _ _ _ _
   | exact ih1 _ _ _ _ _ _ _
   | exact ih2 _ _ _ _ _ _ _ _ _ _
   | exact comptrollerlaw04_alive.mono _
   | exact comptrollerref02_Cmp.mono _ _ _ _ _
   | exact split_By.mono _ _ _
   | exact LeO.none _
   | refine LeO.ite ?_ ?_
   | refine LeO.bind ?_ (fun _ => ?_)
theorem comptrollerlaw04_SplitWhole.mono : ∀ a0 a1 k, LeO (comptrollerlaw04_SplitWhole.f k a0 a1) (comptrollerlaw04_SplitWhole.f (k + 1) a0 a1) := by
 intro a0 a1 k
 obtain ⟨ih0, ih1, ih2⟩ := comptrollerlaw04_SplitWhole.mono_l k
 unfold comptrollerlaw04_SplitWhole.f
 repeat' first
   | (with_reducible exact ih0 _ _ _ _ _ _ _ _)
   | (with_reducible exact ih1 _ _ _ _ _ _ _)
   | (with_reducible exact ih2 _ _ _ _ _ _ _ _ _ _)
   | (with_reducible exact comptrollerlaw04_alive.mono _)
   | (with_reducible exact comptrollerref02_Cmp.mono _ _ _ _ _)
   | (with_reducible exact split_By.mono _ _ _)
   | (with_reducible exact LeO.refl _)
   | (with_reducible exact LeO.none _)
   | (with_reducible refine LeO.ite ?_ ?_)
   | (with_reducible refine LeO.bind ?_ (fun _ => ?_))
   | exact ih0 _ _ _ _ _ _ _ _
   | exact ih1 _ _ _ _ _ _ _
   | exact ih2 _ _ _ _ _ _ _ _ _ _
   | exact comptrollerlaw04_alive.mono _
   | exact comptrollerref02_Cmp.mono _ _ _ _ _
   | exact split_By.mono _ _ _
   | exact LeO.none _
   | refine LeO.ite ?_ ?_
   | refine LeO.bind ?_ (fun _ => ?_)
set_option maxHeartbeats 8000000 in
set_option maxRecDepth 100000 in
theorem comptrollerlaw04_SplitWhole.calls (k : Nat) (a0 : Int) (A1 : Option Addr) (c1 : Nat) (l1 : List Int) (r : Bool) (w : World) (hr1 : Kd.C (Kd.int .i64) w A1 l1.length l1) (hc1 : l1.length ≤ c1) (h : comptrollerlaw04_SplitWhole.f k a0 l1 = some r) :
  Calls Try.prog 4 #[.int .i64 a0, .slice A1 l1.length c1] w fun e w' => e = .returned (.bool r) ∧ Below w.heap.size w w' := by
 have HR1 := Aside0.mk hr1
 have HC1 := Aside0.mk hc1
 clear hr1 hc1
 have HB := Aside0.mk (Below.refl w.heap.size w)
 have H : ((comptrollerlaw04_alive.f k).bind fun t333 => (if t333 = true then (if (l1.length : Int) > 200 then (some true) else ((split_By.f k a0 l1).bind fun bt334 => (if bt334.2 = 0 then (comptrollerlaw04_SplitWhole.l0 k a0 l1 bt334.1 0 0 l1 (l1.length : Int) 0) else (some ((bt334.1.length : Int) == 0))))) else (some false))) = some r := h
 clear h
 replace H := Option.bind_eq_some_iff.mp H
 obtain ⟨t333, A30, H⟩ := H
 replace H : (if t333 = true then (if (l1.length : Int) > 200 then (some true) else ((split_By.f k a0 l1).bind fun bt334 => (if bt334.2 = 0 then (comptrollerlaw04_SplitWhole.l0 k a0 l1 bt334.1 0 0 l1 (l1.length : Int) 0) else (some ((bt334.1.length : Int) == 0))))) else (some false)) = some r := H
 have A3 := Aside0.mk A30
 clear A30
 by_cases c4 : t333 = true
 ·subst c4
  have H1 : (if (l1.length : Int) > 200 then (some true) else ((split_By.f k a0 l1).bind fun bt334 => (if bt334.2 = 0 then (comptrollerlaw04_SplitWhole.l0 k a0 l1 bt334.1 0 0 l1 (l1.length : Int) 0) else (some ((bt334.1.length : Int) == 0))))) = some r := by rw [if_pos rfl] at H; exact H
  clear H
  have H := H1
  clear H1
  by_cases c5 : (l1.length : Int) > 200
  ·rw [if_pos c5] at H
   have c5b0 : decide (200 < (l1.length : Int)) = true := decide_eq_true c5
   have c5b1 : decide (200 < l1.length) = true := decide_eq_true (by omega)
   clear c5
   obtain rfl := Option.some.inj H
   go_enter Try.func4, Try.ntmps4
   go_wp2_with (first | ((with_reducible refine gate_callee (f := 9) rfl ?_); refine goesL_ (some 13) rfl rfl Try.func9 (by kernel_rfl) rfl #[] rfl (by (try simp only [List.map_toArray, List.map_cons, List.map_nil]); first | done | rfl | (simp only [List.length_drop, List.length_take]; rfl)) ?_; (with_reducible refine (comptrollerlaw04_alive.calls k  true _ A3.out).mono ?_); rintro e w6 ⟨rfl, hb⟩; refine ⟨_, rfl, ?_⟩; have n0_ := Aside0.mk (below_step (by repeat (first | (with_reducible first | exact HB.out | apply below_alloc | apply pw_below_drewN | apply below_drew1) | exact HB.out)) hb); clear HB; have HB := n0_; clear n0_; (try clear hb); (try clear hb2); (try clear hk); (try clear hi)))
   go_ret
   exact ⟨by first | rfl | (simp [errW_none, errW_some] <;> rfl) | (simp [*, errW_none, errW_some] <;> rfl), by repeat (first | (with_reducible first | exact HB.out | apply below_alloc | apply pw_below_drewN | apply below_drew1) | exact HB.out)⟩
  ·rw [if_neg c5] at H
   have c5b0 : decide (200 < (l1.length : Int)) = false := decide_eq_false c5
   have c5b1 : decide (200 < l1.length) = false := decide_eq_false (by omega)
   clear c5
   replace H := Option.bind_eq_some_iff.mp H
   obtain ⟨⟨t334, t335⟩, A70, H⟩ := H
   replace H : (if t335 = 0 then (comptrollerlaw04_SplitWhole.l0 k a0 l1 t334 0 0 l1 (l1.length : Int) 0) else (some ((t334.length : Int) == 0))) = some r := H
   have A7 := Aside0.mk A70
   clear A70
   by_cases c8 : t335 = 0
   ·rw [if_pos c8] at H
    have c8b0 : (t335 == 0) = true := beq_iff_eq.mpr c8
    have c8b1 : (t335 != 0) = false := bne_eq_false_iff_eq.mpr c8
    clear c8
    have H' := Aside0.mk H
    clear H
    go_enter Try.func4, Try.ntmps4
    go_wp2_with (first | ((with_reducible refine gate_callee (f := 9) rfl ?_); refine goesL_ (some 13) rfl rfl Try.func9 (by kernel_rfl) rfl #[] rfl (by (try simp only [List.map_toArray, List.map_cons, List.map_nil]); first | done | rfl | (simp only [List.length_drop, List.length_take]; rfl)) ?_; (with_reducible refine (comptrollerlaw04_alive.calls k  true _ A3.out).mono ?_); rintro e w9 ⟨rfl, hb⟩; refine ⟨_, rfl, ?_⟩; have n0_ := Aside0.mk (below_step (by repeat (first | (with_reducible first | exact HB.out | apply below_alloc | apply pw_below_drewN | apply below_drew1) | exact HB.out)) hb); clear HB; have HB := n0_; clear n0_; (try clear hb); (try clear hb2); (try clear hk); (try clear hi)) | ((with_reducible refine gate_callee (f := 10) rfl ?_); refine goesL_ (some 21) rfl rfl Try.func10 (by kernel_rfl) rfl #[.int .i64 a0, .slice A1 l1.length c1] rfl (by (try simp only [List.map_toArray, List.map_cons, List.map_nil]); first | done | rfl | (simp only [List.length_drop, List.length_take]; rfl)) ?_; (with_reducible refine (split_By.calls k a0 _ _ l1 t334 t335 _ ?side1 ?side2 A7.out).mono ?_); (case side1 => repeat (first | exact (Kd.C_below HR1.out HB.out) | (with_reducible refine Kd.C_alloc ?_ _) | (with_reducible refine Kd.C_drewN ?_ _) | (with_reducible refine Kd.C_drew ?_))); (case side2 => exact HC1.out); rintro e w10 ⟨v336, rfl, ho0, hb⟩; refine ⟨_, rfl, ?_⟩; have n0_ := Aside0.mk (Kd.R_lower ho0 (below_size (by repeat (first | (with_reducible first | exact HB.out | apply below_alloc | apply pw_below_drewN | apply below_drew1) | exact HB.out)))); have n1_ := Aside0.mk (below_step (by repeat (first | (with_reducible first | exact HB.out | apply below_alloc | apply pw_below_drewN | apply below_drew1) | exact HB.out)) hb); clear HB; have HO337 := n0_; have HB := n1_; clear n0_ n1_; (try clear hb); (try clear hb2); (try clear hk); (try clear hi); (try clear ho0)))
    (try simp only [Act.put, List.setIfInBounds_toArray, List.set_cons_succ, List.set_cons_zero])
    go_loopg [7, 31] k (fun kq v7 v31 w' => ∃ (x7_1 : Int) (x31_1 : Int), v7 = .int .i64 x7_1 ∧ v31 = .int .i64 x31_1 ∧ Aside0 (comptrollerlaw04_SplitWhole.l0 kq a0 l1 t334 x7_1 0 l1 (l1.length : Int) x31_1 = some r) ∧ Aside0 (kq ≤ k) ∧ Aside0 (Kd.R (Kd.int .i64) 2 w' w.heap.size (fun _ => True) v336 t334) ∧ Aside0 (Below w.heap.size w w'))
    case atStart => exact ⟨(0), (0), (by first | rfl | (simp; done) | (simp [*]; done)), (by first | rfl | (simp; done) | (simp [*]; done)), H', ⟨Nat.le_refl _⟩, ⟨by (with_reducible repeat (first | apply Kd.R_alloc | apply Kd.R_drewN | apply Kd.R_drew)); exact HO337.out⟩, ⟨by repeat (first | (with_reducible first | exact HB.out | apply below_alloc | apply pw_below_drewN | apply below_drew1) | exact HB.out)⟩⟩
    case round =>
     clear H'
     try clear c1
     try clear p2
     try clear c4
     try clear c5
     try clear c5b0
     try clear c5b1
     try clear c8
     try clear c8b0
     try clear c8b1
     try clear c9
     try clear c10
     obtain ⟨x7_1, x31_1, rfl, rfl, HA, HK1, HO_5, HB⟩ := hrel
     cases gk with
     | zero => exact absurd HA.out (by simp [comptrollerlaw04_SplitWhole.l0])
     | succ k1 =>
      have H := HA.out
      clear HA
      simp only [comptrollerlaw04_SplitWhole.l0] at H
      by_cases c11 : x31_1 < (l1.length : Int)
      ·rw [if_pos c11] at H
       have c11b0 : decide (x31_1 < (l1.length : Int)) = true := decide_eq_true c11
       clear c11
       by_cases c12 : 0 ≤ x31_1
       ·rw [if_pos c12] at H
        have c12b0 : decide (0 ≤ x31_1) = true := decide_eq_true c12
        clear c12
        by_cases c13 : x31_1 < (l1.length : Int)
        ·rw [if_pos c13] at H
         have c13b0 : decide (x31_1 < (l1.length : Int)) = true := decide_eq_true c13
         clear c13
         have H' := Aside0.mk H
         clear H
         have p338 : 0 ≤ (x31_1 : Int) := of_decide_eq_true (by first | (with_reducible assumption) | assumption)
         have q338 : x31_1 < (l1.length : Int) := of_decide_eq_true (by first | (with_reducible assumption) | assumption)
         obtain ⟨ad338, e338, hx338_0⟩ := Kd.at_int HR1.out x31_1 p338 q338
         cases e338
         replace hx338_0 := (HB.out.cell (World.block_lt_of_cell? w _ hx338_0)).trans hx338_0
         replace p338 := eq_true p338
         replace q338 := eq_true q338
         go_wp2
         go_roundg k1
         case measure => have := HK1.out; omega
         case rel => exact ⟨(wrap64 (x7_1 + (rd l1 x31_1))), (wrap64 (x31_1 + 1)), (by first | rfl | (simp; done) | (simp [*]; done)), (by first | rfl | (simp; done) | (simp [*]; done)), H', ⟨by have := HK1.out; omega⟩, ⟨by (with_reducible repeat (first | apply Kd.R_alloc | apply Kd.R_drewN | apply Kd.R_drew)); exact HO_5.out⟩, ⟨by repeat (first | (with_reducible first | exact HB.out | apply below_alloc | apply pw_below_drewN | apply below_drew1) | exact HB.out)⟩⟩
        ·rw [if_neg c13] at H
         exact absurd H (by simp)
       ·rw [if_neg c12] at H
        exact absurd H (by simp)
      ·rw [if_neg c11] at H
       have c11b0 : decide (x31_1 < (l1.length : Int)) = false := decide_eq_false c11
       clear c11
       by_cases c14 : (t334.length : Int) = (l1.length : Int)
       ·rw [if_pos c14] at H
        have c14b0 : ((t334.length : Int) == (l1.length : Int)) = true := beq_iff_eq.mpr c14
        have c14b1 : ((t334.length : Int) != (l1.length : Int)) = false := bne_eq_false_iff_eq.mpr c14
        have c14b2 : (t334.length == l1.length) = true := by first | simpa using c14 | (simp at c14 ⊢; omega)
        clear c14
        have H' := Aside0.mk H
        clear H
        obtain ⟨Ao15, co15, eo15⟩ := Kd.R_slice HO_5.out
        subst eo15
        go_wp2
        go_loopg [8, 46] k1 (fun kq v8 v46 w' => ∃ (x8_2 : Int) (x46_2 : Int), v8 = .int .i64 x8_2 ∧ v46 = .int .i64 x46_2 ∧ Aside0 (comptrollerlaw04_SplitWhole.l1 kq a0 l1 x7_1 x8_2 t334 (t334.length : Int) x46_2 = some r) ∧ Aside0 (kq ≤ k1) ∧ Aside0 (Kd.R (Kd.int .i64) 2 w' w.heap.size (fun _ => True) (.slice Ao15 t334.length co15) t334) ∧ Aside0 (Below w.heap.size w w'))
        case atStart => exact ⟨(0), (0), (by first | rfl | (simp; done) | (simp [*]; done)), (by first | rfl | (simp; done) | (simp [*]; done)), H', ⟨Nat.le_refl _⟩, ⟨by (with_reducible repeat (first | apply Kd.R_alloc | apply Kd.R_drewN | apply Kd.R_drew)); exact HO_5.out⟩, ⟨by repeat (first | (with_reducible first | exact HB.out | apply below_alloc | apply pw_below_drewN | apply below_drew1) | exact HB.out)⟩⟩
        case round =>
         clear H'
         try clear c1
         try clear p2
         try clear p3
         try clear q3
         try clear hx3
         try clear c4
         try clear c5
         try clear c5b0
         try clear c5b1
         try clear p6
         try clear c8
         try clear c8b0
         try clear c8b1
         try clear c9
         try clear c10
         try clear c11
         try clear c11b0
         try clear c12
         try clear c12b0
         try clear c13
         try clear c13b0
         try clear c14
         try clear c14b0
         try clear c14b1
         try clear c14b2
         try clear hx338_0
         try clear p2
         try clear p338
         try clear q338
         obtain ⟨x8_2, x46_2, rfl, rfl, HA, HK2, HO_44, HB⟩ := hrel
         cases gk with
         | zero => exact absurd HA.out (by simp [comptrollerlaw04_SplitWhole.l1])
         | succ k2 =>
          have H := HA.out
          clear HA
          simp only [comptrollerlaw04_SplitWhole.l1] at H
          by_cases c16 : x46_2 < (t334.length : Int)
          ·rw [if_pos c16] at H
           have c16b0 : decide (x46_2 < (t334.length : Int)) = true := decide_eq_true c16
           clear c16
           by_cases c17 : 0 ≤ x46_2
           ·rw [if_pos c17] at H
            have c17b0 : decide (0 ≤ x46_2) = true := decide_eq_true c17
            clear c17
            by_cases c18 : x46_2 < (t334.length : Int)
            ·rw [if_pos c18] at H
             have c18b0 : decide (x46_2 < (t334.length : Int)) = true := decide_eq_true c18
             clear c18
             have HC19 := Aside0.mk H
             clear H
             have p339 : 0 ≤ (x46_2 : Int) := of_decide_eq_true (by first | (with_reducible assumption) | assumption)
             have q339 : x46_2 < (t334.length : Int) := of_decide_eq_true (by first | (with_reducible assumption) | assumption)
             obtain ⟨ad339, e339, hx339_0⟩ := Kd.at_int (Kd.R_reads' HO_44.out).2.2 x46_2 p339 q339
             cases e339
             replace p339 := eq_true p339
             replace q339 := eq_true q339
             go_upto_region 20 with (fail)
             go_cut [78] (fun v78 wc => ∃ (kq : Nat) (x78_18 : Bool), v78 = .bool x78_18 ∧ Aside0 (comptrollerlaw04_SplitWhole.j2 kq a0 l1 x7_1 (wrap64 (x8_2 + (rd t334 x46_2))) x46_2 (rd t334 x46_2) t334 (t334.length : Int) x46_2 x78_18 = some r) ∧ Aside0 (kq ≤ k2) ∧ Aside0 (Kd.R (Kd.int .i64) 2 wc w.heap.size (fun _ => True) (.slice (some ad339) t334.length co15) t334) ∧ Aside0 (Below w.heap.size w wc))
             case first =>
              have H := HC19.out
              clear HC19
              by_cases c20 : (rd t334 x46_2) > 0
              ·rw [if_pos c20] at H
               have c20b0 : decide (0 < (rd t334 x46_2)) = true := decide_eq_true c20
               clear c20
               (first | rw [c20b0] | (simp only [i64_w, i32_w]; rw [c20b0]) | skip)
               by_cases c21 : a0 < 0
               ·rw [if_pos c21] at H
                have c21b0 : decide (a0 < 0) = true := decide_eq_true c21
                clear c21
                have H' := Aside0.mk H
                clear H
                go_wp2
                go_meet
                case rel => exact ⟨_, (true), (by first | rfl | (simp; done) | (simp [*]; done)), H', ⟨by have := HK1.out; have := HK2.out; first | omega | exact Nat.le_refl _⟩, ⟨by (with_reducible repeat (first | apply Kd.R_alloc | apply Kd.R_drewN | apply Kd.R_drew)); exact HO_44.out⟩, ⟨by repeat (first | (with_reducible first | exact HB.out | apply below_alloc | apply pw_below_drewN | apply below_drew1) | exact HB.out)⟩⟩
               ·rw [if_neg c21] at H
                have c21b0 : decide (a0 < 0) = false := decide_eq_false c21
                clear c21
                by_cases c22 : (rd t334 x46_2) < 0
                ·rw [if_pos c22] at H
                 have c22b0 : decide ((rd t334 x46_2) < 0) = true := decide_eq_true c22
                 clear c22
                 by_cases c23 : a0 > 0
                 ·rw [if_pos c23] at H
                  have c23b0 : decide (0 < a0) = true := decide_eq_true c23
                  clear c23
                  have H' := Aside0.mk H
                  clear H
                  go_wp2
                  go_meet
                  case rel => exact ⟨_, (true), (by first | rfl | (simp; done) | (simp [*]; done)), H', ⟨by have := HK1.out; have := HK2.out; first | omega | exact Nat.le_refl _⟩, ⟨by (with_reducible repeat (first | apply Kd.R_alloc | apply Kd.R_drewN | apply Kd.R_drew)); exact HO_44.out⟩, ⟨by repeat (first | (with_reducible first | exact HB.out | apply below_alloc | apply pw_below_drewN | apply below_drew1) | exact HB.out)⟩⟩
                 ·rw [if_neg c23] at H
                  have c23b0 : decide (0 < a0) = false := decide_eq_false c23
                  clear c23
                  by_cases c24 : x46_2 < (l1.length : Int)
                  ·rw [if_pos c24] at H
                   have c24b0 : decide (x46_2 < (l1.length : Int)) = true := decide_eq_true c24
                   clear c24
                   by_cases c25 : (rd l1 x46_2) = 0
                   ·rw [if_pos c25] at H
                    have c25b0 : ((rd l1 x46_2) == 0) = true := beq_iff_eq.mpr c25
                    have c25b1 : ((rd l1 x46_2) != 0) = false := bne_eq_false_iff_eq.mpr c25
                    clear c25
                    have H' := Aside0.mk H
                    clear H
                    have p340 : 0 ≤ (x46_2 : Int) := of_decide_eq_true (by first | (with_reducible assumption) | assumption)
                    have q340 : x46_2 < (l1.length : Int) := of_decide_eq_true (by first | (with_reducible assumption) | assumption)
                    obtain ⟨ad340, e340, hx340_0⟩ := Kd.at_int HR1.out x46_2 p340 q340
                    cases e340
                    replace hx340_0 := (HB.out.cell (World.block_lt_of_cell? w _ hx340_0)).trans hx340_0
                    replace p340 := eq_true p340
                    replace q340 := eq_true q340
                    go_wp2
                    go_meet
                    case rel => exact ⟨_, (((rd t334 x46_2) != 0)), (by first | rfl | (simp; done) | (simp [*]; done)), H', ⟨by have := HK1.out; have := HK2.out; first | omega | exact Nat.le_refl _⟩, ⟨by (with_reducible repeat (first | apply Kd.R_alloc | apply Kd.R_drewN | apply Kd.R_drew)); exact HO_44.out⟩, ⟨by repeat (first | (with_reducible first | exact HB.out | apply below_alloc | apply pw_below_drewN | apply below_drew1) | exact HB.out)⟩⟩
                   ·rw [if_neg c25] at H
                    have c25b0 : ((rd l1 x46_2) == 0) = false := beq_eq_false_iff_ne.mpr c25
                    have c25b1 : ((rd l1 x46_2) != 0) = true := bne_iff_ne.mpr c25
                    have H' := Aside0.mk H
                    clear H
                    have p340 : 0 ≤ (x46_2 : Int) := of_decide_eq_true (by first | (with_reducible assumption) | assumption)
                    have q340 : x46_2 < (l1.length : Int) := of_decide_eq_true (by first | (with_reducible assumption) | assumption)
                    obtain ⟨ad340, e340, hx340_0⟩ := Kd.at_int HR1.out x46_2 p340 q340
                    cases e340
                    replace hx340_0 := (HB.out.cell (World.block_lt_of_cell? w _ hx340_0)).trans hx340_0
                    replace p340 := eq_true p340
                    replace q340 := eq_true q340
                    go_wp2
                    go_meet
                    case rel => exact ⟨_, (false), (by first | rfl | (simp; done) | (simp [*]; done)), H', ⟨by have := HK1.out; have := HK2.out; first | omega | exact Nat.le_refl _⟩, ⟨by (with_reducible repeat (first | apply Kd.R_alloc | apply Kd.R_drewN | apply Kd.R_drew)); exact HO_44.out⟩, ⟨by repeat (first | (with_reducible first | exact HB.out | apply below_alloc | apply pw_below_drewN | apply below_drew1) | exact HB.out)⟩⟩
                  ·rw [if_neg c24] at H
                   exact absurd H (by simp)
                ·rw [if_neg c22] at H
                 have c22b0 : decide ((rd t334 x46_2) < 0) = false := decide_eq_false c22
                 clear c22
                 by_cases c26 : x46_2 < (l1.length : Int)
                 ·rw [if_pos c26] at H
                  have c26b0 : decide (x46_2 < (l1.length : Int)) = true := decide_eq_true c26
                  clear c26
                  by_cases c27 : (rd l1 x46_2) = 0
                  ·rw [if_pos c27] at H
                   have c27b0 : ((rd l1 x46_2) == 0) = true := beq_iff_eq.mpr c27
                   have c27b1 : ((rd l1 x46_2) != 0) = false := bne_eq_false_iff_eq.mpr c27
                   clear c27
                   have H' := Aside0.mk H
                   clear H
                   have p341 : 0 ≤ (x46_2 : Int) := of_decide_eq_true (by first | (with_reducible assumption) | assumption)
                   have q341 : x46_2 < (l1.length : Int) := of_decide_eq_true (by first | (with_reducible assumption) | assumption)
                   obtain ⟨ad341, e341, hx341_0⟩ := Kd.at_int HR1.out x46_2 p341 q341
                   cases e341
                   replace hx341_0 := (HB.out.cell (World.block_lt_of_cell? w _ hx341_0)).trans hx341_0
                   replace p341 := eq_true p341
                   replace q341 := eq_true q341
                   go_wp2
                   go_meet
                   case rel => exact ⟨_, (((rd t334 x46_2) != 0)), (by first | rfl | (simp; done) | (simp [*]; done)), H', ⟨by have := HK1.out; have := HK2.out; first | omega | exact Nat.le_refl _⟩, ⟨by (with_reducible repeat (first | apply Kd.R_alloc | apply Kd.R_drewN | apply Kd.R_drew)); exact HO_44.out⟩, ⟨by repeat (first | (with_reducible first | exact HB.out | apply below_alloc | apply pw_below_drewN | apply below_drew1) | exact HB.out)⟩⟩
                  ·rw [if_neg c27] at H
                   have c27b0 : ((rd l1 x46_2) == 0) = false := beq_eq_false_iff_ne.mpr c27
                   have c27b1 : ((rd l1 x46_2) != 0) = true := bne_iff_ne.mpr c27
                   have H' := Aside0.mk H
                   clear H
                   have p341 : 0 ≤ (x46_2 : Int) := of_decide_eq_true (by first | (with_reducible assumption) | assumption)
                   have q341 : x46_2 < (l1.length : Int) := of_decide_eq_true (by first | (with_reducible assumption) | assumption)
                   obtain ⟨ad341, e341, hx341_0⟩ := Kd.at_int HR1.out x46_2 p341 q341
                   cases e341
                   replace hx341_0 := (HB.out.cell (World.block_lt_of_cell? w _ hx341_0)).trans hx341_0
                   replace p341 := eq_true p341
                   replace q341 := eq_true q341
                   go_wp2
                   go_meet
                   case rel => exact ⟨_, (false), (by first | rfl | (simp; done) | (simp [*]; done)), H', ⟨by have := HK1.out; have := HK2.out; first | omega | exact Nat.le_refl _⟩, ⟨by (with_reducible repeat (first | apply Kd.R_alloc | apply Kd.R_drewN | apply Kd.R_drew)); exact HO_44.out⟩, ⟨by repeat (first | (with_reducible first | exact HB.out | apply below_alloc | apply pw_below_drewN | apply below_drew1) | exact HB.out)⟩⟩
                 ·rw [if_neg c26] at H
                  exact absurd H (by simp)
              ·rw [if_neg c20] at H
               have c20b0 : decide (0 < (rd t334 x46_2)) = false := decide_eq_false c20
               clear c20
               (first | rw [c20b0] | (simp only [i64_w, i32_w]; rw [c20b0]) | skip)
               by_cases c28 : (rd t334 x46_2) < 0
               ·rw [if_pos c28] at H
                have c28b0 : decide ((rd t334 x46_2) < 0) = true := decide_eq_true c28
                clear c28
                by_cases c29 : a0 > 0
                ·rw [if_pos c29] at H
                 have c29b0 : decide (0 < a0) = true := decide_eq_true c29
                 clear c29
                 have H' := Aside0.mk H
                 clear H
                 go_wp2
                 go_meet
                 case rel => exact ⟨_, (true), (by first | rfl | (simp; done) | (simp [*]; done)), H', ⟨by have := HK1.out; have := HK2.out; first | omega | exact Nat.le_refl _⟩, ⟨by (with_reducible repeat (first | apply Kd.R_alloc | apply Kd.R_drewN | apply Kd.R_drew)); exact HO_44.out⟩, ⟨by repeat (first | (with_reducible first | exact HB.out | apply below_alloc | apply pw_below_drewN | apply below_drew1) | exact HB.out)⟩⟩
                ·rw [if_neg c29] at H
                 have c29b0 : decide (0 < a0) = false := decide_eq_false c29
                 clear c29
                 by_cases c30 : x46_2 < (l1.length : Int)
                 ·rw [if_pos c30] at H
                  have c30b0 : decide (x46_2 < (l1.length : Int)) = true := decide_eq_true c30
                  clear c30
                  by_cases c31 : (rd l1 x46_2) = 0
                  ·rw [if_pos c31] at H
                   have c31b0 : ((rd l1 x46_2) == 0) = true := beq_iff_eq.mpr c31
                   have c31b1 : ((rd l1 x46_2) != 0) = false := bne_eq_false_iff_eq.mpr c31
                   clear c31
                   have H' := Aside0.mk H
                   clear H
                   have p342 : 0 ≤ (x46_2 : Int) := of_decide_eq_true (by first | (with_reducible assumption) | assumption)
                   have q342 : x46_2 < (l1.length : Int) := of_decide_eq_true (by first | (with_reducible assumption) | assumption)
                   obtain ⟨ad342, e342, hx342_0⟩ := Kd.at_int HR1.out x46_2 p342 q342
                   cases e342
                   replace hx342_0 := (HB.out.cell (World.block_lt_of_cell? w _ hx342_0)).trans hx342_0
                   replace p342 := eq_true p342
                   replace q342 := eq_true q342
                   go_wp2
                   go_meet
                   case rel => exact ⟨_, (((rd t334 x46_2) != 0)), (by first | rfl | (simp; done) | (simp [*]; done)), H', ⟨by have := HK1.out; have := HK2.out; first | omega | exact Nat.le_refl _⟩, ⟨by (with_reducible repeat (first | apply Kd.R_alloc | apply Kd.R_drewN | apply Kd.R_drew)); exact HO_44.out⟩, ⟨by repeat (first | (with_reducible first | exact HB.out | apply below_alloc | apply pw_below_drewN | apply below_drew1) | exact HB.out)⟩⟩
                  ·rw [if_neg c31] at H
                   have c31b0 : ((rd l1 x46_2) == 0) = false := beq_eq_false_iff_ne.mpr c31
                   have c31b1 : ((rd l1 x46_2) != 0) = true := bne_iff_ne.mpr c31
                   have H' := Aside0.mk H
                   clear H
                   have p342 : 0 ≤ (x46_2 : Int) := of_decide_eq_true (by first | (with_reducible assumption) | assumption)
                   have q342 : x46_2 < (l1.length : Int) := of_decide_eq_true (by first | (with_reducible assumption) | assumption)
                   obtain ⟨ad342, e342, hx342_0⟩ := Kd.at_int HR1.out x46_2 p342 q342
                   cases e342
                   replace hx342_0 := (HB.out.cell (World.block_lt_of_cell? w _ hx342_0)).trans hx342_0
                   replace p342 := eq_true p342
                   replace q342 := eq_true q342
                   go_wp2
                   go_meet
                   case rel => exact ⟨_, (false), (by first | rfl | (simp; done) | (simp [*]; done)), H', ⟨by have := HK1.out; have := HK2.out; first | omega | exact Nat.le_refl _⟩, ⟨by (with_reducible repeat (first | apply Kd.R_alloc | apply Kd.R_drewN | apply Kd.R_drew)); exact HO_44.out⟩, ⟨by repeat (first | (with_reducible first | exact HB.out | apply below_alloc | apply pw_below_drewN | apply below_drew1) | exact HB.out)⟩⟩
                 ·rw [if_neg c30] at H
                  exact absurd H (by simp)
               ·rw [if_neg c28] at H
                have c28b0 : decide ((rd t334 x46_2) < 0) = false := decide_eq_false c28
                clear c28
                by_cases c32 : x46_2 < (l1.length : Int)
                ·rw [if_pos c32] at H
                 have c32b0 : decide (x46_2 < (l1.length : Int)) = true := decide_eq_true c32
                 clear c32
                 by_cases c33 : (rd l1 x46_2) = 0
                 ·rw [if_pos c33] at H
                  have c33b0 : ((rd l1 x46_2) == 0) = true := beq_iff_eq.mpr c33
                  have c33b1 : ((rd l1 x46_2) != 0) = false := bne_eq_false_iff_eq.mpr c33
                  clear c33
                  have H' := Aside0.mk H
                  clear H
                  have p343 : 0 ≤ (x46_2 : Int) := of_decide_eq_true (by first | (with_reducible assumption) | assumption)
                  have q343 : x46_2 < (l1.length : Int) := of_decide_eq_true (by first | (with_reducible assumption) | assumption)
                  obtain ⟨ad343, e343, hx343_0⟩ := Kd.at_int HR1.out x46_2 p343 q343
                  cases e343
                  replace hx343_0 := (HB.out.cell (World.block_lt_of_cell? w _ hx343_0)).trans hx343_0
                  replace p343 := eq_true p343
                  replace q343 := eq_true q343
                  go_wp2
                  go_meet
                  case rel => exact ⟨_, (((rd t334 x46_2) != 0)), (by first | rfl | (simp; done) | (simp [*]; done)), H', ⟨by have := HK1.out; have := HK2.out; first | omega | exact Nat.le_refl _⟩, ⟨by (with_reducible repeat (first | apply Kd.R_alloc | apply Kd.R_drewN | apply Kd.R_drew)); exact HO_44.out⟩, ⟨by repeat (first | (with_reducible first | exact HB.out | apply below_alloc | apply pw_below_drewN | apply below_drew1) | exact HB.out)⟩⟩
                 ·rw [if_neg c33] at H
                  have c33b0 : ((rd l1 x46_2) == 0) = false := beq_eq_false_iff_ne.mpr c33
                  have c33b1 : ((rd l1 x46_2) != 0) = true := bne_iff_ne.mpr c33
                  have H' := Aside0.mk H
                  clear H
                  have p343 : 0 ≤ (x46_2 : Int) := of_decide_eq_true (by first | (with_reducible assumption) | assumption)
                  have q343 : x46_2 < (l1.length : Int) := of_decide_eq_true (by first | (with_reducible assumption) | assumption)
                  obtain ⟨ad343, e343, hx343_0⟩ := Kd.at_int HR1.out x46_2 p343 q343
                  cases e343
                  replace hx343_0 := (HB.out.cell (World.block_lt_of_cell? w _ hx343_0)).trans hx343_0
                  replace p343 := eq_true p343
                  replace q343 := eq_true q343
                  go_wp2
                  go_meet
                  case rel => exact ⟨_, (false), (by first | rfl | (simp; done) | (simp [*]; done)), H', ⟨by have := HK1.out; have := HK2.out; first | omega | exact Nat.le_refl _⟩, ⟨by (with_reducible repeat (first | apply Kd.R_alloc | apply Kd.R_drewN | apply Kd.R_drew)); exact HO_44.out⟩, ⟨by repeat (first | (with_reducible first | exact HB.out | apply below_alloc | apply pw_below_drewN | apply below_drew1) | exact HB.out)⟩⟩
                ·rw [if_neg c32] at H
                 exact absurd H (by simp)
             case rest =>
              clear HC19
              try clear c1
              try clear c2
              try clear p2
              try clear c3
              try clear p3
              try clear q3
              try clear hx3
              try clear c4
              try clear c5
              try clear c5b0
              try clear c5b1
              try clear p6
              try clear c8
              try clear c8b0
              try clear c8b1
              try clear c9
              try clear c10
              try clear c11
              try clear c11b0
              try clear c12
              try clear c12b0
              try clear c13
              try clear c13b0
              try clear c14
              try clear c14b0
              try clear c14b1
              try clear c14b2
              try clear c16
              try clear c16b0
              try clear c17
              try clear c17b0
              try clear c18
              try clear c18b0
              try clear c20
              try clear c20b0
              try clear c21
              try clear c21b0
              try clear c22
              try clear c22b0
              try clear c23
              try clear c23b0
              try clear c24
              try clear c24b0
              try clear c25
              try clear c25b0
              try clear c25b1
              try clear c26
              try clear c26b0
              try clear c27
              try clear c27b0
              try clear c27b1
              try clear c28
              try clear c28b0
              try clear c29
              try clear c29b0
              try clear c30
              try clear c30b0
              try clear c31
              try clear c31b0
              try clear c31b1
              try clear c32
              try clear c32b0
              try clear c33
              try clear c33b0
              try clear c33b1
              try clear p33
              try clear q33
              try clear hx33
              try clear hx338_0
              try clear hx339_0
              try clear hx340_0
              try clear hx341_0
              try clear hx342_0
              try clear hx343_0
              try clear p2
              try clear p3
              try clear p338
              try clear p339
              try clear p340
              try clear p341
              try clear p342
              try clear p343
              try clear p6
              try clear q3
              try clear q338
              try clear q339
              try clear q340
              try clear q341
              try clear q342
              try clear q343
              obtain ⟨kq, x78_18, rfl, HA, HJ18, HO_44, HB⟩ := hcut
              cases kq with
              | zero => exact absurd HA.out (by simp [comptrollerlaw04_SplitWhole.j2])
              | succ kj18 =>
               have H := HA.out
               clear HA
               simp only [comptrollerlaw04_SplitWhole.j2] at H
               by_cases c34 : x78_18 = true
               ·subst c34
                have H1 : (some false) = some r := by rw [if_pos rfl] at H; exact H
                clear H
                have H := H1
                clear H1
                obtain rfl := Option.some.inj H
                go_wp2
                go_ret
                exact ⟨by first | rfl | (simp [errW_none, errW_some] <;> rfl) | (simp [*, errW_none, errW_some] <;> rfl), by repeat (first | (with_reducible first | exact HB.out | apply below_alloc | apply pw_below_drewN | apply below_drew1) | exact HB.out)⟩
               ·replace c34 := Bool.eq_false_iff.mpr c34
                subst c34
                have H1 : (if (rd t334 x46_2) > (-4611686018427387904) then (if (rd t334 x46_2) < 4611686018427387904 then (if 0 ≤ x46_2 then (if x46_2 < (l1.length : Int) then ((comptrollerref02_Cmp.f kj18 (wrap64 ((rd t334 x46_2) - 1)) x7_1 a0 (rd l1 x46_2)).bind fun t345 => (if t345 ≥ 0 then (some false) else ((comptrollerref02_Cmp.f kj18 (wrap64 ((rd t334 x46_2) + 1)) x7_1 a0 (rd l1 x46_2)).bind fun t347 => (if t347 ≤ 0 then (some false) else (comptrollerlaw04_SplitWhole.l1 kj18 a0 l1 x7_1 (wrap64 (x8_2 + (rd t334 x46_2))) t334 (t334.length : Int) (wrap64 (x46_2 + 1))))))) else (none)) else (none)) else (comptrollerlaw04_SplitWhole.l1 kj18 a0 l1 x7_1 (wrap64 (x8_2 + (rd t334 x46_2))) t334 (t334.length : Int) (wrap64 (x46_2 + 1)))) else (comptrollerlaw04_SplitWhole.l1 kj18 a0 l1 x7_1 (wrap64 (x8_2 + (rd t334 x46_2))) t334 (t334.length : Int) (wrap64 (x46_2 + 1)))) = some r := by rw [if_neg (show ¬ (false = true) by decide)] at H; exact H
                clear H
                have H := H1
                clear H1
                by_cases c35 : (rd t334 x46_2) > (-4611686018427387904)
                ·rw [if_pos c35] at H
                 have c35b0 : decide ((-4611686018427387904) < (rd t334 x46_2)) = true := decide_eq_true c35
                 clear c35
                 by_cases c36 : (rd t334 x46_2) < 4611686018427387904
                 ·rw [if_pos c36] at H
                  have c36b0 : decide ((rd t334 x46_2) < 4611686018427387904) = true := decide_eq_true c36
                  clear c36
                  by_cases c37 : 0 ≤ x46_2
                  ·rw [if_pos c37] at H
                   have c37b0 : decide (0 ≤ x46_2) = true := decide_eq_true c37
                   clear c37
                   by_cases c38 : x46_2 < (l1.length : Int)
                   ·rw [if_pos c38] at H
                    have c38b0 : decide (x46_2 < (l1.length : Int)) = true := decide_eq_true c38
                    clear c38
                    replace H := Option.bind_eq_some_iff.mp H
                    obtain ⟨t345, A390, H⟩ := H
                    replace H : (if t345 ≥ 0 then (some false) else ((comptrollerref02_Cmp.f kj18 (wrap64 ((rd t334 x46_2) + 1)) x7_1 a0 (rd l1 x46_2)).bind fun t347 => (if t347 ≤ 0 then (some false) else (comptrollerlaw04_SplitWhole.l1 kj18 a0 l1 x7_1 (wrap64 (x8_2 + (rd t334 x46_2))) t334 (t334.length : Int) (wrap64 (x46_2 + 1)))))) = some r := H
                    have A39 := Aside0.mk A390
                    clear A390
                    by_cases c40 : t345 ≥ 0
                    ·rw [if_pos c40] at H
                     have c40b0 : decide (0 ≤ t345) = true := decide_eq_true c40
                     clear c40
                     obtain rfl := Option.some.inj H
                     have p344 : 0 ≤ (x46_2 : Int) := of_decide_eq_true (by first | (with_reducible assumption) | assumption)
                     have q344 : x46_2 < (l1.length : Int) := of_decide_eq_true (by first | (with_reducible assumption) | assumption)
                     obtain ⟨ad344, e344, hx344_0⟩ := Kd.at_int HR1.out x46_2 p344 q344
                     cases e344
                     replace hx344_0 := (HB.out.cell (World.block_lt_of_cell? w _ hx344_0)).trans hx344_0
                     replace p344 := eq_true p344
                     replace q344 := eq_true q344
                     go_wp2_with (first | (go_at_call 15; (with_reducible refine (comptrollerref02_Cmp.calls kj18 (wrap64 ((rd t334 x46_2) - 1)) x7_1 a0 (rd l1 x46_2) t345 _ A39.out).mono ?_); rintro e w41 ⟨rfl, hb⟩; have n0_ := Aside0.mk (Kd.R_below (by (with_reducible repeat (first | apply Kd.R_alloc | apply Kd.R_drewN | apply Kd.R_drew)); exact HO_44.out) hb); have n1_ := Aside0.mk (below_step (by repeat (first | (with_reducible first | exact HB.out | apply below_alloc | apply pw_below_drewN | apply below_drew1) | exact HB.out)) hb); clear HO_44; clear HB; have HO_44 := n0_; have HB := n1_; clear n0_ n1_; (try clear hb); (try clear hb2); (try clear hk); (try clear hi)))
                     go_ret
                     exact ⟨by first | rfl | (simp [errW_none, errW_some] <;> rfl) | (simp [*, errW_none, errW_some] <;> rfl), by repeat (first | (with_reducible first | exact HB.out | apply below_alloc | apply pw_below_drewN | apply below_drew1) | exact HB.out)⟩
                    ·rw [if_neg c40] at H
                     have c40b0 : decide (0 ≤ t345) = false := decide_eq_false c40
                     clear c40
                     replace H := Option.bind_eq_some_iff.mp H
                     obtain ⟨t347, A420, H⟩ := H
                     replace H : (if t347 ≤ 0 then (some false) else (comptrollerlaw04_SplitWhole.l1 kj18 a0 l1 x7_1 (wrap64 (x8_2 + (rd t334 x46_2))) t334 (t334.length : Int) (wrap64 (x46_2 + 1)))) = some r := H
                     have A42 := Aside0.mk A420
                     clear A420
                     by_cases c43 : t347 ≤ 0
                     ·rw [if_pos c43] at H
                      have c43b0 : decide (t347 ≤ 0) = true := decide_eq_true c43
                      clear c43
                      obtain rfl := Option.some.inj H
                      have p344 : 0 ≤ (x46_2 : Int) := of_decide_eq_true (by first | (with_reducible assumption) | assumption)
                      have q344 : x46_2 < (l1.length : Int) := of_decide_eq_true (by first | (with_reducible assumption) | assumption)
                      obtain ⟨ad344, e344, hx344_0⟩ := Kd.at_int HR1.out x46_2 p344 q344
                      cases e344
                      replace hx344_0 := (HB.out.cell (World.block_lt_of_cell? w _ hx344_0)).trans hx344_0
                      replace p344 := eq_true p344
                      replace q344 := eq_true q344
                      go_wp2_with (first | (go_at_call 15; (with_reducible refine (comptrollerref02_Cmp.calls kj18 (wrap64 ((rd t334 x46_2) - 1)) x7_1 a0 (rd l1 x46_2) t345 _ A39.out).mono ?_); rintro e w44 ⟨rfl, hb⟩; have n0_ := Aside0.mk (Kd.R_below (by (with_reducible repeat (first | apply Kd.R_alloc | apply Kd.R_drewN | apply Kd.R_drew)); exact HO_44.out) hb); have n1_ := Aside0.mk (below_step (by repeat (first | (with_reducible first | exact HB.out | apply below_alloc | apply pw_below_drewN | apply below_drew1) | exact HB.out)) hb); clear HO_44; clear HB; have HO_44 := n0_; have HB := n1_; clear n0_ n1_; (try clear hb); (try clear hb2); (try clear hk); (try clear hi); have p346 : 0 ≤ (x46_2 : Int) := of_decide_eq_true (by first | (with_reducible assumption) | assumption); have q346 : x46_2 < (l1.length : Int) := of_decide_eq_true (by first | (with_reducible assumption) | assumption); obtain ⟨ad346, e346, hx346_0⟩ := Kd.at_int HR1.out x46_2 p346 q346; obtain rfl : ad344 = ad346 := (by injection e346); replace hx346_0 := (HB.out.cell (World.block_lt_of_cell? w _ hx346_0)).trans hx346_0; replace p346 := eq_true p346; replace q346 := eq_true q346) | (go_at_call 15; (with_reducible refine (comptrollerref02_Cmp.calls kj18 (wrap64 ((rd t334 x46_2) + 1)) x7_1 a0 (rd l1 x46_2) t347 _ A42.out).mono ?_); rintro e w45 ⟨rfl, hb⟩; have n0_ := Aside0.mk (Kd.R_below (by (with_reducible repeat (first | apply Kd.R_alloc | apply Kd.R_drewN | apply Kd.R_drew)); exact HO_44.out) hb); have n1_ := Aside0.mk (below_step (by repeat (first | (with_reducible first | exact HB.out | apply below_alloc | apply pw_below_drewN | apply below_drew1) | exact HB.out)) hb); clear HO_44; clear HB; have HO_44 := n0_; have HB := n1_; clear n0_ n1_; (try clear hb); (try clear hb2); (try clear hk); (try clear hi)))
                      go_ret
                      exact ⟨by first | rfl | (simp [errW_none, errW_some] <;> rfl) | (simp [*, errW_none, errW_some] <;> rfl), by repeat (first | (with_reducible first | exact HB.out | apply below_alloc | apply pw_below_drewN | apply below_drew1) | exact HB.out)⟩
                     ·rw [if_neg c43] at H
                      have c43b0 : decide (t347 ≤ 0) = false := decide_eq_false c43
                      clear c43
                      have H' := Aside0.mk H
                      clear H
                      have p344 : 0 ≤ (x46_2 : Int) := of_decide_eq_true (by first | (with_reducible assumption) | assumption)
                      have q344 : x46_2 < (l1.length : Int) := of_decide_eq_true (by first | (with_reducible assumption) | assumption)
                      obtain ⟨ad344, e344, hx344_0⟩ := Kd.at_int HR1.out x46_2 p344 q344
                      cases e344
                      replace hx344_0 := (HB.out.cell (World.block_lt_of_cell? w _ hx344_0)).trans hx344_0
                      replace p344 := eq_true p344
                      replace q344 := eq_true q344
                      go_wp2_with (first | (go_at_call 15; (with_reducible refine (comptrollerref02_Cmp.calls kj18 (wrap64 ((rd t334 x46_2) - 1)) x7_1 a0 (rd l1 x46_2) t345 _ A39.out).mono ?_); rintro e w46 ⟨rfl, hb⟩; have n0_ := Aside0.mk (Kd.R_below (by (with_reducible repeat (first | apply Kd.R_alloc | apply Kd.R_drewN | apply Kd.R_drew)); exact HO_44.out) hb); have n1_ := Aside0.mk (below_step (by repeat (first | (with_reducible first | exact HB.out | apply below_alloc | apply pw_below_drewN | apply below_drew1) | exact HB.out)) hb); clear HO_44; clear HB; have HO_44 := n0_; have HB := n1_; clear n0_ n1_; (try clear hb); (try clear hb2); (try clear hk); (try clear hi); have p346 : 0 ≤ (x46_2 : Int) := of_decide_eq_true (by first | (with_reducible assumption) | assumption); have q346 : x46_2 < (l1.length : Int) := of_decide_eq_true (by first | (with_reducible assumption) | assumption); obtain ⟨ad346, e346, hx346_0⟩ := Kd.at_int HR1.out x46_2 p346 q346; obtain rfl : ad344 = ad346 := (by injection e346); replace hx346_0 := (HB.out.cell (World.block_lt_of_cell? w _ hx346_0)).trans hx346_0; replace p346 := eq_true p346; replace q346 := eq_true q346) | (go_at_call 15; (with_reducible refine (comptrollerref02_Cmp.calls kj18 (wrap64 ((rd t334 x46_2) + 1)) x7_1 a0 (rd l1 x46_2) t347 _ A42.out).mono ?_); rintro e w47 ⟨rfl, hb⟩; have n0_ := Aside0.mk (Kd.R_below (by (with_reducible repeat (first | apply Kd.R_alloc | apply Kd.R_drewN | apply Kd.R_drew)); exact HO_44.out) hb); have n1_ := Aside0.mk (below_step (by repeat (first | (with_reducible first | exact HB.out | apply below_alloc | apply pw_below_drewN | apply below_drew1) | exact HB.out)) hb); clear HO_44; clear HB; have HO_44 := n0_; have HB := n1_; clear n0_ n1_; (try clear hb); (try clear hb2); (try clear hk); (try clear hi)))
                      go_roundg kj18
                      case measure => have := HK1.out; have := HK2.out; have := HJ18.out; omega
                      case rel => exact ⟨((wrap64 (x8_2 + (rd t334 x46_2)))), (wrap64 (x46_2 + 1)), (by first | rfl | (simp; done) | (simp [*]; done)), (by first | rfl | (simp; done) | (simp [*]; done)), H', ⟨by have := HK1.out; have := HK2.out; have := HJ18.out; omega⟩, ⟨by (with_reducible repeat (first | apply Kd.R_alloc | apply Kd.R_drewN | apply Kd.R_drew)); exact HO_44.out⟩, ⟨by repeat (first | (with_reducible first | exact HB.out | apply below_alloc | apply pw_below_drewN | apply below_drew1) | exact HB.out)⟩⟩
                   ·rw [if_neg c38] at H
                    exact absurd H (by simp)
                  ·rw [if_neg c37] at H
                   exact absurd H (by simp)
                 ·rw [if_neg c36] at H
                  have c36b0 : decide ((rd t334 x46_2) < 4611686018427387904) = false := decide_eq_false c36
                  clear c36
                  have H' := Aside0.mk H
                  clear H
                  go_wp2
                  go_roundg kj18
                  case measure => have := HK1.out; have := HK2.out; have := HJ18.out; omega
                  case rel => exact ⟨((wrap64 (x8_2 + (rd t334 x46_2)))), (wrap64 (x46_2 + 1)), (by first | rfl | (simp; done) | (simp [*]; done)), (by first | rfl | (simp; done) | (simp [*]; done)), H', ⟨by have := HK1.out; have := HK2.out; have := HJ18.out; omega⟩, ⟨by (with_reducible repeat (first | apply Kd.R_alloc | apply Kd.R_drewN | apply Kd.R_drew)); exact HO_44.out⟩, ⟨by repeat (first | (with_reducible first | exact HB.out | apply below_alloc | apply pw_below_drewN | apply below_drew1) | exact HB.out)⟩⟩
                ·rw [if_neg c35] at H
                 have c35b0 : decide ((-4611686018427387904) < (rd t334 x46_2)) = false := decide_eq_false c35
                 clear c35
                 have H' := Aside0.mk H
                 clear H
                 go_wp2
                 go_roundg kj18
                 case measure => have := HK1.out; have := HK2.out; have := HJ18.out; omega
                 case rel => exact ⟨((wrap64 (x8_2 + (rd t334 x46_2)))), (wrap64 (x46_2 + 1)), (by first | rfl | (simp; done) | (simp [*]; done)), (by first | rfl | (simp; done) | (simp [*]; done)), H', ⟨by have := HK1.out; have := HK2.out; have := HJ18.out; omega⟩, ⟨by (with_reducible repeat (first | apply Kd.R_alloc | apply Kd.R_drewN | apply Kd.R_drew)); exact HO_44.out⟩, ⟨by repeat (first | (with_reducible first | exact HB.out | apply below_alloc | apply pw_below_drewN | apply below_drew1) | exact HB.out)⟩⟩
            ·rw [if_neg c18] at H
             exact absurd H (by simp)
           ·rw [if_neg c17] at H
            exact absurd H (by simp)
          ·rw [if_neg c16] at H
           have c16b0 : decide (x46_2 < (t334.length : Int)) = false := decide_eq_false c16
           clear c16
           obtain rfl := Option.some.inj H
           go_wp2
           go_ret
           exact ⟨by first | rfl | (simp [errW_none, errW_some] <;> rfl) | (simp [*, errW_none, errW_some] <;> rfl), by repeat (first | (with_reducible first | exact HB.out | apply below_alloc | apply pw_below_drewN | apply below_drew1) | exact HB.out)⟩
       ·rw [if_neg c14] at H
        have c14b0 : ((t334.length : Int) == (l1.length : Int)) = false := beq_eq_false_iff_ne.mpr c14
        have c14b1 : ((t334.length : Int) != (l1.length : Int)) = true := bne_iff_ne.mpr c14
        have c14b2 : (t334.length == l1.length) = false := by first | simpa using c14 | (simp at c14 ⊢; omega)
        obtain rfl := Option.some.inj H
        obtain ⟨Ao48, co48, eo48⟩ := Kd.R_slice HO_5.out
        subst eo48
        go_wp2
        go_ret
        exact ⟨by first | rfl | (simp [errW_none, errW_some] <;> rfl) | (simp [*, errW_none, errW_some] <;> rfl), by repeat (first | (with_reducible first | exact HB.out | apply below_alloc | apply pw_below_drewN | apply below_drew1) | exact HB.out)⟩
   ·rw [if_neg c8] at H
    have c8b0 : (t335 == 0) = false := beq_eq_false_iff_ne.mpr c8
    have c8b1 : (t335 != 0) = true := bne_iff_ne.mpr c8
    obtain rfl := Option.some.inj H
    go_enter Try.func4, Try.ntmps4
    go_wp2_with (first | ((with_reducible refine gate_callee (f := 9) rfl ?_); refine goesL_ (some 13) rfl rfl Try.func9 (by kernel_rfl) rfl #[] rfl (by (try simp only [List.map_toArray, List.map_cons, List.map_nil]); first | done | rfl | (simp only [List.length_drop, List.length_take]; rfl)) ?_; (with_reducible refine (comptrollerlaw04_alive.calls k  true _ A3.out).mono ?_); rintro e w49 ⟨rfl, hb⟩; refine ⟨_, rfl, ?_⟩; have n0_ := Aside0.mk (below_step (by repeat (first | (with_reducible first | exact HB.out | apply below_alloc | apply pw_below_drewN | apply below_drew1) | exact HB.out)) hb); clear HB; have HB := n0_; clear n0_; (try clear hb); (try clear hb2); (try clear hk); (try clear hi)) | ((with_reducible refine gate_callee (f := 10) rfl ?_); refine goesL_ (some 21) rfl rfl Try.func10 (by kernel_rfl) rfl #[.int .i64 a0, .slice A1 l1.length c1] rfl (by (try simp only [List.map_toArray, List.map_cons, List.map_nil]); first | done | rfl | (simp only [List.length_drop, List.length_take]; rfl)) ?_; (with_reducible refine (split_By.calls k a0 _ _ l1 t334 t335 _ ?side1 ?side2 A7.out).mono ?_); (case side1 => repeat (first | exact (Kd.C_below HR1.out HB.out) | (with_reducible refine Kd.C_alloc ?_ _) | (with_reducible refine Kd.C_drewN ?_ _) | (with_reducible refine Kd.C_drew ?_))); (case side2 => exact HC1.out); rintro e w50 ⟨v336, rfl, ho0, hb⟩; refine ⟨_, rfl, ?_⟩; have n0_ := Aside0.mk (Kd.R_lower ho0 (below_size (by repeat (first | (with_reducible first | exact HB.out | apply below_alloc | apply pw_below_drewN | apply below_drew1) | exact HB.out)))); have n1_ := Aside0.mk (below_step (by repeat (first | (with_reducible first | exact HB.out | apply below_alloc | apply pw_below_drewN | apply below_drew1) | exact HB.out)) hb); clear HB; have HO337 := n0_; have HB := n1_; clear n0_ n1_; (try clear hb); (try clear hb2); (try clear hk); (try clear hi); (try clear ho0); obtain ⟨Ao51, co51, eo51⟩ := Kd.R_slice HO337.out; subst eo51))
    go_ret
    exact ⟨by first | rfl | (simp [errW_none, errW_some] <;> rfl) | (simp [*, errW_none, errW_some] <;> rfl), by repeat (first | (with_reducible first | exact HB.out | apply below_alloc | apply pw_below_drewN | apply below_drew1) | exact HB.out)⟩
 ·replace c4 := Bool.eq_false_iff.mpr c4
  subst c4
  have H1 : (some false) = some r := by rw [if_neg (show ¬ (false = true) by decide)] at H; exact H
  clear H
  have H := H1
  clear H1
  obtain rfl := Option.some.inj H
  go_enter Try.func4, Try.ntmps4
  go_wp2_with (first | ((with_reducible refine gate_callee (f := 9) rfl ?_); refine goesL_ (some 13) rfl rfl Try.func9 (by kernel_rfl) rfl #[] rfl (by (try simp only [List.map_toArray, List.map_cons, List.map_nil]); first | done | rfl | (simp only [List.length_drop, List.length_take]; rfl)) ?_; (with_reducible refine (comptrollerlaw04_alive.calls k  false _ A3.out).mono ?_); rintro e w52 ⟨rfl, hb⟩; refine ⟨_, rfl, ?_⟩; have n0_ := Aside0.mk (below_step (by repeat (first | (with_reducible first | exact HB.out | apply below_alloc | apply pw_below_drewN | apply below_drew1) | exact HB.out)) hb); clear HB; have HB := n0_; clear n0_; (try clear hb); (try clear hb2); (try clear hk); (try clear hi)))
  go_ret
  exact ⟨by first | rfl | (simp [errW_none, errW_some] <;> rfl) | (simp [*, errW_none, errW_some] <;> rfl), by repeat (first | (with_reducible first | exact HB.out | apply below_alloc | apply pw_below_drewN | apply below_drew1) | exact HB.out)⟩

/-- THE ONE PURE STATEMENT of comptrollerlaw04_SplitWhole: ours. -/
def comptrollerlaw04_SplitWhole.Pure : Prop := ∀ (a0 : Int) (l1 : List Int), (Lit.int .i64 a0).wf = true → l1.length ≤ 9223372036854775807 → (∀ x ∈ l1, (Lit.int .i64 x).wf = true) → ∃ k, comptrollerlaw04_SplitWhole.f k a0 l1 = some true

end Go.Proofs.Ytjfnhhfgjomliaa.Q
