/- printed by a program of this session (wip/tools/pr.sh): it is not a print of the kit -/
import Derived.Test.YtjfnhhfgjomliaaQx0
import Derived.Test.YtjfnhhfgjomliaaQx5
import Derived.Test.YtjfnhhfgjomliaaQx6
namespace Go.Proofs.Ytjfnhhfgjomliaa.Q
open Go.RowKit Go.Proofs.YtjfnhhfgjomliaaW.PrintWords Go.Proofs.YtjfnhhfgjomliaaW.PrintLast Go.Proofs.YtjfnhhfgjomliaaW.PrintMore
attribute [local go_sem] max2_int min2_int max_two min_two max_three min_three max_four min_four   -- for this text's walks alone
set_option linter.unusedVariables false
set_option linter.unusedSimpArgs false

/-! ### comptrollerlaw04_SplitEven: function 7 -/
mutual
def comptrollerlaw04_SplitEven.l0 : Nat → Int → Int → List Int → Int → Int → Option (Bool)
 | 0, _, _, _, _, _ => none
 | k + 1, x0, x5, x6, x21, x22 => if x22 < x21 then (if 0 ≤ x22 then (if x22 < (x6.length : Int) then (comptrollerlaw04_SplitEven.l0 k x0 x5 (x6.set (x22 : Int).toNat 7) x21 (wrap64 (x22 + 1))) else (none)) else (none)) else ((split_By.f k x0 x6).bind fun bt390 => (if bt390.2 = 0 then (comptrollerlaw04_SplitEven.j1 k x0 x5 bt390.1 ((bt390.1.length : Int) != x5)) else (comptrollerlaw04_SplitEven.j1 k x0 x5 bt390.1 true)))
def comptrollerlaw04_SplitEven.j1 : Nat → Int → Int → List Int → Bool → Option (Bool)
 | 0, _, _, _, _ => none
 | k + 1, x0, x5, x8, x42 => if x42 = true then (some false) else (comptrollerlaw04_SplitEven.l1 k x0 x5 x8 1)
def comptrollerlaw04_SplitEven.l1 : Nat → Int → Int → List Int → Int → Option (Bool)
 | 0, _, _, _, _ => none
 | k + 1, x0, x5, x8, x10 => if x10 < x5 then (if 0 ≤ (wrap64 (x10 - 1)) then (if (wrap64 (x10 - 1)) < (x8.length : Int) then (if 0 ≤ x10 then (if x10 < (x8.length : Int) then (if x0 ≥ 0 then (if (wrap64 ((rd x8 (wrap64 (x10 - 1))) - (rd x8 x10))) < 0 then (some false) else (if 0 < (x8.length : Int) then (if (wrap64 ((rd x8 0) - (rd x8 x10))) > 1 then (some false) else (if x0 < 0 then (if (wrap64 ((rd x8 (wrap64 (x10 - 1))) - (rd x8 x10))) > 0 then (some false) else (if (wrap64 ((rd x8 0) - (rd x8 x10))) < (-1) then (some false) else (comptrollerlaw04_SplitEven.l1 k x0 x5 x8 (wrap64 (x10 + 1))))) else (comptrollerlaw04_SplitEven.l1 k x0 x5 x8 (wrap64 (x10 + 1))))) else (none))) else (if x0 < 0 then (if (wrap64 ((rd x8 (wrap64 (x10 - 1))) - (rd x8 x10))) > 0 then (some false) else (if 0 < (x8.length : Int) then (if (wrap64 ((rd x8 0) - (rd x8 x10))) < (-1) then (some false) else (comptrollerlaw04_SplitEven.l1 k x0 x5 x8 (wrap64 (x10 + 1)))) else (none))) else (comptrollerlaw04_SplitEven.l1 k x0 x5 x8 (wrap64 (x10 + 1))))) else (none)) else (none)) else (none)) else (none)) else (some true)
end
def comptrollerlaw04_SplitEven.f (k : Nat) (a0 : Int) (a1 : Int) : Option (Bool) := (comptrollerlaw04_alive.f k).bind fun t385 => (if t385 = true then (if 0 ≤ (wrap64 ((Int.tmod (wrap64 (a1)) 100) + 1)) then (if (wrap64 ((Int.tmod (wrap64 (a1)) 100) + 1) : Int).toNat ≤ 35184372088832 then ((some (List.replicate (wrap64 ((Int.tmod (wrap64 (a1)) 100) + 1) : Int).toNat 0 : List Int)).bind fun y386 => (comptrollerlaw04_SplitEven.l0 k a0 (wrap64 ((Int.tmod (wrap64 (a1)) 100) + 1)) y386 (y386.length : Int) 0)) else (none)) else (none)) else (some false))
theorem comptrollerlaw04_SplitEven.mono_l : ∀ k, (∀ y0 y1 y2 y3 y4, LeO (comptrollerlaw04_SplitEven.l0 k y0 y1 y2 y3 y4) (comptrollerlaw04_SplitEven.l0 (k + 1) y0 y1 y2 y3 y4)) ∧ (∀ y0 y1 y2 y3, LeO (comptrollerlaw04_SplitEven.j1 k y0 y1 y2 y3) (comptrollerlaw04_SplitEven.j1 (k + 1) y0 y1 y2 y3)) ∧ (∀ y0 y1 y2 y3, LeO (comptrollerlaw04_SplitEven.l1 k y0 y1 y2 y3) (comptrollerlaw04_SplitEven.l1 (k + 1) y0 y1 y2 y3))
 | 0 => ⟨fun _ _ _ _ _ r h => by simp [comptrollerlaw04_SplitEven.l0] at h, fun _ _ _ _ r h => by simp [comptrollerlaw04_SplitEven.j1] at h, fun _ _ _ _ r h => by simp [comptrollerlaw04_SplitEven.l1] at h⟩
 | k + 1 => by
  obtain ⟨ih0, ih1, ih2⟩ := comptrollerlaw04_SplitEven.mono_l k
  refine ⟨?_, ?_, ?_⟩
  ·intro y0 y1 y2 y3 y4
   unfold comptrollerlaw04_SplitEven.l0
   repeat' first
   | (with_reducible exact ih0 _ _ _ _ _)
   | (with_reducible exact ih1 _ _ _ _)
   | (with_reducible exact ih2 _ _ _ _)
   | (with_reducible exact comptrollerlaw04_alive.mono _)
   | (with_reducible exact split_By.mono _ _ _)
   | (with_reducible exact LeO.refl _)
   | (with_reducible exact LeO.none _)
   | (with_reducible refine LeO.ite ?_ ?_)
   | (with_reducible refine LeO.bind ?_ (fun _ => ?_))
   | exact ih0 _ _ _ _ _
   | exact ih1 _ _ _ _
   | exact ih2 _ _ _ _
   | exact comptrollerlaw04_alive.mono _
   | exact split_By.mono _ _ _
   | exact LeO.none _
   | refine LeO.ite ?_ ?_
   | refine LeO.bind ?_ (fun _ => ?_)
  ·intro y0 y1 y2 y3
   unfold comptrollerlaw04_SplitEven.j1
   repeat' first
   | (with_reducible exact ih0 _ _ _ _ _)
   | (with_reducible exact ih1 _ _ _ _)
   | (with_reducible exact ih2 _ _ _ _)
   | (with_reducible exact comptrollerlaw04_alive.mono _)
   | (with_reducible exact split_By.mono _ _ _)
   | (with_reducible exact LeO.refl _)
   | (with_reducible exact LeO.none _)
   | (with_reducible refine LeO.ite ?_ ?_)
   | (with_reducible refine LeO.bind ?_ (fun _ => ?_))
   | exact ih0 _ _ _ _ _
   | exact ih1 _ _ _ _
   | exact ih2 _ _ _ _
   | exact comptrollerlaw04_alive.mono _
   | exact split_By.mono _ _ _
   | exact LeO.none _
   | refine LeO.ite ?_ ?_
   | refine LeO.bind ?_ (fun _ => ?_)
  ·intro y0 y1 y2 y3
   unfold comptrollerlaw04_SplitEven.l1
   repeat' first
   | (with_reducible exact ih0 _ _ _ _ _)
   | (with_reducible exact ih1 _ _ _ _)
   | (with_reducible exact ih2 _ _ _ _)
   | (with_reducible exact comptrollerlaw04_alive.mono _)
   | (with_reducible exact split_By.mono _ _ _)
   | (with_reducible exact LeO.refl _)
   | (with_reducible exact LeO.none _)
   | (with_reducible refine LeO.ite ?_ ?_)
   | (with_reducible refine LeO.bind ?_ (fun _ => ?_))
   | exact ih0 _ _ _ _ _
   | exact ih1 _ _ _ _
   | exact ih2 _ _ _ _
   | exact comptrollerlaw04_alive.mono _
   | exact split_By.mono _ _ _
   | exact LeO.none _
   | refine LeO.ite ?_ ?_
   | refine LeO.bind ?_ (fun _ => ?_)
theorem comptrollerlaw04_SplitEven.mono : ∀ a0 a1 k, LeO (comptrollerlaw04_SplitEven.f k a0 a1) (comptrollerlaw04_SplitEven.f (k + 1) a0 a1) := by
 intro a0 a1 k
 obtain ⟨ih0, ih1, ih2⟩ := comptrollerlaw04_SplitEven.mono_l k
 unfold comptrollerlaw04_SplitEven.f
 repeat' first
   | (with_reducible exact ih0 _ _ _ _ _)
   | (with_reducible exact ih1 _ _ _ _)
   | (with_reducible exact ih2 _ _ _ _)
   | (with_reducible exact comptrollerlaw04_alive.mono _)
   | (with_reducible exact split_By.mono _ _ _)
   | (with_reducible exact LeO.refl _)
   | (with_reducible exact LeO.none _)
   | (with_reducible refine LeO.ite ?_ ?_)
   | (with_reducible refine LeO.bind ?_ (fun _ => ?_))
   | exact ih0 _ _ _ _ _
   | exact ih1 _ _ _ _
   | exact ih2 _ _ _ _
   | exact comptrollerlaw04_alive.mono _
   | exact split_By.mono _ _ _
   | exact LeO.none _
   | refine LeO.ite ?_ ?_
   | refine LeO.bind ?_ (fun _ => ?_)
set_option maxHeartbeats 8000000 in
set_option maxRecDepth 100000 in
theorem comptrollerlaw04_SplitEven.calls (k : Nat) (a0 : Int) (a1 : Int) (r : Bool) (w : World) (h : comptrollerlaw04_SplitEven.f k a0 a1 = some r) :
  Calls Try.prog 7 #[.int .i64 a0, .int .u8 a1] w fun e w' => e = .returned (.bool r) ∧ Below w.heap.size w w' := by
 have HB := Aside0.mk (Below.refl w.heap.size w)
 have H : ((comptrollerlaw04_alive.f k).bind fun t385 => (if t385 = true then (if 0 ≤ (wrap64 ((Int.tmod (wrap64 (a1)) 100) + 1)) then (if (wrap64 ((Int.tmod (wrap64 (a1)) 100) + 1) : Int).toNat ≤ 35184372088832 then ((some (List.replicate (wrap64 ((Int.tmod (wrap64 (a1)) 100) + 1) : Int).toNat 0 : List Int)).bind fun y386 => (comptrollerlaw04_SplitEven.l0 k a0 (wrap64 ((Int.tmod (wrap64 (a1)) 100) + 1)) y386 (y386.length : Int) 0)) else (none)) else (none)) else (some false))) = some r := h
 clear h
 replace H := Option.bind_eq_some_iff.mp H
 obtain ⟨t385, A30, H⟩ := H
 replace H : (if t385 = true then (if 0 ≤ (wrap64 ((Int.tmod (wrap64 (a1)) 100) + 1)) then (if (wrap64 ((Int.tmod (wrap64 (a1)) 100) + 1) : Int).toNat ≤ 35184372088832 then ((some (List.replicate (wrap64 ((Int.tmod (wrap64 (a1)) 100) + 1) : Int).toNat 0 : List Int)).bind fun y386 => (comptrollerlaw04_SplitEven.l0 k a0 (wrap64 ((Int.tmod (wrap64 (a1)) 100) + 1)) y386 (y386.length : Int) 0)) else (none)) else (none)) else (some false)) = some r := H
 have A3 := Aside0.mk A30
 clear A30
 by_cases c4 : t385 = true
 ·subst c4
  have H1 : (if 0 ≤ (wrap64 ((Int.tmod (wrap64 (a1)) 100) + 1)) then (if (wrap64 ((Int.tmod (wrap64 (a1)) 100) + 1) : Int).toNat ≤ 35184372088832 then ((some (List.replicate (wrap64 ((Int.tmod (wrap64 (a1)) 100) + 1) : Int).toNat 0 : List Int)).bind fun y386 => (comptrollerlaw04_SplitEven.l0 k a0 (wrap64 ((Int.tmod (wrap64 (a1)) 100) + 1)) y386 (y386.length : Int) 0)) else (none)) else (none)) = some r := by rw [if_pos rfl] at H; exact H
  clear H
  have H := H1
  clear H1
  obtain ⟨ji5, hji5⟩ : ∃ j_ : Int, (wrap64 ((Int.tmod (wrap64 (a1)) 100) + 1)) = j_ := ⟨_, rfl⟩
  replace H : (if 0 ≤ (ji5) then (if (ji5 : Int).toNat ≤ 35184372088832 then ((some (List.replicate (ji5 : Int).toNat 0 : List Int)).bind fun y386 => (comptrollerlaw04_SplitEven.l0 k a0 ji5 y386 (y386.length : Int) 0)) else (none)) else (none)) = some r := by first | (rw [hji5] at H; exact H) | (simp only [hji5] at H ⊢; exact H)
  (try rw [hji5] at A3)
  have hji5w : (IntKind.i64.wrap ((Int.tmod (wrap64 (a1)) 100) + 1)) = ji5 := (i64_w _).trans hji5
  by_cases c6 : 0 ≤ (ji5)
  ·rw [if_pos c6] at H
   have c6b0 := eq_true c6
   have c6b1 : decide (0 ≤ (ji5)) = true := decide_eq_true c6
   clear c6
   by_cases c7 : (ji5 : Int).toNat ≤ 35184372088832
   ·rw [if_pos c7] at H
    have c7b0 := eq_true c7
    have c7b1 : decide ((ji5 : Int).toNat ≤ 35184372088832) = true := decide_eq_true c7
    clear c7
    obtain ⟨y386, hy386⟩ : ∃ y_ : List Int, y_ = (List.replicate (ji5 : Int).toNat 0) := ⟨_, rfl⟩
    replace H : (comptrollerlaw04_SplitEven.l0 k a0 ji5 y386 (y386.length : Int) 0) = some r := by first | (rw [hy386]; with_reducible exact H) | (have H2_ := (Option.bind_some _ _).symm.trans H; rw [hy386]; with_reducible exact H2_) | (have H2_ := (Option.bind_some _ _).symm.trans H; with_reducible exact H2_) | with_reducible exact H | (rw [hy386]; exact H) | exact H
    have Ny386 := Aside0.mk hy386
    clear hy386
    have H' := Aside0.mk H
    clear H
    go_enter Try.func7, Try.ntmps7
    go_wp2_with (first | (go_at_call 9; (with_reducible refine (comptrollerlaw04_alive.calls k  true _ A3.out).mono ?_); rintro e w8 ⟨rfl, hb⟩; have n0_ := Aside0.mk (below_step (by repeat (first | (with_reducible first | exact HB.out | apply below_alloc | apply pw_below_drewN | apply below_drew1) | exact HB.out)) hb); clear HB; have HB := n0_; clear n0_; (try clear hb); (try clear hb2); (try clear hk); (try clear hi)) | ((with_reducible refine gate_dst (N := 19) rfl ?_); (try (refine gate_guard (by rfl) ?_; dsimp only)); refine Kd.R_make (Kd.int .i64) _ 2 rfl (N := 19) rfl 22 _ _ rfl ji5 rfl rfl Try.underlying22 (.int .i64 0) 8 info2 rfl (by decide) (by omega) 0 (ok := fun _ => True) (okp := fun _ => True) rfl (fun _ hk => hk) trivial (of_decide_eq_true (by first | (with_reducible assumption) | assumption)) (Nat.le_trans (Nat.mul_le_mul_right _ (of_decide_eq_true (by first | (with_reducible assumption) | assumption) : ji5.toNat ≤ 35184372088832)) (by omega)) (Below.refl _ _) (Nat.le_refl _) ?_; intro v387 w9 ho10 hb hg_ hnew_; clear hg_ hnew_; (first | rw [← Ny386.out] at ho10 | (simp only [Int.reduceToNat] at ho10; rw [← Ny386.out] at ho10)); have n0_ := Aside0.mk (Kd.R_lower ho10 (below_size (by repeat (first | (with_reducible first | exact HB.out | apply below_alloc | apply pw_below_drewN | apply below_drew1) | exact HB.out)))); have n1_ := Aside0.mk (below_step (by repeat (first | (with_reducible first | exact HB.out | apply below_alloc | apply pw_below_drewN | apply below_drew1) | exact HB.out)) hb); clear HB; have HO388 := n0_; have HB := n1_; clear n0_ n1_; clear hb ho10; obtain ⟨Ao11, co11, eo11⟩ := Kd.R_slice HO388.out; subst eo11))
    repeat (go_quiet (first | (go_at_call 9; (with_reducible refine (comptrollerlaw04_alive.calls k  true _ A3.out).mono ?_); rintro e w8 ⟨rfl, hb⟩; have n0_ := Aside0.mk (below_step (by repeat (first | (with_reducible first | exact HB.out | apply below_alloc | apply pw_below_drewN | apply below_drew1) | exact HB.out)) hb); clear HB; have HB := n0_; clear n0_; (try clear hb); (try clear hb2); (try clear hk); (try clear hi)) | ((with_reducible refine gate_dst (N := 19) rfl ?_); (try (refine gate_guard (by rfl) ?_; dsimp only)); refine Kd.R_make (Kd.int .i64) _ 2 rfl (N := 19) rfl 22 _ _ rfl ji5 rfl rfl Try.underlying22 (.int .i64 0) 8 info2 rfl (by decide) (by omega) 0 (ok := fun _ => True) (okp := fun _ => True) rfl (fun _ hk => hk) trivial (of_decide_eq_true (by first | (with_reducible assumption) | assumption)) (Nat.le_trans (Nat.mul_le_mul_right _ (of_decide_eq_true (by first | (with_reducible assumption) | assumption) : ji5.toNat ≤ 35184372088832)) (by omega)) (Below.refl _ _) (Nat.le_refl _) ?_; intro v387 w9 ho10 hb hg_ hnew_; clear hg_ hnew_; (first | rw [← Ny386.out] at ho10 | (simp only [Int.reduceToNat] at ho10; rw [← Ny386.out] at ho10)); have n0_ := Aside0.mk (Kd.R_lower ho10 (below_size (by repeat (first | (with_reducible first | exact HB.out | apply below_alloc | apply pw_below_drewN | apply below_drew1) | exact HB.out)))); have n1_ := Aside0.mk (below_step (by repeat (first | (with_reducible first | exact HB.out | apply below_alloc | apply pw_below_drewN | apply below_drew1) | exact HB.out)) hb); clear HB; have HO388 := n0_; have HB := n1_; clear n0_ n1_; clear hb ho10; obtain ⟨Ao11, co11, eo11⟩ := Kd.R_slice HO388.out; subst eo11)); try go_wp2_with (first | (go_at_call 9; (with_reducible refine (comptrollerlaw04_alive.calls k  true _ A3.out).mono ?_); rintro e w8 ⟨rfl, hb⟩; have n0_ := Aside0.mk (below_step (by repeat (first | (with_reducible first | exact HB.out | apply below_alloc | apply pw_below_drewN | apply below_drew1) | exact HB.out)) hb); clear HB; have HB := n0_; clear n0_; (try clear hb); (try clear hb2); (try clear hk); (try clear hi)) | ((with_reducible refine gate_dst (N := 19) rfl ?_); (try (refine gate_guard (by rfl) ?_; dsimp only)); refine Kd.R_make (Kd.int .i64) _ 2 rfl (N := 19) rfl 22 _ _ rfl ji5 rfl rfl Try.underlying22 (.int .i64 0) 8 info2 rfl (by decide) (by omega) 0 (ok := fun _ => True) (okp := fun _ => True) rfl (fun _ hk => hk) trivial (of_decide_eq_true (by first | (with_reducible assumption) | assumption)) (Nat.le_trans (Nat.mul_le_mul_right _ (of_decide_eq_true (by first | (with_reducible assumption) | assumption) : ji5.toNat ≤ 35184372088832)) (by omega)) (Below.refl _ _) (Nat.le_refl _) ?_; intro v387 w9 ho10 hb hg_ hnew_; clear hg_ hnew_; (first | rw [← Ny386.out] at ho10 | (simp only [Int.reduceToNat] at ho10; rw [← Ny386.out] at ho10)); have n0_ := Aside0.mk (Kd.R_lower ho10 (below_size (by repeat (first | (with_reducible first | exact HB.out | apply below_alloc | apply pw_below_drewN | apply below_drew1) | exact HB.out)))); have n1_ := Aside0.mk (below_step (by repeat (first | (with_reducible first | exact HB.out | apply below_alloc | apply pw_below_drewN | apply below_drew1) | exact HB.out)) hb); clear HB; have HO388 := n0_; have HB := n1_; clear n0_ n1_; clear hb ho10; obtain ⟨Ao11, co11, eo11⟩ := Kd.R_slice HO388.out; subst eo11)))
    go_loopg [22] k (fun kq v22 w' => ∃ (x6_1 : List Int) (x22_1 : Int), v22 = .int .i64 x22_1 ∧ Aside0 (comptrollerlaw04_SplitEven.l0 kq a0 ji5 x6_1 (y386.length : Int) x22_1 = some r) ∧ Aside0 (kq ≤ k) ∧ Aside0 (Kd.R (Kd.int .i64) 2 w' w.heap.size (fun _ => True) (.slice Ao11 y386.length co11) x6_1) ∧ Aside0 (Below w.heap.size w w'))
    case atStart => exact ⟨(y386), (0), (by first | rfl | (simp; done) | (simp [*]; done)), H', ⟨Nat.le_refl _⟩, ⟨by (with_reducible repeat (first | apply Kd.R_alloc | apply Kd.R_drewN | apply Kd.R_drew)); exact HO388.out⟩, ⟨by repeat (first | (with_reducible first | exact HB.out | apply below_alloc | apply pw_below_drewN | apply below_drew1) | exact HB.out)⟩⟩
    case round =>
     clear H'
     try clear p2
     try clear c4
     try clear c6
     try clear c6b0
     try clear c6b1
     try clear p6
     try clear c7
     try clear c7b0
     try clear c7b1
     obtain ⟨x6_1, x22_1, rfl, HA, HK1, HO_6, HB⟩ := hrel
     have hl6_1 := (Kd.R_reads' HO_6.out).1
     rw [hl6_1] at HO_6
     (try simp only [hl6_1])
     cases gk with
     | zero => exact absurd HA.out (by simp [comptrollerlaw04_SplitEven.l0])
     | succ k1 =>
      have H := HA.out
      clear HA
      simp only [comptrollerlaw04_SplitEven.l0] at H
      by_cases c12 : x22_1 < (y386.length : Int)
      ·rw [if_pos c12] at H
       have c12b0 : decide (x22_1 < (y386.length : Int)) = true := decide_eq_true c12
       (try (have c12b0h := c12b0; simp only [hl6_1] at c12b0h))
       clear c12
       by_cases c13 : 0 ≤ x22_1
       ·rw [if_pos c13] at H
        have c13b0 : decide (0 ≤ x22_1) = true := decide_eq_true c13
        clear c13
        by_cases c14 : x22_1 < (x6_1.length : Int)
        ·rw [if_pos c14] at H
         have c14b0 : decide (x22_1 < (x6_1.length : Int)) = true := decide_eq_true c14
         (try (have c14b0h := c14b0; simp only [hl6_1] at c14b0h))
         clear c14
         obtain ⟨y389, hy389⟩ : ∃ y_ : List Int, y_ = (x6_1.set (x22_1 : Int).toNat 7) := ⟨_, rfl⟩
         replace H : (comptrollerlaw04_SplitEven.l0 k1 a0 ji5 y389 (y386.length : Int) (wrap64 (x22_1 + 1))) = some r := by first | (rw [hy389]; with_reducible exact H) | (have H2_ := (Option.bind_some _ _).symm.trans H; rw [hy389]; with_reducible exact H2_) | (have H2_ := (Option.bind_some _ _).symm.trans H; with_reducible exact H2_) | with_reducible exact H | (rw [hy389]; exact H) | exact H
         have Ny389 := Aside0.mk hy389
         clear hy389
         have H' := Aside0.mk H
         clear H
         have p15 : 0 ≤ (x22_1 : Int) := of_decide_eq_true (by first | (with_reducible assumption) | assumption)
         have q15 : (x22_1 : Int) < ((x6_1.length : Int) : Int) := of_decide_eq_true (by first | (with_reducible assumption) | assumption)
         obtain ⟨go15, co15, eo15, gb15, gl15, cl15, HG15⟩ := Kd.R_form HO_6.out (by omega)
         (first | cases eo15 | (injection eo15 with ea_ en_ ec_; (first | subst ea_ | (injection ea_ with ea_; subst ea_)); subst ec_; clear en_))
         have GB15 := Aside0.mk gb15
         have GG15 := Aside0.mk HG15
         clear gb15 gl15 HG15
         obtain ⟨hx15_0, hf15_0⟩ := Kd.R_celln 0 HO_6.out (x22_1 : Int) p15 q15
         replace p15 := eq_true p15
         replace q15 := eq_true q15
         have HP16 := Kd.R_putg HO_6.out (x22_1 : Int) 7
         go_wp2_with (first | ((with_reducible refine gate_store (t := 2) (p := 27) rfl ?_); (try (rw [drewN_self wr]; generalize hq_ : World.drewN wr _ = wr; have n0_ := Aside0.mk (Kd.R_at hq_ HO_6.out); have n1_ := Aside0.mk (below_at hq_ HB.out); clear hq_ HO_6 HB; have HO_6 := n0_; have HB := n1_; clear n0_ n1_; (try (have HP16 := Kd.R_putg HO_6.out (x22_1 : Int) 7)))); refine store_event (t := 2) (p := 27) (v := ?vo_w17) (w1 := (wr.setCell ⟨go15, (x22_1 : Int).toNat, none⟩ (.int .i64 7))) ?hg ?ho ?hn ?hr ?_; (case ho => rfl); (case hg => rfl); (case hn => rfl); (case hr => first | (go_simp; done) | (go_simp; rfl)); intro w17 hw; have hg : wr.grownBy w17 (some go15) := (by rw [hw]; exact HP16.2); have hp_ : Kd.R (Kd.int .i64) 2 w17 w.heap.size (fun _ => True) (.slice (some ⟨go15, 0, none⟩) x6_1.length co11) y389 := (by rw [hw, Ny389.out]; exact HP16.1); clear HP16; have n0_ := Aside0.mk (hp_); have n1_ := Aside0.mk ((by rw [hw]; exact below_set (HB.out) GB15.out : Below w.heap.size w w17)); clear HO_6; clear HB; have HO_6 := n0_; have HB := n1_; clear n0_ n1_; clear hg hw hp_))
         repeat (go_quiet (first | ((with_reducible refine gate_store (t := 2) (p := 27) rfl ?_); (try (rw [drewN_self wr]; generalize hq_ : World.drewN wr _ = wr; have n0_ := Aside0.mk (Kd.R_at hq_ HO_6.out); have n1_ := Aside0.mk (below_at hq_ HB.out); clear hq_ HO_6 HB; have HO_6 := n0_; have HB := n1_; clear n0_ n1_; (try (have HP16 := Kd.R_putg HO_6.out (x22_1 : Int) 7)))); refine store_event (t := 2) (p := 27) (v := ?vo_w17) (w1 := (wr.setCell ⟨go15, (x22_1 : Int).toNat, none⟩ (.int .i64 7))) ?hg ?ho ?hn ?hr ?_; (case ho => rfl); (case hg => rfl); (case hn => rfl); (case hr => first | (go_simp; done) | (go_simp; rfl)); intro w17 hw; have hg : wr.grownBy w17 (some go15) := (by rw [hw]; exact HP16.2); have hp_ : Kd.R (Kd.int .i64) 2 w17 w.heap.size (fun _ => True) (.slice (some ⟨go15, 0, none⟩) x6_1.length co11) y389 := (by rw [hw, Ny389.out]; exact HP16.1); clear HP16; have n0_ := Aside0.mk (hp_); have n1_ := Aside0.mk ((by rw [hw]; exact below_set (HB.out) GB15.out : Below w.heap.size w w17)); clear HO_6; clear HB; have HO_6 := n0_; have HB := n1_; clear n0_ n1_; clear hg hw hp_)); try go_wp2_with (first | ((with_reducible refine gate_store (t := 2) (p := 27) rfl ?_); (try (rw [drewN_self wr]; generalize hq_ : World.drewN wr _ = wr; have n0_ := Aside0.mk (Kd.R_at hq_ HO_6.out); have n1_ := Aside0.mk (below_at hq_ HB.out); clear hq_ HO_6 HB; have HO_6 := n0_; have HB := n1_; clear n0_ n1_; (try (have HP16 := Kd.R_putg HO_6.out (x22_1 : Int) 7)))); refine store_event (t := 2) (p := 27) (v := ?vo_w17) (w1 := (wr.setCell ⟨go15, (x22_1 : Int).toNat, none⟩ (.int .i64 7))) ?hg ?ho ?hn ?hr ?_; (case ho => rfl); (case hg => rfl); (case hn => rfl); (case hr => first | (go_simp; done) | (go_simp; rfl)); intro w17 hw; have hg : wr.grownBy w17 (some go15) := (by rw [hw]; exact HP16.2); have hp_ : Kd.R (Kd.int .i64) 2 w17 w.heap.size (fun _ => True) (.slice (some ⟨go15, 0, none⟩) x6_1.length co11) y389 := (by rw [hw, Ny389.out]; exact HP16.1); clear HP16; have n0_ := Aside0.mk (hp_); have n1_ := Aside0.mk ((by rw [hw]; exact below_set (HB.out) GB15.out : Below w.heap.size w w17)); clear HO_6; clear HB; have HO_6 := n0_; have HB := n1_; clear n0_ n1_; clear hg hw hp_)))
         (try simp only [← hl6_1])
         go_roundg k1
         case measure => have := HK1.out; omega
         case rel => exact ⟨(y389), (wrap64 (x22_1 + 1)), (by first | rfl | (simp; done) | (simp [*]; done)), H', ⟨by have := HK1.out; omega⟩, ⟨by (try simp only [hl6_1]); (with_reducible repeat (first | apply Kd.R_alloc | apply Kd.R_drewN | apply Kd.R_drew)); exact HO_6.out⟩, ⟨by repeat (first | (with_reducible first | exact HB.out | apply below_alloc | apply pw_below_drewN | apply below_drew1) | exact HB.out)⟩⟩
        ·rw [if_neg c14] at H
         exact absurd H (by simp)
       ·rw [if_neg c13] at H
        exact absurd H (by simp)
      ·rw [if_neg c12] at H
       have c12b0 : decide (x22_1 < (y386.length : Int)) = false := decide_eq_false c12
       (try (have c12b0h := c12b0; simp only [hl6_1] at c12b0h))
       clear c12
       replace H := Option.bind_eq_some_iff.mp H
       obtain ⟨⟨t390, t391⟩, A180, H⟩ := H
       replace H : (if t391 = 0 then (comptrollerlaw04_SplitEven.j1 k1 a0 ji5 t390 ((t390.length : Int) != ji5)) else (comptrollerlaw04_SplitEven.j1 k1 a0 ji5 t390 true)) = some r := H
       have A18 := Aside0.mk A180
       clear A180
       have HC19 := Aside0.mk H
       clear H
       go_upto_region 11 with (first | (go_at_call 10; (with_reducible refine (split_By.calls k1 a0 _ _ x6_1 t390 t391 _ ?side1 ?side2 A18.out).mono ?_); (case side1 => repeat (first | exact (Kd.R_reads' HO_6.out).2.2 | (with_reducible refine Kd.C_alloc ?_ _) | (with_reducible refine Kd.C_drewN ?_ _) | (with_reducible refine Kd.C_drew ?_))); (case side2 => exact (Kd.R_reads' HO_6.out).2.1); rintro e w20 ⟨v392, rfl, ho0, hb⟩; have n0_ := Aside0.mk (Kd.R_elder' (by (with_reducible repeat (first | apply Kd.R_alloc | apply Kd.R_drewN | apply Kd.R_drew)); exact HO_6.out) (Kd.R_base ho0) hb); have n1_ := Aside0.mk (Kd.R_lower (Kd.R_new' ho0 (Kd.R_lt (by (with_reducible repeat (first | apply Kd.R_alloc | apply Kd.R_drewN | apply Kd.R_drew)); exact HO_6.out))) (below_size (by repeat (first | (with_reducible first | exact HB.out | apply below_alloc | apply pw_below_drewN | apply below_drew1) | exact HB.out)))); have n2_ := Aside0.mk (below_step (by repeat (first | (with_reducible first | exact HB.out | apply below_alloc | apply pw_below_drewN | apply below_drew1) | exact HB.out)) hb); clear HO_6; clear HB; have HO_6 := n0_; have HO393 := n1_; have HB := n2_; clear n0_ n1_ n2_; (try clear hb); (try clear hb2); (try clear hk); (try clear hi); (try clear ho0)))
       repeat (go_quiet (first | (go_at_call 10; (with_reducible refine (split_By.calls k1 a0 _ _ x6_1 t390 t391 _ ?side1 ?side2 A18.out).mono ?_); (case side1 => repeat (first | exact (Kd.R_reads' HO_6.out).2.2 | (with_reducible refine Kd.C_alloc ?_ _) | (with_reducible refine Kd.C_drewN ?_ _) | (with_reducible refine Kd.C_drew ?_))); (case side2 => exact (Kd.R_reads' HO_6.out).2.1); rintro e w20 ⟨v392, rfl, ho0, hb⟩; have n0_ := Aside0.mk (Kd.R_elder' (by (with_reducible repeat (first | apply Kd.R_alloc | apply Kd.R_drewN | apply Kd.R_drew)); exact HO_6.out) (Kd.R_base ho0) hb); have n1_ := Aside0.mk (Kd.R_lower (Kd.R_new' ho0 (Kd.R_lt (by (with_reducible repeat (first | apply Kd.R_alloc | apply Kd.R_drewN | apply Kd.R_drew)); exact HO_6.out))) (below_size (by repeat (first | (with_reducible first | exact HB.out | apply below_alloc | apply pw_below_drewN | apply below_drew1) | exact HB.out)))); have n2_ := Aside0.mk (below_step (by repeat (first | (with_reducible first | exact HB.out | apply below_alloc | apply pw_below_drewN | apply below_drew1) | exact HB.out)) hb); clear HO_6; clear HB; have HO_6 := n0_; have HO393 := n1_; have HB := n2_; clear n0_ n1_ n2_; (try clear hb); (try clear hb2); (try clear hk); (try clear hi); (try clear ho0))); go_upto_region 11 with (first | (go_at_call 10; (with_reducible refine (split_By.calls k1 a0 _ _ x6_1 t390 t391 _ ?side1 ?side2 A18.out).mono ?_); (case side1 => repeat (first | exact (Kd.R_reads' HO_6.out).2.2 | (with_reducible refine Kd.C_alloc ?_ _) | (with_reducible refine Kd.C_drewN ?_ _) | (with_reducible refine Kd.C_drew ?_))); (case side2 => exact (Kd.R_reads' HO_6.out).2.1); rintro e w20 ⟨v392, rfl, ho0, hb⟩; have n0_ := Aside0.mk (Kd.R_elder' (by (with_reducible repeat (first | apply Kd.R_alloc | apply Kd.R_drewN | apply Kd.R_drew)); exact HO_6.out) (Kd.R_base ho0) hb); have n1_ := Aside0.mk (Kd.R_lower (Kd.R_new' ho0 (Kd.R_lt (by (with_reducible repeat (first | apply Kd.R_alloc | apply Kd.R_drewN | apply Kd.R_drew)); exact HO_6.out))) (below_size (by repeat (first | (with_reducible first | exact HB.out | apply below_alloc | apply pw_below_drewN | apply below_drew1) | exact HB.out)))); have n2_ := Aside0.mk (below_step (by repeat (first | (with_reducible first | exact HB.out | apply below_alloc | apply pw_below_drewN | apply below_drew1) | exact HB.out)) hb); clear HO_6; clear HB; have HO_6 := n0_; have HO393 := n1_; have HB := n2_; clear n0_ n1_ n2_; (try clear hb); (try clear hb2); (try clear hk); (try clear hi); (try clear ho0))))
       (try simp only [Act.put, List.setIfInBounds_toArray, List.set_cons_zero, List.set_cons_succ])
       go_cut [42] (fun v42 wc => ∃ (kq : Nat) (x42_18 : Bool), v42 = .bool x42_18 ∧ Aside0 (comptrollerlaw04_SplitEven.j1 kq a0 ji5 t390 x42_18 = some r) ∧ Aside0 (kq ≤ k1) ∧ Aside0 (Kd.R (Kd.int .i64) 2 wc w.heap.size (fun _ => True) v392 t390) ∧ Aside0 (Below w.heap.size w wc))
       case first =>
        have H := HC19.out
        clear HC19
        by_cases c21 : t391 = 0
        ·rw [if_pos c21] at H
         have c21b0 : (t391 == 0) = true := beq_iff_eq.mpr c21
         have c21b1 : (t391 != 0) = false := bne_eq_false_iff_eq.mpr c21
         clear c21
         (first | rw [c21b0] | (simp only [i64_w, i32_w]; rw [c21b0]) | skip)
         have H' := Aside0.mk H
         clear H
         obtain ⟨Ao22, co22, eo22⟩ := Kd.R_slice HO393.out
         subst eo22
         go_wp2
         repeat (go_quiet (fail); try go_wp2)
         go_meet
         case rel => exact ⟨_, (((t390.length : Int) != ji5)), (by first | rfl | (simp; done) | (simp only [← hji5] <;> (first | rfl | simp)) | (simp [*]; done)), H', ⟨by have := HK1.out; first | omega | exact Nat.le_refl _⟩, ⟨by (try simp only [hl6_1]); (with_reducible repeat (first | apply Kd.R_alloc | apply Kd.R_drewN | apply Kd.R_drew)); exact Kd.R_mono HO393.out (fun _ hk => trivial)⟩, ⟨by repeat (first | (with_reducible first | exact HB.out | apply below_alloc | apply pw_below_drewN | apply below_drew1) | exact HB.out)⟩⟩
        ·rw [if_neg c21] at H
         have c21b0 : (t391 == 0) = false := beq_eq_false_iff_ne.mpr c21
         have c21b1 : (t391 != 0) = true := bne_iff_ne.mpr c21
         (first | rw [c21b0] | (simp only [i64_w, i32_w]; rw [c21b0]) | skip)
         have H' := Aside0.mk H
         clear H
         go_wp2
         repeat (go_quiet (fail); try go_wp2)
         go_meet
         case rel => exact ⟨_, (true), (by first | rfl | (simp; done) | (simp [*]; done)), H', ⟨by have := HK1.out; first | omega | exact Nat.le_refl _⟩, ⟨by (try simp only [hl6_1]); (with_reducible repeat (first | apply Kd.R_alloc | apply Kd.R_drewN | apply Kd.R_drew)); exact Kd.R_mono HO393.out (fun _ hk => trivial)⟩, ⟨by repeat (first | (with_reducible first | exact HB.out | apply below_alloc | apply pw_below_drewN | apply below_drew1) | exact HB.out)⟩⟩
       case rest =>
        clear HC19
        try clear c1
        try clear p1
        try clear q1
        try clear hx1
        try clear c2
        try clear p2
        try clear c4
        try clear c6
        try clear c6b0
        try clear c6b1
        try clear p6
        try clear c7
        try clear c7b0
        try clear c7b1
        try clear c12
        try clear c12b0
        try clear c13
        try clear c13b0
        try clear c14
        try clear c14b0
        try clear p15
        try clear q15
        try clear hx15
        try clear hf15
        try clear c21
        try clear c21b0
        try clear c21b1
        try clear hx15_0
        try clear p15
        try clear p2
        try clear p6
        try clear q15
        obtain ⟨kq, x42_18, rfl, HA, HJ18, HO_8, HB⟩ := hcut
        cases kq with
        | zero => exact absurd HA.out (by simp [comptrollerlaw04_SplitEven.j1])
        | succ kj18 =>
         have H := HA.out
         clear HA
         simp only [comptrollerlaw04_SplitEven.j1] at H
         by_cases c23 : x42_18 = true
         ·subst c23
          have H1 : (some false) = some r := by rw [if_pos rfl] at H; exact H
          clear H
          have H := H1
          clear H1
          obtain rfl := Option.some.inj H
          go_wp2
          repeat (go_quiet (fail); try go_wp2)
          go_ret
          exact ⟨by first | rfl | (simp [errW_none, errW_some] <;> rfl) | (simp only [← hji5]; first | rfl | (simp [errW_none, errW_some] <;> rfl)) | (simp [*, errW_none, errW_some] <;> rfl), by repeat (first | (with_reducible first | exact HB.out | apply below_alloc | apply pw_below_drewN | apply below_drew1) | exact HB.out)⟩
         ·replace c23 := Bool.eq_false_iff.mpr c23
          subst c23
          have H1 : (comptrollerlaw04_SplitEven.l1 kj18 a0 ji5 t390 1) = some r := by rw [if_neg (show ¬ (false = true) by decide)] at H; exact H
          clear H
          have H := H1
          clear H1
          have H' := Aside0.mk H
          clear H
          go_wp2
          repeat (go_quiet (fail); try go_wp2)
          go_loopg [10] kj18 (fun kq v10 w' => ∃ (x10_3 : Int), v10 = .int .i64 x10_3 ∧ Aside0 (comptrollerlaw04_SplitEven.l1 kq a0 ji5 t390 x10_3 = some r) ∧ Aside0 (kq ≤ kj18) ∧ Aside0 (Kd.R (Kd.int .i64) 2 w' w.heap.size (fun _ => True) v392 t390) ∧ Aside0 (Below w.heap.size w w'))
          case atStart => exact ⟨(1), (by first | rfl | (simp; done) | (simp [*]; done)), H', ⟨Nat.le_refl _⟩, ⟨by (try simp only [hl6_1]); (with_reducible repeat (first | apply Kd.R_alloc | apply Kd.R_drewN | apply Kd.R_drew)); exact HO_8.out⟩, ⟨by repeat (first | (with_reducible first | exact HB.out | apply below_alloc | apply pw_below_drewN | apply below_drew1) | exact HB.out)⟩⟩
          case round =>
           clear H'
           try clear c1
           try clear p1
           try clear q1
           try clear hx1
           try clear c2
           try clear p2
           try clear c4
           try clear c6
           try clear c6b0
           try clear c6b1
           try clear p6
           try clear c7
           try clear c7b0
           try clear c7b1
           try clear c12
           try clear c12b0
           try clear c13
           try clear c13b0
           try clear c14
           try clear c14b0
           try clear p15
           try clear q15
           try clear hx15
           try clear hf15
           try clear c21
           try clear c21b0
           try clear c21b1
           try clear c23
           try clear hx15_0
           try clear p1
           try clear p15
           try clear p2
           try clear p6
           try clear q1
           try clear q15
           obtain ⟨x10_3, rfl, HA, HK3, HO_8, HB⟩ := hrel
           cases gk with
           | zero => exact absurd HA.out (by simp [comptrollerlaw04_SplitEven.l1])
           | succ k3 =>
            have H := HA.out
            clear HA
            simp only [comptrollerlaw04_SplitEven.l1] at H
            by_cases c24 : x10_3 < ji5
            ·rw [if_pos c24] at H
             have c24b0 : decide (x10_3 < ji5) = true := decide_eq_true c24
             clear c24
             obtain ⟨ji25, hji25⟩ : ∃ j_ : Int, (wrap64 (x10_3 - 1)) = j_ := ⟨_, rfl⟩
             replace H : (if 0 ≤ (ji25) then (if (ji25) < (t390.length : Int) then (if 0 ≤ x10_3 then (if x10_3 < (t390.length : Int) then (if a0 ≥ 0 then (if (wrap64 ((rd t390 (ji25)) - (rd t390 x10_3))) < 0 then (some false) else (if 0 < (t390.length : Int) then (if (wrap64 ((rd t390 0) - (rd t390 x10_3))) > 1 then (some false) else (if a0 < 0 then (if (wrap64 ((rd t390 (ji25)) - (rd t390 x10_3))) > 0 then (some false) else (if (wrap64 ((rd t390 0) - (rd t390 x10_3))) < (-1) then (some false) else (comptrollerlaw04_SplitEven.l1 k3 a0 ji5 t390 (wrap64 (x10_3 + 1))))) else (comptrollerlaw04_SplitEven.l1 k3 a0 ji5 t390 (wrap64 (x10_3 + 1))))) else (none))) else (if a0 < 0 then (if (wrap64 ((rd t390 (ji25)) - (rd t390 x10_3))) > 0 then (some false) else (if 0 < (t390.length : Int) then (if (wrap64 ((rd t390 0) - (rd t390 x10_3))) < (-1) then (some false) else (comptrollerlaw04_SplitEven.l1 k3 a0 ji5 t390 (wrap64 (x10_3 + 1)))) else (none))) else (comptrollerlaw04_SplitEven.l1 k3 a0 ji5 t390 (wrap64 (x10_3 + 1))))) else (none)) else (none)) else (none)) else (none)) = some r := by first | (rw [hji25] at H; exact H) | (simp only [hji25] at H ⊢; exact H)
             have hji25w : (IntKind.i64.wrap (x10_3 - 1)) = ji25 := (i64_w _).trans hji25
             (try rw [hji25] at hji5)
             (try rw [hji25] at hji5w)
             by_cases c26 : 0 ≤ (ji25)
             ·rw [if_pos c26] at H
              have c26b0 : decide (0 ≤ (ji25)) = true := decide_eq_true c26
              clear c26
              by_cases c27 : (ji25) < (t390.length : Int)
              ·rw [if_pos c27] at H
               have c27b0 : decide ((ji25) < (t390.length : Int)) = true := decide_eq_true c27
               (try (have c27b0h := c27b0; simp only [hl6_1] at c27b0h))
               clear c27
               by_cases c28 : 0 ≤ x10_3
               ·rw [if_pos c28] at H
                have c28b0 : decide (0 ≤ x10_3) = true := decide_eq_true c28
                clear c28
                by_cases c29 : x10_3 < (t390.length : Int)
                ·rw [if_pos c29] at H
                 have c29b0 : decide (x10_3 < (t390.length : Int)) = true := decide_eq_true c29
                 (try (have c29b0h := c29b0; simp only [hl6_1] at c29b0h))
                 clear c29
                 by_cases c30 : a0 ≥ 0
                 ·rw [if_pos c30] at H
                  have c30b0 : decide (0 ≤ a0) = true := decide_eq_true c30
                  clear c30
                  by_cases c31 : (wrap64 ((rd t390 (ji25)) - (rd t390 x10_3))) < 0
                  ·rw [if_pos c31] at H
                   have c31b0 : decide ((wrap64 ((rd t390 (ji25)) - (rd t390 x10_3))) < 0) = true := decide_eq_true c31
                   clear c31
                   obtain rfl := Option.some.inj H
                   obtain ⟨Ao32, co32, eo32⟩ := Kd.R_slice HO_8.out
                   subst eo32
                   have p394 : 0 ≤ ((ji25) : Int) := of_decide_eq_true (by first | (with_reducible assumption) | assumption)
                   have q394 : (ji25) < (t390.length : Int) := of_decide_eq_true (by first | (with_reducible assumption) | assumption)
                   obtain ⟨ad394, e394, hx394_0⟩ := Kd.at_int (Kd.R_reads' HO_8.out).2.2 (ji25) p394 q394
                   cases e394
                   replace p394 := eq_true p394
                   replace q394 := eq_true q394
                   have p395 : 0 ≤ (x10_3 : Int) := of_decide_eq_true (by first | (with_reducible assumption) | assumption)
                   have q395 : x10_3 < (t390.length : Int) := of_decide_eq_true (by first | (with_reducible assumption) | assumption)
                   obtain ⟨ad395, e395, hx395_0⟩ := Kd.at_int (Kd.R_reads' HO_8.out).2.2 x10_3 p395 q395
                   obtain rfl : ad394 = ad395 := (by injection e395)
                   replace p395 := eq_true p395
                   replace q395 := eq_true q395
                   go_wp2
                   repeat (go_quiet (fail); try go_wp2)
                   go_ret
                   exact ⟨by first | rfl | (simp [errW_none, errW_some] <;> rfl) | (simp only [← hji5, ← hji25]; first | rfl | (simp [errW_none, errW_some] <;> rfl)) | (simp [*, errW_none, errW_some] <;> rfl), by repeat (first | (with_reducible first | exact HB.out | apply below_alloc | apply pw_below_drewN | apply below_drew1) | exact HB.out)⟩
                  ·rw [if_neg c31] at H
                   have c31b0 : decide ((wrap64 ((rd t390 (ji25)) - (rd t390 x10_3))) < 0) = false := decide_eq_false c31
                   clear c31
                   by_cases c33 : 0 < (t390.length : Int)
                   ·rw [if_pos c33] at H
                    have c33b0 : decide (0 < (t390.length : Int)) = true := decide_eq_true c33
                    (try (have c33b0h := c33b0; simp only [hl6_1] at c33b0h))
                    have c33b1 : decide (0 < t390.length) = true := decide_eq_true (by omega)
                    (try (have c33b1h := c33b1; simp only [hl6_1] at c33b1h))
                    clear c33
                    by_cases c34 : (wrap64 ((rd t390 0) - (rd t390 x10_3))) > 1
                    ·rw [if_pos c34] at H
                     have c34b0 : decide (1 < (wrap64 ((rd t390 0) - (rd t390 x10_3)))) = true := decide_eq_true c34
                     clear c34
                     obtain rfl := Option.some.inj H
                     obtain ⟨Ao35, co35, eo35⟩ := Kd.R_slice HO_8.out
                     subst eo35
                     have p394 : 0 ≤ ((ji25) : Int) := of_decide_eq_true (by first | (with_reducible assumption) | assumption)
                     have q394 : (ji25) < (t390.length : Int) := of_decide_eq_true (by first | (with_reducible assumption) | assumption)
                     obtain ⟨ad394, e394, hx394_0⟩ := Kd.at_int (Kd.R_reads' HO_8.out).2.2 (ji25) p394 q394
                     cases e394
                     replace p394 := eq_true p394
                     replace q394 := eq_true q394
                     have p395 : 0 ≤ (x10_3 : Int) := of_decide_eq_true (by first | (with_reducible assumption) | assumption)
                     have q395 : x10_3 < (t390.length : Int) := of_decide_eq_true (by first | (with_reducible assumption) | assumption)
                     obtain ⟨ad395, e395, hx395_0⟩ := Kd.at_int (Kd.R_reads' HO_8.out).2.2 x10_3 p395 q395
                     obtain rfl : ad394 = ad395 := (by injection e395)
                     replace p395 := eq_true p395
                     replace q395 := eq_true q395
                     have p396 : 0 ≤ (0 : Int) := (by omega)
                     have q396 : 0 < (t390.length : Int) := of_decide_eq_true (by first | (with_reducible assumption) | assumption)
                     obtain ⟨ad396, e396, hx396_0⟩ := Kd.at_int (Kd.R_reads' HO_8.out).2.2 0 p396 q396
                     obtain rfl : ad394 = ad396 := (by injection e396)
                     have qi396 : (0 < t390.length) = True := eq_true (by omega)
                     (try rw [show ((0 : Int)).toNat = 0 from rfl] at hx396_0)
                     (try rw [Addr.add_zero'] at hx396_0)
                     replace p396 := eq_true p396
                     replace q396 := eq_true q396
                     have p397 : 0 ≤ (x10_3 : Int) := of_decide_eq_true (by first | (with_reducible assumption) | assumption)
                     have q397 : x10_3 < (t390.length : Int) := of_decide_eq_true (by first | (with_reducible assumption) | assumption)
                     obtain ⟨ad397, e397, hx397_0⟩ := Kd.at_int (Kd.R_reads' HO_8.out).2.2 x10_3 p397 q397
                     obtain rfl : ad394 = ad397 := (by injection e397)
                     replace p397 := eq_true p397
                     replace q397 := eq_true q397
                     go_wp2
                     repeat (go_quiet (fail); try go_wp2)
                     go_ret
                     exact ⟨by first | rfl | (simp [errW_none, errW_some] <;> rfl) | (simp only [← hji5, ← hji25]; first | rfl | (simp [errW_none, errW_some] <;> rfl)) | (simp [*, errW_none, errW_some] <;> rfl), by repeat (first | (with_reducible first | exact HB.out | apply below_alloc | apply pw_below_drewN | apply below_drew1) | exact HB.out)⟩
                    ·rw [if_neg c34] at H
                     have c34b0 : decide (1 < (wrap64 ((rd t390 0) - (rd t390 x10_3)))) = false := decide_eq_false c34
                     clear c34
                     by_cases c36 : a0 < 0
                     ·rw [if_pos c36] at H
                      have c36b0 : decide (a0 < 0) = true := decide_eq_true c36
                      clear c36
                      by_cases c37 : (wrap64 ((rd t390 (ji25)) - (rd t390 x10_3))) > 0
                      ·rw [if_pos c37] at H
                       have c37b0 : decide (0 < (wrap64 ((rd t390 (ji25)) - (rd t390 x10_3)))) = true := decide_eq_true c37
                       clear c37
                       obtain rfl := Option.some.inj H
                       obtain ⟨Ao38, co38, eo38⟩ := Kd.R_slice HO_8.out
                       subst eo38
                       have p394 : 0 ≤ ((ji25) : Int) := of_decide_eq_true (by first | (with_reducible assumption) | assumption)
                       have q394 : (ji25) < (t390.length : Int) := of_decide_eq_true (by first | (with_reducible assumption) | assumption)
                       obtain ⟨ad394, e394, hx394_0⟩ := Kd.at_int (Kd.R_reads' HO_8.out).2.2 (ji25) p394 q394
                       cases e394
                       replace p394 := eq_true p394
                       replace q394 := eq_true q394
                       have p395 : 0 ≤ (x10_3 : Int) := of_decide_eq_true (by first | (with_reducible assumption) | assumption)
                       have q395 : x10_3 < (t390.length : Int) := of_decide_eq_true (by first | (with_reducible assumption) | assumption)
                       obtain ⟨ad395, e395, hx395_0⟩ := Kd.at_int (Kd.R_reads' HO_8.out).2.2 x10_3 p395 q395
                       obtain rfl : ad394 = ad395 := (by injection e395)
                       replace p395 := eq_true p395
                       replace q395 := eq_true q395
                       have p396 : 0 ≤ (0 : Int) := (by omega)
                       have q396 : 0 < (t390.length : Int) := of_decide_eq_true (by first | (with_reducible assumption) | assumption)
                       obtain ⟨ad396, e396, hx396_0⟩ := Kd.at_int (Kd.R_reads' HO_8.out).2.2 0 p396 q396
                       obtain rfl : ad394 = ad396 := (by injection e396)
                       have qi396 : (0 < t390.length) = True := eq_true (by omega)
                       (try rw [show ((0 : Int)).toNat = 0 from rfl] at hx396_0)
                       (try rw [Addr.add_zero'] at hx396_0)
                       replace p396 := eq_true p396
                       replace q396 := eq_true q396
                       have p397 : 0 ≤ (x10_3 : Int) := of_decide_eq_true (by first | (with_reducible assumption) | assumption)
                       have q397 : x10_3 < (t390.length : Int) := of_decide_eq_true (by first | (with_reducible assumption) | assumption)
                       obtain ⟨ad397, e397, hx397_0⟩ := Kd.at_int (Kd.R_reads' HO_8.out).2.2 x10_3 p397 q397
                       obtain rfl : ad394 = ad397 := (by injection e397)
                       replace p397 := eq_true p397
                       replace q397 := eq_true q397
                       go_wp2
                       repeat (go_quiet (fail); try go_wp2)
                       go_ret
                       exact ⟨by first | rfl | (simp [errW_none, errW_some] <;> rfl) | (simp only [← hji5, ← hji25]; first | rfl | (simp [errW_none, errW_some] <;> rfl)) | (simp [*, errW_none, errW_some] <;> rfl), by repeat (first | (with_reducible first | exact HB.out | apply below_alloc | apply pw_below_drewN | apply below_drew1) | exact HB.out)⟩
                      ·rw [if_neg c37] at H
                       have c37b0 : decide (0 < (wrap64 ((rd t390 (ji25)) - (rd t390 x10_3)))) = false := decide_eq_false c37
                       clear c37
                       by_cases c39 : (wrap64 ((rd t390 0) - (rd t390 x10_3))) < (-1)
                       ·rw [if_pos c39] at H
                        have c39b0 : decide ((wrap64 ((rd t390 0) - (rd t390 x10_3))) < (-1)) = true := decide_eq_true c39
                        clear c39
                        obtain rfl := Option.some.inj H
                        obtain ⟨Ao40, co40, eo40⟩ := Kd.R_slice HO_8.out
                        subst eo40
                        have p394 : 0 ≤ ((ji25) : Int) := of_decide_eq_true (by first | (with_reducible assumption) | assumption)
                        have q394 : (ji25) < (t390.length : Int) := of_decide_eq_true (by first | (with_reducible assumption) | assumption)
                        obtain ⟨ad394, e394, hx394_0⟩ := Kd.at_int (Kd.R_reads' HO_8.out).2.2 (ji25) p394 q394
                        cases e394
                        replace p394 := eq_true p394
                        replace q394 := eq_true q394
                        have p395 : 0 ≤ (x10_3 : Int) := of_decide_eq_true (by first | (with_reducible assumption) | assumption)
                        have q395 : x10_3 < (t390.length : Int) := of_decide_eq_true (by first | (with_reducible assumption) | assumption)
                        obtain ⟨ad395, e395, hx395_0⟩ := Kd.at_int (Kd.R_reads' HO_8.out).2.2 x10_3 p395 q395
                        obtain rfl : ad394 = ad395 := (by injection e395)
                        replace p395 := eq_true p395
                        replace q395 := eq_true q395
                        have p396 : 0 ≤ (0 : Int) := (by omega)
                        have q396 : 0 < (t390.length : Int) := of_decide_eq_true (by first | (with_reducible assumption) | assumption)
                        obtain ⟨ad396, e396, hx396_0⟩ := Kd.at_int (Kd.R_reads' HO_8.out).2.2 0 p396 q396
                        obtain rfl : ad394 = ad396 := (by injection e396)
                        have qi396 : (0 < t390.length) = True := eq_true (by omega)
                        (try rw [show ((0 : Int)).toNat = 0 from rfl] at hx396_0)
                        (try rw [Addr.add_zero'] at hx396_0)
                        replace p396 := eq_true p396
                        replace q396 := eq_true q396
                        have p397 : 0 ≤ (x10_3 : Int) := of_decide_eq_true (by first | (with_reducible assumption) | assumption)
                        have q397 : x10_3 < (t390.length : Int) := of_decide_eq_true (by first | (with_reducible assumption) | assumption)
                        obtain ⟨ad397, e397, hx397_0⟩ := Kd.at_int (Kd.R_reads' HO_8.out).2.2 x10_3 p397 q397
                        obtain rfl : ad394 = ad397 := (by injection e397)
                        replace p397 := eq_true p397
                        replace q397 := eq_true q397
                        have p398 : 0 ≤ (0 : Int) := (by omega)
                        have q398 : 0 < (t390.length : Int) := of_decide_eq_true (by first | (with_reducible assumption) | assumption)
                        obtain ⟨ad398, e398, hx398_0⟩ := Kd.at_int (Kd.R_reads' HO_8.out).2.2 0 p398 q398
                        obtain rfl : ad394 = ad398 := (by injection e398)
                        have qi398 : (0 < t390.length) = True := eq_true (by omega)
                        (try rw [show ((0 : Int)).toNat = 0 from rfl] at hx398_0)
                        (try rw [Addr.add_zero'] at hx398_0)
                        replace p398 := eq_true p398
                        replace q398 := eq_true q398
                        have p399 : 0 ≤ (x10_3 : Int) := of_decide_eq_true (by first | (with_reducible assumption) | assumption)
                        have q399 : x10_3 < (t390.length : Int) := of_decide_eq_true (by first | (with_reducible assumption) | assumption)
                        obtain ⟨ad399, e399, hx399_0⟩ := Kd.at_int (Kd.R_reads' HO_8.out).2.2 x10_3 p399 q399
                        obtain rfl : ad394 = ad399 := (by injection e399)
                        replace p399 := eq_true p399
                        replace q399 := eq_true q399
                        go_wp2
                        repeat (go_quiet (fail); try go_wp2)
                        go_ret
                        exact ⟨by first | rfl | (simp [errW_none, errW_some] <;> rfl) | (simp only [← hji5, ← hji25]; first | rfl | (simp [errW_none, errW_some] <;> rfl)) | (simp [*, errW_none, errW_some] <;> rfl), by repeat (first | (with_reducible first | exact HB.out | apply below_alloc | apply pw_below_drewN | apply below_drew1) | exact HB.out)⟩
                       ·rw [if_neg c39] at H
                        have c39b0 : decide ((wrap64 ((rd t390 0) - (rd t390 x10_3))) < (-1)) = false := decide_eq_false c39
                        clear c39
                        have H' := Aside0.mk H
                        clear H
                        obtain ⟨Ao41, co41, eo41⟩ := Kd.R_slice HO_8.out
                        subst eo41
                        have p394 : 0 ≤ ((ji25) : Int) := of_decide_eq_true (by first | (with_reducible assumption) | assumption)
                        have q394 : (ji25) < (t390.length : Int) := of_decide_eq_true (by first | (with_reducible assumption) | assumption)
                        obtain ⟨ad394, e394, hx394_0⟩ := Kd.at_int (Kd.R_reads' HO_8.out).2.2 (ji25) p394 q394
                        cases e394
                        replace p394 := eq_true p394
                        replace q394 := eq_true q394
                        have p395 : 0 ≤ (x10_3 : Int) := of_decide_eq_true (by first | (with_reducible assumption) | assumption)
                        have q395 : x10_3 < (t390.length : Int) := of_decide_eq_true (by first | (with_reducible assumption) | assumption)
                        obtain ⟨ad395, e395, hx395_0⟩ := Kd.at_int (Kd.R_reads' HO_8.out).2.2 x10_3 p395 q395
                        obtain rfl : ad394 = ad395 := (by injection e395)
                        replace p395 := eq_true p395
                        replace q395 := eq_true q395
                        have p396 : 0 ≤ (0 : Int) := (by omega)
                        have q396 : 0 < (t390.length : Int) := of_decide_eq_true (by first | (with_reducible assumption) | assumption)
                        obtain ⟨ad396, e396, hx396_0⟩ := Kd.at_int (Kd.R_reads' HO_8.out).2.2 0 p396 q396
                        obtain rfl : ad394 = ad396 := (by injection e396)
                        have qi396 : (0 < t390.length) = True := eq_true (by omega)
                        (try rw [show ((0 : Int)).toNat = 0 from rfl] at hx396_0)
                        (try rw [Addr.add_zero'] at hx396_0)
                        replace p396 := eq_true p396
                        replace q396 := eq_true q396
                        have p397 : 0 ≤ (x10_3 : Int) := of_decide_eq_true (by first | (with_reducible assumption) | assumption)
                        have q397 : x10_3 < (t390.length : Int) := of_decide_eq_true (by first | (with_reducible assumption) | assumption)
                        obtain ⟨ad397, e397, hx397_0⟩ := Kd.at_int (Kd.R_reads' HO_8.out).2.2 x10_3 p397 q397
                        obtain rfl : ad394 = ad397 := (by injection e397)
                        replace p397 := eq_true p397
                        replace q397 := eq_true q397
                        have p398 : 0 ≤ (0 : Int) := (by omega)
                        have q398 : 0 < (t390.length : Int) := of_decide_eq_true (by first | (with_reducible assumption) | assumption)
                        obtain ⟨ad398, e398, hx398_0⟩ := Kd.at_int (Kd.R_reads' HO_8.out).2.2 0 p398 q398
                        obtain rfl : ad394 = ad398 := (by injection e398)
                        have qi398 : (0 < t390.length) = True := eq_true (by omega)
                        (try rw [show ((0 : Int)).toNat = 0 from rfl] at hx398_0)
                        (try rw [Addr.add_zero'] at hx398_0)
                        replace p398 := eq_true p398
                        replace q398 := eq_true q398
                        have p399 : 0 ≤ (x10_3 : Int) := of_decide_eq_true (by first | (with_reducible assumption) | assumption)
                        have q399 : x10_3 < (t390.length : Int) := of_decide_eq_true (by first | (with_reducible assumption) | assumption)
                        obtain ⟨ad399, e399, hx399_0⟩ := Kd.at_int (Kd.R_reads' HO_8.out).2.2 x10_3 p399 q399
                        obtain rfl : ad394 = ad399 := (by injection e399)
                        replace p399 := eq_true p399
                        replace q399 := eq_true q399
                        go_wp2
                        repeat (go_quiet (fail); try go_wp2)
                        go_roundg k3
                        case measure => have := HK1.out; have := HJ18.out; have := HK3.out; omega
                        case rel => exact ⟨(wrap64 (x10_3 + 1)), (by first | rfl | (simp; done) | (simp [*]; done)), H', ⟨by have := HK1.out; have := HJ18.out; have := HK3.out; omega⟩, ⟨by (try simp only [hl6_1]); (with_reducible repeat (first | apply Kd.R_alloc | apply Kd.R_drewN | apply Kd.R_drew)); exact HO_8.out⟩, ⟨by repeat (first | (with_reducible first | exact HB.out | apply below_alloc | apply pw_below_drewN | apply below_drew1) | exact HB.out)⟩⟩
                     ·rw [if_neg c36] at H
                      have c36b0 : decide (a0 < 0) = false := decide_eq_false c36
                      clear c36
                      have H' := Aside0.mk H
                      clear H
                      obtain ⟨Ao42, co42, eo42⟩ := Kd.R_slice HO_8.out
                      subst eo42
                      have p394 : 0 ≤ ((ji25) : Int) := of_decide_eq_true (by first | (with_reducible assumption) | assumption)
                      have q394 : (ji25) < (t390.length : Int) := of_decide_eq_true (by first | (with_reducible assumption) | assumption)
                      obtain ⟨ad394, e394, hx394_0⟩ := Kd.at_int (Kd.R_reads' HO_8.out).2.2 (ji25) p394 q394
                      cases e394
                      replace p394 := eq_true p394
                      replace q394 := eq_true q394
                      have p395 : 0 ≤ (x10_3 : Int) := of_decide_eq_true (by first | (with_reducible assumption) | assumption)
                      have q395 : x10_3 < (t390.length : Int) := of_decide_eq_true (by first | (with_reducible assumption) | assumption)
                      obtain ⟨ad395, e395, hx395_0⟩ := Kd.at_int (Kd.R_reads' HO_8.out).2.2 x10_3 p395 q395
                      obtain rfl : ad394 = ad395 := (by injection e395)
                      replace p395 := eq_true p395
                      replace q395 := eq_true q395
                      have p396 : 0 ≤ (0 : Int) := (by omega)
                      have q396 : 0 < (t390.length : Int) := of_decide_eq_true (by first | (with_reducible assumption) | assumption)
                      obtain ⟨ad396, e396, hx396_0⟩ := Kd.at_int (Kd.R_reads' HO_8.out).2.2 0 p396 q396
                      obtain rfl : ad394 = ad396 := (by injection e396)
                      have qi396 : (0 < t390.length) = True := eq_true (by omega)
                      (try rw [show ((0 : Int)).toNat = 0 from rfl] at hx396_0)
                      (try rw [Addr.add_zero'] at hx396_0)
                      replace p396 := eq_true p396
                      replace q396 := eq_true q396
                      have p397 : 0 ≤ (x10_3 : Int) := of_decide_eq_true (by first | (with_reducible assumption) | assumption)
                      have q397 : x10_3 < (t390.length : Int) := of_decide_eq_true (by first | (with_reducible assumption) | assumption)
                      obtain ⟨ad397, e397, hx397_0⟩ := Kd.at_int (Kd.R_reads' HO_8.out).2.2 x10_3 p397 q397
                      obtain rfl : ad394 = ad397 := (by injection e397)
                      replace p397 := eq_true p397
                      replace q397 := eq_true q397
                      go_wp2
                      repeat (go_quiet (fail); try go_wp2)
                      go_roundg k3
                      case measure => have := HK1.out; have := HJ18.out; have := HK3.out; omega
                      case rel => exact ⟨(wrap64 (x10_3 + 1)), (by first | rfl | (simp; done) | (simp [*]; done)), H', ⟨by have := HK1.out; have := HJ18.out; have := HK3.out; omega⟩, ⟨by (try simp only [hl6_1]); (with_reducible repeat (first | apply Kd.R_alloc | apply Kd.R_drewN | apply Kd.R_drew)); exact HO_8.out⟩, ⟨by repeat (first | (with_reducible first | exact HB.out | apply below_alloc | apply pw_below_drewN | apply below_drew1) | exact HB.out)⟩⟩
                   ·rw [if_neg c33] at H
                    exact absurd H (by simp)
                 ·rw [if_neg c30] at H
                  have c30b0 : decide (0 ≤ a0) = false := decide_eq_false c30
                  clear c30
                  by_cases c43 : a0 < 0
                  ·rw [if_pos c43] at H
                   have c43b0 : decide (a0 < 0) = true := decide_eq_true c43
                   clear c43
                   by_cases c44 : (wrap64 ((rd t390 (ji25)) - (rd t390 x10_3))) > 0
                   ·rw [if_pos c44] at H
                    have c44b0 : decide (0 < (wrap64 ((rd t390 (ji25)) - (rd t390 x10_3)))) = true := decide_eq_true c44
                    clear c44
                    obtain rfl := Option.some.inj H
                    obtain ⟨Ao45, co45, eo45⟩ := Kd.R_slice HO_8.out
                    subst eo45
                    have p394 : 0 ≤ ((ji25) : Int) := of_decide_eq_true (by first | (with_reducible assumption) | assumption)
                    have q394 : (ji25) < (t390.length : Int) := of_decide_eq_true (by first | (with_reducible assumption) | assumption)
                    obtain ⟨ad394, e394, hx394_0⟩ := Kd.at_int (Kd.R_reads' HO_8.out).2.2 (ji25) p394 q394
                    cases e394
                    replace p394 := eq_true p394
                    replace q394 := eq_true q394
                    have p395 : 0 ≤ (x10_3 : Int) := of_decide_eq_true (by first | (with_reducible assumption) | assumption)
                    have q395 : x10_3 < (t390.length : Int) := of_decide_eq_true (by first | (with_reducible assumption) | assumption)
                    obtain ⟨ad395, e395, hx395_0⟩ := Kd.at_int (Kd.R_reads' HO_8.out).2.2 x10_3 p395 q395
                    obtain rfl : ad394 = ad395 := (by injection e395)
                    replace p395 := eq_true p395
                    replace q395 := eq_true q395
                    go_wp2
                    repeat (go_quiet (fail); try go_wp2)
                    go_ret
                    exact ⟨by first | rfl | (simp [errW_none, errW_some] <;> rfl) | (simp only [← hji5, ← hji25]; first | rfl | (simp [errW_none, errW_some] <;> rfl)) | (simp [*, errW_none, errW_some] <;> rfl), by repeat (first | (with_reducible first | exact HB.out | apply below_alloc | apply pw_below_drewN | apply below_drew1) | exact HB.out)⟩
                   ·rw [if_neg c44] at H
                    have c44b0 : decide (0 < (wrap64 ((rd t390 (ji25)) - (rd t390 x10_3)))) = false := decide_eq_false c44
                    clear c44
                    by_cases c46 : 0 < (t390.length : Int)
                    ·rw [if_pos c46] at H
                     have c46b0 : decide (0 < (t390.length : Int)) = true := decide_eq_true c46
                     (try (have c46b0h := c46b0; simp only [hl6_1] at c46b0h))
                     have c46b1 : decide (0 < t390.length) = true := decide_eq_true (by omega)
                     (try (have c46b1h := c46b1; simp only [hl6_1] at c46b1h))
                     clear c46
                     by_cases c47 : (wrap64 ((rd t390 0) - (rd t390 x10_3))) < (-1)
                     ·rw [if_pos c47] at H
                      have c47b0 : decide ((wrap64 ((rd t390 0) - (rd t390 x10_3))) < (-1)) = true := decide_eq_true c47
                      clear c47
                      obtain rfl := Option.some.inj H
                      obtain ⟨Ao48, co48, eo48⟩ := Kd.R_slice HO_8.out
                      subst eo48
                      have p394 : 0 ≤ ((ji25) : Int) := of_decide_eq_true (by first | (with_reducible assumption) | assumption)
                      have q394 : (ji25) < (t390.length : Int) := of_decide_eq_true (by first | (with_reducible assumption) | assumption)
                      obtain ⟨ad394, e394, hx394_0⟩ := Kd.at_int (Kd.R_reads' HO_8.out).2.2 (ji25) p394 q394
                      cases e394
                      replace p394 := eq_true p394
                      replace q394 := eq_true q394
                      have p395 : 0 ≤ (x10_3 : Int) := of_decide_eq_true (by first | (with_reducible assumption) | assumption)
                      have q395 : x10_3 < (t390.length : Int) := of_decide_eq_true (by first | (with_reducible assumption) | assumption)
                      obtain ⟨ad395, e395, hx395_0⟩ := Kd.at_int (Kd.R_reads' HO_8.out).2.2 x10_3 p395 q395
                      obtain rfl : ad394 = ad395 := (by injection e395)
                      replace p395 := eq_true p395
                      replace q395 := eq_true q395
                      have p400 : 0 ≤ (0 : Int) := (by omega)
                      have q400 : 0 < (t390.length : Int) := of_decide_eq_true (by first | (with_reducible assumption) | assumption)
                      obtain ⟨ad400, e400, hx400_0⟩ := Kd.at_int (Kd.R_reads' HO_8.out).2.2 0 p400 q400
                      obtain rfl : ad394 = ad400 := (by injection e400)
                      have qi400 : (0 < t390.length) = True := eq_true (by omega)
                      (try rw [show ((0 : Int)).toNat = 0 from rfl] at hx400_0)
                      (try rw [Addr.add_zero'] at hx400_0)
                      replace p400 := eq_true p400
                      replace q400 := eq_true q400
                      have p401 : 0 ≤ (x10_3 : Int) := of_decide_eq_true (by first | (with_reducible assumption) | assumption)
                      have q401 : x10_3 < (t390.length : Int) := of_decide_eq_true (by first | (with_reducible assumption) | assumption)
                      obtain ⟨ad401, e401, hx401_0⟩ := Kd.at_int (Kd.R_reads' HO_8.out).2.2 x10_3 p401 q401
                      obtain rfl : ad394 = ad401 := (by injection e401)
                      replace p401 := eq_true p401
                      replace q401 := eq_true q401
                      go_wp2
                      repeat (go_quiet (fail); try go_wp2)
                      go_ret
                      exact ⟨by first | rfl | (simp [errW_none, errW_some] <;> rfl) | (simp only [← hji5, ← hji25]; first | rfl | (simp [errW_none, errW_some] <;> rfl)) | (simp [*, errW_none, errW_some] <;> rfl), by repeat (first | (with_reducible first | exact HB.out | apply below_alloc | apply pw_below_drewN | apply below_drew1) | exact HB.out)⟩
                     ·rw [if_neg c47] at H
                      have c47b0 : decide ((wrap64 ((rd t390 0) - (rd t390 x10_3))) < (-1)) = false := decide_eq_false c47
                      clear c47
                      have H' := Aside0.mk H
                      clear H
                      obtain ⟨Ao49, co49, eo49⟩ := Kd.R_slice HO_8.out
                      subst eo49
                      have p394 : 0 ≤ ((ji25) : Int) := of_decide_eq_true (by first | (with_reducible assumption) | assumption)
                      have q394 : (ji25) < (t390.length : Int) := of_decide_eq_true (by first | (with_reducible assumption) | assumption)
                      obtain ⟨ad394, e394, hx394_0⟩ := Kd.at_int (Kd.R_reads' HO_8.out).2.2 (ji25) p394 q394
                      cases e394
                      replace p394 := eq_true p394
                      replace q394 := eq_true q394
                      have p395 : 0 ≤ (x10_3 : Int) := of_decide_eq_true (by first | (with_reducible assumption) | assumption)
                      have q395 : x10_3 < (t390.length : Int) := of_decide_eq_true (by first | (with_reducible assumption) | assumption)
                      obtain ⟨ad395, e395, hx395_0⟩ := Kd.at_int (Kd.R_reads' HO_8.out).2.2 x10_3 p395 q395
                      obtain rfl : ad394 = ad395 := (by injection e395)
                      replace p395 := eq_true p395
                      replace q395 := eq_true q395
                      have p400 : 0 ≤ (0 : Int) := (by omega)
                      have q400 : 0 < (t390.length : Int) := of_decide_eq_true (by first | (with_reducible assumption) | assumption)
                      obtain ⟨ad400, e400, hx400_0⟩ := Kd.at_int (Kd.R_reads' HO_8.out).2.2 0 p400 q400
                      obtain rfl : ad394 = ad400 := (by injection e400)
                      have qi400 : (0 < t390.length) = True := eq_true (by omega)
                      (try rw [show ((0 : Int)).toNat = 0 from rfl] at hx400_0)
                      (try rw [Addr.add_zero'] at hx400_0)
                      replace p400 := eq_true p400
                      replace q400 := eq_true q400
                      have p401 : 0 ≤ (x10_3 : Int) := of_decide_eq_true (by first | (with_reducible assumption) | assumption)
                      have q401 : x10_3 < (t390.length : Int) := of_decide_eq_true (by first | (with_reducible assumption) | assumption)
                      obtain ⟨ad401, e401, hx401_0⟩ := Kd.at_int (Kd.R_reads' HO_8.out).2.2 x10_3 p401 q401
                      obtain rfl : ad394 = ad401 := (by injection e401)
                      replace p401 := eq_true p401
                      replace q401 := eq_true q401
                      go_wp2
                      repeat (go_quiet (fail); try go_wp2)
                      go_roundg k3
                      case measure => have := HK1.out; have := HJ18.out; have := HK3.out; omega
                      case rel => exact ⟨(wrap64 (x10_3 + 1)), (by first | rfl | (simp; done) | (simp [*]; done)), H', ⟨by have := HK1.out; have := HJ18.out; have := HK3.out; omega⟩, ⟨by (try simp only [hl6_1]); (with_reducible repeat (first | apply Kd.R_alloc | apply Kd.R_drewN | apply Kd.R_drew)); exact HO_8.out⟩, ⟨by repeat (first | (with_reducible first | exact HB.out | apply below_alloc | apply pw_below_drewN | apply below_drew1) | exact HB.out)⟩⟩
                    ·rw [if_neg c46] at H
                     exact absurd H (by simp)
                  ·rw [if_neg c43] at H
                   have c43b0 : decide (a0 < 0) = false := decide_eq_false c43
                   clear c43
                   have H' := Aside0.mk H
                   clear H
                   obtain ⟨Ao50, co50, eo50⟩ := Kd.R_slice HO_8.out
                   subst eo50
                   have p394 : 0 ≤ ((ji25) : Int) := of_decide_eq_true (by first | (with_reducible assumption) | assumption)
                   have q394 : (ji25) < (t390.length : Int) := of_decide_eq_true (by first | (with_reducible assumption) | assumption)
                   obtain ⟨ad394, e394, hx394_0⟩ := Kd.at_int (Kd.R_reads' HO_8.out).2.2 (ji25) p394 q394
                   cases e394
                   replace p394 := eq_true p394
                   replace q394 := eq_true q394
                   have p395 : 0 ≤ (x10_3 : Int) := of_decide_eq_true (by first | (with_reducible assumption) | assumption)
                   have q395 : x10_3 < (t390.length : Int) := of_decide_eq_true (by first | (with_reducible assumption) | assumption)
                   obtain ⟨ad395, e395, hx395_0⟩ := Kd.at_int (Kd.R_reads' HO_8.out).2.2 x10_3 p395 q395
                   obtain rfl : ad394 = ad395 := (by injection e395)
                   replace p395 := eq_true p395
                   replace q395 := eq_true q395
                   go_wp2
                   repeat (go_quiet (fail); try go_wp2)
                   go_roundg k3
                   case measure => have := HK1.out; have := HJ18.out; have := HK3.out; omega
                   case rel => exact ⟨(wrap64 (x10_3 + 1)), (by first | rfl | (simp; done) | (simp [*]; done)), H', ⟨by have := HK1.out; have := HJ18.out; have := HK3.out; omega⟩, ⟨by (try simp only [hl6_1]); (with_reducible repeat (first | apply Kd.R_alloc | apply Kd.R_drewN | apply Kd.R_drew)); exact HO_8.out⟩, ⟨by repeat (first | (with_reducible first | exact HB.out | apply below_alloc | apply pw_below_drewN | apply below_drew1) | exact HB.out)⟩⟩
                ·rw [if_neg c29] at H
                 exact absurd H (by simp)
               ·rw [if_neg c28] at H
                exact absurd H (by simp)
              ·rw [if_neg c27] at H
               exact absurd H (by simp)
             ·rw [if_neg c26] at H
              exact absurd H (by simp)
            ·rw [if_neg c24] at H
             have c24b0 : decide (x10_3 < ji5) = false := decide_eq_false c24
             clear c24
             obtain rfl := Option.some.inj H
             go_wp2
             repeat (go_quiet (fail); try go_wp2)
             go_ret
             exact ⟨by first | rfl | (simp [errW_none, errW_some] <;> rfl) | (simp only [← hji5]; first | rfl | (simp [errW_none, errW_some] <;> rfl)) | (simp [*, errW_none, errW_some] <;> rfl), by repeat (first | (with_reducible first | exact HB.out | apply below_alloc | apply pw_below_drewN | apply below_drew1) | exact HB.out)⟩
   ·rw [if_neg c7] at H
    exact absurd H (by simp)
  ·rw [if_neg c6] at H
   exact absurd H (by simp)
 ·replace c4 := Bool.eq_false_iff.mpr c4
  subst c4
  have H1 : (some false) = some r := by rw [if_neg (show ¬ (false = true) by decide)] at H; exact H
  clear H
  have H := H1
  clear H1
  obtain rfl := Option.some.inj H
  go_enter Try.func7, Try.ntmps7
  go_wp2_with (first | (go_at_call 9; (with_reducible refine (comptrollerlaw04_alive.calls k  false _ A3.out).mono ?_); rintro e w51 ⟨rfl, hb⟩; have n0_ := Aside0.mk (below_step (by repeat (first | (with_reducible first | exact HB.out | apply below_alloc | apply pw_below_drewN | apply below_drew1) | exact HB.out)) hb); clear HB; have HB := n0_; clear n0_; (try clear hb); (try clear hb2); (try clear hk); (try clear hi)))
  repeat (go_quiet (first | (go_at_call 9; (with_reducible refine (comptrollerlaw04_alive.calls k  false _ A3.out).mono ?_); rintro e w51 ⟨rfl, hb⟩; have n0_ := Aside0.mk (below_step (by repeat (first | (with_reducible first | exact HB.out | apply below_alloc | apply pw_below_drewN | apply below_drew1) | exact HB.out)) hb); clear HB; have HB := n0_; clear n0_; (try clear hb); (try clear hb2); (try clear hk); (try clear hi))); try go_wp2_with (first | (go_at_call 9; (with_reducible refine (comptrollerlaw04_alive.calls k  false _ A3.out).mono ?_); rintro e w51 ⟨rfl, hb⟩; have n0_ := Aside0.mk (below_step (by repeat (first | (with_reducible first | exact HB.out | apply below_alloc | apply pw_below_drewN | apply below_drew1) | exact HB.out)) hb); clear HB; have HB := n0_; clear n0_; (try clear hb); (try clear hb2); (try clear hk); (try clear hi))))
  go_ret
  exact ⟨by first | rfl | (simp [errW_none, errW_some] <;> rfl) | (simp [*, errW_none, errW_some] <;> rfl), by repeat (first | (with_reducible first | exact HB.out | apply below_alloc | apply pw_below_drewN | apply below_drew1) | exact HB.out)⟩

/-- THE ONE PURE STATEMENT of comptrollerlaw04_SplitEven: ours. -/
def comptrollerlaw04_SplitEven.Pure : Prop := ∀ (a0 : Int) (a1 : Int), (Lit.int .i64 a0).wf = true → (Lit.int .u8 a1).wf = true → ∃ k, comptrollerlaw04_SplitEven.f k a0 a1 = some true

end Go.Proofs.Ytjfnhhfgjomliaa.Q
