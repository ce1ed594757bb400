/- printed by a program of this session (wip/tools/pr.sh): it is not a print of the kit -/
import Derived.Test.YtjfnhhfgjomliaaQx0
import Derived.Test.YtjfnhhfgjomliaaQx5
import Derived.Test.YtjfnhhfgjomliaaQx6
namespace Go.Proofs.Ytjfnhhfgjomliaa.Q
open Go.RowKit Go.Proofs.YtjfnhhfgjomliaaW.PrintWords Go.Proofs.YtjfnhhfgjomliaaW.PrintLast Go.Proofs.YtjfnhhfgjomliaaW.PrintMore
attribute [local go_sem] max2_int min2_int max_two min_two max_three min_three max_four min_four   -- for this text's walks alone
set_option linter.unusedVariables false
set_option linter.unusedSimpArgs false

/-! ### comptrollerlaw04_SplitOne: function 8 -/
mutual
def comptrollerlaw04_SplitOne.j0 : Nat → Int → Int → Int → List Int → Bool → Option (Bool)
 | 0, _, _, _, _, _ => none
 | k + 1, x0, x1, x7, x9, x40 => if x40 = true then (some false) else (comptrollerlaw04_SplitOne.l0 k x0 x1 x7 x9 (x9.length : Int) 0)
def comptrollerlaw04_SplitOne.l0 : Nat → Int → Int → Int → List Int → Int → Int → Option (Bool)
 | 0, _, _, _, _, _, _ => none
 | k + 1, x0, x1, x7, x41, x42, x43 => if x43 < x42 then (if 0 ≤ x43 then (if x43 < (x41.length : Int) then (if x7 = 0 then (none) else (if x43 = (Int.tmod (wrap64 (x1)) x7) then (if (rd x41 x43) = x0 then (comptrollerlaw04_SplitOne.l0 k x0 x1 x7 x41 x42 (wrap64 (x43 + 1))) else (some false)) else (if (rd x41 x43) = 0 then (comptrollerlaw04_SplitOne.l0 k x0 x1 x7 x41 x42 (wrap64 (x43 + 1))) else (some false)))) else (none)) else (none)) else (some true)
end
def comptrollerlaw04_SplitOne.f (k : Nat) (a0 : Int) (a1 : Int) (a2 : Int) : Option (Bool) := (comptrollerlaw04_alive.f k).bind fun t402 => (if t402 = true then (if 0 ≤ (wrap64 ((Int.tmod (wrap64 (a2)) 50) + 1)) then (if (wrap64 ((Int.tmod (wrap64 (a2)) 50) + 1) : Int).toNat ≤ 35184372088832 then ((some (List.replicate (wrap64 ((Int.tmod (wrap64 (a2)) 50) + 1) : Int).toNat 0 : List Int)).bind fun y403 => (if (wrap64 ((Int.tmod (wrap64 (a2)) 50) + 1)) = 0 then (none) else (if 0 ≤ (Int.tmod (wrap64 (a1)) (wrap64 ((Int.tmod (wrap64 (a2)) 50) + 1))) then (if (Int.tmod (wrap64 (a1)) (wrap64 ((Int.tmod (wrap64 (a2)) 50) + 1))) < (y403.length : Int) then ((split_By.f k a0 (y403.set ((Int.tmod (wrap64 (a1)) (wrap64 ((Int.tmod (wrap64 (a2)) 50) + 1))) : Int).toNat 3)).bind fun bt407 => (if bt407.2 = 0 then (comptrollerlaw04_SplitOne.j0 k a0 a1 (wrap64 ((Int.tmod (wrap64 (a2)) 50) + 1)) bt407.1 ((bt407.1.length : Int) != (wrap64 ((Int.tmod (wrap64 (a2)) 50) + 1)))) else (comptrollerlaw04_SplitOne.j0 k a0 a1 (wrap64 ((Int.tmod (wrap64 (a2)) 50) + 1)) bt407.1 true))) else (none)) else (none)))) else (none)) else (none)) else (some false))
theorem comptrollerlaw04_SplitOne.mono_l : ∀ k, (∀ y0 y1 y2 y3 y4, LeO (comptrollerlaw04_SplitOne.j0 k y0 y1 y2 y3 y4) (comptrollerlaw04_SplitOne.j0 (k + 1) y0 y1 y2 y3 y4)) ∧ (∀ y0 y1 y2 y3 y4 y5, LeO (comptrollerlaw04_SplitOne.l0 k y0 y1 y2 y3 y4 y5) (comptrollerlaw04_SplitOne.l0 (k + 1) y0 y1 y2 y3 y4 y5))
 | 0 => ⟨fun _ _ _ _ _ r h => by simp [comptrollerlaw04_SplitOne.j0] at h, fun _ _ _ _ _ _ r h => by simp [comptrollerlaw04_SplitOne.l0] at h⟩
 | k + 1 => by
  obtain ⟨ih0, ih1⟩ := comptrollerlaw04_SplitOne.mono_l k
  refine ⟨?_, ?_⟩
  ·intro y0 y1 y2 y3 y4
   unfold comptrollerlaw04_SplitOne.j0
   repeat' first
   | (with_reducible exact ih0 _ _ _ _ _)
   | (with_reducible exact ih1 _ _ _ _ _ _)
   | (with_reducible exact comptrollerlaw04_alive.mono _)
   | (with_reducible exact split_By.mono _ _ _)
   | (with_reducible exact LeO.refl _)
   | (with_reducible exact LeO.none _)
   | (with_reducible refine LeO.ite ?_ ?_)
   | (with_reducible refine LeO.bind ?_ (fun _ => ?_))
   | exact ih0 _ _ _ _ _
   | exact ih1 _ _ _ _ _ _
   | exact comptrollerlaw04_alive.mono _
   | exact split_By.mono _ _ _
   | exact LeO.none _
   | refine LeO.ite ?_ ?_
   | refine LeO.bind ?_ (fun _ => ?_)
  ·intro y0 y1 y2 y3 y4 y5
   unfold comptrollerlaw04_SplitOne.l0
   repeat' first
   | (with_reducible exact ih0 _ _ _ _ _)
   | (with_reducible exact ih1 _ _ _ _ _ _)
   | (with_reducible exact comptrollerlaw04_alive.mono _)
   | (with_reducible exact split_By.mono _ _ _)
   | (with_reducible exact LeO.refl _)
   | (with_reducible exact LeO.none _)
   | (with_reducible refine LeO.ite ?_ ?_)
   | (with_reducible refine LeO.bind ?_ (fun _ => ?_))
   | exact ih0 _ _ _ _ _
   | exact ih1 _ _ _ _ _ _
   | exact comptrollerlaw04_alive.mono _
   | exact split_By.mono _ _ _
   | exact LeO.none _
   | refine LeO.ite ?_ ?_
   | refine LeO.bind ?_ (fun _ => ?_)
theorem comptrollerlaw04_SplitOne.mono : ∀ a0 a1 a2 k, LeO (comptrollerlaw04_SplitOne.f k a0 a1 a2) (comptrollerlaw04_SplitOne.f (k + 1) a0 a1 a2) := by
 intro a0 a1 a2 k
 obtain ⟨ih0, ih1⟩ := comptrollerlaw04_SplitOne.mono_l k
 unfold comptrollerlaw04_SplitOne.f
 repeat' first
   | (with_reducible exact ih0 _ _ _ _ _)
   | (with_reducible exact ih1 _ _ _ _ _ _)
   | (with_reducible exact comptrollerlaw04_alive.mono _)
   | (with_reducible exact split_By.mono _ _ _)
   | (with_reducible exact LeO.refl _)
   | (with_reducible exact LeO.none _)
   | (with_reducible refine LeO.ite ?_ ?_)
   | (with_reducible refine LeO.bind ?_ (fun _ => ?_))
   | exact ih0 _ _ _ _ _
   | exact ih1 _ _ _ _ _ _
   | exact comptrollerlaw04_alive.mono _
   | exact split_By.mono _ _ _
   | exact LeO.none _
   | refine LeO.ite ?_ ?_
   | refine LeO.bind ?_ (fun _ => ?_)
set_option maxHeartbeats 8000000 in
set_option maxRecDepth 100000 in
theorem comptrollerlaw04_SplitOne.calls (k : Nat) (a0 : Int) (a1 : Int) (a2 : Int) (r : Bool) (w : World) (h : comptrollerlaw04_SplitOne.f k a0 a1 a2 = some r) :
  Calls Try.prog 8 #[.int .i64 a0, .int .u8 a1, .int .u8 a2] w fun e w' => e = .returned (.bool r) ∧ Below w.heap.size w w' := by
 have HB := Aside0.mk (Below.refl w.heap.size w)
 have H : ((comptrollerlaw04_alive.f k).bind fun t402 => (if t402 = true then (if 0 ≤ (wrap64 ((Int.tmod (wrap64 (a2)) 50) + 1)) then (if (wrap64 ((Int.tmod (wrap64 (a2)) 50) + 1) : Int).toNat ≤ 35184372088832 then ((some (List.replicate (wrap64 ((Int.tmod (wrap64 (a2)) 50) + 1) : Int).toNat 0 : List Int)).bind fun y403 => (if (wrap64 ((Int.tmod (wrap64 (a2)) 50) + 1)) = 0 then (none) else (if 0 ≤ (Int.tmod (wrap64 (a1)) (wrap64 ((Int.tmod (wrap64 (a2)) 50) + 1))) then (if (Int.tmod (wrap64 (a1)) (wrap64 ((Int.tmod (wrap64 (a2)) 50) + 1))) < (y403.length : Int) then ((split_By.f k a0 (y403.set ((Int.tmod (wrap64 (a1)) (wrap64 ((Int.tmod (wrap64 (a2)) 50) + 1))) : Int).toNat 3)).bind fun bt407 => (if bt407.2 = 0 then (comptrollerlaw04_SplitOne.j0 k a0 a1 (wrap64 ((Int.tmod (wrap64 (a2)) 50) + 1)) bt407.1 ((bt407.1.length : Int) != (wrap64 ((Int.tmod (wrap64 (a2)) 50) + 1)))) else (comptrollerlaw04_SplitOne.j0 k a0 a1 (wrap64 ((Int.tmod (wrap64 (a2)) 50) + 1)) bt407.1 true))) else (none)) else (none)))) else (none)) else (none)) else (some false))) = some r := h
 clear h
 replace H := Option.bind_eq_some_iff.mp H
 obtain ⟨t402, A40, H⟩ := H
 replace H : (if t402 = true then (if 0 ≤ (wrap64 ((Int.tmod (wrap64 (a2)) 50) + 1)) then (if (wrap64 ((Int.tmod (wrap64 (a2)) 50) + 1) : Int).toNat ≤ 35184372088832 then ((some (List.replicate (wrap64 ((Int.tmod (wrap64 (a2)) 50) + 1) : Int).toNat 0 : List Int)).bind fun y403 => (if (wrap64 ((Int.tmod (wrap64 (a2)) 50) + 1)) = 0 then (none) else (if 0 ≤ (Int.tmod (wrap64 (a1)) (wrap64 ((Int.tmod (wrap64 (a2)) 50) + 1))) then (if (Int.tmod (wrap64 (a1)) (wrap64 ((Int.tmod (wrap64 (a2)) 50) + 1))) < (y403.length : Int) then ((split_By.f k a0 (y403.set ((Int.tmod (wrap64 (a1)) (wrap64 ((Int.tmod (wrap64 (a2)) 50) + 1))) : Int).toNat 3)).bind fun bt407 => (if bt407.2 = 0 then (comptrollerlaw04_SplitOne.j0 k a0 a1 (wrap64 ((Int.tmod (wrap64 (a2)) 50) + 1)) bt407.1 ((bt407.1.length : Int) != (wrap64 ((Int.tmod (wrap64 (a2)) 50) + 1)))) else (comptrollerlaw04_SplitOne.j0 k a0 a1 (wrap64 ((Int.tmod (wrap64 (a2)) 50) + 1)) bt407.1 true))) else (none)) else (none)))) else (none)) else (none)) else (some false)) = some r := H
 have A4 := Aside0.mk A40
 clear A40
 by_cases c5 : t402 = true
 ·subst c5
  have H1 : (if 0 ≤ (wrap64 ((Int.tmod (wrap64 (a2)) 50) + 1)) then (if (wrap64 ((Int.tmod (wrap64 (a2)) 50) + 1) : Int).toNat ≤ 35184372088832 then ((some (List.replicate (wrap64 ((Int.tmod (wrap64 (a2)) 50) + 1) : Int).toNat 0 : List Int)).bind fun y403 => (if (wrap64 ((Int.tmod (wrap64 (a2)) 50) + 1)) = 0 then (none) else (if 0 ≤ (Int.tmod (wrap64 (a1)) (wrap64 ((Int.tmod (wrap64 (a2)) 50) + 1))) then (if (Int.tmod (wrap64 (a1)) (wrap64 ((Int.tmod (wrap64 (a2)) 50) + 1))) < (y403.length : Int) then ((split_By.f k a0 (y403.set ((Int.tmod (wrap64 (a1)) (wrap64 ((Int.tmod (wrap64 (a2)) 50) + 1))) : Int).toNat 3)).bind fun bt407 => (if bt407.2 = 0 then (comptrollerlaw04_SplitOne.j0 k a0 a1 (wrap64 ((Int.tmod (wrap64 (a2)) 50) + 1)) bt407.1 ((bt407.1.length : Int) != (wrap64 ((Int.tmod (wrap64 (a2)) 50) + 1)))) else (comptrollerlaw04_SplitOne.j0 k a0 a1 (wrap64 ((Int.tmod (wrap64 (a2)) 50) + 1)) bt407.1 true))) else (none)) else (none)))) else (none)) else (none)) = some r := by rw [if_pos rfl] at H; exact H
  clear H
  have H := H1
  clear H1
  obtain ⟨ji6, hji6⟩ : ∃ j_ : Int, (wrap64 ((Int.tmod (wrap64 (a2)) 50) + 1)) = j_ := ⟨_, rfl⟩
  replace H : (if 0 ≤ (ji6) then (if (ji6 : Int).toNat ≤ 35184372088832 then ((some (List.replicate (ji6 : Int).toNat 0 : List Int)).bind fun y403 => (if (ji6) = 0 then (none) else (if 0 ≤ (Int.tmod (wrap64 (a1)) (ji6)) then (if (Int.tmod (wrap64 (a1)) (ji6)) < (y403.length : Int) then ((split_By.f k a0 (y403.set ((Int.tmod (wrap64 (a1)) (ji6)) : Int).toNat 3)).bind fun bt407 => (if bt407.2 = 0 then (comptrollerlaw04_SplitOne.j0 k a0 a1 ji6 bt407.1 ((bt407.1.length : Int) != (ji6))) else (comptrollerlaw04_SplitOne.j0 k a0 a1 ji6 bt407.1 true))) else (none)) else (none)))) else (none)) else (none)) = some r := by first | (rw [hji6] at H; exact H) | (simp only [hji6] at H ⊢; exact H)
  (try rw [hji6] at A4)
  have hji6w : (IntKind.i64.wrap ((Int.tmod (wrap64 (a2)) 50) + 1)) = ji6 := (i64_w _).trans hji6
  by_cases c7 : 0 ≤ (ji6)
  ·rw [if_pos c7] at H
   have c7b0 := eq_true c7
   have c7b1 : decide (0 ≤ (ji6)) = true := decide_eq_true c7
   clear c7
   by_cases c8 : (ji6 : Int).toNat ≤ 35184372088832
   ·rw [if_pos c8] at H
    have c8b0 := eq_true c8
    have c8b1 : decide ((ji6 : Int).toNat ≤ 35184372088832) = true := decide_eq_true c8
    clear c8
    obtain ⟨y403, hy403⟩ : ∃ y_ : List Int, y_ = (List.replicate (ji6 : Int).toNat 0) := ⟨_, rfl⟩
    replace H : (if (ji6) = 0 then (none) else (if 0 ≤ (Int.tmod (wrap64 (a1)) (ji6)) then (if (Int.tmod (wrap64 (a1)) (ji6)) < (y403.length : Int) then ((split_By.f k a0 (y403.set ((Int.tmod (wrap64 (a1)) (ji6)) : Int).toNat 3)).bind fun bt407 => (if bt407.2 = 0 then (comptrollerlaw04_SplitOne.j0 k a0 a1 ji6 bt407.1 ((bt407.1.length : Int) != (ji6))) else (comptrollerlaw04_SplitOne.j0 k a0 a1 ji6 bt407.1 true))) else (none)) else (none))) = some r := by first | (rw [hy403]; with_reducible exact H) | (have H2_ := (Option.bind_some _ _).symm.trans H; rw [hy403]; with_reducible exact H2_) | (have H2_ := (Option.bind_some _ _).symm.trans H; with_reducible exact H2_) | with_reducible exact H | (rw [hy403]; exact H) | exact H
    have Ny403 := Aside0.mk hy403
    clear hy403
    by_cases c9 : (ji6) = 0
    ·rw [if_pos c9] at H
     exact absurd H (by simp)
    ·rw [if_neg c9] at H
     have c9b0 : ((ji6) == 0) = false := beq_eq_false_iff_ne.mpr c9
     have c9b1 : ((ji6) != 0) = true := bne_iff_ne.mpr c9
     obtain ⟨ji10, hji10⟩ : ∃ j_ : Int, (Int.tmod (wrap64 (a1)) (ji6)) = j_ := ⟨_, rfl⟩
     replace H : (if 0 ≤ (ji10) then (if (ji10) < (y403.length : Int) then ((split_By.f k a0 (y403.set ((ji10) : Int).toNat 3)).bind fun bt407 => (if bt407.2 = 0 then (comptrollerlaw04_SplitOne.j0 k a0 a1 ji6 bt407.1 ((bt407.1.length : Int) != (ji6))) else (comptrollerlaw04_SplitOne.j0 k a0 a1 ji6 bt407.1 true))) else (none)) else (none)) = some r := by first | (rw [hji10] at H; exact H) | (simp only [hji10] at H ⊢; exact H)
     (try rw [hji10] at A4)
     by_cases c11 : 0 ≤ (ji10)
     ·rw [if_pos c11] at H
      have c11b0 : decide (0 ≤ (ji10)) = true := decide_eq_true c11
      clear c11
      by_cases c12 : (ji10) < (y403.length : Int)
      ·rw [if_pos c12] at H
       have c12b0 : decide ((ji10) < (y403.length : Int)) = true := decide_eq_true c12
       clear c12
       obtain ⟨y406, hy406⟩ : ∃ y_ : List Int, y_ = (y403.set ((ji10) : Int).toNat 3) := ⟨_, rfl⟩
       replace H : ((split_By.f k a0 y406).bind fun bt407 => (if bt407.2 = 0 then (comptrollerlaw04_SplitOne.j0 k a0 a1 ji6 bt407.1 ((bt407.1.length : Int) != (ji6))) else (comptrollerlaw04_SplitOne.j0 k a0 a1 ji6 bt407.1 true))) = some r := by first | (rw [hy406]; with_reducible exact H) | (have H2_ := (Option.bind_some _ _).symm.trans H; rw [hy406]; with_reducible exact H2_) | (have H2_ := (Option.bind_some _ _).symm.trans H; with_reducible exact H2_) | with_reducible exact H | (rw [hy406]; exact H) | exact H
       have Ny406 := Aside0.mk hy406
       clear hy406
       replace H := Option.bind_eq_some_iff.mp H
       obtain ⟨⟨t407, t408⟩, A140, H⟩ := H
       replace H : (if t408 = 0 then (comptrollerlaw04_SplitOne.j0 k a0 a1 ji6 t407 ((t407.length : Int) != (ji6))) else (comptrollerlaw04_SplitOne.j0 k a0 a1 ji6 t407 true)) = some r := H
       have A14 := Aside0.mk A140
       clear A140
       have HC15 := Aside0.mk H
       clear H
       go_enter Try.func8, Try.ntmps8
       go_upto_region 7 with (first | ((with_reducible refine gate_callee (f := 9) rfl ?_); refine goesL_ (some 13) rfl rfl Try.func9 (by kernel_rfl) rfl #[] rfl (by (try simp only [List.map_toArray, List.map_cons, List.map_nil]); first | done | rfl | (simp only [List.length_drop, List.length_take]; rfl)) ?_; (with_reducible refine (comptrollerlaw04_alive.calls k  true _ A4.out).mono ?_); rintro e w16 ⟨rfl, hb⟩; refine ⟨_, rfl, ?_⟩; have n0_ := Aside0.mk (below_step (by repeat (first | (with_reducible first | exact HB.out | apply below_alloc | apply pw_below_drewN | apply below_drew1) | exact HB.out)) hb); clear HB; have HB := n0_; clear n0_; (try clear hb); (try clear hb2); (try clear hk); (try clear hi)) | ((with_reducible refine gate_dst (N := 20) rfl ?_); (try (refine gate_guard (by rfl) ?_; dsimp only)); refine Kd.R_make (Kd.int .i64) _ 2 rfl (N := 20) rfl 22 _ _ rfl ji6 rfl rfl Try.underlying22 (.int .i64 0) 8 info2 rfl (by decide) (by omega) 0 (ok := fun _ => True) (okp := fun _ => True) rfl (fun _ hk => hk) trivial (of_decide_eq_true (by first | (with_reducible assumption) | assumption)) (Nat.le_trans (Nat.mul_le_mul_right _ (of_decide_eq_true (by first | (with_reducible assumption) | assumption) : ji6.toNat ≤ 35184372088832)) (by omega)) (Below.refl _ _) (Nat.le_refl _) ?_; intro v404 w17 ho18 hb hg_ hnew_; clear hg_ hnew_; (first | rw [← Ny403.out] at ho18 | (simp only [Int.reduceToNat] at ho18; rw [← Ny403.out] at ho18)); have n0_ := Aside0.mk (Kd.R_lower ho18 (below_size (by repeat (first | (with_reducible first | exact HB.out | apply below_alloc | apply pw_below_drewN | apply below_drew1) | exact HB.out)))); have n1_ := Aside0.mk (below_step (by repeat (first | (with_reducible first | exact HB.out | apply below_alloc | apply pw_below_drewN | apply below_drew1) | exact HB.out)) hb); clear HB; have HO405 := n0_; have HB := n1_; clear n0_ n1_; clear hb ho18; have p13 : 0 ≤ ((ji10) : Int) := of_decide_eq_true (by first | (with_reducible assumption) | assumption); have q13 : ((ji10) : Int) < ((y403.length : Int) : Int) := of_decide_eq_true (by first | (with_reducible assumption) | assumption); obtain ⟨go13, co13, eo13, gb13, gl13, cl13, HG13⟩ := Kd.R_form HO405.out (by omega); (first | cases eo13 | (injection eo13 with ea_ en_ ec_; (first | subst ea_ | (injection ea_ with ea_; subst ea_)); subst ec_; clear en_)); have GB13 := Aside0.mk gb13; have GG13 := Aside0.mk HG13; clear gb13 gl13 HG13; obtain ⟨hx13_0, hf13_0⟩ := Kd.R_celln 0 HO405.out ((ji10) : Int) p13 q13; replace p13 := eq_true p13; replace q13 := eq_true q13; obtain ⟨hy19_, hz19_⟩ := Kd.R_celln 0 HO405.out ((ji10) : Int) (of_decide_eq_true (by first | (with_reducible assumption) | assumption)) (of_decide_eq_true (by first | (with_reducible assumption) | assumption)); have HP19 := Kd.R_putg HO405.out ((ji10) : Int) 3) | ((with_reducible refine gate_store (t := 2) (p := 26) rfl ?_); refine store_event (t := 2) (p := 26) (v := ?vo_w20) (w1 := (w17.setCell ⟨go13, ((ji10) : Int).toNat, none⟩ (.int .i64 3))) ?hg ?ho ?hn ?hr ?_; (case ho => rfl); (case hg => rfl); (case hn => rfl); (case hr => first | (go_simp; done) | (go_simp; rfl)); intro w20 hw; have hg : w17.grownBy w20 (some go13) := (by rw [hw]; exact HP19.2); have hp_ : Kd.R (Kd.int .i64) 2 w20 w.heap.size (fun _ => True) (.slice (some ⟨go13, 0, none⟩) y403.length co13) y406 := (by rw [hw, Ny406.out]; exact HP19.1); clear HP19; have n0_ := Aside0.mk (hp_); have n1_ := Aside0.mk ((by rw [hw]; exact below_set (HB.out) GB13.out : Below w.heap.size w w20)); clear HO405; clear HB; have HO405 := n0_; have HB := n1_; clear n0_ n1_; clear hg hw hp_) | ((with_reducible refine gate_callee (f := 10) rfl ?_); refine goesL_ (some 30) rfl rfl Try.func10 (by kernel_rfl) rfl #[.int .i64 a0, .slice (some ⟨go13, 0, none⟩) y406.length co13] rfl (by (try simp only [List.map_toArray, List.map_cons, List.map_nil]); first | done | (rw [show y406.length = y403.length from (Kd.R_reads' HO405.out).1.symm] <;> rfl) | rfl | (simp only [List.length_drop, List.length_take]; rfl)) ?_; (with_reducible refine (split_By.calls k a0 _ _ y406 t407 t408 _ ?side1 ?side2 A14.out).mono ?_); (case side1 => repeat (first | exact (Kd.R_reads' HO405.out).2.2 | (with_reducible refine Kd.C_alloc ?_ _) | (with_reducible refine Kd.C_drewN ?_ _) | (with_reducible refine Kd.C_drew ?_))); (case side2 => rw [show y406.length = y403.length from (Kd.R_reads' HO405.out).1.symm]; exact (Kd.R_reads' HO405.out).2.1); rintro e w21 ⟨v409, rfl, ho0, hb⟩; refine ⟨_, rfl, ?_⟩; have n0_ := Aside0.mk (Kd.R_elder' (by (with_reducible repeat (first | apply Kd.R_alloc | apply Kd.R_drewN | apply Kd.R_drew)); exact HO405.out) (Kd.R_base ho0) hb); have n1_ := Aside0.mk (Kd.R_lower (Kd.R_new' ho0 (Kd.R_lt (by (with_reducible repeat (first | apply Kd.R_alloc | apply Kd.R_drewN | apply Kd.R_drew)); exact HO405.out))) (below_size (by repeat (first | (with_reducible first | exact HB.out | apply below_alloc | apply pw_below_drewN | apply below_drew1) | exact HB.out)))); have n2_ := Aside0.mk (below_step (by repeat (first | (with_reducible first | exact HB.out | apply below_alloc | apply pw_below_drewN | apply below_drew1) | exact HB.out)) hb); clear HO405; clear HB; have HO405 := n0_; have HO410 := n1_; have HB := n2_; clear n0_ n1_ n2_; (try clear hb); (try clear hb2); (try clear hk); (try clear hi); (try clear ho0)))
       (try simp only [Act.put, List.setIfInBounds_toArray, List.set_cons_zero, List.set_cons_succ])
       go_cut [40] (fun v40 wc => ∃ (kq : Nat) (x40_14 : Bool), v40 = .bool x40_14 ∧ Aside0 (comptrollerlaw04_SplitOne.j0 kq a0 a1 ji6 t407 x40_14 = some r) ∧ Aside0 (kq ≤ k) ∧ Aside0 (Kd.R (Kd.int .i64) 2 wc w.heap.size (fun _ => True) v409 t407) ∧ Aside0 (Below w.heap.size w wc))
       case first =>
        have H := HC15.out
        clear HC15
        by_cases c22 : t408 = 0
        ·rw [if_pos c22] at H
         have c22b0 : (t408 == 0) = true := beq_iff_eq.mpr c22
         have c22b1 : (t408 != 0) = false := bne_eq_false_iff_eq.mpr c22
         clear c22
         (first | rw [c22b0] | (simp only [i64_w, i32_w]; rw [c22b0]) | skip)
         have H' := Aside0.mk H
         clear H
         obtain ⟨Ao23, co23, eo23⟩ := Kd.R_slice HO410.out
         subst eo23
         go_wp2
         go_meet
         case rel => exact ⟨_, (((t407.length : Int) != (ji6))), (by first | rfl | (simp; done) | (simp only [← hji6] <;> (first | rfl | simp)) | (simp [*]; done)), H', ⟨by first | omega | exact Nat.le_refl _⟩, ⟨by (with_reducible repeat (first | apply Kd.R_alloc | apply Kd.R_drewN | apply Kd.R_drew)); exact Kd.R_mono HO410.out (fun _ hk => trivial)⟩, ⟨by repeat (first | (with_reducible first | exact HB.out | apply below_alloc | apply pw_below_drewN | apply below_drew1) | exact HB.out)⟩⟩
        ·rw [if_neg c22] at H
         have c22b0 : (t408 == 0) = false := beq_eq_false_iff_ne.mpr c22
         have c22b1 : (t408 != 0) = true := bne_iff_ne.mpr c22
         (first | rw [c22b0] | (simp only [i64_w, i32_w]; rw [c22b0]) | skip)
         have H' := Aside0.mk H
         clear H
         go_wp2
         go_meet
         case rel => exact ⟨_, (true), (by first | rfl | (simp; done) | (simp [*]; done)), H', ⟨by first | omega | exact Nat.le_refl _⟩, ⟨by (with_reducible repeat (first | apply Kd.R_alloc | apply Kd.R_drewN | apply Kd.R_drew)); exact Kd.R_mono HO410.out (fun _ hk => trivial)⟩, ⟨by repeat (first | (with_reducible first | exact HB.out | apply below_alloc | apply pw_below_drewN | apply below_drew1) | exact HB.out)⟩⟩
       case rest =>
        clear HC15
        try clear c1
        try clear p1
        try clear q1
        try clear hx1
        try clear c2
        try clear p2
        try clear c5
        try clear p6
        try clear c7
        try clear c7b0
        try clear c7b1
        try clear c8
        try clear c8b0
        try clear c8b1
        try clear c9
        try clear c9b0
        try clear c9b1
        try clear c10
        try clear c11
        try clear c11b0
        try clear c12
        try clear c12b0
        try clear p13
        try clear q13
        try clear hx13
        try clear hf13
        try clear c22
        try clear c22b0
        try clear c22b1
        try clear hx13_0
        try clear p13
        try clear q13
        obtain ⟨kq, x40_14, rfl, HA, HJ14, HO_9, HB⟩ := hcut
        cases kq with
        | zero => exact absurd HA.out (by simp [comptrollerlaw04_SplitOne.j0])
        | succ kj14 =>
         have H := HA.out
         clear HA
         simp only [comptrollerlaw04_SplitOne.j0] at H
         by_cases c24 : x40_14 = true
         ·subst c24
          have H1 : (some false) = some r := by rw [if_pos rfl] at H; exact H
          clear H
          have H := H1
          clear H1
          obtain rfl := Option.some.inj H
          go_wp2
          go_ret
          exact ⟨by first | rfl | (simp [errW_none, errW_some] <;> rfl) | (simp only [← hji6, ← hji10]; first | rfl | (simp [errW_none, errW_some] <;> rfl)) | (simp [*, errW_none, errW_some] <;> rfl), by repeat (first | (with_reducible first | exact HB.out | apply below_alloc | apply pw_below_drewN | apply below_drew1) | exact HB.out)⟩
         ·replace c24 := Bool.eq_false_iff.mpr c24
          subst c24
          have H1 : (comptrollerlaw04_SplitOne.l0 kj14 a0 a1 ji6 t407 (t407.length : Int) 0) = some r := by rw [if_neg (show ¬ (false = true) by decide)] at H; exact H
          clear H
          have H := H1
          clear H1
          have H' := Aside0.mk H
          clear H
          obtain ⟨Ao25, co25, eo25⟩ := Kd.R_slice HO_9.out
          subst eo25
          go_wp2
          go_loopg [43] kj14 (fun kq v43 w' => ∃ (x43_2 : Int), v43 = .int .i64 x43_2 ∧ Aside0 (comptrollerlaw04_SplitOne.l0 kq a0 a1 ji6 t407 (t407.length : Int) x43_2 = some r) ∧ Aside0 (kq ≤ kj14) ∧ Aside0 (Kd.R (Kd.int .i64) 2 w' w.heap.size (fun _ => True) (.slice Ao25 t407.length co25) t407) ∧ Aside0 (Below w.heap.size w w'))
          case atStart => exact ⟨(0), (by first | rfl | (simp; done) | (simp [*]; done)), H', ⟨Nat.le_refl _⟩, ⟨by (with_reducible repeat (first | apply Kd.R_alloc | apply Kd.R_drewN | apply Kd.R_drew)); exact HO_9.out⟩, ⟨by repeat (first | (with_reducible first | exact HB.out | apply below_alloc | apply pw_below_drewN | apply below_drew1) | exact HB.out)⟩⟩
          case round =>
           clear H'
           try clear c1
           try clear p1
           try clear q1
           try clear hx1
           try clear c2
           try clear p2
           try clear c5
           try clear p6
           try clear c7
           try clear c7b0
           try clear c7b1
           try clear c8
           try clear c8b0
           try clear c8b1
           try clear c9
           try clear c9b0
           try clear c9b1
           try clear c10
           try clear c11
           try clear c11b0
           try clear c12
           try clear c12b0
           try clear p13
           try clear q13
           try clear hx13
           try clear hf13
           try clear c22
           try clear c22b0
           try clear c22b1
           try clear c24
           try clear hx13_0
           try clear p1
           try clear p13
           try clear p2
           try clear p6
           try clear q1
           try clear q13
           obtain ⟨x43_2, rfl, HA, HK2, HO_41, HB⟩ := hrel
           cases gk with
           | zero => exact absurd HA.out (by simp [comptrollerlaw04_SplitOne.l0])
           | succ k2 =>
            have H := HA.out
            clear HA
            simp only [comptrollerlaw04_SplitOne.l0] at H
            by_cases c26 : x43_2 < (t407.length : Int)
            ·rw [if_pos c26] at H
             have c26b0 : decide (x43_2 < (t407.length : Int)) = true := decide_eq_true c26
             clear c26
             by_cases c27 : 0 ≤ x43_2
             ·rw [if_pos c27] at H
              have c27b0 : decide (0 ≤ x43_2) = true := decide_eq_true c27
              clear c27
              by_cases c28 : x43_2 < (t407.length : Int)
              ·rw [if_pos c28] at H
               have c28b0 : decide (x43_2 < (t407.length : Int)) = true := decide_eq_true c28
               clear c28
               by_cases c29 : ji6 = 0
               ·rw [if_pos c29] at H
                exact absurd H (by simp)
               ·rw [if_neg c29] at H
                have c29b0 : (ji6 == 0) = false := beq_eq_false_iff_ne.mpr c29
                have c29b1 : (ji6 != 0) = true := bne_iff_ne.mpr c29
                by_cases c30 : x43_2 = (Int.tmod (wrap64 (a1)) ji6)
                ·rw [if_pos c30] at H
                 have c30b0 : (x43_2 == (Int.tmod (wrap64 (a1)) ji6)) = true := beq_iff_eq.mpr c30
                 (try (have c30b0j := c30b0; rw [hji10] at c30b0j))
                 have c30b1 : (x43_2 != (Int.tmod (wrap64 (a1)) ji6)) = false := bne_eq_false_iff_eq.mpr c30
                 (try (have c30b1j := c30b1; rw [hji10] at c30b1j))
                 clear c30
                 by_cases c31 : (rd t407 x43_2) = a0
                 ·rw [if_pos c31] at H
                  have c31b0 : ((rd t407 x43_2) == a0) = true := beq_iff_eq.mpr c31
                  have c31b1 : ((rd t407 x43_2) != a0) = false := bne_eq_false_iff_eq.mpr c31
                  clear c31
                  have H' := Aside0.mk H
                  clear H
                  have p411 : 0 ≤ (x43_2 : Int) := of_decide_eq_true (by first | (with_reducible assumption) | assumption)
                  have q411 : x43_2 < (t407.length : Int) := of_decide_eq_true (by first | (with_reducible assumption) | assumption)
                  obtain ⟨ad411, e411, hx411_0⟩ := Kd.at_int (Kd.R_reads' HO_41.out).2.2 x43_2 p411 q411
                  cases e411
                  replace p411 := eq_true p411
                  replace q411 := eq_true q411
                  go_wp2
                  go_roundg k2
                  case measure => have := HJ14.out; have := HK2.out; omega
                  case rel => exact ⟨(wrap64 (x43_2 + 1)), (by first | rfl | (simp; done) | (simp [*]; done)), H', ⟨by have := HJ14.out; have := HK2.out; omega⟩, ⟨by (with_reducible repeat (first | apply Kd.R_alloc | apply Kd.R_drewN | apply Kd.R_drew)); exact HO_41.out⟩, ⟨by repeat (first | (with_reducible first | exact HB.out | apply below_alloc | apply pw_below_drewN | apply below_drew1) | exact HB.out)⟩⟩
                 ·rw [if_neg c31] at H
                  have c31b0 : ((rd t407 x43_2) == a0) = false := beq_eq_false_iff_ne.mpr c31
                  have c31b1 : ((rd t407 x43_2) != a0) = true := bne_iff_ne.mpr c31
                  obtain rfl := Option.some.inj H
                  have p411 : 0 ≤ (x43_2 : Int) := of_decide_eq_true (by first | (with_reducible assumption) | assumption)
                  have q411 : x43_2 < (t407.length : Int) := of_decide_eq_true (by first | (with_reducible assumption) | assumption)
                  obtain ⟨ad411, e411, hx411_0⟩ := Kd.at_int (Kd.R_reads' HO_41.out).2.2 x43_2 p411 q411
                  cases e411
                  replace p411 := eq_true p411
                  replace q411 := eq_true q411
                  go_wp2
                  go_ret
                  exact ⟨by first | rfl | (simp [errW_none, errW_some] <;> rfl) | (simp only [← hji6, ← hji10]; first | rfl | (simp [errW_none, errW_some] <;> rfl)) | (simp [*, errW_none, errW_some] <;> rfl), by repeat (first | (with_reducible first | exact HB.out | apply below_alloc | apply pw_below_drewN | apply below_drew1) | exact HB.out)⟩
                ·rw [if_neg c30] at H
                 have c30b0 : (x43_2 == (Int.tmod (wrap64 (a1)) ji6)) = false := beq_eq_false_iff_ne.mpr c30
                 (try (have c30b0j := c30b0; rw [hji10] at c30b0j))
                 have c30b1 : (x43_2 != (Int.tmod (wrap64 (a1)) ji6)) = true := bne_iff_ne.mpr c30
                 (try (have c30b1j := c30b1; rw [hji10] at c30b1j))
                 by_cases c32 : (rd t407 x43_2) = 0
                 ·rw [if_pos c32] at H
                  have c32b0 : ((rd t407 x43_2) == 0) = true := beq_iff_eq.mpr c32
                  have c32b1 : ((rd t407 x43_2) != 0) = false := bne_eq_false_iff_eq.mpr c32
                  clear c32
                  have H' := Aside0.mk H
                  clear H
                  have p411 : 0 ≤ (x43_2 : Int) := of_decide_eq_true (by first | (with_reducible assumption) | assumption)
                  have q411 : x43_2 < (t407.length : Int) := of_decide_eq_true (by first | (with_reducible assumption) | assumption)
                  obtain ⟨ad411, e411, hx411_0⟩ := Kd.at_int (Kd.R_reads' HO_41.out).2.2 x43_2 p411 q411
                  cases e411
                  replace p411 := eq_true p411
                  replace q411 := eq_true q411
                  go_wp2
                  go_roundg k2
                  case measure => have := HJ14.out; have := HK2.out; omega
                  case rel => exact ⟨(wrap64 (x43_2 + 1)), (by first | rfl | (simp; done) | (simp [*]; done)), H', ⟨by have := HJ14.out; have := HK2.out; omega⟩, ⟨by (with_reducible repeat (first | apply Kd.R_alloc | apply Kd.R_drewN | apply Kd.R_drew)); exact HO_41.out⟩, ⟨by repeat (first | (with_reducible first | exact HB.out | apply below_alloc | apply pw_below_drewN | apply below_drew1) | exact HB.out)⟩⟩
                 ·rw [if_neg c32] at H
                  have c32b0 : ((rd t407 x43_2) == 0) = false := beq_eq_false_iff_ne.mpr c32
                  have c32b1 : ((rd t407 x43_2) != 0) = true := bne_iff_ne.mpr c32
                  obtain rfl := Option.some.inj H
                  have p411 : 0 ≤ (x43_2 : Int) := of_decide_eq_true (by first | (with_reducible assumption) | assumption)
                  have q411 : x43_2 < (t407.length : Int) := of_decide_eq_true (by first | (with_reducible assumption) | assumption)
                  obtain ⟨ad411, e411, hx411_0⟩ := Kd.at_int (Kd.R_reads' HO_41.out).2.2 x43_2 p411 q411
                  cases e411
                  replace p411 := eq_true p411
                  replace q411 := eq_true q411
                  go_wp2
                  go_ret
                  exact ⟨by first | rfl | (simp [errW_none, errW_some] <;> rfl) | (simp only [← hji6, ← hji10]; first | rfl | (simp [errW_none, errW_some] <;> rfl)) | (simp [*, errW_none, errW_some] <;> rfl), by repeat (first | (with_reducible first | exact HB.out | apply below_alloc | apply pw_below_drewN | apply below_drew1) | exact HB.out)⟩
              ·rw [if_neg c28] at H
               exact absurd H (by simp)
             ·rw [if_neg c27] at H
              exact absurd H (by simp)
            ·rw [if_neg c26] at H
             have c26b0 : decide (x43_2 < (t407.length : Int)) = false := decide_eq_false c26
             clear c26
             obtain rfl := Option.some.inj H
             go_wp2
             go_ret
             exact ⟨by first | rfl | (simp [errW_none, errW_some] <;> rfl) | (simp only [← hji6, ← hji10]; first | rfl | (simp [errW_none, errW_some] <;> rfl)) | (simp [*, errW_none, errW_some] <;> rfl), by repeat (first | (with_reducible first | exact HB.out | apply below_alloc | apply pw_below_drewN | apply below_drew1) | exact HB.out)⟩
      ·rw [if_neg c12] at H
       exact absurd H (by simp)
     ·rw [if_neg c11] at H
      exact absurd H (by simp)
   ·rw [if_neg c8] at H
    exact absurd H (by simp)
  ·rw [if_neg c7] at H
   exact absurd H (by simp)
 ·replace c5 := Bool.eq_false_iff.mpr c5
  subst c5
  have H1 : (some false) = some r := by rw [if_neg (show ¬ (false = true) by decide)] at H; exact H
  clear H
  have H := H1
  clear H1
  obtain rfl := Option.some.inj H
  go_enter Try.func8, Try.ntmps8
  go_wp2_with (first | ((with_reducible refine gate_callee (f := 9) rfl ?_); refine goesL_ (some 13) rfl rfl Try.func9 (by kernel_rfl) rfl #[] rfl (by (try simp only [List.map_toArray, List.map_cons, List.map_nil]); first | done | rfl | (simp only [List.length_drop, List.length_take]; rfl)) ?_; (with_reducible refine (comptrollerlaw04_alive.calls k  false _ A4.out).mono ?_); rintro e w33 ⟨rfl, hb⟩; refine ⟨_, rfl, ?_⟩; have n0_ := Aside0.mk (below_step (by repeat (first | (with_reducible first | exact HB.out | apply below_alloc | apply pw_below_drewN | apply below_drew1) | exact HB.out)) hb); clear HB; have HB := n0_; clear n0_; (try clear hb); (try clear hb2); (try clear hk); (try clear hi)))
  go_ret
  exact ⟨by first | rfl | (simp [errW_none, errW_some] <;> rfl) | (simp [*, errW_none, errW_some] <;> rfl), by repeat (first | (with_reducible first | exact HB.out | apply below_alloc | apply pw_below_drewN | apply below_drew1) | exact HB.out)⟩

/-- THE ONE PURE STATEMENT of comptrollerlaw04_SplitOne: ours. -/
def comptrollerlaw04_SplitOne.Pure : Prop := ∀ (a0 : Int) (a1 : Int) (a2 : Int), (Lit.int .i64 a0).wf = true → (Lit.int .u8 a1).wf = true → (Lit.int .u8 a2).wf = true → ∃ k, comptrollerlaw04_SplitOne.f k a0 a1 a2 = some true

end Go.Proofs.Ytjfnhhfgjomliaa.Q
