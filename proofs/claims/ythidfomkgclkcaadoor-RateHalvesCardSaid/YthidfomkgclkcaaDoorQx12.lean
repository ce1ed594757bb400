/- printed by a program of this session (wip/tools/pr.sh): it is not a print of the kit -/
import Derived.Test.YthidfomkgclkcaaDoorGX
import Derived.Test.YthidfomkgclkcaaDoorQx0
import Derived.Test.YthidfomkgclkcaaDoorQx2
import Derived.Test.YthidfomkgclkcaaDoorQx6
namespace Go.Proofs.YthidfomkgclkcaaDoor.Q
open Go.RowKit Go.Proofs.YthidfomkgclkcaaDoorW.PrintWords Go.Proofs.YthidfomkgclkcaaDoorW.PrintLast Go.Proofs.YthidfomkgclkcaaDoorW.PrintMore
attribute [local go_sem] max2_int min2_int max_two min_two max_three min_three max_four min_four   -- for this text's walks alone
set_option linter.unusedVariables false
set_option linter.unusedSimpArgs false

/-! ### law03_RateHalves: function 8 -/
def law03_RateHalves.l0 : Nat → Int → List Int → Int → Int → Option (Bool)
 | 0, _, _, _, _ => none
 | k + 1, x3, x4, x12, x13 => if x13 < x12 then (if x4.length < 17592186044416 then (law03_RateHalves.l0 k x3 (x4 ++ [5000]) x12 (wrap64 (x13 + 1))) else (none)) else ((rate_Chain.f k x4).bind fun bt289 => (if x3 > 4 then (if bt289.2 = 12 then (some (bt289.1 == 0)) else (some false)) else (if bt289.2 = 0 then (if 0 ≤ x3 then (some (bt289.1 == (shr .i64 10000 x3))) else (none)) else (some false))))
def law03_RateHalves.f (k : Nat) (a0 : Int) : Option (Bool) := (law03_alive.f k).bind fun t285 => (if t285 = true then (law03_RateHalves.l0 k (Int.tmod (wrap64 (a0)) 20) ([] : List Int) (Int.tmod (wrap64 (a0)) 20) 0) else (some false))
theorem law03_RateHalves.mono_l : ∀ k, (∀ y0 y1 y2 y3, LeO (law03_RateHalves.l0 k y0 y1 y2 y3) (law03_RateHalves.l0 (k + 1) y0 y1 y2 y3))
 | 0 => fun _ _ _ _ r h => by simp [law03_RateHalves.l0] at h
 | k + 1 => by
  have ih0 := law03_RateHalves.mono_l k
  ·intro y0 y1 y2 y3
   unfold law03_RateHalves.l0
   repeat' first
   | (with_reducible exact ih0 _ _ _ _)
   | (with_reducible exact law03_alive.mono _)
   | (with_reducible exact rate_Chain.mono _ _)
   | (with_reducible exact LeO.refl _)
   | (with_reducible exact LeO.none _)
   | (with_reducible refine LeO.ite ?_ ?_)
   | (with_reducible refine LeO.bind ?_ (fun _ => ?_))
   | exact ih0 _ _ _ _
   | exact law03_alive.mono _
   | exact rate_Chain.mono _ _
   | exact LeO.none _
   | refine LeO.ite ?_ ?_
   | refine LeO.bind ?_ (fun _ => ?_)
theorem law03_RateHalves.mono : ∀ a0 k, LeO (law03_RateHalves.f k a0) (law03_RateHalves.f (k + 1) a0) := by
 intro a0 k
 have ih0 := law03_RateHalves.mono_l k
 unfold law03_RateHalves.f
 repeat' first
   | (with_reducible exact ih0 _ _ _ _)
   | (with_reducible exact law03_alive.mono _)
   | (with_reducible exact rate_Chain.mono _ _)
   | (with_reducible exact LeO.refl _)
   | (with_reducible exact LeO.none _)
   | (with_reducible refine LeO.ite ?_ ?_)
   | (with_reducible refine LeO.bind ?_ (fun _ => ?_))
   | exact ih0 _ _ _ _
   | exact law03_alive.mono _
   | exact rate_Chain.mono _ _
   | exact LeO.none _
   | refine LeO.ite ?_ ?_
   | refine LeO.bind ?_ (fun _ => ?_)
set_option maxHeartbeats 8000000 in
set_option maxRecDepth 100000 in
theorem law03_RateHalves.calls (k : Nat) (a0 : Int) (r : Bool) (w : World) (h : law03_RateHalves.f k a0 = some r) (hLd_ : Go.Proofs.YthidfomkgclkcaaDoor.X.LaidW w) :
  Calls Tryd.prog 8 #[.int .u8 a0] w fun e w' => e = .returned (.bool r) ∧ Below w.heap.size w w' := by
 have HB := Aside0.mk (Below.refl w.heap.size w)
 have H : ((law03_alive.f k).bind fun t285 => (if t285 = true then (law03_RateHalves.l0 k (Int.tmod (wrap64 (a0)) 20) ([] : List Int) (Int.tmod (wrap64 (a0)) 20) 0) else (some false))) = some r := h
 clear h
 replace H := Option.bind_eq_some_iff.mp H
 obtain ⟨t285, A20, H⟩ := H
 replace H : (if t285 = true then (law03_RateHalves.l0 k (Int.tmod (wrap64 (a0)) 20) ([] : List Int) (Int.tmod (wrap64 (a0)) 20) 0) else (some false)) = some r := H
 have A2 := Aside0.mk A20
 clear A20
 by_cases c3 : t285 = true
 ·subst c3
  have H1 : (law03_RateHalves.l0 k (Int.tmod (wrap64 (a0)) 20) ([] : List Int) (Int.tmod (wrap64 (a0)) 20) 0) = some r := by rw [if_pos rfl] at H; exact H
  clear H
  have H := H1
  clear H1
  have H' := Aside0.mk H
  clear H
  go_enter Tryd.func8, Tryd.ntmps8
  go_wp2_with (first | ((with_reducible refine gate_callee (f := 9) rfl ?_); refine RFn.goesM (some 7) Tryd.func9 #[] rfl ?_; (with_reducible refine (law03_alive.calls k  true _ A2.out (Go.Proofs.YthidfomkgclkcaaDoor.X.LaidW.below hLd_ RFn.bel)).mono ?_); rintro e w4 ⟨rfl, hb⟩; refine ⟨_, rfl, ?_⟩; have n0_ := Aside0.mk (below_step (RFn.bel) hb); clear HB; have HB := n0_; clear n0_; (try clear hb); (try clear hb2); (try clear hk); (try clear hi)))
  (try simp only [Act.put, List.setIfInBounds_toArray, List.set_cons_succ, List.set_cons_zero])
  go_loopg [4, 13] k (fun kq v4 v13 w' => ∃ (x4_1 : List Int) (x13_1 : Int), v13 = .int .i64 x13_1 ∧ Aside0 (law03_RateHalves.l0 kq (Int.tmod (wrap64 (a0)) 20) x4_1 (Int.tmod (wrap64 (a0)) 20) x13_1 = some r) ∧ Aside0 (kq ≤ k) ∧ Aside0 (Kd.R (Kd.int .i64) 3 w' w.heap.size (fun _ => True) v4 x4_1) ∧ Aside0 (Below w.heap.size w w'))
  case atStart => exact ⟨(([] : List Int)), (0), (by first | rfl | (simp; done) | (simp [*]; done)), H', ⟨Nat.le_refl _⟩, ⟨by first | exact Kd.R_nil _ _ _ _ _ | exact Kd.N_nil _ _ _ _ _ | exact Kd.V_nil _ _ _ _ _ | exact Kd.Q_nil _ _ _ _ _ | exact Kd.S_nil _ _ _ _ _⟩, ⟨RFn.bel⟩⟩
  case round =>
   clear H'
   try clear p2
   try clear c3
   obtain ⟨x4_1, x13_1, rfl, HA, HK1, HO_4, HB⟩ := hrel
   cases gk with
   | zero => exact absurd HA.out (by simp [law03_RateHalves.l0])
   | succ k1 =>
    have H := HA.out
    clear HA
    simp only [law03_RateHalves.l0] at H
    by_cases c5 : x13_1 < (Int.tmod (wrap64 (a0)) 20)
    ·rw [if_pos c5] at H
     have c5b0 : decide (x13_1 < (Int.tmod (wrap64 (a0)) 20)) = true := decide_eq_true c5
     clear c5
     by_cases c6 : x4_1.length < 17592186044416
     ·rw [if_pos c6] at H
      have LMc6 := Aside0.mk c6
      clear c6
      obtain ⟨y286, hy286⟩ : ∃ y_ : List Int, y_ = (x4_1 ++ [5000]) := ⟨_, rfl⟩
      replace H : (law03_RateHalves.l0 k1 (Int.tmod (wrap64 (a0)) 20) y286 (Int.tmod (wrap64 (a0)) 20) (wrap64 (x13_1 + 1))) = some r := by first | (rw [hy286]; with_reducible exact H) | (have H2_ := (Option.bind_some _ _).symm.trans H; rw [hy286]; with_reducible exact H2_) | (have H2_ := (Option.bind_some _ _).symm.trans H; with_reducible exact H2_) | with_reducible exact H | (rw [hy286]; exact H) | exact H
      have Ny286 := Aside0.mk hy286
      clear hy286
      have H' := Aside0.mk H
      clear H
      go_wp2_with (first | ((with_reducible refine gate_builtin (b := .append) (xs := #[.tmp 15, .tmp 16]) rfl ?_); at_builtin; refine Kd.R_append (Kd.int .i64) (w0 := w) w.heap.size rfl (.tmp 15) (.tmp 16) 22 3 (.int .i64 0) 8 rfl Tryd.underlying22 info3 rfl (by decide) (by omega) u4 x4_1 5000 [.int .i64 5000] (fun _ => True) (fun _ => False) rfl rfl ?aP (fun _ hk => hk.elim) ?aF ?aO ?aB ?aS ?aL ?_; (case aP => exact rfl); (case aB => exact (RFn.bel)); (case aF => exact (fun _ _ => trivial)); (case aO => exact (by (with_reducible repeat (first | apply Kd.R_alloc | apply Kd.R_drewN | apply Kd.R_drew)); exact HO_4.out)); (case aS => exact (below_size (RFn.bel))); (case aL => have := LMc6.out; omega); intro v287 w7 ho hb hg hat; rw [← Ny286.out] at ho; have n0_ := Aside0.mk (hb); have n1_ := Aside0.mk (ho); clear HB; clear HO_4; have HB := n0_; have HO288 := n1_; clear n0_ n1_; clear ho hb hg hat))
      go_roundg k1
      case measure => have := HK1.out; omega
      case rel => exact ⟨(y286), (wrap64 (x13_1 + 1)), (by first | rfl | (simp; done) | (simp [*]; done)), H', ⟨by have := HK1.out; omega⟩, ⟨by (with_reducible repeat (first | apply Kd.R_alloc | apply Kd.R_drewN | apply Kd.R_drew)); exact HO288.out⟩, ⟨RFn.bel⟩⟩
     ·rw [if_neg c6] at H
      exact absurd H (by simp)
    ·rw [if_neg c5] at H
     have c5b0 : decide (x13_1 < (Int.tmod (wrap64 (a0)) 20)) = false := decide_eq_false c5
     clear c5
     replace H := Option.bind_eq_some_iff.mp H
     obtain ⟨⟨t289, t290⟩, A80, H⟩ := H
     replace H : (if (Int.tmod (wrap64 (a0)) 20) > 4 then (if t290 = 12 then (some (t289 == 0)) else (some false)) else (if t290 = 0 then (if 0 ≤ (Int.tmod (wrap64 (a0)) 20) then (some (t289 == (shr .i64 10000 (Int.tmod (wrap64 (a0)) 20)))) else (none)) else (some false))) = some r := H
     have A8 := Aside0.mk A80
     clear A80
     by_cases c9 : (Int.tmod (wrap64 (a0)) 20) > 4
     ·rw [if_pos c9] at H
      have c9b0 : decide (4 < (Int.tmod (wrap64 (a0)) 20)) = true := decide_eq_true c9
      clear c9
      by_cases c10 : t290 = 12
      ·rw [if_pos c10] at H
       have c10b0 : (t290 == 12) = true := beq_iff_eq.mpr c10
       have c10b1 : (t290 != 12) = false := bne_eq_false_iff_eq.mpr c10
       clear c10
       obtain rfl := Option.some.inj H
       obtain ⟨Ao11, co11, eo11⟩ := Kd.R_slice HO_4.out
       subst eo11
       go_wp2_with (first | ((with_reducible refine gate_callee (f := 10) rfl ?_); refine RFn.goesM (some 21) Tryd.func10 #[.slice Ao11 x4_1.length co11] rfl ?_; (with_reducible refine (rate_Chain.calls k1 _ _ x4_1 t289 t290 _ ?side1 ?side2 A8.out).mono ?_); (case side1 => repeat (first | exact (Kd.R_reads' HO_4.out).2.2 | (with_reducible refine Kd.C_alloc ?_ _) | (with_reducible refine Kd.C_drewN ?_ _) | (with_reducible refine Kd.C_drew ?_))); (case side2 => exact (Kd.R_reads' HO_4.out).2.1); rintro e w12 ⟨rfl, hb⟩; refine ⟨_, rfl, ?_⟩; have n0_ := Aside0.mk (Kd.R_below (by (with_reducible repeat (first | apply Kd.R_alloc | apply Kd.R_drewN | apply Kd.R_drew)); exact HO_4.out) hb); have n1_ := Aside0.mk (below_step (RFn.bel) hb); clear HO_4; clear HB; have HO_4 := n0_; have HB := n1_; clear n0_ n1_; (try clear hb); (try clear hb2); (try clear hk); (try clear hi)))
       go_ret
       exact ⟨by first | rfl | (simp [errW_none, errW_some] <;> rfl) | (simp [*, errW_none, errW_some] <;> rfl), RFn.bel⟩
      ·rw [if_neg c10] at H
       have c10b0 : (t290 == 12) = false := beq_eq_false_iff_ne.mpr c10
       have c10b1 : (t290 != 12) = true := bne_iff_ne.mpr c10
       obtain rfl := Option.some.inj H
       obtain ⟨Ao13, co13, eo13⟩ := Kd.R_slice HO_4.out
       subst eo13
       go_wp2_with (first | ((with_reducible refine gate_callee (f := 10) rfl ?_); refine RFn.goesM (some 21) Tryd.func10 #[.slice Ao13 x4_1.length co13] rfl ?_; (with_reducible refine (rate_Chain.calls k1 _ _ x4_1 t289 t290 _ ?side1 ?side2 A8.out).mono ?_); (case side1 => repeat (first | exact (Kd.R_reads' HO_4.out).2.2 | (with_reducible refine Kd.C_alloc ?_ _) | (with_reducible refine Kd.C_drewN ?_ _) | (with_reducible refine Kd.C_drew ?_))); (case side2 => exact (Kd.R_reads' HO_4.out).2.1); rintro e w14 ⟨rfl, hb⟩; refine ⟨_, rfl, ?_⟩; have n0_ := Aside0.mk (Kd.R_below (by (with_reducible repeat (first | apply Kd.R_alloc | apply Kd.R_drewN | apply Kd.R_drew)); exact HO_4.out) hb); have n1_ := Aside0.mk (below_step (RFn.bel) hb); clear HO_4; clear HB; have HO_4 := n0_; have HB := n1_; clear n0_ n1_; (try clear hb); (try clear hb2); (try clear hk); (try clear hi)))
       go_ret
       exact ⟨by first | rfl | (simp [errW_none, errW_some] <;> rfl) | (simp [*, errW_none, errW_some] <;> rfl), RFn.bel⟩
     ·rw [if_neg c9] at H
      have c9b0 : decide (4 < (Int.tmod (wrap64 (a0)) 20)) = false := decide_eq_false c9
      clear c9
      by_cases c15 : t290 = 0
      ·rw [if_pos c15] at H
       have c15b0 : (t290 == 0) = true := beq_iff_eq.mpr c15
       have c15b1 : (t290 != 0) = false := bne_eq_false_iff_eq.mpr c15
       clear c15
       obtain ⟨ji16, hji16⟩ : ∃ j_ : Int, (Int.tmod (wrap64 (a0)) 20) = j_ := ⟨_, rfl⟩
       replace H : (if 0 ≤ (ji16) then (some (t289 == (shr .i64 10000 (ji16)))) else (none)) = some r := by first | (rw [hji16] at H; exact H) | (simp only [hji16] at H ⊢; exact H)
       (try rw [hji16] at c5b0)
       (try rw [hji16] at c9b0)
       (try rw [hji16] at A8)
       by_cases c17 : 0 ≤ (ji16)
       ·rw [if_pos c17] at H
        have c17b0 := eq_true c17
        have c17b1 : decide (0 ≤ (ji16)) = true := decide_eq_true c17
        clear c17
        obtain ⟨ji18, hji18⟩ : ∃ j_ : Int, (shr .i64 10000 (ji16)) = j_ := ⟨_, rfl⟩
        replace H : (some (t289 == (ji18))) = some r := by first | (rw [hji18] at H; exact H) | (simp only [hji18] at H ⊢; exact H)
        (try rw [hji18] at A8)
        have hji18_ : (10000 / 2 ^ min (ji16).toNat 64) = ji18 := hji18
        have hji18z : (ji16) ≤ 64 → (10000 / 2 ^ (ji16).toNat) = ji18 := shr_small hji18
        obtain rfl := Option.some.inj H
        obtain ⟨Ao19, co19, eo19⟩ := Kd.R_slice HO_4.out
        subst eo19
        go_wp2_with (first | ((with_reducible refine gate_callee (f := 10) rfl ?_); refine RFn.goesM (some 21) Tryd.func10 #[.slice Ao19 x4_1.length co19] rfl ?_; (with_reducible refine (rate_Chain.calls k1 _ _ x4_1 t289 t290 _ ?side1 ?side2 A8.out).mono ?_); (case side1 => repeat (first | exact (Kd.R_reads' HO_4.out).2.2 | (with_reducible refine Kd.C_alloc ?_ _) | (with_reducible refine Kd.C_drewN ?_ _) | (with_reducible refine Kd.C_drew ?_))); (case side2 => exact (Kd.R_reads' HO_4.out).2.1); rintro e w20 ⟨rfl, hb⟩; refine ⟨_, rfl, ?_⟩; have n0_ := Aside0.mk (Kd.R_below (by (with_reducible repeat (first | apply Kd.R_alloc | apply Kd.R_drewN | apply Kd.R_drew)); exact HO_4.out) hb); have n1_ := Aside0.mk (below_step (RFn.bel) hb); clear HO_4; clear HB; have HO_4 := n0_; have HB := n1_; clear n0_ n1_; (try clear hb); (try clear hb2); (try clear hk); (try clear hi)))
        go_ret
        exact ⟨by first | rfl | (simp [errW_none, errW_some] <;> rfl) | (simp only [← hji16, ← hji18]; first | rfl | (simp [errW_none, errW_some] <;> rfl)) | (simp [*, errW_none, errW_some] <;> rfl), RFn.bel⟩
       ·rw [if_neg c17] at H
        exact absurd H (by simp)
      ·rw [if_neg c15] at H
       have c15b0 : (t290 == 0) = false := beq_eq_false_iff_ne.mpr c15
       have c15b1 : (t290 != 0) = true := bne_iff_ne.mpr c15
       obtain rfl := Option.some.inj H
       obtain ⟨Ao21, co21, eo21⟩ := Kd.R_slice HO_4.out
       subst eo21
       go_wp2_with (first | ((with_reducible refine gate_callee (f := 10) rfl ?_); refine RFn.goesM (some 21) Tryd.func10 #[.slice Ao21 x4_1.length co21] rfl ?_; (with_reducible refine (rate_Chain.calls k1 _ _ x4_1 t289 t290 _ ?side1 ?side2 A8.out).mono ?_); (case side1 => repeat (first | exact (Kd.R_reads' HO_4.out).2.2 | (with_reducible refine Kd.C_alloc ?_ _) | (with_reducible refine Kd.C_drewN ?_ _) | (with_reducible refine Kd.C_drew ?_))); (case side2 => exact (Kd.R_reads' HO_4.out).2.1); rintro e w22 ⟨rfl, hb⟩; refine ⟨_, rfl, ?_⟩; have n0_ := Aside0.mk (Kd.R_below (by (with_reducible repeat (first | apply Kd.R_alloc | apply Kd.R_drewN | apply Kd.R_drew)); exact HO_4.out) hb); have n1_ := Aside0.mk (below_step (RFn.bel) hb); clear HO_4; clear HB; have HO_4 := n0_; have HB := n1_; clear n0_ n1_; (try clear hb); (try clear hb2); (try clear hk); (try clear hi)))
       go_ret
       exact ⟨by first | rfl | (simp [errW_none, errW_some] <;> rfl) | (simp [*, errW_none, errW_some] <;> rfl), RFn.bel⟩
 ·replace c3 := Bool.eq_false_iff.mpr c3
  subst c3
  have H1 : (some false) = some r := by rw [if_neg (show ¬ (false = true) by decide)] at H; exact H
  clear H
  have H := H1
  clear H1
  obtain rfl := Option.some.inj H
  go_enter Tryd.func8, Tryd.ntmps8
  go_wp2_with (first | ((with_reducible refine gate_callee (f := 9) rfl ?_); refine RFn.goesM (some 7) Tryd.func9 #[] rfl ?_; (with_reducible refine (law03_alive.calls k  false _ A2.out (Go.Proofs.YthidfomkgclkcaaDoor.X.LaidW.below hLd_ RFn.bel)).mono ?_); rintro e w23 ⟨rfl, hb⟩; refine ⟨_, rfl, ?_⟩; have n0_ := Aside0.mk (below_step (RFn.bel) hb); clear HB; have HB := n0_; clear n0_; (try clear hb); (try clear hb2); (try clear hk); (try clear hi)))
  go_ret
  exact ⟨by first | rfl | (simp [errW_none, errW_some] <;> rfl) | (simp [*, errW_none, errW_some] <;> rfl), RFn.bel⟩

/-- THE ONE PURE STATEMENT of law03_RateHalves: ours. -/
def law03_RateHalves.Pure : Prop := ∀ (a0 : Int), (Lit.int .u8 a0).wf = true → ∃ k, law03_RateHalves.f k a0 = some true

end Go.Proofs.YthidfomkgclkcaaDoor.Q
