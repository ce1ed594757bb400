/- printed by a program of this session (wip/tools/pr.sh): it is not a print of the kit -/
import Derived.Test.YthidfomkgclkcaaDoorGX
import Derived.Test.YthidfomkgclkcaaDoorQx0
import Derived.Test.YthidfomkgclkcaaDoorQx2
import Derived.Test.YthidfomkgclkcaaDoorQx6
namespace Go.Proofs.YthidfomkgclkcaaDoor.Q
open Go.RowKit Go.Proofs.YthidfomkgclkcaaDoorW.PrintWords Go.Proofs.YthidfomkgclkcaaDoorW.PrintLast Go.Proofs.YthidfomkgclkcaaDoorW.PrintMore
attribute [local go_sem] max2_int min2_int max_two min_two max_three min_three max_four min_four   -- for this text's walks alone
set_option linter.unusedVariables false
set_option linter.unusedSimpArgs false

/-! ### law03_RateChains: function 3 -/
def law03_RateChains.f (k : Nat) (l0 : List Int) : Option (Bool) := (law03_alive.f k).bind fun t210 => (if t210 = true then (if (l0.length : Int) > 200 then (some true) else ((rate_Chain.f k l0).bind fun bt211 => ((ref03_Chain.f k l0).bind fun bt213 => (if bt211.1 = bt213.1 then (some (bt211.2 == bt213.2)) else (some false))))) else (some false))
theorem law03_RateChains.mono : ∀ a0 k, LeO (law03_RateChains.f k a0) (law03_RateChains.f (k + 1) a0) := by
 intro a0 k
 unfold law03_RateChains.f
 repeat' first
   | (with_reducible exact law03_alive.mono _)
   | (with_reducible exact rate_Chain.mono _ _)
   | (with_reducible exact ref03_Chain.mono _ _)
   | (with_reducible exact LeO.refl _)
   | (with_reducible exact LeO.none _)
   | (with_reducible refine LeO.ite ?_ ?_)
   | (with_reducible refine LeO.bind ?_ (fun _ => ?_))
   | exact law03_alive.mono _
   | exact rate_Chain.mono _ _
   | exact ref03_Chain.mono _ _
   | exact LeO.none _
   | refine LeO.ite ?_ ?_
   | refine LeO.bind ?_ (fun _ => ?_)
set_option maxHeartbeats 8000000 in
set_option maxRecDepth 100000 in
theorem law03_RateChains.calls (k : Nat) (A0 : Option Addr) (c0 : Nat) (l0 : List Int) (r : Bool) (w : World) (hr0 : Kd.C (Kd.int .i64) w A0 l0.length l0) (hc0 : l0.length ≤ c0) (h : law03_RateChains.f k l0 = some r) (hLd_ : Go.Proofs.YthidfomkgclkcaaDoor.X.LaidW w) :
  Calls Tryd.prog 3 #[.slice A0 l0.length c0] w fun e w' => e = .returned (.bool r) ∧ Below w.heap.size w w' := by
 have HR0 := Aside0.mk hr0
 have HC0 := Aside0.mk hc0
 clear hr0 hc0
 have HB := Aside0.mk (Below.refl w.heap.size w)
 have H : ((law03_alive.f k).bind fun t210 => (if t210 = true then (if (l0.length : Int) > 200 then (some true) else ((rate_Chain.f k l0).bind fun bt211 => ((ref03_Chain.f k l0).bind fun bt213 => (if bt211.1 = bt213.1 then (some (bt211.2 == bt213.2)) else (some false))))) else (some false))) = some r := h
 clear h
 replace H := Option.bind_eq_some_iff.mp H
 obtain ⟨t210, A20, H⟩ := H
 replace H : (if t210 = true then (if (l0.length : Int) > 200 then (some true) else ((rate_Chain.f k l0).bind fun bt211 => ((ref03_Chain.f k l0).bind fun bt213 => (if bt211.1 = bt213.1 then (some (bt211.2 == bt213.2)) else (some false))))) else (some false)) = some r := H
 have A2 := Aside0.mk A20
 clear A20
 by_cases c3 : t210 = true
 ·subst c3
  have H1 : (if (l0.length : Int) > 200 then (some true) else ((rate_Chain.f k l0).bind fun bt211 => ((ref03_Chain.f k l0).bind fun bt213 => (if bt211.1 = bt213.1 then (some (bt211.2 == bt213.2)) else (some false))))) = some r := by rw [if_pos rfl] at H; exact H
  clear H
  have H := H1
  clear H1
  by_cases c4 : (l0.length : Int) > 200
  ·rw [if_pos c4] at H
   have c4b0 : decide (200 < (l0.length : Int)) = true := decide_eq_true c4
   have c4b1 : decide (200 < l0.length) = true := decide_eq_true (by omega)
   clear c4
   obtain rfl := Option.some.inj H
   go_enter Tryd.func3, Tryd.ntmps3
   go_wp2_with (first | ((with_reducible refine gate_callee (f := 9) rfl ?_); refine RFn.goesM (some 7) Tryd.func9 #[] rfl ?_; (with_reducible refine (law03_alive.calls k  true _ A2.out (Go.Proofs.YthidfomkgclkcaaDoor.X.LaidW.below hLd_ RFn.bel)).mono ?_); rintro e w5 ⟨rfl, hb⟩; refine ⟨_, rfl, ?_⟩; have n0_ := Aside0.mk (below_step (RFn.bel) hb); clear HB; have HB := n0_; clear n0_; (try clear hb); (try clear hb2); (try clear hk); (try clear hi)))
   go_ret
   exact ⟨by first | rfl | (simp [errW_none, errW_some] <;> rfl) | (simp [*, errW_none, errW_some] <;> rfl), RFn.bel⟩
  ·rw [if_neg c4] at H
   have c4b0 : decide (200 < (l0.length : Int)) = false := decide_eq_false c4
   have c4b1 : decide (200 < l0.length) = false := decide_eq_false (by omega)
   clear c4
   replace H := Option.bind_eq_some_iff.mp H
   obtain ⟨⟨t211, t212⟩, A60, H⟩ := H
   replace H : ((ref03_Chain.f k l0).bind fun bt213 => (if t211 = bt213.1 then (some (t212 == bt213.2)) else (some false))) = some r := H
   have A6 := Aside0.mk A60
   clear A60
   replace H := Option.bind_eq_some_iff.mp H
   obtain ⟨⟨t213, t214⟩, A70, H⟩ := H
   replace H : (if t211 = t213 then (some (t212 == t214)) else (some false)) = some r := H
   have A7 := Aside0.mk A70
   clear A70
   by_cases c8 : t211 = t213
   ·rw [if_pos c8] at H
    have c8b0 : (t211 == t213) = true := beq_iff_eq.mpr c8
    have c8b1 : (t211 != t213) = false := bne_eq_false_iff_eq.mpr c8
    clear c8
    obtain rfl := Option.some.inj H
    go_enter Tryd.func3, Tryd.ntmps3
    go_wp2_with (first | ((with_reducible refine gate_callee (f := 9) rfl ?_); refine RFn.goesM (some 7) Tryd.func9 #[] rfl ?_; (with_reducible refine (law03_alive.calls k  true _ A2.out (Go.Proofs.YthidfomkgclkcaaDoor.X.LaidW.below hLd_ RFn.bel)).mono ?_); rintro e w9 ⟨rfl, hb⟩; refine ⟨_, rfl, ?_⟩; have n0_ := Aside0.mk (below_step (RFn.bel) hb); clear HB; have HB := n0_; clear n0_; (try clear hb); (try clear hb2); (try clear hk); (try clear hi)) | ((with_reducible refine gate_callee (f := 10) rfl ?_); refine RFn.goesM (some 14) Tryd.func10 #[.slice A0 l0.length c0] rfl ?_; (with_reducible refine (rate_Chain.calls k _ _ l0 t211 t212 _ ?side1 ?side2 A6.out).mono ?_); (case side1 => repeat (first | exact (Kd.C_below HR0.out HB.out) | (with_reducible refine Kd.C_alloc ?_ _) | (with_reducible refine Kd.C_drewN ?_ _) | (with_reducible refine Kd.C_drew ?_))); (case side2 => exact HC0.out); rintro e w10 ⟨rfl, hb⟩; refine ⟨_, rfl, ?_⟩; have n0_ := Aside0.mk (below_step (RFn.bel) hb); clear HB; have HB := n0_; clear n0_; (try clear hb); (try clear hb2); (try clear hk); (try clear hi)) | ((with_reducible refine gate_callee (f := 11) rfl ?_); refine RFn.goesM (some 19) Tryd.func11 #[.slice A0 l0.length c0] rfl ?_; (with_reducible refine (ref03_Chain.calls k _ _ l0 t213 t214 _ ?side1 ?side2 A7.out).mono ?_); (case side1 => repeat (first | exact (Kd.C_below HR0.out HB.out) | (with_reducible refine Kd.C_alloc ?_ _) | (with_reducible refine Kd.C_drewN ?_ _) | (with_reducible refine Kd.C_drew ?_))); (case side2 => exact HC0.out); rintro e w' ⟨rfl, ⟨nd, rfl⟩⟩; refine ⟨_, rfl, ?_⟩))
    go_ret
    exact ⟨by first | rfl | (simp [errW_none, errW_some] <;> rfl) | (simp [*, errW_none, errW_some] <;> rfl), RFn.bel⟩
   ·rw [if_neg c8] at H
    have c8b0 : (t211 == t213) = false := beq_eq_false_iff_ne.mpr c8
    have c8b1 : (t211 != t213) = true := bne_iff_ne.mpr c8
    obtain rfl := Option.some.inj H
    go_enter Tryd.func3, Tryd.ntmps3
    go_wp2_with (first | ((with_reducible refine gate_callee (f := 9) rfl ?_); refine RFn.goesM (some 7) Tryd.func9 #[] rfl ?_; (with_reducible refine (law03_alive.calls k  true _ A2.out (Go.Proofs.YthidfomkgclkcaaDoor.X.LaidW.below hLd_ RFn.bel)).mono ?_); rintro e w11 ⟨rfl, hb⟩; refine ⟨_, rfl, ?_⟩; have n0_ := Aside0.mk (below_step (RFn.bel) hb); clear HB; have HB := n0_; clear n0_; (try clear hb); (try clear hb2); (try clear hk); (try clear hi)) | ((with_reducible refine gate_callee (f := 10) rfl ?_); refine RFn.goesM (some 14) Tryd.func10 #[.slice A0 l0.length c0] rfl ?_; (with_reducible refine (rate_Chain.calls k _ _ l0 t211 t212 _ ?side1 ?side2 A6.out).mono ?_); (case side1 => repeat (first | exact (Kd.C_below HR0.out HB.out) | (with_reducible refine Kd.C_alloc ?_ _) | (with_reducible refine Kd.C_drewN ?_ _) | (with_reducible refine Kd.C_drew ?_))); (case side2 => exact HC0.out); rintro e w12 ⟨rfl, hb⟩; refine ⟨_, rfl, ?_⟩; have n0_ := Aside0.mk (below_step (RFn.bel) hb); clear HB; have HB := n0_; clear n0_; (try clear hb); (try clear hb2); (try clear hk); (try clear hi)) | ((with_reducible refine gate_callee (f := 11) rfl ?_); refine RFn.goesM (some 19) Tryd.func11 #[.slice A0 l0.length c0] rfl ?_; (with_reducible refine (ref03_Chain.calls k _ _ l0 t213 t214 _ ?side1 ?side2 A7.out).mono ?_); (case side1 => repeat (first | exact (Kd.C_below HR0.out HB.out) | (with_reducible refine Kd.C_alloc ?_ _) | (with_reducible refine Kd.C_drewN ?_ _) | (with_reducible refine Kd.C_drew ?_))); (case side2 => exact HC0.out); rintro e w' ⟨rfl, ⟨nd, rfl⟩⟩; refine ⟨_, rfl, ?_⟩))
    go_ret
    exact ⟨by first | rfl | (simp [errW_none, errW_some] <;> rfl) | (simp [*, errW_none, errW_some] <;> rfl), RFn.bel⟩
 ·replace c3 := Bool.eq_false_iff.mpr c3
  subst c3
  have H1 : (some false) = some r := by rw [if_neg (show ¬ (false = true) by decide)] at H; exact H
  clear H
  have H := H1
  clear H1
  obtain rfl := Option.some.inj H
  go_enter Tryd.func3, Tryd.ntmps3
  go_wp2_with (first | ((with_reducible refine gate_callee (f := 9) rfl ?_); refine RFn.goesM (some 7) Tryd.func9 #[] rfl ?_; (with_reducible refine (law03_alive.calls k  false _ A2.out (Go.Proofs.YthidfomkgclkcaaDoor.X.LaidW.below hLd_ RFn.bel)).mono ?_); rintro e w13 ⟨rfl, hb⟩; refine ⟨_, rfl, ?_⟩; have n0_ := Aside0.mk (below_step (RFn.bel) hb); clear HB; have HB := n0_; clear n0_; (try clear hb); (try clear hb2); (try clear hk); (try clear hi)))
  go_ret
  exact ⟨by first | rfl | (simp [errW_none, errW_some] <;> rfl) | (simp [*, errW_none, errW_some] <;> rfl), RFn.bel⟩

/-- THE ONE PURE STATEMENT of law03_RateChains: ours. -/
def law03_RateChains.Pure : Prop := ∀ (l0 : List Int), l0.length ≤ 9223372036854775807 → (∀ x ∈ l0, (Lit.int .i64 x).wf = true) → ∃ k, law03_RateChains.f k l0 = some true

end Go.Proofs.YthidfomkgclkcaaDoor.Q
