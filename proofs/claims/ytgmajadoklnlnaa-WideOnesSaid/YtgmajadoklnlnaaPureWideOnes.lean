/- Proved: for all int64 a, b the law WideOnes returns true (a times one by one is a; b times a by a is b, a not 0; a times one by -1 is -a, or does not fit). No condition. -/
import Derived.Test.YtgmajadoklnlnaaQx12
import Derived.Test.YtgmajadoklnlnaaCWide2
set_option linter.unusedVariables false
set_option linter.unusedSimpArgs false
namespace Go.Proofs.Ytgmajadoklnlnaa.Pure
open Go.RowKit Go.Proofs.Ytgmajadoklnlnaa.Q Go.Proofs.Ytgmajadoklnlnaa.M Go.Proofs.YtgmajadoklnlnaaW.PrintWords Go.Proofs.YtgmajadoklnlnaaW.PrintLast

theorem WideOnes : comptrollerlaw02_WideOnes.Pure := by
  intro a b wa wb
  have ha := wf_i64 wa
  have hb := wf_i64 wb
  have h1 : I64 1 := by unfold I64; omega
  have hm : I64 (-1) := by unfold I64; omega
  refine Ev.rounds (g := fun k => comptrollerlaw02_WideOnes.f k a b) ?_
  unfold comptrollerlaw02_WideOnes.f
  refine Ev.bind alive_f ?_
  simp only [if_true]
  refine Ev.bind (muldiv_f ha h1 h1) ?_
  refine Ev.bind (muldiv_f hb ha ha) ?_
  refine Ev.bind (muldiv_f ha h1 hm) ?_
  have e1 : mulDiv a 1 1 = (a, 0) := by rw [mulDiv_of (v := a) (by decide) (Near.of_eq (by decide) (by omega)), fit_in ha]
  have e3 : mulDiv a 1 (-1) = fit (-a) := mulDiv_of (by decide) (Near.of_eq (by decide) (by omega))
  simp only [e1, e3, if_true]
  have hj : Ev (fun k => comptrollerlaw02_WideOnes.j0 k a (fit (-a)).1 (fit (-a)).2 false) true := by
    refine Ev.step (f := fun _ => some true) (fun k => ?_) (Ev.now _)
    rw [comptrollerlaw02_WideOnes.j0.eq_2, if_neg (by simp)]
    by_cases c : a = -9223372036854775808
    · rw [if_pos c, fit_out (by unfold I64; omega)]; rfl
    · have : I64 (-a) := by unfold I64 at *; omega
      rw [if_neg c, fit_in this, w64_in this, if_pos rfl]; rfl
  by_cases c : a = 0
  · have e2 : mulDiv b a a = (0, 3) := by unfold mulDiv; rw [if_pos c]
    simp only [if_pos c, e2]
    exact hj
  · have e2 : mulDiv b a a = (b, 0) := by rw [mulDiv_of (v := b) c (Near.of_eq c rfl), fit_in hb]
    simp only [if_neg c, e2, if_true]
    exact hj
end Go.Proofs.Ytgmajadoklnlnaa.Pure
