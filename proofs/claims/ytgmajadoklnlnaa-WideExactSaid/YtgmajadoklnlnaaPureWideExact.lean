/- Proved: for all int64 a, b, c Exact tells what MulDiv tells, where that is no rounding, and what is told, times c, is the product. No condition. -/
import Derived.Test.YtgmajadoklnlnaaQx8
import Derived.Test.YtgmajadoklnlnaaCWide2
set_option linter.unusedVariables false
set_option linter.unusedSimpArgs false
namespace Go.Proofs.Ytgmajadoklnlnaa.Pure
open Go.RowKit Go.Proofs.Ytgmajadoklnlnaa.Q Go.Proofs.Ytgmajadoklnlnaa.M Go.Proofs.YtgmajadoklnlnaaW.PrintWords Go.Proofs.YtgmajadoklnlnaaW.PrintLast

theorem WideExact : comptrollerlaw02_WideExact.Pure := by
  intro a b c wa wb wc
  have ha := wf_i64 wa
  have hb := wf_i64 wb
  have hc := wf_i64 wc
  refine Ev.rounds (g := fun k => comptrollerlaw02_WideExact.f k a b c) ?_
  unfold comptrollerlaw02_WideExact.f
  refine Ev.bind alive_f ?_
  simp only [if_true]
  refine Ev.bind (exact_f ha hb hc) ?_
  refine Ev.bind (muldiv_f ha hb hc) ?_
  by_cases h0 : c = 0
  · have e1 : exact a b c = (0, false, 3) := by unfold exact; rw [if_pos h0]
    have e2 : mulDiv a b c = (0, 3) := by unfold mulDiv; rw [if_pos h0]
    simp only [e1, e2]
    exact Ev.now _
  · by_cases hd : c ∣ a * b
    · obtain ⟨v, hv⟩ := hd
      rw [Int.mul_comm c v] at hv
      have e1 := exact_yes h0 hv
      have e2 := mulDiv_of h0 (Near.of_eq h0 hv)
      by_cases hi : I64 v
      · rw [if_pos hi] at e1
        rw [fit_in hi] at e2
        simp only [e1, e2, if_true]
        refine Ev.bind (cmp_f hi hc ha hb) ?_
        have e3 : cmpI (v * c) (a * b) = 0 := by unfold cmpI; rw [if_neg (by omega), if_neg (by omega)]
        simp only [e3]
        exact Ev.now _
      · rw [if_neg hi] at e1
        rw [fit_out hi] at e2
        simp only [e1, e2]
        exact Ev.now _
    · have e1 := exact_no h0 hd
      obtain ⟨v, hv, hn⟩ := mulDiv_near (a := a) (b := b) h0
      by_cases hi : I64 v
      · rw [fit_in hi] at hv
        simp only [e1, hv, Bool.false_eq_true, if_false, if_true]
        refine Ev.bind (cmp_f hi hc ha hb) ?_
        have e3 : cmpI (v * c) (a * b) ≠ 0 := by
          have hne : v * c ≠ a * b := fun e => hd ⟨v, by rw [← e, Int.mul_comm]⟩
          unfold cmpI; split
          · decide
          · rw [if_pos (by omega)]; decide
        rw [show (cmpI (v * c) (a * b) != 0) = true by simpa using e3]
        exact Ev.now _
      · rw [fit_out hi] at hv
        simp only [e1, hv]
        exact Ev.now _
end Go.Proofs.Ytgmajadoklnlnaa.Pure
