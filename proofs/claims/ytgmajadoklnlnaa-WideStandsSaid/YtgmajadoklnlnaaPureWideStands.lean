/- Proved: for all int64 a, b, c, d what Cmp and Gcd tell is what the document's reference tells. No condition. -/
import Derived.Test.YtgmajadoklnlnaaQx6
import Derived.Test.YtgmajadoklnlnaaCRef02b
set_option linter.unusedVariables false
set_option linter.unusedSimpArgs false
namespace Go.Proofs.Ytgmajadoklnlnaa.Pure
open Go.RowKit Go.Proofs.Ytgmajadoklnlnaa.Q Go.Proofs.Ytgmajadoklnlnaa.M Go.Proofs.YtgmajadoklnlnaaW.PrintWords Go.Proofs.YtgmajadoklnlnaaW.PrintLast

theorem WideStands : comptrollerlaw02_WideStands.Pure := by
  intro a b c d wa wb wc wd
  have ha := wf_i64 wa
  have hb := wf_i64 wb
  have hc := wf_i64 wc
  have hd := wf_i64 wd
  refine Ev.rounds (g := fun k => comptrollerlaw02_WideStands.f k a b c d) ?_
  unfold comptrollerlaw02_WideStands.f
  refine Ev.bind alive_f ?_
  simp only [if_true]
  refine Ev.bind (cmp_f ha hb hc hd) ?_
  refine Ev.bind (rcmp_f ha hb hc hd) ?_
  simp only [if_true]
  refine Ev.bind (gcd_f ha hb) ?_
  refine Ev.bind (rgcd_f ha hb) ?_
  simp only [BEq.rfl]
  exact Ev.now _
end Go.Proofs.Ytgmajadoklnlnaa.Pure
