/- Proved: for all int64 a, b, c what MulDiv and Exact tell is what the document's reference tells. No condition. -/
import Derived.Test.YtgmajadoklnlnaaQx4
import Derived.Test.YtgmajadoklnlnaaCRef02
set_option linter.unusedVariables false
set_option linter.unusedSimpArgs false
namespace Go.Proofs.Ytgmajadoklnlnaa.Pure
open Go.RowKit Go.Proofs.Ytgmajadoklnlnaa.Q Go.Proofs.Ytgmajadoklnlnaa.M Go.Proofs.YtgmajadoklnlnaaW.PrintWords Go.Proofs.YtgmajadoklnlnaaW.PrintLast

theorem WideTells : comptrollerlaw02_WideTells.Pure := by
  intro a b c wa wb wc
  have ha := wf_i64 wa
  have hb := wf_i64 wb
  have hc := wf_i64 wc
  refine Ev.rounds (g := fun k => comptrollerlaw02_WideTells.f k a b c) ?_
  unfold comptrollerlaw02_WideTells.f
  refine Ev.bind alive_f ?_
  simp only [if_true]
  refine Ev.bind (muldiv_f ha hb hc) ?_
  refine Ev.bind (rmuldiv_f ha hb hc) ?_
  refine Ev.bind (exact_f ha hb hc) ?_
  refine Ev.bind (rexact_f ha hb hc) ?_
  simp only [if_true, BEq.rfl]
  exact Ev.now _
end Go.Proofs.Ytgmajadoklnlnaa.Pure
