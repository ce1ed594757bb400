/- Proved: for all int64 amounts and lists of them, the sum, the difference, the other sign and the sum of many are the document's, or do not fit. No condition but what Go itself can hold. -/
import Derived.Test.YtpfhoenjndmoaaaDoorQx8
import Derived.Test.YtpfhoenjndmoaaaDoorCAlive01
set_option linter.unusedVariables false
set_option linter.unusedSimpArgs false
namespace Go.Proofs.YtpfhoenjndmoaaaDoor.Pure
open Go.RowKit Go.Proofs.YtpfhoenjndmoaaaDoor.Q Go.Proofs.YtpfhoenjndmoaaaDoor.M Go.Proofs.YtpfhoenjndmoaaaDoorW.PrintWords Go.Proofs.YtpfhoenjndmoaaaDoorW.PrintLast
theorem CentTells : law01_CentTells.Pure := by
  intro a b l wa wb hl0 hm0
  have ha := wf_i64 wa
  have hb := wf_i64 wb
  have hm : ∀ x ∈ l, I64 x := fun x hx => wf_i64 (hm0 x hx)
  refine Ev.rounds (g := fun k => law01_CentTells.f k a b l) ?_
  unfold law01_CentTells.f
  refine Ev.bind alive_f ?_
  simp only [if_true]
  by_cases c0 : (l.length : Int) > 300
  · simp only [if_pos c0]; exact Ev.now _
  simp only [if_neg c0]
  refine Ev.bind (evk (cadd_f ha hb)) (Ev.bind (evk (radd_f ha hb)) (Ev.bind (evk (csub_f ha hb)) (Ev.bind (evk (rsub_f ha hb)) (Ev.bind (evk (cneg_f ha)) (Ev.bind (evk (rneg_f ha)) (Ev.bind (csum_f hm hl0) (Ev.bind (rsum_f hm hl0) ?_)))))))
  simp only [if_true, beq_self_eq_true]
  exact Ev.now _
end Go.Proofs.YtpfhoenjndmoaaaDoor.Pure
