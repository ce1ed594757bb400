/- Proved: for all int64 amounts, taking away is adding the other sign, where there is one; that of that is the amount. No condition but what Go itself can hold. -/
import Derived.Test.YtpfhoenjndmoaaaDoorQx9
import Derived.Test.YtpfhoenjndmoaaaDoorCAlive01
set_option linter.unusedVariables false
set_option linter.unusedSimpArgs false
namespace Go.Proofs.YtpfhoenjndmoaaaDoor.Pure
open Go.RowKit Go.Proofs.YtpfhoenjndmoaaaDoor.Q Go.Proofs.YtpfhoenjndmoaaaDoor.M Go.Proofs.YtpfhoenjndmoaaaDoorW.PrintWords Go.Proofs.YtpfhoenjndmoaaaDoorW.PrintLast
theorem CentSigns : law01_CentSigns.Pure := by
  intro a b wa wb
  have ha := wf_i64 wa
  have hb := wf_i64 wb
  refine Ev.rounds (g := fun k => law01_CentSigns.f k a b) ?_
  unfold law01_CentSigns.f
  refine Ev.bind alive_f ?_
  simp only [if_true]
  refine Ev.bind (evk (cneg_f hb)) ?_
  by_cases c : b = -9223372036854775808
  · subst c
    rw [show subS 0 (-9223372036854775808) = (0, 2) by decide]
    simp only [show ¬ (2 : Int) = 0 by decide, if_false, if_true]
    exact Ev.now _
  · have hn : I64 (0 - b) := by unfold I64 at *; omega
    rw [show subS 0 b = (0 - b, 0) by unfold subS; rw [if_pos hn]]
    simp only [if_true]
    refine Ev.bind (evk (csub_f ha hb)) (Ev.bind (evk (cadd_f ha hn)) (Ev.bind (evk (cneg_f hn)) ?_))
    rw [show addS a (0 - b) = subS a b by unfold addS subS; rw [show a + (0 - b) = a - b by omega], show subS 0 (0 - b) = (b, 0) by unfold subS; rw [show 0 - (0 - b) = b by omega, if_pos hb]]
    simp only [if_true, beq_self_eq_true]
    exact Ev.now _
end Go.Proofs.YtpfhoenjndmoaaaDoor.Pure
