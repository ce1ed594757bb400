/- Proved: the text of any int64, and the amount of any text of at most 300 bytes, are the document's, or there is none. No condition but what Go itself can hold. -/
import Derived.Test.YtpfhoenjndmoaaaDoorQx2
import Derived.Test.YtpfhoenjndmoaaaDoorCAlive01
set_option linter.unusedVariables false
set_option linter.unusedSimpArgs false
namespace Go.Proofs.YtpfhoenjndmoaaaDoor.Pure
open Go.RowKit Go.Proofs.YtpfhoenjndmoaaaDoor.Q Go.Proofs.YtpfhoenjndmoaaaDoor.M Go.Proofs.YtpfhoenjndmoaaaDoorW.PrintWords Go.Proofs.YtpfhoenjndmoaaaDoorW.PrintLast
theorem CentTexts : law01_CentTexts.Pure := by
  intro a s wa hs
  have ha := wf_i64 wa
  obtain ⟨l, rfl⟩ := bs_eta s
  rw [bs_size] at hs
  refine Ev.rounds (g := fun k => law01_CentTexts.f k a (bs l)) ?_
  unfold law01_CentTexts.f
  refine Ev.bind alive_f ?_
  simp only [if_true]
  by_cases c0 : ((bs l).size : Int) > 300
  · simp only [if_pos c0]; exact Ev.now _
  simp only [if_neg c0]
  rw [bs_size] at c0
  refine Ev.bind (evk (cparse_f (by omega))) (Ev.bind (rparse_f l (by omega)) (Ev.bind (evk (cprint_f ha)) (Ev.bind (rprint_f ha) ?_)))
  simp only [if_true, beq_self_eq_true]
  exact Ev.now _
end Go.Proofs.YtpfhoenjndmoaaaDoor.Pure
