import Derived.Test.YtpfhoenjndmoaaaDoorQx1
import Derived.Test.YtpfhoenjndmoaaaDoorR1Parse
import Derived.Test.YtpfhoenjndmoaaaDoorCCent
import Derived.Test.YtpfhoenjndmoaaaDoorR1Sum
import Derived.Test.YtpfhoenjndmoaaaDoorMWf
import Derived.Lib.ItoaLen
/- the answers that the document fixes -/
set_option linter.unusedVariables false
set_option linter.unusedSimpArgs false
namespace Go.Proofs.YtpfhoenjndmoaaaDoor.M
open Go.RowKit Go.Proofs.YtpfhoenjndmoaaaDoorW.PrintWords Go.Proofs.YtpfhoenjndmoaaaDoorW.PrintLast Go.Proofs.YtpfhoenjndmoaaaDoorW.PrintMore Go.Proofs.YtpfhoenjndmoaaaDoor.Q
theorem alive_f : Ev (fun k => law01_alive.f k) true := by
  unfold law01_alive.f
  have i64d : ∀ n : Int, -9223372036854775808 ≤ n → n ≤ 9223372036854775807 → I64 n := fun n h1 h2 => ⟨h1, h2⟩
  refine Ev.bind (evk (cadd_f (i64d _ (by decide) (by decide)) (i64d _ (by decide) (by decide)))) ?_
  refine Ev.bind (evk (cadd_f (i64d _ (by decide) (by decide)) (i64d _ (by decide) (by decide)))) ?_
  refine Ev.bind (evk (cparse_f (l := [45, 49, 50]) (by decide))) ?_
  refine Ev.bind (evk (cparse_f (l := [45, 48]) (by decide))) ?_
  refine Ev.bind (csum_f (L := [1, 2, 3]) (fun x hx => by simp at hx; unfold I64; omega) (by decide)) ?_
  rw [show addS 2 3 = (5, 0) by decide, show addS 9223372036854775807 1 = (0, 2) by decide, show pS [45, 49, 50] = (-12, 0) by decide +kernel, show pS [45, 48] = (0, 5) by decide +kernel, show sumS 0 [1, 2, 3] = (6, 0) by decide]
  simp only [if_true]
  refine Ev.bind (evk (cprint_f (i64d _ (by decide) (by decide)))) ?_
  have : Lib.itoa (-7) = [45, 55] := by unfold Lib.itoa; rw [if_pos (by decide), show (-7 : Int).natAbs = 7 from rfl, dec_small (by decide)]; rfl
  rw [this]
  simp only [bs_toList, if_true]
  exact Ev.now _
end Go.Proofs.YtpfhoenjndmoaaaDoor.M
