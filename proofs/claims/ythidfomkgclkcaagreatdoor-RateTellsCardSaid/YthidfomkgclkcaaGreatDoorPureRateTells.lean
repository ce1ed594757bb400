/- Proved: which rates may be, the rate of any two numbers, an amount at any rate, and how two stand, are the document's, or refused. For all int64 numbers. No condition. -/
import Derived.Test.YthidfomkgclkcaaGreatDoorQx10
import Derived.Test.YthidfomkgclkcaaGreatDoorGC
import Derived.Test.YthidfomkgclkcaaGreatDoorGR
set_option linter.unusedVariables false
set_option linter.unusedSimpArgs false
namespace Go.Proofs.YthidfomkgclkcaaGreatDoor.Pure
open Go.RowKit Go.Proofs.YthidfomkgclkcaaGreatDoor.Q Go.Proofs.YthidfomkgclkcaaGreatDoor.M Go.Proofs.YthidfomkgclkcaaGreatDoorW.PrintWords Go.Proofs.YthidfomkgclkcaaGreatDoorW.PrintLast
theorem RateTells : law03_RateTells.Pure := by
  intro a b c d n wa wb wc wd wn
  have ha := wf_i64 wa
  have hb := wf_i64 wb
  have hc := wf_i64 wc
  have hd := wf_i64 wd
  have hn := wf_i64 wn
  refine Ev.rounds (g := fun k => law03_RateTells.f k a b c d n) ?_
  unfold law03_RateTells.f
  refine Ev.bind alive_f ?_
  simp only [if_true]
  refine Ev.bind (make_f ha hb) (Ev.bind (rmake_f ha hb) (Ev.bind (apply_fS ha hb hn) (Ev.bind (rapply_f ha hb hn) (Ev.bind (right_f ha hb) (Ev.bind (rright_f ha hb) ?_)))))
  simp only [beq_self_eq_true, Bool.and_true, if_true]
  refine Ev.bind (rcmp_fS ha hb hc hd) (Ev.bind (rcmp3_f ha hb hc hd) ?_)
  rw [beq_self_eq_true]
  exact Ev.now _
end Go.Proofs.YthidfomkgclkcaaGreatDoor.Pure
