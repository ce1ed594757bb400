/- Proved: the chain of any shares (ints, at most 200 of them) is the document's, or there is none. No condition but what Go itself can hold. -/
import Derived.Test.YthidfomkgclkcaaDoorQx7
import Derived.Test.YthidfomkgclkcaaDoorGC
import Derived.Test.YthidfomkgclkcaaDoorR3Chain
set_option linter.unusedVariables false
set_option linter.unusedSimpArgs false
namespace Go.Proofs.YthidfomkgclkcaaDoor.Pure
open Go.RowKit Go.Proofs.YthidfomkgclkcaaDoor.Q Go.Proofs.YthidfomkgclkcaaDoor.M Go.Proofs.YthidfomkgclkcaaDoorW.PrintWords Go.Proofs.YthidfomkgclkcaaDoorW.PrintLast
theorem RateChains : law03_RateChains.Pure := by
  intro l _ _
  refine Ev.rounds (g := fun k => law03_RateChains.f k l) ?_
  unfold law03_RateChains.f
  refine Ev.bind alive_f ?_
  simp only [if_true]
  by_cases c0 : (l.length : Int) > 200
  · simp only [if_pos c0]; exact Ev.now _
  simp only [if_neg c0]
  refine Ev.bind (chain_fS (by omega)) (Ev.bind (rchain_fS (by omega)) ?_)
  simp only [if_true, beq_self_eq_true]
  exact Ev.now _
end Go.Proofs.YthidfomkgclkcaaDoor.Pure
