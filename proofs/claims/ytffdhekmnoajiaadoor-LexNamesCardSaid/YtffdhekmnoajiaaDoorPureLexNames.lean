/- LexNames: what is a name is a word of a line by itself; with one byte more of another kind it is none. Condition: none beyond the law's own. -/
import Derived.Test.YtffdhekmnoajiaaDoorQx4
import Derived.Test.YtffdhekmnoajiaaDoorCAlive05
import Derived.Test.YtffdhekmnoajiaaDoorMWf
set_option linter.unusedVariables false
set_option linter.unusedSimpArgs false
namespace Go.Proofs.YtffdhekmnoajiaaDoor.Pure
open Go.RowKit Go.Proofs.YtffdhekmnoajiaaDoorW.PrintWords Go.Proofs.YtffdhekmnoajiaaDoorW.PrintLast Go.Proofs.YtffdhekmnoajiaaDoorW.PrintMore Go.Proofs.YtffdhekmnoajiaaDoor.Q Go.Proofs.YtffdhekmnoajiaaDoor.X Go.Proofs.YtffdhekmnoajiaaDoor.M
theorem LexNames : law05_LexNames.Pure := by
  intro a0 a1 a2 _ h1 h2
  obtain ⟨k, hk⟩ := Ev.rounds alive_f
  refine ⟨k, ?_⟩
  unfold law05_LexNames.f
  rw [if_pos ⟨wf_u8 h1, wf_u8 h2, hk⟩]
end Go.Proofs.YtffdhekmnoajiaaDoor.Pure
