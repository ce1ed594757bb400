import Derived.Test.YtffdhekmnoajiaaDoorWMore
/- small words on rounds -/
set_option linter.unusedVariables false
set_option linter.unusedSimpArgs false
namespace Go.Proofs.YtffdhekmnoajiaaDoor.M
open Go.Proofs.YtffdhekmnoajiaaDoorW.PrintWords
theorem evk {α : Type} {g : Option α} {r : α} (h : g = some r) : Ev (fun _ => g) r := by subst h; exact Ev.now r
end Go.Proofs.YtffdhekmnoajiaaDoor.M
