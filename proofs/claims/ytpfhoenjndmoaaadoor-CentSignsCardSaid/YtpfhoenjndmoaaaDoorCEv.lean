import Derived.Test.YtpfhoenjndmoaaaDoorWMore
/- small words on rounds -/
set_option linter.unusedVariables false
set_option linter.unusedSimpArgs false
namespace Go.Proofs.YtpfhoenjndmoaaaDoor.M
open Go.Proofs.YtpfhoenjndmoaaaDoorW.PrintWords
theorem evk {α : Type} {g : Option α} {r : α} (h : g = some r) : Ev (fun _ => g) r := by subst h; exact Ev.now r
end Go.Proofs.YtpfhoenjndmoaaaDoor.M
