import Derived.Lib.ParseIntB
import Derived.Lib.SlTrimSet
import Derived.Lib.Strings
set_option linter.unusedVariables false
set_option linter.unusedSimpArgs false
namespace Go.Proofs.YtpfhoenjndmoaaaDoor.X
open Go
/-- what cent.Parse tells -/
def badF (l : List UInt8) : Bool :=
  (Lib.trimPrefix l [45]).isEmpty || (Lib.hasPrefix (Lib.trimPrefix l [45]) [48] && !(l == [48])) || !(Lib.trimS (Lib.trimPrefix l [45]) [48, 49, 50, 51, 52, 53, 54, 55, 56, 57]).isEmpty
def parseF (l : List UInt8) : Int × Int := if badF l = true then (0, 5) else match Lib.parseIntB 64 l with | .ok v => (v, 0) | _ => (0, 2)
end Go.Proofs.YtpfhoenjndmoaaaDoor.X
