/- printed by a program of this session (wip/tools/pr.sh): it is not a print of the kit -/
import Derived.Test.YtjbdkdmoacdbpaaGreatDoorGZ
import Derived.Test.YtjbdkdmoacdbpaaGreatDoorXLayCompare
import Derived.Test.YtjbdkdmoacdbpaaGreatDoorQx0
namespace Go.Proofs.YtjbdkdmoacdbpaaGreatDoor.Q
open Go.RowKit Go.Proofs.YtjbdkdmoacdbpaaGreatDoorW.PrintWords Go.Proofs.YtjbdkdmoacdbpaaGreatDoorW.PrintLast Go.Proofs.YtjbdkdmoacdbpaaGreatDoorW.PrintMore
attribute [local go_sem] max2_int min2_int max_two min_two max_three min_three max_four min_four RFn.gtr_str   -- for this text's walks alone
set_option linter.unusedVariables false
set_option linter.unusedSimpArgs false
/-! ### codec_Print: function 10 -/
def codec_Print.f (l0 : List S50) : Option (ByteArray × Int) := Go.Proofs.YtjbdkdmoacdbpaaGreatDoor.XC.printF l0
theorem codec_Print.calls (A0 : Option Addr) (c0 : Nat) (l0 : List S50) (r1 : ByteArray) (r2 : Int) (w : World) (hr0 : Kd.C k50 w A0 l0.length l0) (hc0 : l0.length ≤ c0) (h : codec_Print.f l0 = some (r1, r2)) (hLd_ : Go.Proofs.YtjbdkdmoacdbpaaGreatDoor.X.LaidW w) :
  Calls Tryz.prog 10 #[.slice A0 l0.length c0] w fun e w' => e = .returned (.tuple #[.string r1, .int .i64 r2]) ∧ Below w.heap.size w w' := Go.Proofs.YtjbdkdmoacdbpaaGreatDoor.XC.print_calls A0 c0 l0 r1 r2 w hr0 hc0 h hLd_
/-! ### codec_Parse: function 13 -/
def codec_Parse.f (a0 : ByteArray) : Option (List S50 × Int) := Go.Proofs.YtjbdkdmoacdbpaaGreatDoor.XC.parseTF a0
theorem codec_Parse.calls (a0 : ByteArray) (r1 : List S50) (r2 : Int) (w : World) (h : codec_Parse.f a0 = some (r1, r2)) (hLd_ : Go.Proofs.YtjbdkdmoacdbpaaGreatDoor.X.LaidW w) :
  Calls Tryz.prog 13 #[.string a0] w fun e w' => ∃ v0_ : Value, e = .returned (.tuple #[v0_, .int .i64 r2]) ∧ Kd.R k50 50 w' w.heap.size (fun _ => True) v0_ r1 ∧ Below w.heap.size w w' := Go.Proofs.YtjbdkdmoacdbpaaGreatDoor.XC.parse_calls a0 r1 r2 w h hLd_
end Go.Proofs.YtjbdkdmoacdbpaaGreatDoor.Q
