/- printed by a program of this session (wip/tools/pr.sh): it is not a print of the kit -/
import Derived.Test.YtpfhoenjndmoaaaDoorProg
import Derived.Below
import Derived.Deep.Draws
import Derived.Deep.AppendLies
import Derived.Maps.AppendAt
import Derived.OwnWalk
import Derived.Laws.BytesArg
import Derived.Laws.MakeOwn
import Derived.Laws.OwnMore
import Derived.Deep.OwnRows
import Derived.Tactics
import Derived.Lib.ConvBytes
import Derived.Laws.Slices
import Derived.WalkKit
import Derived.KernelRfl
import Derived.RowKit3
import Derived.Deep.LoopGhost
import Derived.Deep.QuietTactic
import Derived.BigQuiet
import Derived.WideLaws
import Derived.Deep.DeepCutAuto
import Derived.Deep.CutBlock
import Derived.Deep.RegionHeld3
import Derived.Laws.Rows
import Derived.Lib.AppendStr
import Derived.ArgAppend
import Derived.Laws.IdiomCopy
import Derived.OrdersHeld
import Derived.Laws.BitsLemmas
import Derived.RowKit
import Derived.Test.YtpfhoenjndmoaaaDoorRFn
import Derived.Test.YtpfhoenjndmoaaaDoorXCent
import Derived.Test.YtpfhoenjndmoaaaDoorWWords
import Derived.Test.YtpfhoenjndmoaaaDoorWLast
import Derived.Test.YtpfhoenjndmoaaaDoorWTab
import Derived.Test.YtpfhoenjndmoaaaDoorWFour
import Derived.Test.YtpfhoenjndmoaaaDoorWQPut
import Derived.Test.YtpfhoenjndmoaaaDoorWApart
import Derived.Test.YtpfhoenjndmoaaaDoorWArr
import Derived.Test.YtpfhoenjndmoaaaDoorWZeros
import Derived.Test.YtpfhoenjndmoaaaDoorWFoot
import Derived.Test.YtpfhoenjndmoaaaDoorWKept
import Derived.Test.YtpfhoenjndmoaaaDoorWShare
import Derived.Test.YtpfhoenjndmoaaaDoorWN
import Derived.Test.YtpfhoenjndmoaaaDoorWFootNe
import Derived.Test.YtpfhoenjndmoaaaDoorWAt
import Derived.Test.YtpfhoenjndmoaaaDoorWEqStruct
import Derived.Test.YtpfhoenjndmoaaaDoorWRepsOne
import Derived.Test.YtpfhoenjndmoaaaDoorWInv
import Derived.Test.YtpfhoenjndmoaaaDoorWInvWords
import Derived.Test.YtpfhoenjndmoaaaDoorWGuard
import Derived.Test.YtpfhoenjndmoaaaDoorWNEv
import Derived.Test.YtpfhoenjndmoaaaDoorWMore
namespace Go.Proofs.YtpfhoenjndmoaaaDoor.Q
open Go.RowKit Go.Proofs.YtpfhoenjndmoaaaDoorW.PrintWords Go.Proofs.YtpfhoenjndmoaaaDoorW.PrintLast Go.Proofs.YtpfhoenjndmoaaaDoorW.PrintMore
attribute [local go_sem] max2_int min2_int max_two min_two max_three min_three max_four min_four   -- for this text's walks alone
set_option linter.unusedVariables false
set_option linter.unusedSimpArgs false



def errW : Option Int → Value
  | none => .nilIface
  | some c => .iface 0 (.int .i64 c)
theorem errW_none : errW none = .nilIface := rfl
theorem errW_some (c : Int) : errW (some c) = .iface 0 (.int .i64 c) := rfl

theorem info2 : (Tryd.prog.info? 2).map (fun i => (i.zero, i.size, i.bytes)) = some (some (.int .i64 0), 1, 8) := by kernel_rfl
-- the values' own types


end Go.Proofs.YtpfhoenjndmoaaaDoor.Q
