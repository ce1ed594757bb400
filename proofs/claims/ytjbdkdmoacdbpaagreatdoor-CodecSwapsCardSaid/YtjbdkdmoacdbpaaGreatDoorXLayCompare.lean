import Derived.Test.YtjbdkdmoacdbpaaGreatDoorProg
import Derived.Shelf.Small.Strs
/- the kit's shelf at this program: the layings, in plain text (printed by wip/tools/lay.py) -/
namespace Go.Proofs.YtjbdkdmoacdbpaaGreatDoor.X
open Go.Shelf
def lays106_ren : Go.Shelf.Ren := ⟨fun | 106 => 48 | 213 => 65 | 265 => 88 | n => n, fun | 9 => 9 | 3 => 3 | n => n, fun | n => n⟩
theorem lays106 : Go.Proofs.Lays.n106 Tryz.prog lays106_ren where
  mixed := by kernel_rfl
  f106 := Tryz.func48.trans (congrArg some (by kernel_rfl))
  f213 := Tryz.func65.trans (congrArg some (by kernel_rfl))
  f265 := Tryz.func88.trans (congrArg some (by kernel_rfl))
  t3 := Tryz.underlying3
  a3 := Tryz.isAgg3
  z3 := Tryz.sizeOf3
  v3 := Tryz.zeroValue3
  t9 := Tryz.underlying9
  a9 := Tryz.isAgg9
  z9 := Tryz.sizeOf9
  v9 := Tryz.zeroValue9
end Go.Proofs.YtjbdkdmoacdbpaaGreatDoor.X
