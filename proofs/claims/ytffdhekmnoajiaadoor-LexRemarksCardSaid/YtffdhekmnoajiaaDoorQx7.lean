/- printed by a program of this session (wip/tools/pr.sh): it is not a print of the kit -/
import Derived.Test.YtffdhekmnoajiaaDoorXLexRemarks
import Derived.Test.YtffdhekmnoajiaaDoorXName
import Derived.Test.YtffdhekmnoajiaaDoorXLexJoin
import Derived.Test.YtffdhekmnoajiaaDoorXLexLines
import Derived.Test.YtffdhekmnoajiaaDoorQx0
import Derived.Test.YtffdhekmnoajiaaDoorQx1
namespace Go.Proofs.YtffdhekmnoajiaaDoor.Q
open Go.RowKit Go.Proofs.YtffdhekmnoajiaaDoorW.PrintWords Go.Proofs.YtffdhekmnoajiaaDoorW.PrintLast Go.Proofs.YtffdhekmnoajiaaDoorW.PrintMore
attribute [local go_sem] max2_int min2_int max_two min_two max_three min_three max_four min_four RFn.gtr_str   -- for this text's walks alone
set_option linter.unusedVariables false
set_option linter.unusedSimpArgs false

/-! ### law05_LexRemarks: function 7 -/
open Classical in
noncomputable def law05_LexRemarks.f (k : Nat) (a0 : ByteArray) (a1 : ByteArray) : Option Bool := if law05_alive.f k = some true ∧ (a0.size ≤ 3000 → a1.size ≤ 100 → (Go.Proofs.YtffdhekmnoajiaaDoor.X.bytesL a1).any Go.Proofs.YtffdhekmnoajiaaDoor.XR.badR = false → (Go.Proofs.YtffdhekmnoajiaaDoor.X.bytesL a0).any Go.Proofs.YtffdhekmnoajiaaDoor.XR.badS = false → Go.Proofs.YtffdhekmnoajiaaDoor.XR.Rest k a0 a1) then some true else none
theorem law05_LexRemarks.calls (k : Nat) (a0 : ByteArray) (a1 : ByteArray) (r : Bool) (w : World) (h : law05_LexRemarks.f k a0 a1 = some r) (hLd_ : Go.Proofs.YtffdhekmnoajiaaDoor.X.LaidW w) :
  Calls Tryd.prog 7 #[.string a0, .string a1] w fun e w' => e = .returned (.bool r) ∧ Below w.heap.size w w' := by
 unfold law05_LexRemarks.f at h
 split at h
 · rename_i hc
   obtain rfl := Option.some.inj h
   exact Go.Proofs.YtffdhekmnoajiaaDoor.XR.remarks_walk hc.1 a0 a1 hc.2 w hLd_
 · cases h
/-- THE ONE PURE STATEMENT of law05_LexRemarks: ours. -/
def law05_LexRemarks.Pure : Prop := ∀ (a0 : ByteArray) (a1 : ByteArray), a0.size ≤ 140737488351232 → a1.size ≤ 140737488351232 → ∃ k, law05_LexRemarks.f k a0 a1 = some true

end Go.Proofs.YtffdhekmnoajiaaDoor.Q
