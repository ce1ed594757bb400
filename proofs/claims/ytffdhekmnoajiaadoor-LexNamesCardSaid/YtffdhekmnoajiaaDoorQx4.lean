/- printed by a program of this session (wip/tools/pr.sh): it is not a print of the kit -/
import Derived.Test.YtffdhekmnoajiaaDoorXLexNames
import Derived.Test.YtffdhekmnoajiaaDoorXName
import Derived.Test.YtffdhekmnoajiaaDoorXLexJoin
import Derived.Test.YtffdhekmnoajiaaDoorXLexLines
import Derived.Test.YtffdhekmnoajiaaDoorQx0
import Derived.Test.YtffdhekmnoajiaaDoorQx1
namespace Go.Proofs.YtffdhekmnoajiaaDoor.Q
open Go.RowKit Go.Proofs.YtffdhekmnoajiaaDoorW.PrintWords Go.Proofs.YtffdhekmnoajiaaDoorW.PrintLast Go.Proofs.YtffdhekmnoajiaaDoorW.PrintMore
attribute [local go_sem] max2_int min2_int max_two min_two max_three min_three max_four min_four RFn.gtr_str   -- for this text's walks alone
set_option linter.unusedVariables false
set_option linter.unusedSimpArgs false

/-! ### law05_LexNames: function 4 -/
open Classical in
noncomputable def law05_LexNames.f (k : Nat) (a0 : ByteArray) (a1 : Int) (a2 : Int) : Option Bool := if (0 ≤ a1 ∧ a1 ≤ 255) ∧ (0 ≤ a2 ∧ a2 ≤ 255) ∧ law05_alive.f k = some true then some true else none
theorem law05_LexNames.calls (k : Nat) (a0 : ByteArray) (a1 : Int) (a2 : Int) (r : Bool) (w : World) (h : law05_LexNames.f k a0 a1 a2 = some r) (hLd_ : Go.Proofs.YtffdhekmnoajiaaDoor.X.LaidW w) :
  Calls Tryd.prog 4 #[.string a0, .int .u8 a1, .int .u8 a2] w fun e w' => e = .returned (.bool r) ∧ Below w.heap.size w w' := by
 unfold law05_LexNames.f at h
 split at h
 · rename_i hc
   obtain rfl := Option.some.inj h
   have := Go.Proofs.YtffdhekmnoajiaaDoor.XN.names_walk hc.2.2 a0 a1 (UInt8.ofNat a2.toNat) hc.1 w hLd_
   rw [show ((UInt8.ofNat a2.toNat).toNat : Int) = a2 by rw [UInt8.toNat_ofNat']; omega] at this
   exact this
 · cases h
/-- THE ONE PURE STATEMENT of law05_LexNames: ours. -/
def law05_LexNames.Pure : Prop := ∀ (a0 : ByteArray) (a1 : Int) (a2 : Int), a0.size ≤ 140737488351232 → (Lit.int .u8 a1).wf = true → (Lit.int .u8 a2).wf = true → ∃ k, law05_LexNames.f k a0 a1 a2 = some true

end Go.Proofs.YtffdhekmnoajiaaDoor.Q
