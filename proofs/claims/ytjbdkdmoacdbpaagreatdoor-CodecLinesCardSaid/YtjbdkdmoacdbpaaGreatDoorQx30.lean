/- printed by a program of this session (wip/tools/pr.sh): it is not a print of the kit -/
import Derived.Test.YtjbdkdmoacdbpaaGreatDoorXLinesLaw
import Derived.Test.YtjbdkdmoacdbpaaGreatDoorXLayCompare
import Derived.Test.YtjbdkdmoacdbpaaGreatDoorQx0
import Derived.Test.YtjbdkdmoacdbpaaGreatDoorQx4
import Derived.Test.YtjbdkdmoacdbpaaGreatDoorQx5
namespace Go.Proofs.YtjbdkdmoacdbpaaGreatDoor.Q
open Go.RowKit Go.Proofs.YtjbdkdmoacdbpaaGreatDoorW.PrintWords Go.Proofs.YtjbdkdmoacdbpaaGreatDoorW.PrintLast Go.Proofs.YtjbdkdmoacdbpaaGreatDoorW.PrintMore
attribute [local go_sem] max2_int min2_int max_two min_two max_three min_three max_four min_four RFn.gtr_str   -- for this text's walks alone
set_option linter.unusedVariables false
set_option linter.unusedSimpArgs false
/-! ### law10_CodecLines: function 6 -/
open Classical in
noncomputable def law10_CodecLines.f (k : Nat) (l0 : List S54) : Option Bool := if law10_alive.f = some true ∧ ∃ b, law09_Few.f k l0 = some b ∧ (b = true → l0.length ≤ 150 ∧ Go.Proofs.YtjbdkdmoacdbpaaGreatDoor.XLi.Rest k l0) then some true else none
theorem law10_CodecLines.calls (k : Nat) (A0 : Option Addr) (c0 : Nat) (l0 : List S54) (r : Bool) (w : World) (hr0 : Kd.C k54 w A0 l0.length l0) (hc0 : l0.length ≤ c0) (h : law10_CodecLines.f k l0 = some r) (hLd_ : Go.Proofs.YtjbdkdmoacdbpaaGreatDoor.X.LaidW w) :
  Calls Tryz.prog 6 #[.slice A0 l0.length c0] w fun e w' => e = .returned (.bool r) ∧ Below w.heap.size w w' := by
 unfold law10_CodecLines.f at h
 split at h
 · rename_i hc
   obtain rfl := Option.some.inj h
   obtain ⟨ha, b, hf, hb⟩ := hc
   exact Go.Proofs.YtjbdkdmoacdbpaaGreatDoor.XLi.lines_walk ha A0 c0 l0 b hf (fun h => (hb h).1) (fun h => (hb h).2) w hr0 hc0 hLd_
 · cases h
/-- THE ONE PURE STATEMENT of law10_CodecLines: ours. -/
def law10_CodecLines.Pure : Prop := ∀ (l0 : List (S54)), l0.length ≤ 9223372036854775807 → (∀ x ∈ l0, g54 x) → ∃ k, law10_CodecLines.f k l0 = some true
end Go.Proofs.YtjbdkdmoacdbpaaGreatDoor.Q
