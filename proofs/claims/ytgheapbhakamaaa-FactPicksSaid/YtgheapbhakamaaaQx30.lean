/- printed by a program of this session (wip/tools/pr.sh): it is not a print of the kit -/
import Derived.Test.YtgheapbhakamaaaXPicks
import Derived.Test.YtgheapbhakamaaaQx0
namespace Go.Proofs.Ytgheapbhakamaaa.Q
open Go.RowKit Go.Proofs.YtgheapbhakamaaaW.PrintWords Go.Proofs.YtgheapbhakamaaaW.PrintLast Go.Proofs.YtgheapbhakamaaaW.PrintMore
attribute [local go_sem] max2_int min2_int max_two min_two max_three min_three max_four min_four RFn.gtr_str   -- for this text's walks alone
set_option linter.unusedVariables false
set_option linter.unusedSimpArgs false

/-! ### law09_FactPicks: function 7 -/
open Classical in
noncomputable def law09_FactPicks.f (l0 : List S28) (a1 : ByteArray) : Option Bool := if Go.Proofs.Ytgheapbhakamaaa.XP.PicksH l0 a1 then some true else none
theorem law09_FactPicks.calls (A0 : Option Addr) (c0 : Nat) (l0 : List S28) (a1 : ByteArray) (r : Bool) (w : World) (hr0 : Kd.C k28 w A0 l0.length l0) (hc0 : l0.length ≤ c0) (h : law09_FactPicks.f l0 a1 = some r) :
  Calls Try.prog 7 #[.slice A0 l0.length c0, .string a1] w fun e w' => e = .returned (.bool r) ∧ Below w.heap.size w w' := by
 unfold law09_FactPicks.f at h
 split at h
 · rename_i hc
   obtain rfl := Option.some.inj h
   exact Go.Proofs.Ytgheapbhakamaaa.XP.picks_walk hc A0 c0 w hr0 hc0
 · cases h
/-- THE ONE PURE STATEMENT of law09_FactPicks: ours. -/
def law09_FactPicks.Pure : Prop := ∀ (l0 : List (S28)) (a1 : ByteArray), l0.length ≤ 9223372036854775807 → (∀ x ∈ l0, g28 x) → a1.size ≤ 140737488351232 → law09_FactPicks.f l0 a1 = some true

end Go.Proofs.Ytgheapbhakamaaa.Q
