/- printed by a program of this session (wip/tools/pr.sh): it is not a print of the kit -/
import Derived.Test.YtgheapbhakamaaaXGets
import Derived.Test.YtgheapbhakamaaaQx0
namespace Go.Proofs.Ytgheapbhakamaaa.Q
open Go.RowKit Go.Proofs.YtgheapbhakamaaaW.PrintWords Go.Proofs.YtgheapbhakamaaaW.PrintLast Go.Proofs.YtgheapbhakamaaaW.PrintMore
attribute [local go_sem] max2_int min2_int max_two min_two max_three min_three max_four min_four RFn.gtr_str   -- for this text's walks alone
set_option linter.unusedVariables false
set_option linter.unusedSimpArgs false

/-! ### law09_FactGets: function 6 -/
open Classical in
noncomputable def law09_FactGets.f (l0 : List S28) : Option Bool := if Go.Proofs.Ytgheapbhakamaaa.XG.GetsH l0 then some true else none
theorem law09_FactGets.calls (A0 : Option Addr) (c0 : Nat) (l0 : List S28) (r : Bool) (w : World) (hr0 : Kd.C k28 w A0 l0.length l0) (hc0 : l0.length ≤ c0) (h : law09_FactGets.f l0 = some r) :
  Calls Try.prog 6 #[.slice A0 l0.length c0] w fun e w' => e = .returned (.bool r) ∧ Below w.heap.size w w' := by
 unfold law09_FactGets.f at h
 split at h
 · rename_i hc
   obtain rfl := Option.some.inj h
   exact Go.Proofs.Ytgheapbhakamaaa.XG.gets_walk hc A0 c0 w hr0 hc0
 · cases h
/-- THE ONE PURE STATEMENT of law09_FactGets: ours. -/
def law09_FactGets.Pure : Prop := ∀ (l0 : List (S28)), l0.length ≤ 9223372036854775807 → (∀ x ∈ l0, g28 x) → law09_FactGets.f l0 = some true

end Go.Proofs.Ytgheapbhakamaaa.Q
