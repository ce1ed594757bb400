/- printed by a program of this session (wip/tools/pr.sh): it is not a print of the kit -/
import Derived.Test.YtgheapbhakamaaaGO
import Derived.Test.YtgheapbhakamaaaQx0
import Derived.Test.YtgheapbhakamaaaQx6
namespace Go.Proofs.Ytgheapbhakamaaa.Q
open Go.RowKit Go.Proofs.YtgheapbhakamaaaW.PrintWords Go.Proofs.YtgheapbhakamaaaW.PrintLast Go.Proofs.YtgheapbhakamaaaW.PrintMore
attribute [local go_sem] max2_int min2_int max_two min_two max_three min_three max_four min_four RFn.gtr_str   -- for this text's walks alone
set_option linter.unusedVariables false
set_option linter.unusedSimpArgs false
/-! ### fact_Add: function 21 -/
-- imports: Go.Proofs.Ytgheapbhakamaaa.XR.
def fact_Add.f (k : Nat) (l0 l1 : List S60) : Option (List S60 × Int) := if l0.length + l1.length < 1759218604441 then fact_Of.f k (l0 ++ l1) else none
theorem fact_Add.mono : ∀ a0 a1 k, LeO (fact_Add.f k a0 a1) (fact_Add.f (k + 1) a0 a1) := by
  intro a0 a1 k
  unfold fact_Add.f
  exact LeO.ite (fact_Of.mono _ _) (LeO.refl _)
set_option maxRecDepth 100000 in
set_option maxHeartbeats 8000000 in
theorem fact_Add.calls (k : Nat) (A0 : Option Addr) (c0 : Nat) (l0 : List S60) (A1 : Option Addr) (c1 : Nat) (l1 : List S60) (r1 : List S60) (r2 : Int) (w : World) (hr0 : Kd.C k60 w A0 l0.length l0) (hc0 : l0.length ≤ c0) (hr1 : Kd.C k60 w A1 l1.length l1) (hc1 : l1.length ≤ c1) (h : fact_Add.f k l0 l1 = some (r1, r2)) :
    Calls Try.prog 21 #[.slice A0 l0.length c0, .slice A1 l1.length c1] w fun e w' => ∃ v0_ : Value, e = .returned (.tuple #[v0_, .int .i64 r2]) ∧ Kd.R k60 60 w' w.heap.size (fun _ => True) v0_ r1 ∧ Below w.heap.size w w' := by
  unfold fact_Add.f at h
  by_cases hl : l0.length + l1.length < 1759218604441
  case neg => rw [if_neg hl] at h; cases h
  rw [if_pos hl] at h
  obtain ⟨ll, hll⟩ : ∃ ll, l0 ++ l1 = ll := ⟨_, rfl⟩
  rw [hll] at h
  have HL := Aside0.mk hll
  have HH := Aside0.mk h
  have HR0 := Aside0.mk hr0
  have HR1 := Aside0.mk hr1
  clear h hr0 hr1 hll
  have hc0 : ∀ (x y : Value) (u : TypeId), (w.alloc (.cells #[x, y] u)).cell? ⟨w.heap.size, 0, none⟩ = some x := fun x y u => by unfold World.cell?; dsimp only; rw [World.alloc_heap_new]; rfl
  have hc1 : ∀ (x y : Value) (u : TypeId), (w.alloc (.cells #[x, y] u)).cell? ⟨w.heap.size, 1, none⟩ = some y := fun x y u => by unfold World.cell?; dsimp only; rw [World.alloc_heap_new]; rfl
  have HC0 := Aside0.mk hc0
  have HC1 := Aside0.mk hc1
  clear hc0 hc1
  go_enter Try.func21, Try.ntmps21
  go_wp2_with (first
    | (go_at_call 41; refine (Of.concat w.heap.size A0 A1 c0 c1 l0 l1 _ (HC0.out _ _ _) (HC1.out _ _ _) (Kd.C_alloc HR0.out _) (Kd.C_alloc HR1.out _) (by omega)).mono ?_; rintro e w1 ⟨v, rfl, hR, hB⟩; rw [HL.out] at hR; obtain ⟨Av, cv, rfl⟩ := Kd.R_slice hR; have HRv := Aside0.mk hR; have HBv := Aside0.mk hB; clear hR hB)
    | (go_at_call 12; refine (fact_Of.calls k Av cv ll r1 r2 _ (Kd.R_reads' HRv.out).2.2 (Kd.R_reads' HRv.out).2.1 HH.out).mono ?_; rintro e w2 ⟨v2, rfl, hR2, hB2⟩; have HR2 := Aside0.mk hR2; have HB2 := Aside0.mk hB2; clear hR2 hB2))
  go_ret2
  have hbb : Below w.heap.size w _ := (below_alloc (Below.refl _ w) _).trans (HBv.out.mono (by simp))
  exact ⟨_, rfl, Kd.R_lower HR2.out hbb.size, hbb.trans (HB2.out.mono hbb.size)⟩
end Go.Proofs.Ytgheapbhakamaaa.Q
