/- Proved: for all int64 amounts and all parts of the whole, a share and what is left are the amount, and what is left is the other share or one off. No condition. -/
import Derived.Test.YtjfnhhfgjomliaaQx13
import Derived.Test.YtjfnhhfgjomliaaCShare
set_option linter.unusedVariables false
set_option linter.unusedSimpArgs false
namespace Go.Proofs.Ytjfnhhfgjomliaa.Pure
open Go.RowKit Go.Proofs.Ytjfnhhfgjomliaa.Q Go.Proofs.Ytjfnhhfgjomliaa.M Go.Proofs.YtjfnhhfgjomliaaW.PrintWords Go.Proofs.YtjfnhhfgjomliaaW.PrintLast

theorem SplitShares : comptrollerlaw04_SplitShares.Pure := by
  intro a q wa wq
  have ha := wf_i64 wa
  have hq : 0 ≤ q ∧ q ≤ 65535 := by
    have := wq; simp [Lit.wf, IntKind.min, IntKind.max, IntKind.bits, IntKind.signed] at this; omega
  refine Ev.rounds (g := fun k => comptrollerlaw04_SplitShares.f k a q) ?_
  unfold comptrollerlaw04_SplitShares.f
  refine Ev.bind alive_f ?_
  simp only [if_true]
  have e0 : wrap64 q = q := w64_in (by unfold I64; omega)
  have e1 : Int.tmod q 10001 = q % 10001 := Int.tmod_eq_emod_of_nonneg hq.1
  obtain ⟨p, hp⟩ : ∃ p, p = q % 10001 := ⟨_, rfl⟩
  have e2 : wrap64 (10000 - p) = 10000 - p := w64_in (by unfold I64; omega)
  rw [e0, e1, ← hp, e2]
  have h0 : 0 ≤ p := by omega
  have h1 : p ≤ 10000 := by omega
  clear hp e1 e0 e2 wa wq
  refine Ev.bind (share_f ha h0 h1) (Ev.bind (share_f ha (p := 10000 - p) (by omega) (by omega)) (Ev.bind (share_f ha (p := 10000) (by omega) (by omega)) ?_))
  have hA := ab_le ha
  have hA0 := ab_nonneg a
  have x0 : 0 ≤ ab a * p := Int.mul_nonneg hA0 h0
  have x1 : ab a * p ≤ ab a * 10000 := Int.mul_le_mul_of_nonneg_left h1 hA0
  have x2 : ab a * (10000 - p) = ab a * 10000 - ab a * p := Int.mul_sub _ _ _
  have y1 : shrS a 10000 = a := by
    unfold shrS rnd; unfold ab at *; split <;> split <;> omega
  have y2 := (shr_md ha h0 h1).2
  have y3 := (shr_md ha (p := 10000 - p) (by omega) (by omega)).2
  have y4 : shrS a p + shrS a (10000 - p) = a ∨ shrS a p + shrS a (10000 - p) = a + 1 ∨ shrS a p + shrS a (10000 - p) = a - 1 := by
    unfold shrS; rw [x2]
    generalize hx : ab a * p = x at *
    have hab : a < 0 ∧ ab a = -a ∨ ¬ a < 0 ∧ ab a = a := by unfold ab; split <;> omega
    have r1 : rnd x 10000 + rnd (ab a * 10000 - x) 10000 = ab a ∨ rnd x 10000 + rnd (ab a * 10000 - x) 10000 = ab a + 1 := by
      unfold rnd; split <;> split <;> omega
    rcases hab with ⟨c, e⟩ | ⟨c, e⟩
    · rw [if_pos c, if_pos c]; omega
    · rw [if_neg c, if_neg c]; omega
  have y5 : ¬ (shrS a p ≥ 0 ∧ shrS a (10000 - p) < 0 ∧ a ≠ shrS a p + shrS a (10000 - p)) → True := fun _ => trivial
  rw [y1]
  clear x0 x1 x2 y5 y1
  generalize shrS a p = n at *
  generalize shrS a (10000 - p) = u at *
  have z1 : wrap64 (n + wrap64 (a - n)) = a := by unfold I64 at *; unfold wrap64; omega
  have z2 : wrap64 (u + wrap64 (a - u)) = a := by unfold I64 at *; unfold wrap64; omega
  have z3 : wrap64 (a - a) = 0 := by unfold wrap64; omega
  simp only [if_true, z1, z2, z3]
  have key : n = wrap64 (a - u) ∨ wrap64 (n - wrap64 (a - u)) = 1 ∨ wrap64 (wrap64 (a - u) - n) = 1 := by
    unfold I64 at *; unfold wrap64; omega
  by_cases k1 : n = wrap64 (a - u)
  · simp only [if_pos k1]; exact Ev.now _
  by_cases k2 : wrap64 (n - wrap64 (a - u)) = 1
  · simp only [if_neg k1, if_pos k2]; exact Ev.now _
  have k3 : wrap64 (wrap64 (a - u) - n) = 1 := by
    rcases key with h | h | h
    · exact absurd h k1
    · exact absurd h k2
    · exact h
  simp only [if_neg k1, if_neg k2, k3]
  exact Ev.now _
end Go.Proofs.Ytjfnhhfgjomliaa.Pure
