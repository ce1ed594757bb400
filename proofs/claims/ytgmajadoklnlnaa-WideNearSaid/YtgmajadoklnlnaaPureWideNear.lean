/- Proved: for all int32 a, b, c the law WideNear returns true (what MulDiv tells is not farther off than any other number, and than 0 not nearer, where two are as near). No condition. -/
import Derived.Test.YtgmajadoklnlnaaQx9
import Derived.Test.YtgmajadoklnlnaaCWide2
set_option linter.unusedVariables false
set_option linter.unusedSimpArgs false
namespace Go.Proofs.Ytgmajadoklnlnaa.Pure
open Go.RowKit Go.Proofs.Ytgmajadoklnlnaa.Q Go.Proofs.Ytgmajadoklnlnaa.M Go.Proofs.YtgmajadoklnlnaaW.PrintWords Go.Proofs.YtgmajadoklnlnaaW.PrintLast

theorem wf_i32 {a : Int} (h : (Lit.int .i32 a).wf = true) : -2147483648 ≤ a ∧ a ≤ 2147483647 := by
  simp [Lit.wf, IntKind.min, IntKind.max, IntKind.bits, IntKind.signed] at h
  omega
theorem mul32 {a b : Int} (ha : -2147483648 ≤ a ∧ a ≤ 2147483647) (hb : -2147483648 ≤ b ∧ b ≤ 2147483647) : -4611686018427387904 ≤ a * b ∧ a * b ≤ 4611686018427387904 := by
  have h1 : ab (a * b) ≤ 2147483648 * 2147483648 := by
    rw [← ab_mul_ab]
    exact mul_le_mul' (by unfold ab; split <;> omega) (by unfold ab; split <;> omega) (ab_nonneg a) (by omega)
  unfold ab at h1; split at h1 <;> omega
theorem WideNear : comptrollerlaw02_WideNear.Pure := by
  intro a b c wa wb wc
  have ha := wf_i32 wa
  have hb := wf_i32 wb
  have hc := wf_i32 wc
  have ha' : I64 a := by unfold I64; omega
  have hb' : I64 b := by unfold I64; omega
  have hc' : I64 c := by unfold I64; omega
  refine Ev.rounds (g := fun k => comptrollerlaw02_WideNear.f k a b c) ?_
  unfold comptrollerlaw02_WideNear.f
  refine Ev.bind alive_f ?_
  simp only [if_true]
  by_cases h0 : c = 0
  · simp only [if_pos h0]; exact Ev.now _
  · simp only [if_neg h0, w64_in ha', w64_in hb', w64_in hc']
    refine Ev.bind (muldiv_f ha' hb' hc') ?_
    obtain ⟨v, hv, hn⟩ := mulDiv_near (a := a) (b := b) h0
    have hp := mul32 ha hb
    generalize a * b = p at *
    -- the size of v times c, and of v
    have hC : 1 ≤ ab c ∧ ab c ≤ 2147483648 := ⟨by have := ab_pos h0; omega, by unfold ab; split <;> omega⟩
    have hvc : -4611686018427387904 - 2147483648 ≤ v * c ∧ v * c ≤ 4611686018427387904 + 2147483648 := by unfold Near at hn; omega
    have hv2 : ab v ≤ ab (v * c) := by
      rw [← ab_mul_ab]
      have := Int.mul_le_mul_of_nonneg_left hC.1 (ab_nonneg v); omega
    have hvi : I64 v := by unfold ab at hv2; unfold I64; split at hv2 <;> split at hv2 <;> omega
    have e1 : mulDiv a b c = (v, 0) := by rw [hv, fit_in hvi]
    simp only [e1, if_true]
    have i1 : I64 (v * c) := by unfold I64; omega
    have i2 : I64 p := by unfold I64; omega
    have i3 : I64 (p - v * c) := by unfold I64 Near at *; omega
    have i4 : I64 (-(p - v * c)) := by unfold I64 Near at *; omega
    simp only [w64_in i1, w64_in i2, w64_in i3, w64_in i4]
    have key : ∀ off, off = ab (p - v * c) → Ev (fun k => comptrollerlaw02_WideNear.j0 k c p c v off) true := by
      intro off ho
      refine Ev.step (f := fun _ => some true) (fun k => ?_) (Ev.now _)
      have h2 : I64 (2 * off) := by rw [ho]; unfold I64 ab; unfold Near at hn; split <;> omega
      have h3 : I64 (-c) := by unfold I64; omega
      rw [comptrollerlaw02_WideNear.j0.eq_2, w64_in h2, w64_in h3, w64_in hc', w64_in i1]
      unfold Near ab at *
      generalize v * c = x at *
      by_cases cneg : c < 0
      · rw [if_pos cneg]; simp only [if_pos cneg] at hn
        by_cases z : p - x < 0
        · rw [if_pos z] at ho
          rw [if_neg (by omega)]
          by_cases z2 : 2 * off < -c
          · rw [if_pos z2]
          · rw [if_neg z2]
            by_cases z3 : p ≥ 0
            · rw [if_pos z3, if_pos (by omega)]
            · rw [if_neg z3, if_pos (by omega), decide_eq_true (by omega)]
        · rw [if_neg z] at ho
          rw [if_neg (by omega)]
          by_cases z2 : 2 * off < -c
          · rw [if_pos z2]
          · rw [if_neg z2]
            by_cases z3 : p ≥ 0
            · rw [if_pos z3, if_pos (by omega)]
            · rw [if_neg z3, if_pos (by omega), decide_eq_true (by omega)]
      · rw [if_neg cneg]; simp only [if_neg cneg] at hn
        by_cases z : p - x < 0
        · rw [if_pos z] at ho
          rw [if_neg (by omega)]
          by_cases z2 : 2 * off < c
          · rw [if_pos z2]
          · rw [if_neg z2]
            by_cases z3 : p ≥ 0
            · rw [if_pos z3, if_pos (by omega)]
            · rw [if_neg z3, if_pos (by omega), decide_eq_true (by omega)]
        · rw [if_neg z] at ho
          rw [if_neg (by omega)]
          by_cases z2 : 2 * off < c
          · rw [if_pos z2]
          · rw [if_neg z2]
            by_cases z3 : p ≥ 0
            · rw [if_pos z3, if_pos (by omega)]
            · rw [if_neg z3, if_pos (by omega), decide_eq_true (by omega)]
    by_cases z : p - v * c < 0
    · simp only [if_pos z]; exact key _ (by unfold ab; rw [if_pos z])
    · simp only [if_neg z]; exact key _ (by unfold ab; rw [if_neg z])
end Go.Proofs.Ytgmajadoklnlnaa.Pure
