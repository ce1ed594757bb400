import Derived.Test.YtjfnhhfgjomliaaMWide
import Derived.ProofKit
/- sizes of products; bounds of what came in -/
set_option linter.unusedVariables false
set_option linter.unusedSimpArgs false
namespace Go.Proofs.Ytjfnhhfgjomliaa.M
open Go.RowKit
theorem prod_bd {a b : Int} (ha : I64 a) (hb : I64 b) : 0 ≤ ab a * ab b ∧ ab a * ab b ≤ 85070591730234615865843651857942052864 := by
  have ha' := ab_le ha
  have hb' := ab_le hb
  have ha0 := ab_nonneg a
  have hb0 := ab_nonneg b
  exact ⟨Int.mul_nonneg ha0 hb0, mul_le_mul' ha' hb' ha0 (by omega)⟩

theorem cmp_words (P Q : Int) : (if cmpI (P / 18446744073709551616) (Q / 18446744073709551616) = 0 then cmpI (P % 18446744073709551616) (Q % 18446744073709551616) else cmpI (P / 18446744073709551616) (Q / 18446744073709551616)) = cmpI P Q := by
  unfold cmpI; repeat' split
  all_goals omega
theorem neg_prod {a b : Int} : a * b = if a * b < 0 then -(ab a * ab b) else ab a * ab b := by
  by_cases h : a * b = 0
  · rw [if_neg (by omega), ab_mul.2 h]; exact h
  · have h2 := mul_neg_iff h
    unfold ab
    by_cases c : a < 0 <;> by_cases d : b < 0 <;> simp [c, d] at h2 <;> simp [c, d, Int.neg_mul, Int.mul_neg] <;> (first | (rw [if_pos h2]) | (rw [if_neg (by omega)]) | omega)
theorem wf_i64 {a : Int} (h : (Lit.int .i64 a).wf = true) : I64 a := by
  simp [Lit.wf, IntKind.min, IntKind.max, IntKind.bits, IntKind.signed] at h
  unfold I64
  omega
end Go.Proofs.Ytjfnhhfgjomliaa.M
