import Derived.Test.YtjfnhhfgjomliaaQx7
import Derived.Test.YtjfnhhfgjomliaaR2Times
/- the reference's Cmp -/
set_option linter.unusedVariables false
set_option linter.unusedSimpArgs false
namespace Go.Proofs.Ytjfnhhfgjomliaa.M
open Go.RowKit Go.Proofs.YtjfnhhfgjomliaaW.PrintWords Go.Proofs.YtjfnhhfgjomliaaW.PrintLast Go.Proofs.YtjfnhhfgjomliaaW.PrintMore Go.Proofs.Ytjfnhhfgjomliaa.Q

theorem rless_f (P Q : Int) : comptrollerref02_less.f (P / 18446744073709551616) (P % 18446744073709551616) (Q / 18446744073709551616) (Q % 18446744073709551616) = some (decide (P < Q)) := by
  unfold comptrollerref02_less.f
  by_cases c1 : P / 18446744073709551616 < Q / 18446744073709551616
  · rw [if_pos c1, decide_eq_true (by omega)]
  · rw [if_neg c1]
    by_cases c2 : P / 18446744073709551616 = Q / 18446744073709551616
    · rw [if_pos c2]
      by_cases c3 : P % 18446744073709551616 < Q % 18446744073709551616
      · rw [decide_eq_true c3, decide_eq_true (by omega)]
      · rw [decide_eq_false c3, decide_eq_false (by omega)]
    · rw [if_neg c2, decide_eq_false (by omega)]
theorem rbelow_f {x y P Q : Int} (e1 : x = if x < 0 then -P else P) (e2 : y = if y < 0 then -Q else Q) :
    comptrollerref02_below.f (decide (x < 0)) (P / 18446744073709551616) (P % 18446744073709551616) (decide (y < 0)) (Q / 18446744073709551616) (Q % 18446744073709551616) = some (decide (x < y)) := by
  unfold comptrollerref02_below.f
  rw [rless_f, rless_f]
  simp only [Option.bind_some]
  by_cases hx : x < 0 <;> by_cases hy : y < 0
  · rw [if_pos hx] at e1; rw [if_pos hy] at e2
    simp only [hx, hy, decide_true, bne_self_eq_false, Bool.false_eq_true, if_false, if_true]
    exact congrArg some (decide_eq_decide.2 (by omega))
  · simp only [hx, hy, decide_true, decide_false, show (true != false) = true from rfl, if_true]
    exact congrArg some (decide_eq_true (by omega)).symm
  · simp only [hx, hy, decide_true, decide_false, show (false != true) = true from rfl, if_true]
    exact congrArg some (decide_eq_false (by omega)).symm
  · rw [if_neg hx] at e1; rw [if_neg hy] at e2
    simp only [hx, hy, decide_false, bne_self_eq_false, Bool.false_eq_true, if_false]
    exact congrArg some (decide_eq_decide.2 (by omega))
theorem neg_bool {a b : Int} : (if (decide (a < 0) != decide (b < 0)) = true then (!(ab a * ab b / 18446744073709551616 == 0) || !(ab a * ab b % 18446744073709551616 == 0)) else false) = decide (a * b < 0) := by
  by_cases h : a * b = 0
  · have h2 := ab_mul.2 h
    rw [h2, decide_eq_false (show ¬ a * b < 0 by omega)]; split <;> rfl
  · have h2 := mul_neg_iff h
    have h3 : ab a * ab b ≠ 0 := fun e => h (ab_mul.1 e)
    have h4 : (!(ab a * ab b / 18446744073709551616 == 0) || !(ab a * ab b % 18446744073709551616 == 0)) = true := by
      by_cases z : ab a * ab b / 18446744073709551616 = 0
      · have : ab a * ab b % 18446744073709551616 ≠ 0 := by clear h2; omega
        simp [this]
      · simp [z]
    rw [h4]
    by_cases hh : a * b < 0 <;> by_cases c : a < 0 <;> by_cases d : b < 0 <;> simp [hh, c, d] at h2 ⊢
theorem rcmp_f {a b c d : Int} (ha : I64 a) (hb : I64 b) (hc : I64 c) (hd : I64 d) : Ev (fun k => comptrollerref02_Cmp.f k a b c d) (cmpI (a * b) (c * d)) := by
  unfold comptrollerref02_Cmp.f
  rw [rsize_f ha, rsize_f hb, rsize_f hc, rsize_f hd]
  simp only [Option.bind_some]
  refine Ev.bind (rtimes_f ⟨ab_nonneg a, ab_le ha⟩ ⟨ab_nonneg b, ab_le hb⟩) ?_
  refine Ev.bind (rtimes_f ⟨ab_nonneg c, ab_le hc⟩ ⟨ab_nonneg d, ab_le hd⟩) ?_
  have n1 := neg_bool (a := a) (b := b)
  have n2 := neg_bool (a := c) (b := d)
  have e1 := neg_prod (a := a) (b := b)
  have e2 := neg_prod (a := c) (b := d)
  have hj1 : Ev (fun k => comptrollerref02_Cmp.j1 k (decide (a * b < 0)) (decide (c * d < 0)) (ab a * ab b / 18446744073709551616) (ab a * ab b % 18446744073709551616) (ab c * ab d / 18446744073709551616) (ab c * ab d % 18446744073709551616)) (cmpI (a * b) (c * d)) := by
    refine Ev.step (f := fun _ => some _) (fun k => ?_) (Ev.now _)
    rw [comptrollerref02_Cmp.j1.eq_2, rbelow_f e1 e2, rbelow_f e2 e1]
    simp only [Option.bind_some]
    unfold cmpI
    by_cases c1 : a * b < c * d
    · simp only [c1, decide_true, if_true]
    · simp only [c1, decide_false, Bool.false_eq_true, if_false]
      by_cases c2 : c * d < a * b
      · simp only [c2, decide_true, if_true]
      · simp only [c2, decide_false, Bool.false_eq_true, if_false]
  have hj0 : Ev (fun k => comptrollerref02_Cmp.j0 k c d (decide (a * b < 0)) (ab a * ab b / 18446744073709551616) (ab a * ab b % 18446744073709551616) (ab c * ab d / 18446744073709551616) (ab c * ab d % 18446744073709551616)) (cmpI (a * b) (c * d)) := by
    rw [← n2] at hj1
    refine Ev.step (fun k => ?_) hj1
    rw [comptrollerref02_Cmp.j0.eq_2]
    by_cases z : (decide (c < 0) != decide (d < 0)) = true
    · rw [if_pos z, if_pos z]
    · rw [if_neg z, if_neg z]
  rw [← n1] at hj0
  by_cases z : (decide (a < 0) != decide (b < 0)) = true
  · simp only [if_pos z] at hj0 ⊢; exact hj0
  · simp only [if_neg z] at hj0 ⊢; exact hj0
end Go.Proofs.Ytjfnhhfgjomliaa.M
