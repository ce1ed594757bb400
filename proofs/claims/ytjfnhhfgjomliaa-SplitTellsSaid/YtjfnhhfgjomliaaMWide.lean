import Derived.Test.YtjfnhhfgjomliaaMCent
/- the rounded quotient: what it is nearest to -/
set_option linter.unusedVariables false
set_option linter.unusedSimpArgs false
namespace Go.Proofs.Ytjfnhhfgjomliaa.M
open Go.RowKit

def Near (p v c : Int) : Prop :=
  (0 ≤ p ∧ ((v * c ≤ p ∧ 2 * (p - v * c) < ab c) ∨ (p < v * c ∧ 2 * (v * c - p) ≤ ab c))) ∨
  (p < 0 ∧ ((p ≤ v * c ∧ 2 * (v * c - p) < ab c) ∨ (v * c < p ∧ 2 * (p - v * c) ≤ ab c)))
theorem Near.unique {p v w c : Int} (hc : c ≠ 0) (h : Near p v c) (k : Near p w c) : v = w := by
  apply Decidable.byContradiction
  intro hne
  have h1 : v * c - w * c = (v - w) * c := by rw [Int.sub_mul]
  have h2 : ab c ≤ ab ((v - w) * c) := by
    have e : ab ((v - w) * c) = ab (v - w) * ab c := by
      have f : ∀ x : Int, ab x = (x.natAbs : Int) := by intro x; unfold ab; split <;> omega
      rw [f, f, f, Int.natAbs_mul]; rfl
    rw [e]
    have h3 : 1 ≤ ab (v - w) := ab_pos (by omega)
    have := Int.mul_le_mul_of_nonneg_right h3 (ab_nonneg c)
    omega
  rw [← h1] at h2
  unfold Near at h k
  have hc1 := ab_pos hc
  generalize v * c = x at *
  generalize w * c = y at *
  generalize ab c = C at *
  unfold ab at h2
  split at h2 <;> omega
theorem rnd_spec {P C : Int} (hC : 0 < C) : (rnd P C * C ≤ P ∧ 2 * (P - rnd P C * C) < C) ∨ (P < rnd P C * C ∧ 2 * (rnd P C * C - P) ≤ C) := by
  have h1 := Int.mul_ediv_add_emod P C
  have h2 := Int.emod_lt_of_pos P hC
  have h3 := Int.emod_nonneg P (show C ≠ 0 by omega)
  rw [Int.mul_comm] at h1
  unfold rnd
  by_cases h : C - P % C ≤ P % C
  · rw [if_pos h, Int.add_mul, Int.one_mul]; omega
  · rw [if_neg h]; omega
theorem ab_natAbs (x : Int) : ab x = (x.natAbs : Int) := by unfold ab; split <;> omega
theorem ab_mul_ab (a b : Int) : ab a * ab b = ab (a * b) := by rw [ab_natAbs, ab_natAbs, ab_natAbs, Int.natAbs_mul]; rfl
theorem ab_neg (a : Int) : ab (-a) = ab a := by unfold ab; split <;> split <;> omega
theorem mul_neg_iff {a b : Int} (h : a * b ≠ 0) : (a * b < 0) ↔ ((a < 0) ↔ ¬ (b < 0)) := by
  have ha : a ≠ 0 := fun e => h (by rw [e, Int.zero_mul])
  have hb : b ≠ 0 := fun e => h (by rw [e, Int.mul_zero])
  by_cases c : a < 0 <;> by_cases d : b < 0
  · have := Int.mul_pos_of_neg_of_neg c d; simp [c, d]; omega
  · have := Int.mul_neg_of_neg_of_pos c (show 0 < b by omega); simp [c, d]; omega
  · have := Int.mul_neg_of_pos_of_neg (show 0 < a by omega) d; simp [c, d]; omega
  · have := Int.mul_pos (show 0 < a by omega) (show 0 < b by omega); simp [c, d]; omega
theorem ab_mul {a b : Int} : ab a * ab b = 0 ↔ a * b = 0 := by
  rw [Int.mul_eq_zero, Int.mul_eq_zero, ab_zero, ab_zero]
theorem sg_eq {a b c q : Int} (hq : ab a * ab b = 0 → q = 0) : sg ((decide (a * b < 0)) != (decide (c < 0))) q = sg (ngs a b c) q := by
  by_cases h : a * b = 0
  · rw [hq (ab_mul.2 h)]; unfold sg; split <;> split <;> rfl
  · have h2 := mul_neg_iff h
    have e : decide (a * b < 0) = ((decide (a < 0)) != (decide (b < 0))) := by
      by_cases hh : a * b < 0 <;> by_cases c : a < 0 <;> by_cases d : b < 0 <;> simp [hh, c, d] at h2 ⊢
    unfold ngs
    rw [e, Bool.bne_assoc]
theorem rnd_nonneg {P C : Int} (hP : 0 ≤ P) (hC : 0 < C) : 0 ≤ rnd P C := by
  have := Int.ediv_nonneg hP (show 0 ≤ C by omega)
  unfold rnd; split <;> omega
theorem rnd_zero {C : Int} (hC : 0 < C) : rnd 0 C = 0 := by
  unfold rnd; rw [Int.zero_emod, Int.zero_ediv, if_neg (by omega)]
theorem near_core {a b c : Int} (hc : c ≠ 0) : Near (a * b) (sg (ngs a b c) (rnd (ab a * ab b) (ab c))) c := by
  have hC := ab_pos hc
  rw [← sg_eq (fun h => by rw [h]; exact rnd_zero hC)]
  have hs := rnd_spec (P := ab a * ab b) hC
  rw [ab_mul_ab] at *
  generalize a * b = p at *
  generalize rnd (ab p) (ab c) = q at *
  have e1 : ∀ x y : Int, -x * y = -(x * y) := Int.neg_mul
  have e2 : q * ab c = if c < 0 then -(q * c) else q * c := by unfold ab; split; rw [Int.mul_neg]; rfl
  rw [e2] at hs
  unfold Near sg
  unfold ab at *
  by_cases h1 : p < 0 <;> by_cases h2 : c < 0 <;> simp only [h1, h2, decide_true, decide_false, if_true, if_false, bne_self_eq_false, Bool.false_eq_true, show (true != false) = true from rfl, show (false != true) = true from rfl, e1, true_and] at hs ⊢ <;> omega
theorem mulDiv_near {a b c : Int} (hc : c ≠ 0) : ∃ v, mulDiv a b c = fit v ∧ Near (a * b) v c :=
  ⟨_, by unfold mulDiv; rw [if_neg hc], near_core hc⟩
theorem mulDiv_of {a b c v : Int} (hc : c ≠ 0) (h : Near (a * b) v c) : mulDiv a b c = fit v := by
  obtain ⟨w, h1, h2⟩ := mulDiv_near (a := a) (b := b) hc
  rw [h1, h2.unique hc h]
theorem Near.of_eq {p v c : Int} (hc : c ≠ 0) (h : p = v * c) : Near p v c := by
  have := ab_pos hc
  unfold Near; omega
theorem Near.neg {p v c : Int} (h : Near p v c) (hp : p ≠ 0) : Near (-p) (-v) c := by
  unfold Near at *; rw [Int.neg_mul]; omega
theorem Near.negc {p v c : Int} (h : Near p v c) : Near p (-v) (-c) := by
  unfold Near at *; rw [Int.neg_mul_neg, ab_neg]; exact h
theorem Near.zero {v c : Int} (hc : c ≠ 0) (h : Near 0 v c) : v = 0 := h.unique hc (Near.of_eq hc (by rw [Int.zero_mul]))
theorem fit_in {v : Int} (h : I64 v) : fit v = (v, 0) := if_pos h
theorem fit_out {v : Int} (h : ¬ I64 v) : fit v = (0, 2) := if_neg h
theorem dvd_iff {a b c : Int} (hc : c ≠ 0) : (ab a * ab b) % ab c = 0 ↔ c ∣ a * b := by
  rw [ab_mul_ab, ← Int.dvd_iff_emod_eq_zero, ab_natAbs, ab_natAbs, Int.natCast_dvd_natCast, Int.natAbs_dvd_natAbs]
theorem exact_no {a b c : Int} (hc : c ≠ 0) (h : ¬ c ∣ a * b) : exact a b c = (0, false, 0) := by
  unfold exact; rw [if_neg hc, if_neg (fun h' => h ((dvd_iff hc).1 h'))]
theorem exact_yes {a b c v : Int} (hc : c ≠ 0) (h : a * b = v * c) : exact a b c = if I64 v then (v, true, 0) else (0, false, 2) := by
  have hd : (ab a * ab b) % ab c = 0 := (dvd_iff hc).2 ⟨v, by rw [h, Int.mul_comm]⟩
  have hv : sg (ngs a b c) (ab a * ab b / ab c) = v := by
    have h1 : rnd (ab a * ab b) (ab c) = ab a * ab b / ab c := by unfold rnd; rw [hd, if_neg (by have := ab_pos hc; omega)]
    have h2 := near_core (a := a) (b := b) hc
    rw [h1] at h2
    exact h2.unique hc (Near.of_eq hc h)
  unfold exact; rw [if_neg hc, if_pos hd, hv]; rfl
end Go.Proofs.Ytjfnhhfgjomliaa.M
