import Derived.Test.YtjfnhhfgjomliaaCShare
/- the parts: what follows at once -/
set_option linter.unusedVariables false
set_option linter.unusedSimpArgs false
namespace Go.Proofs.Ytjfnhhfgjomliaa.M
open Go.RowKit Go.Proofs.YtjfnhhfgjomliaaW.PrintWords Go.Proofs.YtjfnhhfgjomliaaW.PrintLast Go.Proofs.YtjfnhhfgjomliaaW.PrintMore Go.Proofs.Ytjfnhhfgjomliaa.Q

theorem sumS_fits (l : List Int) : ∀ n : Int, (∀ x ∈ l, 0 ≤ x) → 0 ≤ n → n + tot (wN l) l.length ≤ 9223372036854775807 → sumS n l = (n + tot (wN l) l.length, 0) := by
  induction l with
  | nil => intro n _ _ _; simp [sumS, tot]
  | cons x l ih =>
    intro n h hn hs
    have e : sumS n (x :: l) = if I64 (n + x) then sumS (n + x) l else (0, 2) := rfl
    have e1 : tot (wN (x :: l)) (l.length + 1) = x + tot (wN l) l.length := by rw [tot_shift]; rfl
    have hx := h x List.mem_cons_self
    have hp : 0 ≤ tot (wN l) l.length := tot_nonneg _ (fun i hi => by
      have : wN l i = l[i] := by unfold wN; rw [List.getD_eq_getElem?_getD, List.getElem?_eq_getElem hi]; rfl
      rw [this]; exact h _ (List.mem_cons_of_mem _ (List.getElem_mem hi)))
    rw [List.length_cons, e1] at hs ⊢
    rw [e, if_pos (by unfold I64; omega), ih (n + x) (fun y hy => h y (List.mem_cons_of_mem _ hy)) (by omega) (by omega)]
    congr 1; omega
theorem byErr_ok {l : List Int} (hl : l.length ≤ 100) (hp : ∀ x ∈ l, 0 ≤ x) (hs : tot (wN l) l.length ≤ 9223372036854775807) (h0 : tot (wN l) l.length ≠ 0) : byErr l = 0 := by
  unfold byErr
  have := sumS_fits l 0 hp (Int.le_refl _) (by omega)
  rw [if_neg (by omega), if_neg (by rintro ⟨w, hw, h⟩; have := hp w hw; omega), this]
  simp only [if_true]
  rw [if_neg (by omega)]
theorem tot_single (c : Int) (j : Nat) : ∀ n, j < n → tot (fun i => if i = j then c else 0) n = c
  | 0, h => absurd h (Nat.not_lt_zero _)
  | n + 1, h => by
    simp only [tot]
    by_cases e : n = j
    · subst e
      rw [if_pos rfl, tot_congr (g := fun _ => 0) n (fun i hi => if_neg (by omega)), tot_const]; omega
    · rw [if_neg e, tot_single c j n (by omega)]; omega
theorem byok_val {a : Int} {l L : List Int} (h : ByOk a l L) : ∃ (S : Int) (left : Nat) (δ : Nat → Bool), 0 < S ∧ tot (wN l) l.length = S ∧ I64 S ∧ (left : Int) = ab a - tot (fun i => ab a * wN l i / S) l.length ∧
    Dl (fun i => ab a * wN l i % S) l.length left δ ∧ L.length = l.length ∧
    (∀ m, m < l.length → L.getD m 0 = if a < 0 then -(ab a * wN l m / S + if δ m = true then 1 else 0) else ab a * wN l m / S + if δ m = true then 1 else 0) ∧
    (∀ m, m < l.length → 0 ≤ wN l m ∧ wN l m ≤ S) ∧ (∀ m, m < l.length → ab a * wN l m / S + (if δ m = true then 1 else 0) ≤ ab a) ∧
    (∀ m, m < l.length → 0 ≤ ab a * wN l m / S) ∧ (∀ m, m < l.length → ab a * wN l m % S = 0 → δ m = false) := by
  obtain ⟨S, left, δ, h1, h2, h3, h4, h5, h6, h7, h8, h9, h10⟩ := h
  refine ⟨S, left, δ, h1, h2, h3, h4, h6, h7, h8, h9, h10, fun m hm => Int.ediv_nonneg (Int.mul_nonneg (ab_nonneg a) (h9 m hm).1) (by omega), fun m hm hz => no_rest h1 h2 h4 h6 hm hz⟩
theorem ab_cases (a : Int) : a < 0 ∧ ab a = -a ∨ ¬ a < 0 ∧ ab a = a := by unfold ab; split <;> omega
end Go.Proofs.Ytjfnhhfgjomliaa.M
