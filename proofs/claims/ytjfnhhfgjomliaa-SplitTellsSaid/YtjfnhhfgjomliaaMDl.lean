import Derived.Test.YtjfnhhfgjomliaaMSort
import Derived.Test.YtjfnhhfgjomliaaMWide
/- which parts are one more: as many as are left, the greatest rests first, of equal rests the first ones -/
set_option linter.unusedVariables false
set_option linter.unusedSimpArgs false
namespace Go.Proofs.Ytjfnhhfgjomliaa.M
open Go.RowKit

def cnt (δ : Nat → Bool) (n : Nat) : Nat := ((List.range n).filter δ).length
structure Dl (r : Nat → Int) (n left : Nat) (δ : Nat → Bool) : Prop where
  cnt : cnt δ n = left
  ord : ∀ i j, i < n → j < n → δ i = true → δ j = false → r j < r i ∨ (r j = r i ∧ i < j)
theorem cnt_succ (δ : Nat → Bool) (n : Nat) : cnt δ (n + 1) = cnt δ n + (if δ n = true then 1 else 0) := by
  unfold cnt; rw [List.range_succ, List.filter_append, List.length_append]
  congr 1
  by_cases h : δ n = true <;> simp [h]
theorem cnt_le (δ : Nat → Bool) : ∀ n, cnt δ n ≤ n
  | 0 => by simp [cnt]
  | n + 1 => by rw [cnt_succ]; have := cnt_le δ n; split <;> omega
theorem cnt_mono {δ ε : Nat → Bool} : ∀ n, (∀ i, i < n → δ i = true → ε i = true) → cnt δ n ≤ cnt ε n
  | 0, _ => by simp [cnt]
  | n + 1, h => by
    rw [cnt_succ, cnt_succ]
    have := cnt_mono n (fun i hi => h i (by omega))
    by_cases c : δ n = true
    · rw [if_pos c, if_pos (h n (by omega) c)]; omega
    · rw [if_neg c]; omega
theorem cnt_lt {δ ε : Nat → Bool} {j : Nat} : ∀ n, (∀ i, i < n → δ i = true → ε i = true) → j < n → δ j = false → ε j = true → cnt δ n < cnt ε n
  | 0, _, hj, _, _ => by omega
  | n + 1, h, hj, h1, h2 => by
    rw [cnt_succ, cnt_succ]
    by_cases c : j = n
    · subst c
      rw [h1, h2]
      have := cnt_mono j (fun i hi => h i (by omega)); simp; omega
    · have := cnt_lt n (fun i hi => h i (by omega)) (by omega) h1 h2
      by_cases d : δ n = true
      · rw [if_pos d, if_pos (h n (by omega) d)]; omega
      · rw [if_neg d]; omega
theorem Dl.unique {r : Nat → Int} {n left : Nat} {δ ε : Nat → Bool} (h : Dl r n left δ) (k : Dl r n left ε) : ∀ i, i < n → δ i = ε i := by
  -- one of the two holds the other
  have hsub : (∀ i, i < n → δ i = true → ε i = true) ∨ (∀ i, i < n → ε i = true → δ i = true) := by
    apply Classical.byContradiction
    intro hne
    rw [not_or] at hne
    obtain ⟨h1, h2⟩ := hne
    simp only [Classical.not_forall] at h1 h2
    obtain ⟨i, hi, hi1, hi2⟩ := h1
    obtain ⟨j, hj, hj1, hj2⟩ := h2
    have a := h.ord i j hi hj hi1 (by simpa using hj2)
    have b := k.ord j i hj hi hj1 (by simpa using hi2)
    omega
  intro i hi
  apply Classical.byContradiction
  intro hne
  rcases hsub with hs | hs
  · have h1 : δ i = false := by cases e : δ i with
      | false => rfl
      | true => exact absurd (e.trans (hs i hi e).symm) hne
    have h2 : ε i = true := by cases e : ε i with
      | true => rfl
      | false => exact absurd (h1.trans e.symm) hne
    have := cnt_lt n hs hi h1 h2
    rw [h.cnt, k.cnt] at this; omega
  · have h1 : ε i = false := by cases e : ε i with
      | false => rfl
      | true => exact absurd ((hs i hi e).trans e.symm) hne
    have h2 : δ i = true := by cases e : δ i with
      | true => rfl
      | false => exact absurd (e.trans h1.symm) hne
    have := cnt_lt n hs hi h1 h2
    rw [h.cnt, k.cnt] at this; omega
/-! ### sums -/
def tot (f : Nat → Int) : Nat → Int
  | 0 => 0
  | n + 1 => tot f n + f n
theorem tot_congr {f g : Nat → Int} : ∀ n, (∀ i, i < n → f i = g i) → tot f n = tot g n
  | 0, _ => rfl
  | n + 1, h => by simp only [tot]; rw [tot_congr n (fun i hi => h i (by omega)), h n (by omega)]
theorem tot_add (f g : Nat → Int) : ∀ n, tot (fun i => f i + g i) n = tot f n + tot g n
  | 0 => rfl
  | n + 1 => by simp only [tot]; rw [tot_add f g n]; omega
theorem tot_mul (c : Int) (f : Nat → Int) : ∀ n, tot (fun i => c * f i) n = c * tot f n
  | 0 => by simp [tot]
  | n + 1 => by simp only [tot]; rw [tot_mul c f n, Int.mul_add]
theorem tot_le {f g : Nat → Int} : ∀ n, (∀ i, i < n → f i ≤ g i) → tot f n ≤ tot g n
  | 0, _ => by simp [tot]
  | n + 1, h => by simp only [tot]; have := tot_le n (fun i hi => h i (by omega)); have := h n (by omega); omega
theorem tot_nonneg {f : Nat → Int} (n : Nat) (h : ∀ i, i < n → 0 ≤ f i) : 0 ≤ tot f n := by
  have := tot_le (f := fun _ => 0) (g := f) n h
  have e : tot (fun _ => 0) n = 0 := by clear this h; induction n with
    | zero => rfl
    | succ n ih => simp only [tot]; omega
  omega
theorem tot_one {f : Nat → Int} {j : Nat} : ∀ n, (∀ i, i < n → 0 ≤ f i) → j < n → f j ≤ tot f n
  | 0, _, hj => by omega
  | n + 1, h, hj => by
    simp only [tot]
    by_cases c : j = n
    · subst c; have := tot_nonneg j (fun i hi => h i (by omega)); omega
    · have := tot_one n (fun i hi => h i (by omega)) (show j < n by omega); have := h n (by omega); omega
theorem tot_cnt (δ : Nat → Bool) : ∀ n, tot (fun i => if δ i = true then 1 else 0) n = (cnt δ n : Int)
  | 0 => by simp [tot, cnt]
  | n + 1 => by simp only [tot]; rw [tot_cnt δ n, cnt_succ]; split <;> simp
/-- what is left of the whole, behind the quotients -/
theorem left_eq {A S : Int} {w : Nat → Int} {n : Nat} (hS : 0 < S) (hsum : tot w n = S) : tot (fun i => A * w i % S) n = (A - tot (fun i => A * w i / S) n) * S := by
  have h1 : tot (fun i => A * w i) n = A * S := by rw [tot_mul, hsum]
  have h2 : tot (fun i => A * w i) n = tot (fun i => S * (A * w i / S) + A * w i % S) n := tot_congr n (fun i _ => by show _ = _; rw [Int.mul_ediv_add_emod])
  rw [h1, tot_add] at h2
  have h3 : tot (fun i => S * (A * w i / S)) n = S * tot (fun i => A * w i / S) n := tot_mul S (fun i => A * w i / S) n
  rw [h3] at h2
  rw [Int.sub_mul]
  have := Int.mul_comm (tot (fun i => A * w i / S) n) S
  omega
theorem rest_bd {A S : Int} (hS : 0 < S) (x : Int) : 0 ≤ A * x % S ∧ A * x % S < S := ⟨Int.emod_nonneg _ (by omega), Int.emod_lt_of_pos _ hS⟩
theorem tot_const (c : Int) : ∀ n : Nat, tot (fun _ => c) n = n * c
  | 0 => by simp [tot]
  | n + 1 => by simp only [tot]; rw [tot_const c n, show ((n + 1 : Nat) : Int) = (n : Int) + 1 from rfl, Int.add_mul, Int.one_mul]
/-- as many are left as there are parts, at most -/
theorem left_bd {A S : Int} {w : Nat → Int} {n : Nat} (hS : 0 < S) (hsum : tot w n = S) : 0 ≤ A - tot (fun i => A * w i / S) n ∧ A - tot (fun i => A * w i / S) n ≤ n := by
  have h := left_eq (A := A) hS hsum
  have h0 := tot_nonneg n (fun i _ => (rest_bd (A := A) hS (w i)).1)
  have h1 := tot_le (f := fun i => A * w i % S) (g := fun _ => S) n (fun i _ => Int.le_of_lt (rest_bd (A := A) hS (w i)).2)
  rw [tot_const] at h1
  rw [h] at h0 h1
  constructor
  · rcases Int.lt_or_le (A - tot (fun i => A * w i / S) n) 0 with c | c
    · have := Int.mul_neg_of_neg_of_pos c hS; omega
    · exact c
  · exact Int.le_of_mul_le_mul_right h1 hS
/-- what has no rest is none of those that are one more -/
theorem no_rest {A S : Int} {w : Nat → Int} {n : Nat} {δ : Nat → Bool} (hS : 0 < S) (hsum : tot w n = S) {left : Nat} (hl : (left : Int) = A - tot (fun i => A * w i / S) n) (hd : Dl (fun i => A * w i % S) n left δ) {i : Nat} (hi : i < n) (hz : A * w i % S = 0) : δ i = false := by
  apply Classical.byContradiction
  intro hne
  have hd1 : δ i = true := by simpa using hne
  have h := left_eq (A := A) hS hsum
  rw [← hl] at h
  -- each rest is at most S - 1 where δ, but 0 at i; 0 elsewhere
  have hb : ∀ j, j < n → A * w j % S ≤ (S - 1) * (if δ j = true then 1 else 0) := by
    intro j hj
    by_cases c : δ j = true
    · rw [if_pos c]; have := (rest_bd (A := A) hS (w j)).2; omega
    · rw [if_neg c]
      have := hd.ord i j hi hj hd1 (by simpa using c)
      have := (rest_bd (A := A) hS (w j)).1
      simp only [hz] at *; omega
  have h1 := tot_le n hb
  rw [tot_mul, tot_cnt, hd.cnt, h] at h1
  have h2 : (1 : Int) ≤ left := by
    have := cnt_lt (δ := fun _ => false) (ε := δ) n (fun j _ hj => by cases hj) hi rfl hd1
    rw [hd.cnt] at this; omega
  have h3 : (S - 1) * (left : Int) = (left : Int) * S - left := by rw [Int.sub_mul, Int.one_mul, Int.mul_comm]
  omega
end Go.Proofs.Ytjfnhhfgjomliaa.M
