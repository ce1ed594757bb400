import Derived.Test.YtpfhoenjndmoaaaDoorXParse
import Derived.Test.YtpfhoenjndmoaaaDoorMCent
import Derived.Lib.ParseIntBCases
import Derived.Lib.ParseIntBTie
import Derived.Lib.ItoaNum
/- numerals: what cent.Parse tells, in plain words -/
set_option linter.unusedVariables false
set_option linter.unusedSimpArgs false
namespace Go.Proofs.YtpfhoenjndmoaaaDoor.M
open Go Go.Lib
def isD (c : UInt8) : Bool := decide (48 ≤ c.toNat) && decide (c.toNat ≤ 57)
theorem isD_iff {c : UInt8} : isD c = true ↔ 48 ≤ c.toNat ∧ c.toNat ≤ 57 := by unfold isD; simp
/-- what digits tell, behind a number -/
def vD : Nat → List UInt8 → Nat
  | a, [] => a
  | a, c :: r => vD (a * 10 + (c.toNat - 48)) r
theorem vD_snoc (l : List UInt8) (c : UInt8) : ∀ a, vD a (l ++ [c]) = vD a l * 10 + (c.toNat - 48) := by
  induction l with
  | nil => intro a; rfl
  | cons x l ih => intro a; exact ih _
theorem vD_le (l : List UInt8) : ∀ a, a ≤ vD a l := by
  induction l with
  | nil => intro a; exact Nat.le_refl _
  | cons x l ih => intro a; exact Nat.le_trans (by omega) (ih _)
theorem ofNat_toNat (c : UInt8) : UInt8.ofNat c.toNat = c := by simp
theorem toNat_ofNat_dig {u : Nat} (h : u < 10) : (UInt8.ofNat (48 + u)).toNat = 48 + u := by
  rw [UInt8.toNat_ofNat']; omega
theorem dec_small {u : Nat} (h : u < 10) : decDigits u = [UInt8.ofNat (48 + u)] := by rw [decDigits, dif_pos h]
theorem dec_big {u : Nat} (h : ¬ u < 10) : decDigits u = decDigits (u / 10) ++ [UInt8.ofNat (48 + u % 10)] := by rw [decDigits, dif_neg h]
theorem dec_vD (u : Nat) : vD 0 (decDigits u) = u := by
  induction u using Nat.strongRecOn with
  | _ u ih =>
    by_cases h : u < 10
    · rw [dec_small h]; show 0 * 10 + ((UInt8.ofNat (48 + u)).toNat - 48) = u
      rw [toNat_ofNat_dig h]; omega
    · rw [dec_big h, vD_snoc, ih _ (by omega), toNat_ofNat_dig (by omega)]; omega
theorem dec_dig (u : Nat) : ∀ c ∈ decDigits u, isD c = true := by
  induction u using Nat.strongRecOn with
  | _ u ih =>
    intro c hc
    by_cases h : u < 10
    · rw [dec_small h] at hc; rw [List.mem_singleton.1 hc, isD_iff, toNat_ofNat_dig h]; omega
    · rw [dec_big h] at hc
      rcases List.mem_append.1 hc with hc | hc
      · exact ih _ (by omega) c hc
      · rw [List.mem_singleton.1 hc, isD_iff, toNat_ofNat_dig (by omega)]; omega
theorem dec_head (u : Nat) : ∃ c r, decDigits u = c :: r ∧ (c.toNat = 48 → u = 0) := by
  induction u using Nat.strongRecOn with
  | _ u ih =>
    by_cases h : u < 10
    · exact ⟨_, _, dec_small h, fun e => by rw [toNat_ofNat_dig h] at e; omega⟩
    · obtain ⟨c, r, e, h2⟩ := ih (u / 10) (by omega)
      exact ⟨c, r ++ [UInt8.ofNat (48 + u % 10)], by rw [dec_big h, e]; rfl, fun e => by have := h2 e; omega⟩
theorem dec_ne (u : Nat) : decDigits u ≠ [] := by obtain ⟨c, r, e, _⟩ := dec_head u; rw [e]; simp
theorem vD_pos {l : List UInt8} (h1 : ∀ c ∈ l, isD c = true) (h2 : l ≠ []) (h3 : ∀ c r, l = c :: r → c.toNat ≠ 48) : 1 ≤ vD 0 l := by
  cases l with
  | nil => exact absurd rfl h2
  | cons c r =>
    have := h3 c r rfl
    have hd := isD_iff.1 (h1 c List.mem_cons_self)
    exact Nat.le_trans (show 1 ≤ 0 * 10 + (c.toNat - 48) by omega) (vD_le r _)
theorem vD_dec (l : List UInt8) (h1 : ∀ c ∈ l, isD c = true) (h2 : l ≠ []) (h3 : ∀ c r, l = c :: r → c.toNat = 48 → r = []) : decDigits (vD 0 l) = l := by
  rcases List.eq_nil_or_concat l with rfl | ⟨xs, c, rfl⟩
  · exact absurd rfl h2
  · suffices H : ∀ (n : Nat) (xs : List UInt8) (c : UInt8), xs.length = n → (∀ d ∈ xs ++ [c], isD d = true) → (∀ d r, xs ++ [c] = d :: r → d.toNat = 48 → r = []) → decDigits (vD 0 (xs ++ [c])) = xs ++ [c] by
      rw [List.concat_eq_append] at h1 h3 ⊢
      exact H _ xs c rfl h1 h3
    intro n
    induction n with
    | zero =>
      intro xs c hl h1 h3
      obtain rfl : xs = [] := List.eq_nil_of_length_eq_zero hl
      have hd := isD_iff.1 (h1 c (by simp))
      rw [vD_snoc]
      show decDigits (0 * 10 + (c.toNat - 48)) = [c]
      rw [dec_small (by omega), show 48 + (0 * 10 + (c.toNat - 48)) = c.toNat by omega, ofNat_toNat]
    | succ n ih =>
      intro xs c hl h1 h3
      have hd := isD_iff.1 (h1 c (by simp))
      have hxs : ∀ d r, xs = d :: r → d.toNat ≠ 48 := fun d r e h => by
        have := h3 d (r ++ [c]) (by rw [e]; rfl) h
        simp at this
      have hne : xs ≠ [] := by intro e; rw [e] at hl; simp at hl
      have hp := vD_pos (fun d hd => h1 d (by simp [hd])) hne hxs
      have hi : decDigits (vD 0 xs) = xs := by
        rcases List.eq_nil_or_concat xs with e | ⟨ys, y, e⟩
        · exact absurd e hne
        · rw [List.concat_eq_append] at e
          subst e
          refine ih ys y (by simp at hl; omega) (fun d hd => h1 d (by simp at hd ⊢; rcases hd with h | h <;> simp [h])) (fun d r e h => absurd h (hxs d r e))
      rw [vD_snoc, dec_big (by omega), show (vD 0 xs * 10 + (c.toNat - 48)) / 10 = vD 0 xs by omega, hi, show 48 + (vD 0 xs * 10 + (c.toNat - 48)) % 10 = c.toNat by omega, ofNat_toNat]
/-- a numeral that may not be: empty, another sign, a 0 ahead -/
def okS (neg : Bool) (D : List UInt8) : Bool := !D.isEmpty && D.all isD && !(D.head? == some 48 && (neg || !(D.length == 1)))
def sD (neg : Bool) (D : List UInt8) : Int × Int :=
  if okS neg D = true then (if I64 (if neg then -(vD 0 D : Int) else vD 0 D) then ((if neg then -(vD 0 D : Int) else vD 0 D), 0) else (0, 2)) else (0, 5)
def pS (l : List UInt8) : Int × Int := match l with
  | [] => (0, 5)
  | c :: r => if c.toNat = 45 then sD true r else sD false (c :: r)
theorem uintM (M : Nat) (hM : M = 18446744073709551615) (l : List UInt8) : ∀ a, (∀ c ∈ l, isD c = true) → a ≤ M → parseUintM M a l = if vD a l ≤ M then .ok (vD a l) else .range := by
  induction l with
  | nil => intro a _ ha; show NumEnd.ok a = _; rw [if_pos (show vD a [] ≤ M from ha)]; rfl
  | cons c l ih =>
    intro a h ha
    have hd := isD_iff.1 (h c List.mem_cons_self)
    have hv := vD_le l (a * 10 + (c.toNat - 48))
    show (if 48 ≤ c.toNat ∧ c.toNat ≤ 57 then _ else _) = _
    rw [if_pos hd]
    show _ = if vD (a * 10 + (c.toNat - 48)) l ≤ M then _ else _
    by_cases c1 : 1844674407370955162 ≤ a
    · rw [if_pos c1, if_neg (by omega)]
    · rw [if_neg c1]
      by_cases c2 : M < a * 10 + (c.toNat - 48)
      · rw [if_pos c2, if_neg (by omega)]
      · rw [if_neg c2]
        exact ih _ (fun x hx => h x (List.mem_cons_of_mem _ hx)) (by omega)
theorem uintB (l : List UInt8) (h : ∀ c ∈ l, isD c = true) (hn : l ≠ []) : parseUintB 64 l = if vD 0 l ≤ 18446744073709551615 then .ok (vD 0 l) else .range := by
  unfold parseUintB
  rw [if_neg hn]
  exact uintM _ (by decide) l 0 h (by omega)
theorem dw_nil {p : UInt8 → Bool} : ∀ {l : List UInt8}, l.dropWhile p = [] ↔ ∀ c ∈ l, p c = true
  | [] => by simp
  | x :: l => by
    rw [List.dropWhile_cons]
    split
    · rename_i hx; rw [dw_nil]; simp [hx]
    · rename_i hx; simp [hx]
theorem dw_mem {p : UInt8 → Bool} : ∀ {l : List UInt8}, (∀ c ∈ l.dropWhile p, p c = true) → ∀ c ∈ l, p c = true
  | [], _ => by simp
  | x :: l, h => by
    rw [List.dropWhile_cons] at h
    by_cases hx : p x = true
    · rw [if_pos hx] at h
      intro c hc
      rcases List.mem_cons.1 hc with rfl | hc
      · exact hx
      · exact dw_mem h c hc
    · rw [if_neg hx] at h; exact h
theorem dw_sub {p : UInt8 → Bool} : ∀ {l : List UInt8} {c : UInt8}, c ∈ l.dropWhile p → c ∈ l
  | [], _, h => by cases h
  | x :: l, c, h => by
    rw [List.dropWhile_cons] at h
    split at h
    · exact List.mem_cons_of_mem _ (dw_sub h)
    · exact h
theorem trim_digits (D : List UInt8) : (trimS D [48, 49, 50, 51, 52, 53, 54, 55, 56, 57]).isEmpty = D.all isD := by
  have hp : ∀ c : UInt8, ([48, 49, 50, 51, 52, 53, 54, 55, 56, 57] : List UInt8).contains c = isD c := by
    intro c
    have : ∀ n : Fin 256, ([48, 49, 50, 51, 52, 53, 54, 55, 56, 57] : List UInt8).contains (UInt8.ofNat n.val) = isD (UInt8.ofNat n.val) := by decide +kernel
    have h := this ⟨c.toNat, c.toNat_lt⟩
    rwa [ofNat_toNat] at h
  rw [Bool.eq_iff_iff, List.isEmpty_iff, List.all_eq_true]
  unfold trimS trimLeftS trimRightS
  rw [dw_nil]
  constructor
  · intro h c hc
    rw [← hp c]
    refine dw_mem (l := D.reverse) (p := fun c => ([48, 49, 50, 51, 52, 53, 54, 55, 56, 57] : List UInt8).contains c) (fun c hc => h c (by simpa using hc)) c (by simpa using hc)
  · intro h c hc
    rw [hp]
    exact h c (List.mem_reverse.1 (dw_sub (List.mem_reverse.1 hc)))
end Go.Proofs.YtpfhoenjndmoaaaDoor.M
