import Derived.Test.YtjbdkdmoacdbpaaGreatDoorWMore
import Derived.Lib.Strings
import Derived.Test.YtjbdkdmoacdbpaaGreatDoorGX
import Derived.Test.YtjbdkdmoacdbpaaGreatDoorGY
import Derived.Lib.ParseIntBCases
import Derived.Lib.ParseIntBTie
import Derived.Lib.ItoaNum

import Derived.Test.YtjbdkdmoacdbpaaGreatDoorGZ


import Derived.Test.YtjbdkdmoacdbpaaGreatDoorQx3

import Derived.Lib.ItoaLen
/- several texts of this session in one -/
set_option linter.unusedVariables false
set_option linter.unusedSimpArgs false
namespace Go.Proofs.YtjbdkdmoacdbpaaGreatDoor.M
open Go.RowKit Go.Proofs.YtjbdkdmoacdbpaaGreatDoorW.PrintWords
def bs (l : List UInt8) : ByteArray := ⟨l.toArray⟩
theorem bs_data (s : ByteArray) : bs s.data.toList = s := by obtain ⟨⟨l⟩⟩ := s; rfl
theorem bs_eta (s : ByteArray) : ∃ l, s = bs l := ⟨s.data.toList, (bs_data s).symm⟩
theorem bs_size (l : List UInt8) : (bs l).size = l.length := by show l.toArray.size = _; simp
theorem bs_toList (l : List UInt8) : (bs l).toList = l := by rw [Lib.toList_data]; rfl
theorem bs_dataL (l : List UInt8) : (bs l).data.toList = l := rfl
theorem bs_inj {a b : List UInt8} (h : bs a = bs b) : a = b := by rw [← bs_toList a, h, bs_toList]
theorem bs_append (a b : List UInt8) : bs a ++ bs b = bs (a ++ b) := by
  apply ByteArray.ext
  show _ = (a ++ b).toArray
  rw [ByteArray.data_append]; simp [bs]
theorem bs_extract (l : List UInt8) (a b : Nat) : (bs l).extract a b = bs ((l.drop a).take (b - a)) := by
  have h := Lib.extract_toList (bs l) a b
  rw [Lib.toList_data] at h
  rw [← bs_data ((bs l).extract a b), h]; rfl
theorem bt_bs {P R : List UInt8} {c : UInt8} {i : Int} (hi : i = P.length) : bt (bs (P ++ c :: R)) i = c.toNat := by
  subst hi
  unfold bt
  have hlt : (P.length : Int).toNat < (bs (P ++ c :: R)).size := by rw [bs_size]; simp
  rw [dif_pos hlt]
  have : (bs (P ++ c :: R))[(P.length : Int).toNat]'hlt = (P ++ c :: R)[P.length]'(by simp) := by
    show (P ++ c :: R).toArray[(P.length : Int).toNat]'(by simp) = _
    simp
  rw [this]; simp
theorem bt0_bs {R : List UInt8} {c : UInt8} : bt (bs (c :: R)) 0 = c.toNat := bt_bs (P := []) rfl
end Go.Proofs.YtjbdkdmoacdbpaaGreatDoor.M
namespace Go.Proofs.YtjbdkdmoacdbpaaGreatDoor.M
open Go Go.Lib
def isD (c : UInt8) : Bool := decide (48 ≤ c.toNat) && decide (c.toNat ≤ 57)
theorem isD_iff {c : UInt8} : isD c = true ↔ 48 ≤ c.toNat ∧ c.toNat ≤ 57 := by unfold isD; simp
/-- what digits tell, behind a number -/
def vD : Nat → List UInt8 → Nat
  | a, [] => a
  | a, c :: r => vD (a * 10 + (c.toNat - 48)) r
theorem vD_snoc (l : List UInt8) (c : UInt8) : ∀ a, vD a (l ++ [c]) = vD a l * 10 + (c.toNat - 48) := by
  induction l with
  | nil => intro a; rfl
  | cons x l ih => intro a; exact ih _
theorem vD_le (l : List UInt8) : ∀ a, a ≤ vD a l := by
  induction l with
  | nil => intro a; exact Nat.le_refl _
  | cons x l ih => intro a; exact Nat.le_trans (by omega) (ih _)
theorem ofNat_toNat (c : UInt8) : UInt8.ofNat c.toNat = c := by simp
theorem toNat_ofNat_dig {u : Nat} (h : u < 10) : (UInt8.ofNat (48 + u)).toNat = 48 + u := by
  rw [UInt8.toNat_ofNat']; omega
theorem dec_small {u : Nat} (h : u < 10) : decDigits u = [UInt8.ofNat (48 + u)] := by rw [decDigits, dif_pos h]
theorem dec_big {u : Nat} (h : ¬ u < 10) : decDigits u = decDigits (u / 10) ++ [UInt8.ofNat (48 + u % 10)] := by rw [decDigits, dif_neg h]
theorem dec_vD (u : Nat) : vD 0 (decDigits u) = u := by
  induction u using Nat.strongRecOn with
  | _ u ih =>
    by_cases h : u < 10
    · rw [dec_small h]; show 0 * 10 + ((UInt8.ofNat (48 + u)).toNat - 48) = u
      rw [toNat_ofNat_dig h]; omega
    · rw [dec_big h, vD_snoc, ih _ (by omega), toNat_ofNat_dig (by omega)]; omega
theorem dec_dig (u : Nat) : ∀ c ∈ decDigits u, isD c = true := by
  induction u using Nat.strongRecOn with
  | _ u ih =>
    intro c hc
    by_cases h : u < 10
    · rw [dec_small h] at hc; rw [List.mem_singleton.1 hc, isD_iff, toNat_ofNat_dig h]; omega
    · rw [dec_big h] at hc
      rcases List.mem_append.1 hc with hc | hc
      · exact ih _ (by omega) c hc
      · rw [List.mem_singleton.1 hc, isD_iff, toNat_ofNat_dig (by omega)]; omega
theorem dec_head (u : Nat) : ∃ c r, decDigits u = c :: r ∧ (c.toNat = 48 → u = 0) := by
  induction u using Nat.strongRecOn with
  | _ u ih =>
    by_cases h : u < 10
    · exact ⟨_, _, dec_small h, fun e => by rw [toNat_ofNat_dig h] at e; omega⟩
    · obtain ⟨c, r, e, h2⟩ := ih (u / 10) (by omega)
      exact ⟨c, r ++ [UInt8.ofNat (48 + u % 10)], by rw [dec_big h, e]; rfl, fun e => by have := h2 e; omega⟩
theorem dec_ne (u : Nat) : decDigits u ≠ [] := by obtain ⟨c, r, e, _⟩ := dec_head u; rw [e]; simp
theorem vD_pos {l : List UInt8} (h1 : ∀ c ∈ l, isD c = true) (h2 : l ≠ []) (h3 : ∀ c r, l = c :: r → c.toNat ≠ 48) : 1 ≤ vD 0 l := by
  cases l with
  | nil => exact absurd rfl h2
  | cons c r =>
    have := h3 c r rfl
    have hd := isD_iff.1 (h1 c List.mem_cons_self)
    exact Nat.le_trans (show 1 ≤ 0 * 10 + (c.toNat - 48) by omega) (vD_le r _)
theorem vD_dec (l : List UInt8) (h1 : ∀ c ∈ l, isD c = true) (h2 : l ≠ []) (h3 : ∀ c r, l = c :: r → c.toNat = 48 → r = []) : decDigits (vD 0 l) = l := by
  rcases List.eq_nil_or_concat l with rfl | ⟨xs, c, rfl⟩
  · exact absurd rfl h2
  · suffices H : ∀ (n : Nat) (xs : List UInt8) (c : UInt8), xs.length = n → (∀ d ∈ xs ++ [c], isD d = true) → (∀ d r, xs ++ [c] = d :: r → d.toNat = 48 → r = []) → decDigits (vD 0 (xs ++ [c])) = xs ++ [c] by
      rw [List.concat_eq_append] at h1 h3 ⊢
      exact H _ xs c rfl h1 h3
    intro n
    induction n with
    | zero =>
      intro xs c hl h1 h3
      obtain rfl : xs = [] := List.eq_nil_of_length_eq_zero hl
      have hd := isD_iff.1 (h1 c (by simp))
      rw [vD_snoc]
      show decDigits (0 * 10 + (c.toNat - 48)) = [c]
      rw [dec_small (by omega), show 48 + (0 * 10 + (c.toNat - 48)) = c.toNat by omega, ofNat_toNat]
    | succ n ih =>
      intro xs c hl h1 h3
      have hd := isD_iff.1 (h1 c (by simp))
      have hxs : ∀ d r, xs = d :: r → d.toNat ≠ 48 := fun d r e h => by
        have := h3 d (r ++ [c]) (by rw [e]; rfl) h
        simp at this
      have hne : xs ≠ [] := by intro e; rw [e] at hl; simp at hl
      have hp := vD_pos (fun d hd => h1 d (by simp [hd])) hne hxs
      have hi : decDigits (vD 0 xs) = xs := by
        rcases List.eq_nil_or_concat xs with e | ⟨ys, y, e⟩
        · exact absurd e hne
        · rw [List.concat_eq_append] at e
          subst e
          refine ih ys y (by simp at hl; omega) (fun d hd => h1 d (by simp at hd ⊢; rcases hd with h | h <;> simp [h])) (fun d r e h => absurd h (hxs d r e))
      rw [vD_snoc, dec_big (by omega), show (vD 0 xs * 10 + (c.toNat - 48)) / 10 = vD 0 xs by omega, hi, show 48 + (vD 0 xs * 10 + (c.toNat - 48)) % 10 = c.toNat by omega, ofNat_toNat]
/-- a numeral that may not be: empty, another sign, a 0 ahead -/
def okS (neg : Bool) (D : List UInt8) : Bool := !D.isEmpty && D.all isD && !(D.head? == some 48 && (neg || !(D.length == 1)))
def sD (neg : Bool) (D : List UInt8) : Int × Int :=
  if okS neg D = true then (if I64 (if neg then -(vD 0 D : Int) else vD 0 D) then ((if neg then -(vD 0 D : Int) else vD 0 D), 0) else (0, 2)) else (0, 5)
def pS (l : List UInt8) : Int × Int := match l with
  | [] => (0, 5)
  | c :: r => if c.toNat = 45 then sD true r else sD false (c :: r)
theorem uintM (M : Nat) (hM : M = 18446744073709551615) (l : List UInt8) : ∀ a, (∀ c ∈ l, isD c = true) → a ≤ M → parseUintM M a l = if vD a l ≤ M then .ok (vD a l) else .range := by
  induction l with
  | nil => intro a _ ha; show NumEnd.ok a = _; rw [if_pos (show vD a [] ≤ M from ha)]; rfl
  | cons c l ih =>
    intro a h ha
    have hd := isD_iff.1 (h c List.mem_cons_self)
    have hv := vD_le l (a * 10 + (c.toNat - 48))
    show (if 48 ≤ c.toNat ∧ c.toNat ≤ 57 then _ else _) = _
    rw [if_pos hd]
    show _ = if vD (a * 10 + (c.toNat - 48)) l ≤ M then _ else _
    by_cases c1 : 1844674407370955162 ≤ a
    · rw [if_pos c1, if_neg (by omega)]
    · rw [if_neg c1]
      by_cases c2 : M < a * 10 + (c.toNat - 48)
      · rw [if_pos c2, if_neg (by omega)]
      · rw [if_neg c2]
        exact ih _ (fun x hx => h x (List.mem_cons_of_mem _ hx)) (by omega)
theorem uintB (l : List UInt8) (h : ∀ c ∈ l, isD c = true) (hn : l ≠ []) : parseUintB 64 l = if vD 0 l ≤ 18446744073709551615 then .ok (vD 0 l) else .range := by
  unfold parseUintB
  rw [if_neg hn]
  exact uintM _ (by decide) l 0 h (by omega)
theorem dw_nil {p : UInt8 → Bool} : ∀ {l : List UInt8}, l.dropWhile p = [] ↔ ∀ c ∈ l, p c = true
  | [] => by simp
  | x :: l => by
    rw [List.dropWhile_cons]
    split
    · rename_i hx; rw [dw_nil]; simp [hx]
    · rename_i hx; simp [hx]
theorem dw_mem {p : UInt8 → Bool} : ∀ {l : List UInt8}, (∀ c ∈ l.dropWhile p, p c = true) → ∀ c ∈ l, p c = true
  | [], _ => by simp
  | x :: l, h => by
    rw [List.dropWhile_cons] at h
    by_cases hx : p x = true
    · rw [if_pos hx] at h
      intro c hc
      rcases List.mem_cons.1 hc with rfl | hc
      · exact hx
      · exact dw_mem h c hc
    · rw [if_neg hx] at h; exact h
theorem dw_sub {p : UInt8 → Bool} : ∀ {l : List UInt8} {c : UInt8}, c ∈ l.dropWhile p → c ∈ l
  | [], _, h => by cases h
  | x :: l, c, h => by
    rw [List.dropWhile_cons] at h
    split at h
    · exact List.mem_cons_of_mem _ (dw_sub h)
    · exact h
theorem trim_digits (D : List UInt8) : (trimS D [48, 49, 50, 51, 52, 53, 54, 55, 56, 57]).isEmpty = D.all isD := by
  have hp : ∀ c : UInt8, ([48, 49, 50, 51, 52, 53, 54, 55, 56, 57] : List UInt8).contains c = isD c := by
    intro c
    have : ∀ n : Fin 256, ([48, 49, 50, 51, 52, 53, 54, 55, 56, 57] : List UInt8).contains (UInt8.ofNat n.val) = isD (UInt8.ofNat n.val) := by decide +kernel
    have h := this ⟨c.toNat, c.toNat_lt⟩
    rwa [ofNat_toNat] at h
  rw [Bool.eq_iff_iff, List.isEmpty_iff, List.all_eq_true]
  unfold trimS trimLeftS trimRightS
  rw [dw_nil]
  constructor
  · intro h c hc
    rw [← hp c]
    refine dw_mem (l := D.reverse) (p := fun c => ([48, 49, 50, 51, 52, 53, 54, 55, 56, 57] : List UInt8).contains c) (fun c hc => h c (by simpa using hc)) c (by simpa using hc)
  · intro h c hc
    rw [hp]
    exact h c (List.mem_reverse.1 (dw_sub (List.mem_reverse.1 hc)))
end Go.Proofs.YtjbdkdmoacdbpaaGreatDoor.M
namespace Go.Proofs.YtjbdkdmoacdbpaaGreatDoor.M
open Go Go.Lib
theorem okS_iff {neg : Bool} {D : List UInt8} : okS neg D = true ↔ D ≠ [] ∧ (∀ c ∈ D, isD c = true) ∧ (∀ c r, D = c :: r → c.toNat = 48 → neg = false ∧ r = []) := by
  unfold okS
  cases D with
  | nil => simp
  | cons c r =>
    have e : (c == (48 : UInt8)) = decide (c.toNat = 48) := by
      rw [Bool.eq_iff_iff, beq_iff_eq, decide_eq_true_iff]
      exact ⟨fun h => by rw [h]; rfl, fun h => by rw [← ofNat_toNat c, h]; rfl⟩
    cases neg <;> simp [e, List.all_eq_true]
    · intro _ _; exact ⟨fun h h2 => h.resolve_left (fun h3 => h3 h2), fun h => by by_cases h2 : c.toNat = 48 <;> simp [h2, h]⟩
theorem badF_pos (c : UInt8) (r : List UInt8) (h : c.toNat ≠ 45) : X.badF (c :: r) = !(okS false (c :: r)) := by
  have e45 : (45 == c) = false := by rw [beq_eq_false_iff_ne]; intro e; rw [← e] at h; exact h rfl
  have e1 : trimPrefix (c :: r) [45] = c :: r := by
    unfold trimPrefix hasPrefix; rw [show List.isPrefixOf [45] (c :: r) = false by simp [List.isPrefixOf, e45]]; rfl
  unfold X.badF
  rw [e1, trim_digits]
  have e2 : hasPrefix (c :: r) [48] = (c == 48) := by
    unfold hasPrefix; simp [List.isPrefixOf]; rw [Bool.eq_iff_iff]; simp; exact eq_comm
  have e3 : (c :: r == [48]) = (c == 48 && (r.isEmpty)) := by cases r <;> (rw [Bool.eq_iff_iff]; simp)
  rw [e2, e3]
  unfold okS
  cases h1 : (c == (48 : UInt8)) <;> cases h2 : (c :: r).all isD <;> cases r <;> simp_all
theorem badF_neg (r : List UInt8) : X.badF (45 :: r) = !(okS true r) := by
  have e1 : trimPrefix (45 :: r) [45] = r := by
    unfold trimPrefix hasPrefix; rw [show List.isPrefixOf [45] (45 :: r) = true by simp [List.isPrefixOf]]; rfl
  unfold X.badF
  rw [e1, trim_digits]
  have e2 : hasPrefix r [48] = (r.head? == some 48) := by
    unfold hasPrefix; cases r with
    | nil => rfl
    | cons x r => rw [Bool.eq_iff_iff]; simp [List.isPrefixOf]; exact eq_comm
  have e3 : ((45 : UInt8) :: r == [48]) = false := by simp
  rw [e2, e3]
  unfold okS
  cases h1 : (r.head? == some (48 : UInt8)) <;> cases h2 : r.all isD <;> cases r <;> simp_all
theorem signed_m (u : Nat) : (match signedC (2 ^ (64 - 1)) (if u ≤ 18446744073709551615 then NumEnd.ok u else .range) with | .ok v => (v, 0) | _ => (0, 2)) = (if I64 (-(u : Int)) then (-(u : Int), 0) else ((0, 2) : Int × Int)) := by
  have e : (2 : Nat) ^ (64 - 1) = 9223372036854775808 := by decide
  by_cases c1 : u ≤ 18446744073709551615
  · rw [if_pos c1]
    rw [show signedC (2 ^ (64 - 1)) (NumEnd.ok u) = (if 2 ^ (64 - 1) < u then NumEnd.range else .ok (-(u : Int))) from rfl]
    by_cases c2 : 2 ^ (64 - 1) < u
    · rw [if_pos c2, if_neg (by unfold I64; omega)]
    · rw [if_neg c2, if_pos (by unfold I64; omega)]
  · rw [if_neg c1, if_neg (by unfold I64; omega)]; rfl
theorem signless_m (u : Nat) : (match signlessC (2 ^ (64 - 1)) (if u ≤ 18446744073709551615 then NumEnd.ok u else .range) with | .ok v => (v, 0) | _ => (0, 2)) = (if I64 (u : Int) then ((u : Int), 0) else ((0, 2) : Int × Int)) := by
  have e : (2 : Nat) ^ (64 - 1) = 9223372036854775808 := by decide
  by_cases c1 : u ≤ 18446744073709551615
  · rw [if_pos c1]
    rw [show signlessC (2 ^ (64 - 1)) (NumEnd.ok u) = (if 2 ^ (64 - 1) ≤ u then NumEnd.range else .ok (u : Int)) from rfl]
    by_cases c2 : 2 ^ (64 - 1) ≤ u
    · rw [if_pos c2, if_neg (by unfold I64; omega)]
    · rw [if_neg c2, if_pos (by unfold I64; omega)]
  · rw [if_neg c1, if_neg (by unfold I64; omega)]; rfl
theorem parseF_pS (l : List UInt8) : X.parseF l = pS l := by
  cases l with
  | nil => rfl
  | cons c r =>
    by_cases h : c.toNat = 45
    · obtain rfl : c = 45 := by rw [← ofNat_toNat c, h]; rfl
      unfold X.parseF
      rw [badF_neg]
      show _ = sD true r
      unfold sD
      by_cases ho : okS true r = true
      · rw [if_pos ho, if_neg (by simp [ho])]
        obtain ⟨h1, h2, h3⟩ := okS_iff.1 ho
        rw [parseIntB_minus, uintB r h2 h1]
        exact signed_m _
      · rw [if_neg ho, if_pos (by simp [ho])]
    · unfold X.parseF
      rw [badF_pos c r h]
      show _ = (if c.toNat = 45 then sD true r else sD false (c :: r))
      rw [if_neg h]
      unfold sD
      by_cases ho : okS false (c :: r) = true
      · rw [if_pos ho, if_neg (by simp [ho])]
        obtain ⟨h1, h2, h3⟩ := okS_iff.1 ho
        have hc := isD_iff.1 (h2 c List.mem_cons_self)
        rw [parseIntB_plain 64 c r (by omega) h, uintB _ h2 h1]
        exact signless_m _
      · rw [if_neg ho, if_pos (by simp [ho])]
theorem pS_itoa {n : Int} (hn : I64 n) : pS (itoa n) = (n, 0) := by
  unfold itoa
  by_cases c : n < 0
  · rw [if_pos c]
    show sD true _ = _
    unfold sD
    obtain ⟨x, r, e, h0⟩ := dec_head n.natAbs
    rw [if_pos (okS_iff.2 ⟨dec_ne _, dec_dig _, fun c r e2 h => by rw [e] at e2; obtain ⟨rfl, rfl⟩ := List.cons.inj e2; have := h0 h; omega⟩), dec_vD]
    simp only [if_true]
    rw [show -(n.natAbs : Int) = n by omega, if_pos hn]
  · rw [if_neg c]
    obtain ⟨x, r, e, h0⟩ := dec_head n.toNat
    have hx := isD_iff.1 (dec_dig n.toNat x (by rw [e]; exact List.mem_cons_self))
    have hs : sD false (decDigits n.toNat) = (n, 0) := by
      unfold sD
      rw [if_pos (okS_iff.2 ⟨dec_ne _, dec_dig _, fun c r2 e2 h => ⟨rfl, by
        rw [e] at e2; obtain ⟨rfl, rfl⟩ := List.cons.inj e2; have := h0 h
        rw [this, dec_small (by omega)] at e; exact (List.cons.inj e).2.symm⟩⟩), dec_vD]
      simp only [Bool.false_eq_true, if_false]
      rw [show (n.toNat : Int) = n by omega, if_pos hn]
    rw [e] at hs ⊢
    show (if x.toNat = 45 then _ else _) = _
    rw [if_neg (by omega)]; exact hs
theorem itoa_pS {l : List UInt8} {v : Int} (h : pS l = (v, 0)) : itoa v = l := by
  cases l with
  | nil => cases h
  | cons c r =>
    by_cases hc : c.toNat = 45
    · obtain rfl : c = 45 := by rw [← ofNat_toNat c, hc]; rfl
      replace h : sD true r = (v, 0) := h
      unfold sD at h
      by_cases ho : okS true r = true
      · rw [if_pos ho] at h
        simp only [if_true] at h
        obtain ⟨h1, h2, h3⟩ := okS_iff.1 ho
        have hp := vD_pos h2 h1 (fun c r e h => by have := (h3 c r e h).1; cases this)
        by_cases hi : I64 (-(vD 0 r : Int))
        · rw [if_pos hi] at h
          obtain rfl := (Prod.mk.inj h).1
          unfold itoa
          rw [if_pos (by omega), show (-(vD 0 r : Int)).natAbs = vD 0 r by omega, vD_dec r h2 h1 (fun c r e h => (h3 c r e h).2)]
        · rw [if_neg hi] at h; cases h
      · rw [if_neg ho] at h; cases h
    · replace h : (if c.toNat = 45 then sD true r else sD false (c :: r)) = (v, 0) := h
      rw [if_neg hc] at h
      unfold sD at h
      by_cases ho : okS false (c :: r) = true
      · rw [if_pos ho] at h
        simp only [Bool.false_eq_true, if_false] at h
        obtain ⟨h1, h2, h3⟩ := okS_iff.1 ho
        by_cases hi : I64 (vD 0 (c :: r) : Int)
        · rw [if_pos hi] at h
          obtain rfl := (Prod.mk.inj h).1
          unfold itoa
          rw [if_neg (by omega), show ((vD 0 (c :: r) : Int)).toNat = vD 0 (c :: r) by omega, vD_dec _ h2 h1 (fun c r e h => (h3 c r e h).2)]
        · rw [if_neg hi] at h; cases h
      · rw [if_neg ho] at h; cases h
theorem sD_i64 (n : Bool) (D : List UInt8) : I64 (sD n D).1 := by
  unfold sD
  by_cases h : okS n D = true
  · rw [if_pos h]
    by_cases h2 : I64 (if n then -(vD 0 D : Int) else vD 0 D)
    · rw [if_pos h2]; exact h2
    · rw [if_neg h2]; exact ⟨by decide, by decide⟩
  · rw [if_neg h]; exact ⟨by decide, by decide⟩
theorem pS_i64 (l : List UInt8) : I64 (pS l).1 := by
  cases l with
  | nil => exact ⟨by decide, by decide⟩
  | cons c r => show I64 (if c.toNat = 45 then sD true r else sD false (c :: r)).1; split <;> exact sD_i64 _ _
theorem itoa_inj {a b : Int} (ha : I64 a) (hb : I64 b) (h : itoa a = itoa b) : a = b := by
  have h1 := pS_itoa ha
  rw [h, pS_itoa hb] at h1
  exact ((Prod.mk.inj h1).1).symm
theorem itoa_ne (a : Int) : itoa a ≠ [] := by unfold itoa; split; simp; exact dec_ne _
end Go.Proofs.YtjbdkdmoacdbpaaGreatDoor.M
namespace Go.Proofs.YtjbdkdmoacdbpaaGreatDoor.M
open Go Go.RowKit Go.Lib Go.Proofs.YtjbdkdmoacdbpaaGreatDoorW.PrintWords Go.Proofs.YtjbdkdmoacdbpaaGreatDoorW.PrintLast Go.Proofs.YtjbdkdmoacdbpaaGreatDoorW.PrintMore Go.Proofs.YtjbdkdmoacdbpaaGreatDoor.Q Go.Proofs.YtjbdkdmoacdbpaaGreatDoor.X Go.Proofs.YtjbdkdmoacdbpaaGreatDoor.XC
abbrev FF := S50
theorem index1 (c : UInt8) : ∀ (p r : List UInt8), c ∉ p → index (p ++ c :: r) [c] = p.length
  | [], r, _ => by simp [index, List.isPrefixOf]
  | b :: p, r, h => by
    have ih := index1 c p r (fun h' => h (List.mem_cons_of_mem _ h'))
    have hb : (c == b) = false := by rw [beq_eq_false_iff_ne]; exact fun e => h (by rw [e]; exact List.mem_cons_self)
    show index (b :: (p ++ c :: r)) [c] = _
    unfold index
    rw [show List.isPrefixOf [c] (b :: (p ++ c :: r)) = false by simp [List.isPrefixOf, hb], ih]
    rw [if_neg (by simp), if_neg (by rw [beq_iff_eq]; omega)]; simp
/-- the pieces of a text, between two bytes of a kind (k of these kept) -/
def sp (c : UInt8) (sv : Nat) (l : List UInt8) : List (List UInt8) := splitK [c] sv (count l [c]) l
theorem sp_end {c : UInt8} {sv : Nat} {l : List UInt8} (h : c ∉ l) : sp c sv l = [l] := by
  unfold sp; rw [count_one, List.count_eq_zero.2 h]; rfl
theorem sp_cons {c : UInt8} {sv : Nat} {p r : List UInt8} (h : c ∉ p) (hs : sv ≤ 1) : sp c sv (p ++ c :: r) = (p ++ [c]).take (p.length + sv) :: sp c sv r := by
  unfold sp
  rw [count_one, count_one, List.count_append, List.count_eq_zero.2 h, List.count_cons_self, Nat.zero_add]
  rw [splitK]
  rw [index1 c p r h, if_neg (by rw [beq_iff_eq]; omega)]
  have e1 : ((p.length : Int)).toNat = p.length := by omega
  rw [e1]
  congr 1
  · rw [show p ++ c :: r = (p ++ [c]) ++ r by simp, List.take_append_of_le_length (by simp; omega)]
  · congr 1
    rw [show p ++ c :: r = (p ++ [c]) ++ r by simp, List.drop_append_of_le_length (by simp)]
    simp
theorem map_bs {xs : List ByteArray} {ls : List (List UInt8)} (h : xs.map (·.data.toList) = ls) : xs = ls.map bs := by
  rw [← h, List.map_map]
  conv => lhs; rw [← List.map_id xs]
  exact List.map_congr_left fun a _ => (bs_data a).symm
theorem pieces_sp (s : ByteArray) : piecesB s = (sp 32 0 s.data.toList).map bs := map_bs (splitB_data _ _ _ _)
theorem lines_sp (s : ByteArray) : linesB s = (sp 10 1 s.data.toList).map bs := map_bs (splitB_data _ _ _ _)
/-- what no word holds -/
def okc (c : UInt8) : Prop := c ≠ 32 ∧ c ≠ 10 ∧ c ≠ 9 ∧ c ≠ 35
theorem name_ok {s : ByteArray} (h : nameB s = true) : 0 < s.size ∧ s.size ≤ 12 ∧ letterP (bt s 0) = true ∧ ∀ c ∈ s.data.toList, wrongP (c.toNat : Int) = false := by
  unfold nameB at h
  simp only [Bool.and_eq_true, decide_eq_true_eq, Bool.not_eq_true', List.any_eq_false, bytesL] at h
  refine ⟨h.1.1.1, h.1.1.2, h.1.2, fun c hc => ?_⟩
  have := h.2 (c.toNat : Int) (List.mem_map.2 ⟨c, hc, rfl⟩)
  simpa using this
theorem plain_ok {c : UInt8} (h : wrongP (c.toNat : Int) = false) : okc c := by
  refine ⟨?_, ?_, ?_, ?_⟩ <;> (rintro rfl; exact absurd h (by decide))
theorem name_okc {s : ByteArray} (h : nameB s = true) : ∀ c ∈ s.data.toList, okc c := fun c hc => plain_ok ((name_ok h).2.2.2 c hc)
theorem itoa_okc (n : Int) : ∀ c ∈ itoa n, okc c := by
  intro c hc
  have hd : ∀ u, ∀ c ∈ decDigits u, okc c := fun u c h => by
    have := isD_iff.1 (dec_dig u _ h)
    refine ⟨?_, ?_, ?_, ?_⟩ <;> (rintro rfl; revert this; decide)
  unfold itoa at hc
  split at hc
  · rcases List.mem_cons.1 hc with h | h
    · subst h; unfold okc; decide
    · exact hd _ _ h
  · exact hd _ _ hc
theorem part_okc {p : ByteArray} (h : p.size = 0 ∨ nameB p = true) : ∀ c ∈ (partB p).data.toList, okc c := by
  unfold partB
  by_cases h0 : p.size = 0
  · rw [if_pos h0]; intro c hc; obtain rfl : c = 45 := by simpa using hc
    unfold okc; decide
  · rw [if_neg h0]; exact name_okc (h.resolve_left h0)
/-- what a key says that may be printed -/
theorem key_ok {k : S48} (h : keyOk k = true) : (k.f3.size = 0 ∨ nameB k.f3 = true) ∧ nameB k.f0 = true ∧ nameB k.f1 = true ∧ nameB k.f2 = true ∧ 0 ≤ k.f4 ∧ k.f4 ≤ 4 := by
  unfold keyOk at h
  simp only [Bool.and_eq_true, Bool.or_eq_true, decide_eq_true_eq] at h
  exact ⟨h.1, h.2.1, h.2.2.1, h.2.2.2.1, h.2.2.2.2.1, h.2.2.2.2.2⟩
def wsL (x : FF) : List UInt8 := x.f0.f0.data.toList ++ 32 :: (x.f0.f1.data.toList ++ 32 :: (x.f0.f2.data.toList ++ 32 :: ((partB x.f0.f3).data.toList ++ 32 :: (itoa x.f0.f4 ++ 32 :: itoa x.f1))))
theorem line_ws (x : FF) : lineTx x = wsL x ++ [10] := by
  unfold lineTx joinB wordsB wsL
  simp [join, List.intercalate]
theorem ws_okc {x : FF} (h : keyOk x.f0 = true) : ∀ c ∈ wsL x, c ≠ 10 ∧ c ≠ 9 ∧ c ≠ 35 := by
  obtain ⟨h3, h0, h1, h2, _, _⟩ := key_ok h
  intro c hc
  unfold wsL at hc
  simp only [List.mem_append, List.mem_cons] at hc
  have k : ∀ {c}, okc c → c ≠ 10 ∧ c ≠ 9 ∧ c ≠ 35 := fun h => h.2
  rcases hc with hc | rfl | hc | rfl | hc | rfl | hc | rfl | hc | rfl | hc
  · exact k (name_okc h0 c hc)
  · decide
  · exact k (name_okc h1 c hc)
  · decide
  · exact k (name_okc h2 c hc)
  · decide
  · exact k (part_okc h3 c hc)
  · decide
  · exact k (itoa_okc _ c hc)
  · decide
  · exact k (itoa_okc _ c hc)
theorem take_pre (p : List UInt8) (c : UInt8) : (p ++ [c]).take (p.length + 0) = p := by simp
theorem sp_ws {x : FF} (h : keyOk x.f0 = true) : sp 32 0 (wsL x) = [x.f0.f0.data.toList, x.f0.f1.data.toList, x.f0.f2.data.toList, (partB x.f0.f3).data.toList, itoa x.f0.f4, itoa x.f1] := by
  obtain ⟨h3, h0, h1, h2, _, _⟩ := key_ok h
  have n : ∀ {l : List UInt8}, (∀ c ∈ l, okc c) → (32 : UInt8) ∉ l := fun h hc => (h 32 hc).1 rfl
  unfold wsL
  rw [sp_cons (n (name_okc h0)) (by decide), sp_cons (n (name_okc h1)) (by decide), sp_cons (n (name_okc h2)) (by decide), sp_cons (n (part_okc h3)) (by decide), sp_cons (n (itoa_okc _)) (by decide), sp_end (n (itoa_okc _))]
  simp only [take_pre]
theorem size0 {p : ByteArray} (h : p.size = 0) : p = ⟨#[]⟩ := by
  obtain ⟨a⟩ := p
  have : a.size = 0 := h
  rw [Array.eq_empty_of_size_eq_zero this]
theorem dash_part {p : ByteArray} (h : p.size = 0 ∨ nameB p = true) : dashB (partB p) = p := by
  unfold partB
  by_cases h0 : p.size = 0
  · rw [if_pos h0, size0 h0]; unfold dashB; rw [if_pos (by rw [Lib.toList_data])]
  · rw [if_neg h0]
    unfold dashB
    rw [if_neg]
    intro e
    have hp : p = bs [45] := by rw [← bs_data p, ← Lib.toList_data, e]
    have := (name_ok (h.resolve_left h0)).2.2.1
    rw [hp] at this
    exact absurd this (by decide)
theorem trim_line (p : List UInt8) : XC.trimB (bs (p ++ [10])) = bs p := by
  unfold XC.trimB
  have : trimSuffix (p ++ [10]) [10] = p := by
    unfold trimSuffix hasSuffix
    simp
  show (⟨(trimSuffix (p ++ [10]) [10]).toArray⟩ : ByteArray) = _
  rw [this]
  rfl
theorem read_line {x : FF} (h : keyOk x.f0 = true) (hi : I64 x.f1) : readB (XC.trimB (bs (lineTx x))) = some x := by
  obtain ⟨h3, h0, h1, h2, h4, h5⟩ := key_ok h
  rw [line_ws, trim_line]
  unfold readB
  rw [pieces_sp, bs_dataL, sp_ws h]
  simp only [List.map_cons, List.map_nil, bs_data, bs_dataL, parseF_pS]
  rw [pS_itoa hi, pS_itoa (show I64 x.f0.f4 by unfold I64; omega)]
  simp only [dash_part h3]
  rw [if_pos (by simp; omega)]
theorem line_10 {x : FF} (h : keyOk x.f0 = true) : (10 : UInt8) ∉ wsL x := fun hc => (ws_okc h 10 hc).1 rfl
theorem sp_body : ∀ {l : List FF}, (∀ x ∈ l, keyOk x.f0 = true) → sp 10 1 (bodyTx l) = l.map lineTx ++ [[]]
  | [], _ => sp_end (by simp [bodyTx])
  | x :: l, h => by
    have e : bodyTx (x :: l) = wsL x ++ 10 :: bodyTx l := by unfold bodyTx; rw [List.map_cons, List.flatten_cons, line_ws]; simp
    rw [e, sp_cons (line_10 (h x List.mem_cons_self)) (by decide), sp_body (fun y hy => h y (List.mem_cons_of_mem _ hy)), List.map_cons, line_ws, List.take_of_length_le (by simp)]
    rfl
theorem head_10 (n : Nat) : (10 : UInt8) ∉ ([99, 117, 98, 101, 32] ++ itoa n : List UInt8) := fun hc => by
  rcases List.mem_append.1 hc with h | h
  · revert h; decide
  · exact (itoa_okc _ 10 h).2.1 rfl
theorem lines_text {l : List FF} (h : ∀ x ∈ l, keyOk x.f0 = true) : (linesB (bs (textTx l))).tail = (l.map fun x => bs (lineTx x)) ++ [bs []] := by
  rw [lines_sp, bs_dataL]
  have e : textTx l = ([99, 117, 98, 101, 32] ++ itoa (l.length : Int)) ++ 10 :: bodyTx l := by unfold textTx headTx; simp
  rw [e, sp_cons (head_10 _) (by decide), sp_body h]
  simp
theorem readAll_text {l : List FF} (h : ∀ x ∈ l, keyOk x.f0 = true ∧ I64 x.f1) : readAll ((l.map fun x => bs (lineTx x)) ++ [bs []]) = some l := by
  have key : ∀ (l acc : List FF), (∀ x ∈ l, keyOk x.f0 = true ∧ I64 x.f1) → (l.map fun x => bs (lineTx x)).foldl stepR (some acc) = some (acc ++ l) := by
    intro l
    induction l with
    | nil => intro acc _; simp
    | cons x l ih =>
      intro acc h
      have hx := h x List.mem_cons_self
      rw [List.map_cons, List.foldl_cons]
      have hs : stepR (some acc) (bs (lineTx x)) = some (acc ++ [x]) := by
        unfold stepR
        rw [Option.bind_some, if_neg (by rw [bs_size, line_ws]; simp), read_line hx.1 hx.2]; rfl
      rw [hs, ih _ (fun y hy => h y (List.mem_cons_of_mem _ hy))]
      simp
  unfold readAll
  rw [List.foldl_append, key l [] h]
  rfl
def Good (l : List FF) : Prop := goodC l (rightS l) = true ∧ ∀ x ∈ l, I64 x.f1
theorem Good.key {l : List FF} (h : Good l) : ∀ x ∈ l, keyOk x.f0 = true := by
  have := h.1
  unfold goodC at this
  rw [Bool.and_eq_true, List.all_eq_true] at this
  exact this.2
theorem Good.right {l : List FF} (h : Good l) : rightS l = true := by
  have := h.1
  unfold goodC at this
  rw [Bool.and_eq_true] at this
  exact this.1
theorem good_read {l : List FF} (h : Good l) : readAll (linesB (bs (textTx l))).tail = some l := by
  rw [lines_text h.key]
  exact readAll_text fun x hx => ⟨h.key x hx, h.2 x hx⟩
theorem text_inj {l m : List FF} (h : Good l) (h' : Good m) (e : textTx l = textTx m) : l = m := by
  have := good_read h
  rw [e, good_read h'] at this
  exact (Option.some.inj this).symm
end Go.Proofs.YtjbdkdmoacdbpaaGreatDoor.M
namespace Go.Proofs.YtjbdkdmoacdbpaaGreatDoor.M
open Go Go.RowKit Go.Lib Go.Proofs.YtjbdkdmoacdbpaaGreatDoorW.PrintWords Go.Proofs.YtjbdkdmoacdbpaaGreatDoorW.PrintLast Go.Proofs.YtjbdkdmoacdbpaaGreatDoorW.PrintMore Go.Proofs.YtjbdkdmoacdbpaaGreatDoor.Q Go.Proofs.YtjbdkdmoacdbpaaGreatDoor.X Go.Proofs.YtjbdkdmoacdbpaaGreatDoor.XC
theorem len_itoa {n : Int} (h : I64 n) : (itoa n).length ≤ 21 := itoa_length_le n (by have := h.1; omega) (by have := h.2; omega)
theorem data_len (s : ByteArray) : s.data.toList.length = s.size := by rw [Array.length_toList]; rfl
theorem part_len (p : ByteArray) : (partB p).size ≤ p.size + 1 := by
  unfold partB; split
  · show 1 ≤ _; omega
  · omega
theorem line_len (x : FF) (h4 : I64 x.f0.f4) (h1 : I64 x.f1) : (lineTx x).length ≤ x.f0.f0.size + x.f0.f1.size + x.f0.f2.size + x.f0.f3.size + 49 := by
  rw [line_ws]
  unfold wsL
  have a := len_itoa h4
  have b := len_itoa h1
  have c := part_len x.f0.f3
  simp only [List.length_append, List.length_cons, List.length_nil, Array.length_toList]
  have e : ∀ s : ByteArray, s.data.size = s.size := fun s => rfl
  rw [e, e, e, e]
  omega
theorem body_len {l : List FF} {m : Nat} (h : ∀ x ∈ l, (lineTx x).length ≤ m) : (bodyTx l).length ≤ l.length * m := by
  induction l with
  | nil => simp [bodyTx]
  | cons x l ih =>
    have e : bodyTx (x :: l) = lineTx x ++ bodyTx l := by unfold bodyTx; rw [List.map_cons, List.flatten_cons]
    have h1 := h x List.mem_cons_self
    have h2 := ih (fun y hy => h y (List.mem_cons_of_mem _ hy))
    rw [e, List.length_append, List.length_cons, Nat.succ_mul]; omega
theorem small_of {l : List FF} (hl : l.length ≤ 20001) (h : ∀ x ∈ l, x.f0.f0.size ≤ 20000 ∧ x.f0.f1.size ≤ 20000 ∧ x.f0.f2.size ≤ 20000 ∧ x.f0.f3.size ≤ 20000 ∧ I64 x.f0.f4 ∧ I64 x.f1) : Small l := by
  refine ⟨?_, by omega, fun x hx => ?_⟩
  · have := body_len (l := l) (m := 80049) fun x hx => by
      obtain ⟨a, b, c, d, e, f⟩ := h x hx
      have := line_len x e f
      omega
    have h2 : l.length * 80049 ≤ 20001 * 80049 := Nat.mul_le_mul_right _ hl
    omega
  · obtain ⟨_, _, _, _, _, f⟩ := h x hx
    exact ⟨by have := f.1; omega, by have := f.2; omega⟩
/-- codec.Print, told -/
theorem print_is {l : List FF} (h : Small l) : codec_Print.f l = some (if goodC l (rightS l) = true then (bs (textTx l), 0) else (bs [], 1)) := by
  show printF l = _
  unfold printF
  rw [if_pos h]
  rfl
theorem read_fact {p : ByteArray} {x : FF} (h : readB p = some x) : x.f0.f0.size ≤ p.size ∧ x.f0.f1.size ≤ p.size ∧ x.f0.f2.size ≤ p.size ∧ x.f0.f3.size ≤ p.size ∧ I64 x.f0.f4 ∧ I64 x.f1 := by
  have hps : ∀ q ∈ piecesB p, q.size ≤ p.size := pieces_small _ _ _ _ (Nat.zero_le _)
  unfold readB at h
  split at h
  · rename_i p0 p1 p2 p3 p4 p5 he
    rw [he] at hps
    split at h
    · obtain rfl := Option.some.inj h
      refine ⟨hps p0 (by simp), hps p1 (by simp), hps p2 (by simp), ?_, ?_, ?_⟩
      · show (dashB p3).size ≤ _
        unfold dashB; split
        · exact Nat.zero_le _
        · exact hps p3 (by simp)
      · show I64 (parseF _).1
        rw [parseF_pS]; exact pS_i64 _
      · show I64 (parseF _).1
        rw [parseF_pS]; exact pS_i64 _
    · cases h
  · cases h
theorem readAll_small {m : Nat} : ∀ (ls : List ByteArray) (acc out : List FF), (∀ p ∈ ls, p.size ≤ m) → ls.foldl stepR (some acc) = some out → out.length ≤ acc.length + ls.length ∧ ((∀ x ∈ acc, x.f0.f0.size ≤ m ∧ x.f0.f1.size ≤ m ∧ x.f0.f2.size ≤ m ∧ x.f0.f3.size ≤ m ∧ I64 x.f0.f4 ∧ I64 x.f1) → ∀ x ∈ out, x.f0.f0.size ≤ m ∧ x.f0.f1.size ≤ m ∧ x.f0.f2.size ≤ m ∧ x.f0.f3.size ≤ m ∧ I64 x.f0.f4 ∧ I64 x.f1)
  | [], acc, out, _, h => by
    obtain rfl := Option.some.inj h
    exact ⟨by simp, fun h => h⟩
  | p :: ls, acc, out, hp, h => by
    rw [List.foldl_cons] at h
    have hq := fun q hq => hp q (List.mem_cons_of_mem p hq)
    rw [show stepR (some acc) p = if p.size = 0 then some acc else (readB (XC.trimB p)).map fun x => acc ++ [x] from rfl] at h
    by_cases h0 : p.size = 0
    · rw [if_pos h0] at h
      obtain ⟨h1, h2⟩ := readAll_small ls acc out hq h
      exact ⟨by simp; omega, h2⟩
    · rw [if_neg h0] at h
      cases hr : readB (XC.trimB p) with
      | none => rw [hr] at h; rw [Option.map_none, stepR_none] at h; cases h
      | some x =>
        rw [hr] at h
        obtain ⟨h1, h2⟩ := readAll_small ls (acc ++ [x]) out hq h
        refine ⟨by simp at h1 ⊢; omega, fun ha => h2 fun y hy => ?_⟩
        rcases List.mem_append.1 hy with hy | hy
        · exact ha y hy
        · obtain rfl : y = x := by simpa using hy
          obtain ⟨a, b, c, d, e, f⟩ := read_fact hr
          have ht := trimB_size p
          have hpp := hp p List.mem_cons_self
          exact ⟨by omega, by omega, by omega, by omega, e, f⟩
/-- codec.Parse, told -/
theorem parse_is (s : List UInt8) (hs : s.length ≤ 20000) : ∃ out e, codec_Parse.f (bs s) = some (out, e) ∧ ((e = 0 ∧ Good out ∧ Small out ∧ textTx out = s) ∨ (e = 5 ∧ out = [] ∧ ∀ l, Good l → textTx l ≠ s)) := by
  show ∃ out e, parseTF (bs s) = some (out, e) ∧ _
  unfold parseTF
  rw [if_pos (by rw [bs_size]; omega), bs_dataL]
  have hno : ∀ {o}, readAll (linesB (bs s)).tail = o → (∀ l, Good l → textTx l = s → o = some l) := fun ho l hg ht => by
    rw [← ho, ← ht, good_read hg]
  cases hr : readAll (linesB (bs s)).tail with
  | none =>
    refine ⟨[], 5, rfl, .inr ⟨rfl, rfl, fun l hg ht => ?_⟩⟩
    have := hno hr l hg ht
    cases this
  | some out =>
    have hpz : ∀ p ∈ (linesB (bs s)).tail, p.size ≤ s.length := fun p hp => by
      have := pieces_small ⟨#[10]⟩ 1 (Lib.countB (bs s) ⟨#[10]⟩) (bs s) (by decide) p (List.mem_of_mem_tail hp)
      rw [bs_size] at this; exact this
    obtain ⟨h1, h2⟩ := readAll_small _ [] out hpz hr
    have hll : (linesB (bs s)).tail.length ≤ s.length := by
      have := linesB_len (bs s)
      have := Lib.countB_le ⟨#[10]⟩ (by decide) (bs s).size (bs s) (Nat.le_refl _)
      rw [bs_size] at this
      rw [List.length_tail]; omega
    have hm := h2 (by simp)
    have hsm : Small out := small_of (by have : ([] : List FF).length = 0 := rfl; omega) fun x hx => by
      obtain ⟨a, b, c, d, e, f⟩ := hm x hx
      exact ⟨by omega, by omega, by omega, by omega, e, f⟩
    dsimp only
    rw [if_pos hsm]
    by_cases hg : goodC out (rightS out) = true ∧ textTx out = s
    · rw [if_pos hg]
      exact ⟨out, 0, rfl, .inl ⟨rfl, ⟨hg.1, fun x hx => (hm x hx).2.2.2.2.2⟩, hsm, hg.2⟩⟩
    · rw [if_neg hg]
      refine ⟨[], 5, rfl, .inr ⟨rfl, rfl, fun l hl ht => hg ?_⟩⟩
      obtain rfl := Option.some.inj (hno hr l hl ht)
      exact ⟨hl.1, ht⟩
theorem parse_good {l : List FF} (hg : Good l) (hs : (textTx l).length ≤ 20000) : codec_Parse.f (bs (textTx l)) = some (l, 0) := by
  obtain ⟨out, e, h, ⟨rfl, h1, _, h2⟩ | ⟨_, _, h2⟩⟩ := parse_is (textTx l) hs
  · rw [h, text_inj h1 hg h2]
  · exact absurd rfl (h2 l hg)
theorem parse_bad {s : List UInt8} (hs : s.length ≤ 20000) (h : ∀ l, Good l → textTx l ≠ s) : codec_Parse.f (bs s) = some ([], 5) := by
  obtain ⟨out, e, hp, ⟨rfl, h1, _, h2⟩ | ⟨rfl, rfl, _⟩⟩ := parse_is s hs
  · exact absurd h2 (h out h1)
  · exact hp
end Go.Proofs.YtjbdkdmoacdbpaaGreatDoor.M
