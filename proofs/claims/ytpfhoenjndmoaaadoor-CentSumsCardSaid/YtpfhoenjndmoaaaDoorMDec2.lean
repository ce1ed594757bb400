import Derived.Test.YtpfhoenjndmoaaaDoorMDec
/- what cent.Parse tells is pS; numerals come back -/
set_option linter.unusedVariables false
set_option linter.unusedSimpArgs false
namespace Go.Proofs.YtpfhoenjndmoaaaDoor.M
open Go Go.Lib
theorem okS_iff {neg : Bool} {D : List UInt8} : okS neg D = true ↔ D ≠ [] ∧ (∀ c ∈ D, isD c = true) ∧ (∀ c r, D = c :: r → c.toNat = 48 → neg = false ∧ r = []) := by
  unfold okS
  cases D with
  | nil => simp
  | cons c r =>
    have e : (c == (48 : UInt8)) = decide (c.toNat = 48) := by
      rw [Bool.eq_iff_iff, beq_iff_eq, decide_eq_true_iff]
      exact ⟨fun h => by rw [h]; rfl, fun h => by rw [← ofNat_toNat c, h]; rfl⟩
    cases neg <;> simp [e, List.all_eq_true]
    · intro _ _; exact ⟨fun h h2 => h.resolve_left (fun h3 => h3 h2), fun h => by by_cases h2 : c.toNat = 48 <;> simp [h2, h]⟩
theorem badF_pos (c : UInt8) (r : List UInt8) (h : c.toNat ≠ 45) : X.badF (c :: r) = !(okS false (c :: r)) := by
  have e45 : (45 == c) = false := by rw [beq_eq_false_iff_ne]; intro e; rw [← e] at h; exact h rfl
  have e1 : trimPrefix (c :: r) [45] = c :: r := by
    unfold trimPrefix hasPrefix; rw [show List.isPrefixOf [45] (c :: r) = false by simp [List.isPrefixOf, e45]]; rfl
  unfold X.badF
  rw [e1, trim_digits]
  have e2 : hasPrefix (c :: r) [48] = (c == 48) := by
    unfold hasPrefix; simp [List.isPrefixOf]; rw [Bool.eq_iff_iff]; simp; exact eq_comm
  have e3 : (c :: r == [48]) = (c == 48 && (r.isEmpty)) := by cases r <;> (rw [Bool.eq_iff_iff]; simp)
  rw [e2, e3]
  unfold okS
  cases h1 : (c == (48 : UInt8)) <;> cases h2 : (c :: r).all isD <;> cases r <;> simp_all
theorem badF_neg (r : List UInt8) : X.badF (45 :: r) = !(okS true r) := by
  have e1 : trimPrefix (45 :: r) [45] = r := by
    unfold trimPrefix hasPrefix; rw [show List.isPrefixOf [45] (45 :: r) = true by simp [List.isPrefixOf]]; rfl
  unfold X.badF
  rw [e1, trim_digits]
  have e2 : hasPrefix r [48] = (r.head? == some 48) := by
    unfold hasPrefix; cases r with
    | nil => rfl
    | cons x r => rw [Bool.eq_iff_iff]; simp [List.isPrefixOf]; exact eq_comm
  have e3 : ((45 : UInt8) :: r == [48]) = false := by simp
  rw [e2, e3]
  unfold okS
  cases h1 : (r.head? == some (48 : UInt8)) <;> cases h2 : r.all isD <;> cases r <;> simp_all
theorem signed_m (u : Nat) : (match signedC (2 ^ (64 - 1)) (if u ≤ 18446744073709551615 then NumEnd.ok u else .range) with | .ok v => (v, 0) | _ => (0, 2)) = (if I64 (-(u : Int)) then (-(u : Int), 0) else ((0, 2) : Int × Int)) := by
  have e : (2 : Nat) ^ (64 - 1) = 9223372036854775808 := by decide
  by_cases c1 : u ≤ 18446744073709551615
  · rw [if_pos c1]
    rw [show signedC (2 ^ (64 - 1)) (NumEnd.ok u) = (if 2 ^ (64 - 1) < u then NumEnd.range else .ok (-(u : Int))) from rfl]
    by_cases c2 : 2 ^ (64 - 1) < u
    · rw [if_pos c2, if_neg (by unfold I64; omega)]
    · rw [if_neg c2, if_pos (by unfold I64; omega)]
  · rw [if_neg c1, if_neg (by unfold I64; omega)]; rfl
theorem signless_m (u : Nat) : (match signlessC (2 ^ (64 - 1)) (if u ≤ 18446744073709551615 then NumEnd.ok u else .range) with | .ok v => (v, 0) | _ => (0, 2)) = (if I64 (u : Int) then ((u : Int), 0) else ((0, 2) : Int × Int)) := by
  have e : (2 : Nat) ^ (64 - 1) = 9223372036854775808 := by decide
  by_cases c1 : u ≤ 18446744073709551615
  · rw [if_pos c1]
    rw [show signlessC (2 ^ (64 - 1)) (NumEnd.ok u) = (if 2 ^ (64 - 1) ≤ u then NumEnd.range else .ok (u : Int)) from rfl]
    by_cases c2 : 2 ^ (64 - 1) ≤ u
    · rw [if_pos c2, if_neg (by unfold I64; omega)]
    · rw [if_neg c2, if_pos (by unfold I64; omega)]
  · rw [if_neg c1, if_neg (by unfold I64; omega)]; rfl
theorem parseF_pS (l : List UInt8) : X.parseF l = pS l := by
  cases l with
  | nil => rfl
  | cons c r =>
    by_cases h : c.toNat = 45
    · obtain rfl : c = 45 := by rw [← ofNat_toNat c, h]; rfl
      unfold X.parseF
      rw [badF_neg]
      show _ = sD true r
      unfold sD
      by_cases ho : okS true r = true
      · rw [if_pos ho, if_neg (by simp [ho])]
        obtain ⟨h1, h2, h3⟩ := okS_iff.1 ho
        rw [parseIntB_minus, uintB r h2 h1]
        exact signed_m _
      · rw [if_neg ho, if_pos (by simp [ho])]
    · unfold X.parseF
      rw [badF_pos c r h]
      show _ = (if c.toNat = 45 then sD true r else sD false (c :: r))
      rw [if_neg h]
      unfold sD
      by_cases ho : okS false (c :: r) = true
      · rw [if_pos ho, if_neg (by simp [ho])]
        obtain ⟨h1, h2, h3⟩ := okS_iff.1 ho
        have hc := isD_iff.1 (h2 c List.mem_cons_self)
        rw [parseIntB_plain 64 c r (by omega) h, uintB _ h2 h1]
        exact signless_m _
      · rw [if_neg ho, if_pos (by simp [ho])]
theorem pS_itoa {n : Int} (hn : I64 n) : pS (itoa n) = (n, 0) := by
  unfold itoa
  by_cases c : n < 0
  · rw [if_pos c]
    show sD true _ = _
    unfold sD
    obtain ⟨x, r, e, h0⟩ := dec_head n.natAbs
    rw [if_pos (okS_iff.2 ⟨dec_ne _, dec_dig _, fun c r e2 h => by rw [e] at e2; obtain ⟨rfl, rfl⟩ := List.cons.inj e2; have := h0 h; omega⟩), dec_vD]
    simp only [if_true]
    rw [show -(n.natAbs : Int) = n by omega, if_pos hn]
  · rw [if_neg c]
    obtain ⟨x, r, e, h0⟩ := dec_head n.toNat
    have hx := isD_iff.1 (dec_dig n.toNat x (by rw [e]; exact List.mem_cons_self))
    have hs : sD false (decDigits n.toNat) = (n, 0) := by
      unfold sD
      rw [if_pos (okS_iff.2 ⟨dec_ne _, dec_dig _, fun c r2 e2 h => ⟨rfl, by
        rw [e] at e2; obtain ⟨rfl, rfl⟩ := List.cons.inj e2; have := h0 h
        rw [this, dec_small (by omega)] at e; exact (List.cons.inj e).2.symm⟩⟩), dec_vD]
      simp only [Bool.false_eq_true, if_false]
      rw [show (n.toNat : Int) = n by omega, if_pos hn]
    rw [e] at hs ⊢
    show (if x.toNat = 45 then _ else _) = _
    rw [if_neg (by omega)]; exact hs
theorem itoa_pS {l : List UInt8} {v : Int} (h : pS l = (v, 0)) : itoa v = l := by
  cases l with
  | nil => cases h
  | cons c r =>
    by_cases hc : c.toNat = 45
    · obtain rfl : c = 45 := by rw [← ofNat_toNat c, hc]; rfl
      replace h : sD true r = (v, 0) := h
      unfold sD at h
      by_cases ho : okS true r = true
      · rw [if_pos ho] at h
        simp only [if_true] at h
        obtain ⟨h1, h2, h3⟩ := okS_iff.1 ho
        have hp := vD_pos h2 h1 (fun c r e h => by have := (h3 c r e h).1; cases this)
        by_cases hi : I64 (-(vD 0 r : Int))
        · rw [if_pos hi] at h
          obtain rfl := (Prod.mk.inj h).1
          unfold itoa
          rw [if_pos (by omega), show (-(vD 0 r : Int)).natAbs = vD 0 r by omega, vD_dec r h2 h1 (fun c r e h => (h3 c r e h).2)]
        · rw [if_neg hi] at h; cases h
      · rw [if_neg ho] at h; cases h
    · replace h : (if c.toNat = 45 then sD true r else sD false (c :: r)) = (v, 0) := h
      rw [if_neg hc] at h
      unfold sD at h
      by_cases ho : okS false (c :: r) = true
      · rw [if_pos ho] at h
        simp only [Bool.false_eq_true, if_false] at h
        obtain ⟨h1, h2, h3⟩ := okS_iff.1 ho
        by_cases hi : I64 (vD 0 (c :: r) : Int)
        · rw [if_pos hi] at h
          obtain rfl := (Prod.mk.inj h).1
          unfold itoa
          rw [if_neg (by omega), show ((vD 0 (c :: r) : Int)).toNat = vD 0 (c :: r) by omega, vD_dec _ h2 h1 (fun c r e h => (h3 c r e h).2)]
        · rw [if_neg hi] at h; cases h
      · rw [if_neg ho] at h; cases h
theorem sD_i64 (n : Bool) (D : List UInt8) : I64 (sD n D).1 := by
  unfold sD
  by_cases h : okS n D = true
  · rw [if_pos h]
    by_cases h2 : I64 (if n then -(vD 0 D : Int) else vD 0 D)
    · rw [if_pos h2]; exact h2
    · rw [if_neg h2]; exact ⟨by decide, by decide⟩
  · rw [if_neg h]; exact ⟨by decide, by decide⟩
theorem pS_i64 (l : List UInt8) : I64 (pS l).1 := by
  cases l with
  | nil => exact ⟨by decide, by decide⟩
  | cons c r => show I64 (if c.toNat = 45 then sD true r else sD false (c :: r)).1; split <;> exact sD_i64 _ _
theorem itoa_inj {a b : Int} (ha : I64 a) (hb : I64 b) (h : itoa a = itoa b) : a = b := by
  have h1 := pS_itoa ha
  rw [h, pS_itoa hb] at h1
  exact ((Prod.mk.inj h1).1).symm
theorem itoa_ne (a : Int) : itoa a ≠ [] := by unfold itoa; split; simp; exact dec_ne _
end Go.Proofs.YtpfhoenjndmoaaaDoor.M
