import Derived.Test.YtgmajadoklnlnaaQx3
import Derived.Test.YtgmajadoklnlnaaQx2
import Derived.Test.YtgmajadoklnlnaaMWide
import Derived.Test.YtgmajadoklnlnaaCWide2
/- what the printed functions of the reference 02 tell (the product and the quotient, bit by bit) -/
set_option linter.unusedVariables false
set_option linter.unusedSimpArgs false
namespace Go.Proofs.Ytgmajadoklnlnaa.M
open Go.RowKit Go.Proofs.YtgmajadoklnlnaaW.PrintWords Go.Proofs.YtgmajadoklnlnaaW.PrintLast Go.Proofs.YtgmajadoklnlnaaW.PrintMore Go.Proofs.Ytgmajadoklnlnaa.Q

theorem rsize_f {a : Int} (h : I64 a) : comptrollerref02_size.f a = some (ab a) := by
  obtain ⟨h1, h2⟩ := h
  unfold comptrollerref02_size.f ab
  by_cases c : a < 0
  · rw [if_pos c, if_pos c]; simp only [wu64]; exact congrArg some (by omega)
  · rw [if_neg c, if_neg c]; simp only [wu64]; exact congrArg some (by omega)
theorem rdouble_f {h l one : Int} (hl : 0 ≤ l ∧ l < 18446744073709551616) (hh : 0 ≤ h) (ho : 0 ≤ one ∧ one ≤ 1) (hb : h * 18446744073709551616 + l < 170141183460469231731687303715884105728) :
    comptrollerref02_double.f h l one = some ((2 * (h * 18446744073709551616 + l) + one) / 18446744073709551616, (2 * (h * 18446744073709551616 + l) + one) % 18446744073709551616) := by
  unfold comptrollerref02_double.f
  rw [Int.tdiv_eq_ediv_of_nonneg hl.1]
  simp only [wu64]
  refine congrArg some (Prod.ext ?_ ?_) <;> (show _ = _) <;> omega
theorem rplus_f {h l b : Int} (hl : 0 ≤ l ∧ l < 18446744073709551616) (hh : 0 ≤ h) (ho : 0 ≤ b ∧ b < 18446744073709551616) (hb : h * 18446744073709551616 + l + b < 340282366920938463463374607431768211456) :
    comptrollerref02_plus.f h l b = some ((h * 18446744073709551616 + l + b) / 18446744073709551616, (h * 18446744073709551616 + l + b) % 18446744073709551616) := by
  unfold comptrollerref02_plus.f
  simp only [wu64]
  by_cases c : (l + b) % 18446744073709551616 < b
  · rw [if_pos c]; refine congrArg some (Prod.ext ?_ ?_) <;> (show _ = _) <;> omega
  · rw [if_neg c]; refine congrArg some (Prod.ext ?_ ?_) <;> (show _ = _) <;> omega

/-- the product: after i rounds it is the highest i bits of a, times b -/
theorem rtimesl_f {a b : Int} (ha : 0 ≤ a ∧ a ≤ 9223372036854775808) (hb : 0 ≤ b ∧ b ≤ 9223372036854775808) (d : Nat) : ∀ (i : Nat) (n : Int), i + d = 64 → n = a / 2 ^ d * b →
    Ev (fun k => comptrollerref02_times.l0 k a b (2 ^ d / 2) (i : Int) (n / 18446744073709551616) (n % 18446744073709551616)) (a * b / 18446744073709551616, a * b % 18446744073709551616) := by
  induction d with
  | zero =>
    intro i n hi hn
    refine Ev.step (f := fun _ => some _) (fun k => ?_) (Ev.now _)
    rw [comptrollerref02_times.l0.eq_2, if_neg (by omega), hn]
    simp
  | succ d ih =>
    intro i n hi hn
    have hi64 : (i : Int) < 64 := by omega
    have hp : (0 : Int) < 2 ^ d := Int.pow_pos (by omega)
    have hq : (2 : Int) ^ (d + 1) = 2 ^ d * 2 := Int.pow_succ ..
    have hd63 : (2 : Int) ^ d ≤ 9223372036854775808 := by
      have : (2 : Int) ^ d ≤ 2 ^ 63 := by exact_mod_cast Nat.pow_le_pow_right (by decide) (show d ≤ 63 by omega)
      exact this
    have e1 : (2 : Int) ^ (d + 1) / 2 = 2 ^ d := by rw [hq]; omega
    have e2 : a / 2 ^ d / 2 = a / 2 ^ (d + 1) := by rw [Int.ediv_ediv_of_nonneg (by omega), ← hq]
    rw [e1]
    rw [← e2] at hn
    clear hq e1 e2
    generalize (2 : Int) ^ d = D at *
    generalize hA : a / D = A at *
    have hA0 : 0 ≤ A := by rw [← hA]; exact Int.ediv_nonneg ha.1 (by omega)
    have hA1 : A ≤ a := by rw [← hA]; exact Int.ediv_le_self _ ha.1
    have hn0 : 0 ≤ n := by rw [hn]; exact Int.mul_nonneg (by omega) hb.1
    have hn1 : n ≤ 4611686018427387904 * 9223372036854775808 := by rw [hn]; exact mul_le_mul' (by omega) hb.2 (by omega) (by omega)
    have hAb : A * b = 2 * n + (if A % 2 = 1 then b else 0) := by
      have : A = A / 2 * 2 + A % 2 := by omega
      rw [hn]
      generalize A / 2 = X at *
      by_cases c : A % 2 = 1
      · rw [if_pos c, this, c, Int.add_mul, Int.mul_right_comm]; omega
      · rw [if_neg c, this, show A % 2 = 0 by omega, Int.add_mul, Int.mul_right_comm]; omega
    have ew : IntKind.u64.wrap (Int.tdiv a D) = A := by
      rw [Int.tdiv_eq_ediv_of_nonneg ha.1, hA]; exact IntWalk.u64_in _ ⟨hA0, by omega⟩
    have ep : IntKind.u64.wrap (Int.tdiv D 2) = D / 2 := by
      rw [Int.tdiv_eq_ediv_of_nonneg (by omega)]; exact IntWalk.u64_in _ ⟨by omega, by omega⟩
    have ei : wrap64 ((i : Int) + 1) = ((i + 1 : Nat) : Int) := by rw [w64_in (by unfold I64; omega)]; rfl
    have hl0 : 0 ≤ n % 18446744073709551616 ∧ n % 18446744073709551616 < 18446744073709551616 := by clear hAb hn hA ih; omega
    have hh0 : 0 ≤ n / 18446744073709551616 := by clear hAb hn hA ih; omega
    have h01 : (0 : Int) ≤ 0 ∧ (0 : Int) ≤ 1 := by omega
    have hb0 : n / 18446744073709551616 * 18446744073709551616 + n % 18446744073709551616 < 170141183460469231731687303715884105728 := by clear hAb hn hA ih; omega
    by_cases c : A % 2 = 1
    · rw [if_pos c] at hAb
      have := ih (i + 1) (2 * n + b) (by omega) (by rw [hAb])
      refine Ev.step (fun k => ?_) this
      rw [comptrollerref02_times.l0.eq_2, if_pos hi64, rdouble_f (h := n / 18446744073709551616) (l := n % 18446744073709551616) (one := 0) hl0 hh0 h01 hb0]
      simp only [Option.bind_some]
      rw [if_neg (by omega), ew, Int.tmod_eq_emod_of_nonneg hA0, if_pos c]
      rw [show n / 18446744073709551616 * 18446744073709551616 + n % 18446744073709551616 = n by omega]
      rw [rplus_f (by omega) (by omega) (by omega) (by omega)]
      simp only [Option.bind_some, Int.add_zero]
      rw [ep, ei, show 2 * n / 18446744073709551616 * 18446744073709551616 + 2 * n % 18446744073709551616 = 2 * n by omega]
    · rw [if_neg c] at hAb
      have := ih (i + 1) (2 * n) (by omega) (by omega)
      refine Ev.step (fun k => ?_) this
      rw [comptrollerref02_times.l0.eq_2, if_pos hi64, rdouble_f (h := n / 18446744073709551616) (l := n % 18446744073709551616) (one := 0) hl0 hh0 h01 hb0]
      simp only [Option.bind_some]
      rw [if_neg (by omega), ew, Int.tmod_eq_emod_of_nonneg hA0, if_neg c]
      rw [show n / 18446744073709551616 * 18446744073709551616 + n % 18446744073709551616 = n by omega]
      simp only [Int.add_zero]
      rw [ep, ei]
theorem rtimes_f {a b : Int} (ha : 0 ≤ a ∧ a ≤ 9223372036854775808) (hb : 0 ≤ b ∧ b ≤ 9223372036854775808) :
    Ev (fun k => comptrollerref02_times.f k a b) (a * b / 18446744073709551616, a * b % 18446744073709551616) := by
  unfold comptrollerref02_times.f
  have := rtimesl_f ha hb 64 0 0 (by omega) (by
    rw [show a / 2 ^ 64 = 0 from Int.ediv_eq_zero_of_lt ha.1 (by omega), Int.zero_mul])
  exact this

theorem rbitl_f (d : Nat) : ∀ (i k0 : Nat) (x : Int), k0 + d = i → i ≤ 64 → 0 ≤ x → x < 18446744073709551616 → Ev (fun k => comptrollerref02_bit.l0 k (i : Int) x (k0 : Int)) (x / 2 ^ d % 2) := by
  induction d with
  | zero =>
    intro i k0 x h hi hx hx1
    refine Ev.step (f := fun _ => some _) (fun k => ?_) (Ev.now _)
    rw [comptrollerref02_bit.l0.eq_2, if_neg (by omega), Int.tmod_eq_emod_of_nonneg hx]; simp
  | succ d ih =>
    intro i k0 x h hi hx hx1
    have := ih i (k0 + 1) (x / 2) (by omega) hi (by omega) (by omega)
    have hp : (0 : Int) < 2 ^ d := Int.pow_pos (by omega)
    have hq : (2 : Int) ^ (d + 1) = 2 * 2 ^ d := by rw [Int.pow_succ, Int.mul_comm]
    rw [Int.ediv_ediv_of_nonneg (by omega), ← hq] at this
    refine Ev.step (fun k => ?_) this
    rw [comptrollerref02_bit.l0.eq_2, if_pos (by omega), Int.tdiv_eq_ediv_of_nonneg hx, IntWalk.u64_in (x / 2) ⟨by omega, by omega⟩, w64_in (by unfold I64; omega)]
    rfl
theorem rbit_f {n : Int} (i : Nat) (hi : i < 128) (hn : 0 ≤ n ∧ n < 340282366920938463463374607431768211456) :
    Ev (fun k => comptrollerref02_bit.f k (n / 18446744073709551616) (n % 18446744073709551616) (i : Int)) (n / 2 ^ i % 2) := by
  unfold comptrollerref02_bit.f
  by_cases c : 64 ≤ i
  · have := rbitl_f (i - 64) (i - 64) 0 (n / 18446744073709551616) (by omega) (by omega) (by omega) (by omega)
    have hp : (0 : Int) < 2 ^ (i - 64) := Int.pow_pos (by omega)
    have hq : (2 : Int) ^ i = 18446744073709551616 * 2 ^ (i - 64) := by
      have h : (2 : Int) ^ i = 2 ^ 64 * 2 ^ (i - 64) := by rw [← Int.pow_add]; congr 1; omega
      exact h
    rw [Int.ediv_ediv_of_nonneg (by omega), ← hq] at this
    simp only [if_pos (show (i : Int) ≥ 64 by omega)]
    rw [w64_in (by unfold I64; omega), show (i : Int) - 64 = ((i - 64 : Nat) : Int) by omega]
    refine Ev.step (fun k => ?_) this
    rw [comptrollerref02_bit.j0.eq_2]; rfl
  · have := rbitl_f i i 0 (n % 18446744073709551616) (by omega) (by omega) (by omega) (by omega)
    simp only [if_neg (show ¬ (i : Int) ≥ 64 by omega)]
    have e : n % 18446744073709551616 / 2 ^ i % 2 = n / 2 ^ i % 2 := by
      have hp : (0 : Int) < 2 ^ i := Int.pow_pos (by omega)
      have hq : (18446744073709551616 : Int) = 2 ^ i * 2 ^ (64 - i) := by
        have h : (2 : Int) ^ 64 = 2 ^ i * 2 ^ (64 - i) := by rw [← Int.pow_add]; congr 1; omega
        exact h
      have h1 := Int.mul_ediv_add_emod n 18446744073709551616
      have h2 : n = n % 18446744073709551616 + 2 ^ i * (2 * (2 ^ (63 - i) * (n / 18446744073709551616))) := by
        have h3 : (2 : Int) ^ i * (2 * (2 ^ (63 - i) * (n / 18446744073709551616))) = 18446744073709551616 * (n / 18446744073709551616) := by
          rw [hq, show 64 - i = 63 - i + 1 by omega, Int.pow_succ]
          simp only [Int.mul_assoc, Int.mul_left_comm]
        rw [h3]; omega
      conv => rhs; rw [h2, Int.add_mul_ediv_left _ _ (by omega)]
      omega
    rw [e] at this
    refine Ev.step (fun k => ?_) this
    rw [comptrollerref02_bit.j0.eq_2]; rfl

/-- the quotient and the rest, from the highest bit on: with d bits left -/
theorem rbyl_f {n c : Int} (hn : 0 ≤ n ∧ n < 340282366920938463463374607431768211456) (hc : 0 < c ∧ c ≤ 9223372036854775808) (d : Nat) : ∀ q r : Int, d ≤ 128 → n / 2 ^ d = q * c + r → 0 ≤ r → r < c → 0 ≤ q →
    Ev (fun k => comptrollerref02_by.l0 k c r ((d : Int) - 1) (n / 18446744073709551616) (n % 18446744073709551616) (q / 18446744073709551616) (q % 18446744073709551616))
      (n / c / 18446744073709551616, n / c % 18446744073709551616, n % c) := by
  induction d with
  | zero =>
    intro q r hd hqr h0 h1 hq
    rw [show (2 : Int) ^ 0 = 1 from rfl, Int.ediv_one] at hqr
    have e1 : n / c = q := by
      rw [hqr, Int.add_comm, Int.add_mul_ediv_right _ _ (by omega), Int.ediv_eq_zero_of_lt h0 h1, Int.zero_add]
    have e2 : n % c = r := by
      rw [hqr, Int.add_comm, Int.add_mul_emod_self_right, Int.emod_eq_of_lt h0 h1]
    refine Ev.step (f := fun _ => some _) (fun k => ?_) (Ev.now _)
    rw [comptrollerref02_by.l0.eq_2, if_neg (by omega), e1, e2]
  | succ d ih =>
    intro q r hd hqr h0 h1 hq
    have hp : (0 : Int) < 2 ^ d := Int.pow_pos (by omega)
    have hq2 : (2 : Int) ^ (d + 1) = 2 ^ d * 2 := Int.pow_succ ..
    have e2 : n / 2 ^ d / 2 = n / 2 ^ (d + 1) := by rw [Int.ediv_ediv_of_nonneg (by omega), ← hq2]
    have hb := rbit_f d (by omega) hn
    rw [← e2] at hqr
    have hA0 : 0 ≤ n / 2 ^ d := Int.ediv_nonneg hn.1 (by omega)
    have hA1 : n / 2 ^ d ≤ n := Int.ediv_le_self _ hn.1
    have hqb : q ≤ q * c := by have := Int.mul_le_mul_of_nonneg_left (show (1 : Int) ≤ c by omega) hq; omega
    have e3 : (2 * q + 1) * c = 2 * (q * c) + c := by rw [Int.add_mul, Int.mul_assoc, Int.one_mul]
    have e4 : (2 * q) * c = 2 * (q * c) := by rw [Int.mul_assoc]
    generalize hA : n / 2 ^ d = A at *
    have b0 : 0 ≤ A % 2 ∧ A % 2 ≤ 1 := by omega
    have ew : wrap64 (((d + 1 : Nat) : Int) - 1 - 1) = (d : Int) - 1 := by rw [w64_in (by unfold I64; omega)]; omega
    have er : IntKind.u64.wrap (IntKind.u64.wrap (r * 2) + A % 2) = 2 * r + A % 2 := by simp only [wu64]; omega
    by_cases c1 : c ≤ 2 * r + A % 2
    · have := ih (2 * q + 1) (2 * r + A % 2 - c) (by omega) (by omega) (by omega) (by omega) (by omega)
      refine Ev.step (f := fun k => (comptrollerref02_bit.f k (n / 18446744073709551616) (n % 18446744073709551616) (d : Int)).bind fun t => if IntKind.u64.wrap (IntKind.u64.wrap (r * 2) + t) ≥ c then (comptrollerref02_double.f (q / 18446744073709551616) (q % 18446744073709551616) 1).bind fun bt => comptrollerref02_by.l0 k c (IntKind.u64.wrap (IntKind.u64.wrap (IntKind.u64.wrap (r * 2) + t) - c)) ((d : Int) - 1) (n / 18446744073709551616) (n % 18446744073709551616) bt.1 bt.2 else (comptrollerref02_double.f (q / 18446744073709551616) (q % 18446744073709551616) 0).bind fun bt => comptrollerref02_by.l0 k c (IntKind.u64.wrap (IntKind.u64.wrap (r * 2) + t)) ((d : Int) - 1) (n / 18446744073709551616) (n % 18446744073709551616) bt.1 bt.2) (fun k => ?_) (Ev.bind hb ?_)
      · rw [comptrollerref02_by.l0.eq_2, if_pos (by omega), ew, show ((d + 1 : Nat) : Int) - 1 = d by omega]
      · simp only [er, if_pos (show 2 * r + A % 2 ≥ c by omega), wu64 (2 * r + A % 2 - c)]
        rw [rdouble_f (by omega) (by omega) (by omega) (by omega)]
        simp only [Option.bind_some]
        rw [show q / 18446744073709551616 * 18446744073709551616 + q % 18446744073709551616 = q by omega, show (2 * r + A % 2 - c) % 18446744073709551616 = 2 * r + A % 2 - c by omega]
        exact this
    · have := ih (2 * q) (2 * r + A % 2) (by omega) (by omega) (by omega) (by omega) (by omega)
      refine Ev.step (f := fun k => (comptrollerref02_bit.f k (n / 18446744073709551616) (n % 18446744073709551616) (d : Int)).bind fun t => if IntKind.u64.wrap (IntKind.u64.wrap (r * 2) + t) ≥ c then (comptrollerref02_double.f (q / 18446744073709551616) (q % 18446744073709551616) 1).bind fun bt => comptrollerref02_by.l0 k c (IntKind.u64.wrap (IntKind.u64.wrap (IntKind.u64.wrap (r * 2) + t) - c)) ((d : Int) - 1) (n / 18446744073709551616) (n % 18446744073709551616) bt.1 bt.2 else (comptrollerref02_double.f (q / 18446744073709551616) (q % 18446744073709551616) 0).bind fun bt => comptrollerref02_by.l0 k c (IntKind.u64.wrap (IntKind.u64.wrap (r * 2) + t)) ((d : Int) - 1) (n / 18446744073709551616) (n % 18446744073709551616) bt.1 bt.2) (fun k => ?_) (Ev.bind hb ?_)
      · rw [comptrollerref02_by.l0.eq_2, if_pos (by omega), ew, show ((d + 1 : Nat) : Int) - 1 = d by omega]
      · simp only [er, if_neg (show ¬ 2 * r + A % 2 ≥ c by omega)]
        rw [rdouble_f (by omega) (by omega) (by omega) (by omega)]
        simp only [Option.bind_some]
        rw [show q / 18446744073709551616 * 18446744073709551616 + q % 18446744073709551616 = q by omega, Int.add_zero]
        exact this
theorem rby_f {n c : Int} (hn : 0 ≤ n ∧ n ≤ 85070591730234615865843651857942052864) (hc : 0 < c ∧ c ≤ 9223372036854775808) :
    Ev (fun k => comptrollerref02_by.f k (n / 18446744073709551616) (n % 18446744073709551616) c) (n / c / 18446744073709551616, n / c % 18446744073709551616, n % c) := by
  unfold comptrollerref02_by.f
  exact rbyl_f (n := n) ⟨hn.1, by omega⟩ hc 128 0 0 (by omega) (by
    rw [Int.ediv_eq_zero_of_lt hn.1 (by omega), Int.zero_mul]; rfl) (by omega) (by omega) (by omega)
theorem rfits_f {s : Bool} {q : Int} (h0 : 0 ≤ q) (h1 : q < 340282366920938463463374607431768211456) :
    Ev (fun k => comptrollerref02_fits.f k s (q / 18446744073709551616) (q % 18446744073709551616)) (if I64 (sg s q) then (sg s q, true) else (0, false)) := by
  unfold comptrollerref02_fits.f
  have hbad : ¬ I64 (sg s q) → Ev (fun k => comptrollerref02_fits.j0 k s true (q / 18446744073709551616) (q % 18446744073709551616)) (if I64 (sg s q) then (sg s q, true) else (0, false)) := by
    intro h
    rw [if_neg h]
    refine Ev.step (f := fun _ => some _) (fun k => ?_) (Ev.now _)
    rw [comptrollerref02_fits.j0.eq_2, if_pos rfl]
  have hgood : I64 (sg s q) → q ≤ 9223372036854775808 → Ev (fun k => comptrollerref02_fits.j0 k s false (q / 18446744073709551616) (q % 18446744073709551616)) (if I64 (sg s q) then (sg s q, true) else (0, false)) := by
    intro h h2
    rw [if_pos h]
    refine Ev.step (f := fun _ => some _) (fun k => ?_) (Ev.now _)
    rw [comptrollerref02_fits.j0.eq_2, if_neg (by simp)]
    unfold sg at *
    unfold I64 at h
    cases s with
    | true =>
      simp only [if_true] at *
      rw [wu64]; unfold wrap64
      refine congrArg some (Prod.ext ?_ rfl); show _ = _; omega
    | false =>
      simp only [Bool.false_eq_true, if_false] at *
      unfold wrap64
      refine congrArg some (Prod.ext ?_ rfl); show _ = _; omega
  by_cases c1 : q / 18446744073709551616 > 0
  · simp only [if_pos c1]; exact hbad (by unfold I64 sg; split <;> omega)
  · simp only [if_neg c1]
    by_cases c2 : q % 18446744073709551616 > 9223372036854775808
    · simp only [if_pos c2]; exact hbad (by unfold I64 sg; split <;> omega)
    · simp only [if_neg c2]
      by_cases c3 : q % 18446744073709551616 = 9223372036854775808
      · simp only [if_pos c3]
        cases s with
        | true => exact hgood (by unfold I64 sg; simp; omega) (by omega)
        | false => exact hbad (by unfold I64 sg; simp; omega)
      · simp only [if_neg c3]; exact hgood (by unfold I64 sg; split <;> omega) (by omega)
theorem rmuldiv_f {a b c : Int} (ha : I64 a) (hb : I64 b) (hc : I64 c) : Ev (fun k => comptrollerref02_MulDiv.f k a b c) (mulDiv a b c) := by
  unfold comptrollerref02_MulDiv.f mulDiv
  by_cases hc0 : c = 0
  · simp only [if_pos hc0]; exact Ev.now _
  · simp only [if_neg hc0]
    rw [rsize_f ha, rsize_f hb, rsize_f hc]
    simp only [Option.bind_some]
    have pd := prod_bd ha hb
    have cb : 0 < ab c ∧ ab c ≤ 9223372036854775808 := ⟨ab_pos hc0, ab_le hc⟩
    refine Ev.bind (rtimes_f ⟨ab_nonneg a, ab_le ha⟩ ⟨ab_nonneg b, ab_le hb⟩) ?_
    refine Ev.bind (rby_f pd cb) ?_
    have q0 : 0 ≤ ab a * ab b / ab c := Int.ediv_nonneg pd.1 (by omega)
    have q1 : ab a * ab b / ab c ≤ ab a * ab b := Int.ediv_le_self _ pd.1
    have r0 := Int.emod_nonneg (ab a * ab b) (show ab c ≠ 0 by omega)
    have r1 := Int.emod_lt_of_pos (ab a * ab b) cb.1
    have hj : ∀ q, q = rnd (ab a * ab b) (ab c) → 0 ≤ q → q ≤ 85070591730234615865843651857942052865 → Ev (fun k => comptrollerref02_MulDiv.j0 k a b c (q / 18446744073709551616) (q % 18446744073709551616)) (fit (sg (ngs a b c) (rnd (ab a * ab b) (ab c)))) := by
      intro q e h0 h1
      rw [← e]
      refine Ev.step (f := fun k => (comptrollerref02_fits.f k (ngs a b c) (q / 18446744073709551616) (q % 18446744073709551616)).bind fun bt => if bt.2 = true then some (bt.1, 0) else some (0, 2)) (fun k => ?_) ?_
      · rw [comptrollerref02_MulDiv.j0.eq_2]; rfl
      · refine Ev.bind (rfits_f h0 (by omega)) ?_
        by_cases h : I64 (sg (ngs a b c) q)
        · simp only [if_pos h, if_true]; rw [fit_in h]; exact Ev.now _
        · simp only [if_neg h, Bool.false_eq_true, if_false]; rw [fit_out h]; exact Ev.now _
    rw [IntWalk.u64_in (ab c - ab a * ab b % ab c) ⟨by omega, by omega⟩]
    by_cases hr : ab c - ab a * ab b % ab c ≤ ab a * ab b % ab c
    · simp only [if_pos (show ab a * ab b % ab c ≥ ab c - ab a * ab b % ab c by omega)]
      rw [rplus_f (by omega) (by omega) (by omega) (by omega)]
      simp only [Option.bind_some]
      rw [show ab a * ab b / ab c / 18446744073709551616 * 18446744073709551616 + ab a * ab b / ab c % 18446744073709551616 = ab a * ab b / ab c by omega]
      exact hj _ (by unfold rnd; rw [if_pos hr]) (by omega) (by omega)
    · simp only [if_neg (show ¬ ab a * ab b % ab c ≥ ab c - ab a * ab b % ab c by omega)]
      exact hj _ (by unfold rnd; rw [if_neg hr]) (by omega) (by omega)
theorem rexact_f {a b c : Int} (ha : I64 a) (hb : I64 b) (hc : I64 c) : Ev (fun k => comptrollerref02_Exact.f k a b c) (exact a b c) := by
  unfold comptrollerref02_Exact.f exact
  by_cases hc0 : c = 0
  · simp only [if_pos hc0]; exact Ev.now _
  · simp only [if_neg hc0]
    rw [rsize_f ha, rsize_f hb, rsize_f hc]
    simp only [Option.bind_some]
    have pd := prod_bd ha hb
    have cb : 0 < ab c ∧ ab c ≤ 9223372036854775808 := ⟨ab_pos hc0, ab_le hc⟩
    refine Ev.bind (rtimes_f ⟨ab_nonneg a, ab_le ha⟩ ⟨ab_nonneg b, ab_le hb⟩) ?_
    refine Ev.bind (rby_f pd cb) ?_
    have q0 : 0 ≤ ab a * ab b / ab c := Int.ediv_nonneg pd.1 (by omega)
    have q1 : ab a * ab b / ab c ≤ ab a * ab b := Int.ediv_le_self _ pd.1
    by_cases hr : ab a * ab b % ab c = 0
    · simp only [if_pos hr]
      rw [show comptrollerref02_sign.f a b c = some (ngs a b c) from rfl]
      simp only [Option.bind_some]
      refine Ev.bind (rfits_f q0 (by omega)) ?_
      by_cases h : I64 (sg (ngs a b c) (ab a * ab b / ab c))
      · simp only [if_pos h, if_true]; rw [if_pos (show _ ∧ _ from h)]; exact Ev.now _
      · simp only [if_neg h, Bool.false_eq_true, if_false]; rw [if_neg (show ¬ (_ ∧ _) from h)]; exact Ev.now _
    · simp only [if_neg hr]; exact Ev.now _
end Go.Proofs.Ytgmajadoklnlnaa.M
