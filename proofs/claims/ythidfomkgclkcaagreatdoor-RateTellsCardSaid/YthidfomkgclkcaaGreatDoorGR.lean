import Derived.Test.YthidfomkgclkcaaGreatDoorQx8
import Derived.Test.YthidfomkgclkcaaGreatDoorGC
import Derived.Test.YthidfomkgclkcaaGreatDoorGM

import Derived.Test.YthidfomkgclkcaaGreatDoorQx9
import Derived.Test.YthidfomkgclkcaaGreatDoorQx7



/- several texts of this session in one -/
set_option linter.unusedVariables false
set_option linter.unusedSimpArgs false
namespace Go.Proofs.YthidfomkgclkcaaGreatDoor.M
open Go.RowKit Go.Proofs.YthidfomkgclkcaaGreatDoorW.PrintWords Go.Proofs.YthidfomkgclkcaaGreatDoorW.PrintLast Go.Proofs.YthidfomkgclkcaaGreatDoorW.PrintMore Go.Proofs.YthidfomkgclkcaaGreatDoor.Q

theorem rsize_f {a : Int} (h : I64 a) : ref02_size.f a = some (ab a) := by
  obtain ⟨h1, h2⟩ := h
  unfold ref02_size.f ab
  by_cases c : a < 0
  · rw [if_pos c, if_pos c]; simp only [wu64]; exact congrArg some (by omega)
  · rw [if_neg c, if_neg c]; simp only [wu64]; exact congrArg some (by omega)
theorem rdouble_f {h l one : Int} (hl : 0 ≤ l ∧ l < 18446744073709551616) (hh : 0 ≤ h) (ho : 0 ≤ one ∧ one ≤ 1) (hb : h * 18446744073709551616 + l < 170141183460469231731687303715884105728) :
    ref02_double.f h l one = some ((2 * (h * 18446744073709551616 + l) + one) / 18446744073709551616, (2 * (h * 18446744073709551616 + l) + one) % 18446744073709551616) := by
  unfold ref02_double.f
  rw [Int.tdiv_eq_ediv_of_nonneg hl.1]
  simp only [wu64]
  refine congrArg some (Prod.ext ?_ ?_) <;> (show _ = _) <;> omega
theorem rplus_f {h l b : Int} (hl : 0 ≤ l ∧ l < 18446744073709551616) (hh : 0 ≤ h) (ho : 0 ≤ b ∧ b < 18446744073709551616) (hb : h * 18446744073709551616 + l + b < 340282366920938463463374607431768211456) :
    ref02_plus.f h l b = some ((h * 18446744073709551616 + l + b) / 18446744073709551616, (h * 18446744073709551616 + l + b) % 18446744073709551616) := by
  unfold ref02_plus.f
  simp only [wu64]
  by_cases c : (l + b) % 18446744073709551616 < b
  · rw [if_pos c]; refine congrArg some (Prod.ext ?_ ?_) <;> (show _ = _) <;> omega
  · rw [if_neg c]; refine congrArg some (Prod.ext ?_ ?_) <;> (show _ = _) <;> omega

/-- the product: after i rounds it is the highest i bits of a, times b -/
theorem rtimesl_f {a b : Int} (ha : 0 ≤ a ∧ a ≤ 9223372036854775808) (hb : 0 ≤ b ∧ b ≤ 9223372036854775808) (d : Nat) : ∀ (i : Nat) (n : Int), i + d = 64 → n = a / 2 ^ d * b →
    Ev (fun k => ref02_times.l0 k a b (2 ^ d / 2) (i : Int) (n / 18446744073709551616) (n % 18446744073709551616)) (a * b / 18446744073709551616, a * b % 18446744073709551616) := by
  induction d with
  | zero =>
    intro i n hi hn
    refine Ev.step (f := fun _ => some _) (fun k => ?_) (Ev.now _)
    rw [ref02_times.l0.eq_2, if_neg (by omega), hn]
    simp
  | succ d ih =>
    intro i n hi hn
    have hi64 : (i : Int) < 64 := by omega
    have hp : (0 : Int) < 2 ^ d := Int.pow_pos (by omega)
    have hq : (2 : Int) ^ (d + 1) = 2 ^ d * 2 := Int.pow_succ ..
    have hd63 : (2 : Int) ^ d ≤ 9223372036854775808 := by
      have : (2 : Int) ^ d ≤ 2 ^ 63 := by exact_mod_cast Nat.pow_le_pow_right (by decide) (show d ≤ 63 by omega)
      exact this
    have e1 : (2 : Int) ^ (d + 1) / 2 = 2 ^ d := by rw [hq]; omega
    have e2 : a / 2 ^ d / 2 = a / 2 ^ (d + 1) := by rw [Int.ediv_ediv_of_nonneg (by omega), ← hq]
    rw [e1]
    rw [← e2] at hn
    clear hq e1 e2
    generalize (2 : Int) ^ d = D at *
    generalize hA : a / D = A at *
    have hA0 : 0 ≤ A := by rw [← hA]; exact Int.ediv_nonneg ha.1 (by omega)
    have hA1 : A ≤ a := by rw [← hA]; exact Int.ediv_le_self _ ha.1
    have hn0 : 0 ≤ n := by rw [hn]; exact Int.mul_nonneg (by omega) hb.1
    have hn1 : n ≤ 4611686018427387904 * 9223372036854775808 := by rw [hn]; exact mul_le_mul' (by omega) hb.2 (by omega) (by omega)
    have hAb : A * b = 2 * n + (if A % 2 = 1 then b else 0) := by
      have : A = A / 2 * 2 + A % 2 := by omega
      rw [hn]
      generalize A / 2 = X at *
      by_cases c : A % 2 = 1
      · rw [if_pos c, this, c, Int.add_mul, Int.mul_right_comm]; omega
      · rw [if_neg c, this, show A % 2 = 0 by omega, Int.add_mul, Int.mul_right_comm]; omega
    have ew : IntKind.u64.wrap (Int.tdiv a D) = A := by
      rw [Int.tdiv_eq_ediv_of_nonneg ha.1, hA]; exact IntWalk.u64_in _ ⟨hA0, by omega⟩
    have ep : IntKind.u64.wrap (Int.tdiv D 2) = D / 2 := by
      rw [Int.tdiv_eq_ediv_of_nonneg (by omega)]; exact IntWalk.u64_in _ ⟨by omega, by omega⟩
    have ei : wrap64 ((i : Int) + 1) = ((i + 1 : Nat) : Int) := by rw [w64_in (by unfold I64; omega)]; rfl
    have hl0 : 0 ≤ n % 18446744073709551616 ∧ n % 18446744073709551616 < 18446744073709551616 := by clear hAb hn hA ih; omega
    have hh0 : 0 ≤ n / 18446744073709551616 := by clear hAb hn hA ih; omega
    have h01 : (0 : Int) ≤ 0 ∧ (0 : Int) ≤ 1 := by omega
    have hb0 : n / 18446744073709551616 * 18446744073709551616 + n % 18446744073709551616 < 170141183460469231731687303715884105728 := by clear hAb hn hA ih; omega
    by_cases c : A % 2 = 1
    · rw [if_pos c] at hAb
      have := ih (i + 1) (2 * n + b) (by omega) (by rw [hAb])
      refine Ev.step (fun k => ?_) this
      rw [ref02_times.l0.eq_2, if_pos hi64, rdouble_f (h := n / 18446744073709551616) (l := n % 18446744073709551616) (one := 0) hl0 hh0 h01 hb0]
      simp only [Option.bind_some]
      rw [if_neg (by omega), ew, Int.tmod_eq_emod_of_nonneg hA0, if_pos c]
      rw [show n / 18446744073709551616 * 18446744073709551616 + n % 18446744073709551616 = n by omega]
      rw [rplus_f (by omega) (by omega) (by omega) (by omega)]
      simp only [Option.bind_some, Int.add_zero]
      rw [ep, ei, show 2 * n / 18446744073709551616 * 18446744073709551616 + 2 * n % 18446744073709551616 = 2 * n by omega]
    · rw [if_neg c] at hAb
      have := ih (i + 1) (2 * n) (by omega) (by omega)
      refine Ev.step (fun k => ?_) this
      rw [ref02_times.l0.eq_2, if_pos hi64, rdouble_f (h := n / 18446744073709551616) (l := n % 18446744073709551616) (one := 0) hl0 hh0 h01 hb0]
      simp only [Option.bind_some]
      rw [if_neg (by omega), ew, Int.tmod_eq_emod_of_nonneg hA0, if_neg c]
      rw [show n / 18446744073709551616 * 18446744073709551616 + n % 18446744073709551616 = n by omega]
      simp only [Int.add_zero]
      rw [ep, ei]
theorem rtimes_f {a b : Int} (ha : 0 ≤ a ∧ a ≤ 9223372036854775808) (hb : 0 ≤ b ∧ b ≤ 9223372036854775808) :
    Ev (fun k => ref02_times.f k a b) (a * b / 18446744073709551616, a * b % 18446744073709551616) := by
  unfold ref02_times.f
  have := rtimesl_f ha hb 64 0 0 (by omega) (by
    rw [show a / 2 ^ 64 = 0 from Int.ediv_eq_zero_of_lt ha.1 (by omega), Int.zero_mul])
  exact this

end Go.Proofs.YthidfomkgclkcaaGreatDoor.M
namespace Go.Proofs.YthidfomkgclkcaaGreatDoor.M
open Go.RowKit Go.Proofs.YthidfomkgclkcaaGreatDoorW.PrintWords Go.Proofs.YthidfomkgclkcaaGreatDoorW.PrintLast Go.Proofs.YthidfomkgclkcaaGreatDoorW.PrintMore Go.Proofs.YthidfomkgclkcaaGreatDoor.Q

theorem rbitl_f (d : Nat) : ∀ (i k0 : Nat) (x : Int), k0 + d = i → i ≤ 64 → 0 ≤ x → x < 18446744073709551616 → Ev (fun k => ref02_bit.l0 k (i : Int) x (k0 : Int)) (x / 2 ^ d % 2) := by
  induction d with
  | zero =>
    intro i k0 x h hi hx hx1
    refine Ev.step (f := fun _ => some _) (fun k => ?_) (Ev.now _)
    rw [ref02_bit.l0.eq_2, if_neg (by omega), Int.tmod_eq_emod_of_nonneg hx]; simp
  | succ d ih =>
    intro i k0 x h hi hx hx1
    have := ih i (k0 + 1) (x / 2) (by omega) hi (by omega) (by omega)
    have hp : (0 : Int) < 2 ^ d := Int.pow_pos (by omega)
    have hq : (2 : Int) ^ (d + 1) = 2 * 2 ^ d := by rw [Int.pow_succ, Int.mul_comm]
    rw [Int.ediv_ediv_of_nonneg (by omega), ← hq] at this
    refine Ev.step (fun k => ?_) this
    rw [ref02_bit.l0.eq_2, if_pos (by omega), Int.tdiv_eq_ediv_of_nonneg hx, IntWalk.u64_in (x / 2) ⟨by omega, by omega⟩, w64_in (by unfold I64; omega)]
    rfl
theorem rbit_f {n : Int} (i : Nat) (hi : i < 128) (hn : 0 ≤ n ∧ n < 340282366920938463463374607431768211456) :
    Ev (fun k => ref02_bit.f k (n / 18446744073709551616) (n % 18446744073709551616) (i : Int)) (n / 2 ^ i % 2) := by
  unfold ref02_bit.f
  by_cases c : 64 ≤ i
  · have := rbitl_f (i - 64) (i - 64) 0 (n / 18446744073709551616) (by omega) (by omega) (by omega) (by omega)
    have hp : (0 : Int) < 2 ^ (i - 64) := Int.pow_pos (by omega)
    have hq : (2 : Int) ^ i = 18446744073709551616 * 2 ^ (i - 64) := by
      have h : (2 : Int) ^ i = 2 ^ 64 * 2 ^ (i - 64) := by rw [← Int.pow_add]; congr 1; omega
      exact h
    rw [Int.ediv_ediv_of_nonneg (by omega), ← hq] at this
    simp only [if_pos (show (i : Int) ≥ 64 by omega)]
    rw [w64_in (by unfold I64; omega), show (i : Int) - 64 = ((i - 64 : Nat) : Int) by omega]
    refine Ev.step (fun k => ?_) this
    rw [ref02_bit.j0.eq_2]; rfl
  · have := rbitl_f i i 0 (n % 18446744073709551616) (by omega) (by omega) (by omega) (by omega)
    simp only [if_neg (show ¬ (i : Int) ≥ 64 by omega)]
    have e : n % 18446744073709551616 / 2 ^ i % 2 = n / 2 ^ i % 2 := by
      have hp : (0 : Int) < 2 ^ i := Int.pow_pos (by omega)
      have hq : (18446744073709551616 : Int) = 2 ^ i * 2 ^ (64 - i) := by
        have h : (2 : Int) ^ 64 = 2 ^ i * 2 ^ (64 - i) := by rw [← Int.pow_add]; congr 1; omega
        exact h
      have h1 := Int.mul_ediv_add_emod n 18446744073709551616
      have h2 : n = n % 18446744073709551616 + 2 ^ i * (2 * (2 ^ (63 - i) * (n / 18446744073709551616))) := by
        have h3 : (2 : Int) ^ i * (2 * (2 ^ (63 - i) * (n / 18446744073709551616))) = 18446744073709551616 * (n / 18446744073709551616) := by
          rw [hq, show 64 - i = 63 - i + 1 by omega, Int.pow_succ]
          simp only [Int.mul_assoc, Int.mul_left_comm]
        rw [h3]; omega
      conv => rhs; rw [h2, Int.add_mul_ediv_left _ _ (by omega)]
      omega
    rw [e] at this
    refine Ev.step (fun k => ?_) this
    rw [ref02_bit.j0.eq_2]; rfl

/-- the quotient and the rest, from the highest bit on: with d bits left -/
theorem rbyl_f {n c : Int} (hn : 0 ≤ n ∧ n < 340282366920938463463374607431768211456) (hc : 0 < c ∧ c ≤ 9223372036854775808) (d : Nat) : ∀ q r : Int, d ≤ 128 → n / 2 ^ d = q * c + r → 0 ≤ r → r < c → 0 ≤ q →
    Ev (fun k => ref02_by.l0 k c r ((d : Int) - 1) (n / 18446744073709551616) (n % 18446744073709551616) (q / 18446744073709551616) (q % 18446744073709551616))
      (n / c / 18446744073709551616, n / c % 18446744073709551616, n % c) := by
  induction d with
  | zero =>
    intro q r hd hqr h0 h1 hq
    rw [show (2 : Int) ^ 0 = 1 from rfl, Int.ediv_one] at hqr
    have e1 : n / c = q := by
      rw [hqr, Int.add_comm, Int.add_mul_ediv_right _ _ (by omega), Int.ediv_eq_zero_of_lt h0 h1, Int.zero_add]
    have e2 : n % c = r := by
      rw [hqr, Int.add_comm, Int.add_mul_emod_self_right, Int.emod_eq_of_lt h0 h1]
    refine Ev.step (f := fun _ => some _) (fun k => ?_) (Ev.now _)
    rw [ref02_by.l0.eq_2, if_neg (by omega), e1, e2]
  | succ d ih =>
    intro q r hd hqr h0 h1 hq
    have hp : (0 : Int) < 2 ^ d := Int.pow_pos (by omega)
    have hq2 : (2 : Int) ^ (d + 1) = 2 ^ d * 2 := Int.pow_succ ..
    have e2 : n / 2 ^ d / 2 = n / 2 ^ (d + 1) := by rw [Int.ediv_ediv_of_nonneg (by omega), ← hq2]
    have hb := rbit_f d (by omega) hn
    rw [← e2] at hqr
    have hA0 : 0 ≤ n / 2 ^ d := Int.ediv_nonneg hn.1 (by omega)
    have hA1 : n / 2 ^ d ≤ n := Int.ediv_le_self _ hn.1
    have hqb : q ≤ q * c := by have := Int.mul_le_mul_of_nonneg_left (show (1 : Int) ≤ c by omega) hq; omega
    have e3 : (2 * q + 1) * c = 2 * (q * c) + c := by rw [Int.add_mul, Int.mul_assoc, Int.one_mul]
    have e4 : (2 * q) * c = 2 * (q * c) := by rw [Int.mul_assoc]
    generalize hA : n / 2 ^ d = A at *
    have b0 : 0 ≤ A % 2 ∧ A % 2 ≤ 1 := by omega
    have ew : wrap64 (((d + 1 : Nat) : Int) - 1 - 1) = (d : Int) - 1 := by rw [w64_in (by unfold I64; omega)]; omega
    have er : IntKind.u64.wrap (IntKind.u64.wrap (r * 2) + A % 2) = 2 * r + A % 2 := by simp only [wu64]; omega
    by_cases c1 : c ≤ 2 * r + A % 2
    · have := ih (2 * q + 1) (2 * r + A % 2 - c) (by omega) (by omega) (by omega) (by omega) (by omega)
      refine Ev.step (f := fun k => (ref02_bit.f k (n / 18446744073709551616) (n % 18446744073709551616) (d : Int)).bind fun t => if IntKind.u64.wrap (IntKind.u64.wrap (r * 2) + t) ≥ c then (ref02_double.f (q / 18446744073709551616) (q % 18446744073709551616) 1).bind fun bt => ref02_by.l0 k c (IntKind.u64.wrap (IntKind.u64.wrap (IntKind.u64.wrap (r * 2) + t) - c)) ((d : Int) - 1) (n / 18446744073709551616) (n % 18446744073709551616) bt.1 bt.2 else (ref02_double.f (q / 18446744073709551616) (q % 18446744073709551616) 0).bind fun bt => ref02_by.l0 k c (IntKind.u64.wrap (IntKind.u64.wrap (r * 2) + t)) ((d : Int) - 1) (n / 18446744073709551616) (n % 18446744073709551616) bt.1 bt.2) (fun k => ?_) (Ev.bind hb ?_)
      · rw [ref02_by.l0.eq_2, if_pos (by omega), ew, show ((d + 1 : Nat) : Int) - 1 = d by omega]
      · simp only [er, if_pos (show 2 * r + A % 2 ≥ c by omega), wu64 (2 * r + A % 2 - c)]
        rw [rdouble_f (by omega) (by omega) (by omega) (by omega)]
        simp only [Option.bind_some]
        rw [show q / 18446744073709551616 * 18446744073709551616 + q % 18446744073709551616 = q by omega, show (2 * r + A % 2 - c) % 18446744073709551616 = 2 * r + A % 2 - c by omega]
        exact this
    · have := ih (2 * q) (2 * r + A % 2) (by omega) (by omega) (by omega) (by omega) (by omega)
      refine Ev.step (f := fun k => (ref02_bit.f k (n / 18446744073709551616) (n % 18446744073709551616) (d : Int)).bind fun t => if IntKind.u64.wrap (IntKind.u64.wrap (r * 2) + t) ≥ c then (ref02_double.f (q / 18446744073709551616) (q % 18446744073709551616) 1).bind fun bt => ref02_by.l0 k c (IntKind.u64.wrap (IntKind.u64.wrap (IntKind.u64.wrap (r * 2) + t) - c)) ((d : Int) - 1) (n / 18446744073709551616) (n % 18446744073709551616) bt.1 bt.2 else (ref02_double.f (q / 18446744073709551616) (q % 18446744073709551616) 0).bind fun bt => ref02_by.l0 k c (IntKind.u64.wrap (IntKind.u64.wrap (r * 2) + t)) ((d : Int) - 1) (n / 18446744073709551616) (n % 18446744073709551616) bt.1 bt.2) (fun k => ?_) (Ev.bind hb ?_)
      · rw [ref02_by.l0.eq_2, if_pos (by omega), ew, show ((d + 1 : Nat) : Int) - 1 = d by omega]
      · simp only [er, if_neg (show ¬ 2 * r + A % 2 ≥ c by omega)]
        rw [rdouble_f (by omega) (by omega) (by omega) (by omega)]
        simp only [Option.bind_some]
        rw [show q / 18446744073709551616 * 18446744073709551616 + q % 18446744073709551616 = q by omega, Int.add_zero]
        exact this
theorem rby_f {n c : Int} (hn : 0 ≤ n ∧ n ≤ 85070591730234615865843651857942052864) (hc : 0 < c ∧ c ≤ 9223372036854775808) :
    Ev (fun k => ref02_by.f k (n / 18446744073709551616) (n % 18446744073709551616) c) (n / c / 18446744073709551616, n / c % 18446744073709551616, n % c) := by
  unfold ref02_by.f
  exact rbyl_f (n := n) ⟨hn.1, by omega⟩ hc 128 0 0 (by omega) (by
    rw [Int.ediv_eq_zero_of_lt hn.1 (by omega), Int.zero_mul]; rfl) (by omega) (by omega) (by omega)
theorem rfits_f {s : Bool} {q : Int} (h0 : 0 ≤ q) (h1 : q < 340282366920938463463374607431768211456) :
    Ev (fun k => ref02_fits.f k s (q / 18446744073709551616) (q % 18446744073709551616)) (if I64 (sg s q) then (sg s q, true) else (0, false)) := by
  unfold ref02_fits.f
  have hbad : ¬ I64 (sg s q) → Ev (fun k => ref02_fits.j0 k s true (q / 18446744073709551616) (q % 18446744073709551616)) (if I64 (sg s q) then (sg s q, true) else (0, false)) := by
    intro h
    rw [if_neg h]
    refine Ev.step (f := fun _ => some _) (fun k => ?_) (Ev.now _)
    rw [ref02_fits.j0.eq_2, if_pos rfl]
  have hgood : I64 (sg s q) → q ≤ 9223372036854775808 → Ev (fun k => ref02_fits.j0 k s false (q / 18446744073709551616) (q % 18446744073709551616)) (if I64 (sg s q) then (sg s q, true) else (0, false)) := by
    intro h h2
    rw [if_pos h]
    refine Ev.step (f := fun _ => some _) (fun k => ?_) (Ev.now _)
    rw [ref02_fits.j0.eq_2, if_neg (by simp)]
    unfold sg at *
    unfold I64 at h
    cases s with
    | true =>
      simp only [if_true] at *
      rw [wu64]; unfold wrap64
      refine congrArg some (Prod.ext ?_ rfl); show _ = _; omega
    | false =>
      simp only [Bool.false_eq_true, if_false] at *
      unfold wrap64
      refine congrArg some (Prod.ext ?_ rfl); show _ = _; omega
  by_cases c1 : q / 18446744073709551616 > 0
  · simp only [if_pos c1]; exact hbad (by unfold I64 sg; split <;> omega)
  · simp only [if_neg c1]
    by_cases c2 : q % 18446744073709551616 > 9223372036854775808
    · simp only [if_pos c2]; exact hbad (by unfold I64 sg; split <;> omega)
    · simp only [if_neg c2]
      by_cases c3 : q % 18446744073709551616 = 9223372036854775808
      · simp only [if_pos c3]
        cases s with
        | true => exact hgood (by unfold I64 sg; simp; omega) (by omega)
        | false => exact hbad (by unfold I64 sg; simp; omega)
      · simp only [if_neg c3]; exact hgood (by unfold I64 sg; split <;> omega) (by omega)
theorem rmuldiv_f {a b c : Int} (ha : I64 a) (hb : I64 b) (hc : I64 c) : Ev (fun k => ref02_MulDiv.f k a b c) (mulDiv a b c) := by
  unfold ref02_MulDiv.f mulDiv
  by_cases hc0 : c = 0
  · simp only [if_pos hc0]; exact Ev.now _
  · simp only [if_neg hc0]
    rw [rsize_f ha, rsize_f hb, rsize_f hc]
    simp only [Option.bind_some]
    have pd := prod_bd ha hb
    have cb : 0 < ab c ∧ ab c ≤ 9223372036854775808 := ⟨ab_pos hc0, ab_le hc⟩
    refine Ev.bind (rtimes_f ⟨ab_nonneg a, ab_le ha⟩ ⟨ab_nonneg b, ab_le hb⟩) ?_
    refine Ev.bind (rby_f pd cb) ?_
    have q0 : 0 ≤ ab a * ab b / ab c := Int.ediv_nonneg pd.1 (by omega)
    have q1 : ab a * ab b / ab c ≤ ab a * ab b := Int.ediv_le_self _ pd.1
    have r0 := Int.emod_nonneg (ab a * ab b) (show ab c ≠ 0 by omega)
    have r1 := Int.emod_lt_of_pos (ab a * ab b) cb.1
    have hj : ∀ q, q = rnd (ab a * ab b) (ab c) → 0 ≤ q → q ≤ 85070591730234615865843651857942052865 → Ev (fun k => ref02_MulDiv.j0 k a b c (q / 18446744073709551616) (q % 18446744073709551616)) (fit (sg (ngs a b c) (rnd (ab a * ab b) (ab c)))) := by
      intro q e h0 h1
      rw [← e]
      refine Ev.step (f := fun k => (ref02_fits.f k (ngs a b c) (q / 18446744073709551616) (q % 18446744073709551616)).bind fun bt => if bt.2 = true then some (bt.1, 0) else some (0, 2)) (fun k => ?_) ?_
      · rw [ref02_MulDiv.j0.eq_2]; rfl
      · refine Ev.bind (rfits_f h0 (by omega)) ?_
        by_cases h : I64 (sg (ngs a b c) q)
        · simp only [if_pos h, if_true]; rw [fit_in h]; exact Ev.now _
        · simp only [if_neg h, Bool.false_eq_true, if_false]; rw [fit_out h]; exact Ev.now _
    rw [IntWalk.u64_in (ab c - ab a * ab b % ab c) ⟨by omega, by omega⟩]
    by_cases hr : ab c - ab a * ab b % ab c ≤ ab a * ab b % ab c
    · simp only [if_pos (show ab a * ab b % ab c ≥ ab c - ab a * ab b % ab c by omega)]
      rw [rplus_f (by omega) (by omega) (by omega) (by omega)]
      simp only [Option.bind_some]
      rw [show ab a * ab b / ab c / 18446744073709551616 * 18446744073709551616 + ab a * ab b / ab c % 18446744073709551616 = ab a * ab b / ab c by omega]
      exact hj _ (by unfold rnd; rw [if_pos hr]) (by omega) (by omega)
    · simp only [if_neg (show ¬ ab a * ab b % ab c ≥ ab c - ab a * ab b % ab c by omega)]
      exact hj _ (by unfold rnd; rw [if_neg hr]) (by omega) (by omega)
end Go.Proofs.YthidfomkgclkcaaGreatDoor.M
namespace Go.Proofs.YthidfomkgclkcaaGreatDoor.M
open Go.RowKit Go.Proofs.YthidfomkgclkcaaGreatDoorW.PrintWords Go.Proofs.YthidfomkgclkcaaGreatDoorW.PrintLast Go.Proofs.YthidfomkgclkcaaGreatDoorW.PrintMore Go.Proofs.YthidfomkgclkcaaGreatDoor.Q

theorem rless_f (P Q : Int) : ref02_less.f (P / 18446744073709551616) (P % 18446744073709551616) (Q / 18446744073709551616) (Q % 18446744073709551616) = some (decide (P < Q)) := by
  unfold ref02_less.f
  by_cases c1 : P / 18446744073709551616 < Q / 18446744073709551616
  · rw [if_pos c1, decide_eq_true (by omega)]
  · rw [if_neg c1]
    by_cases c2 : P / 18446744073709551616 = Q / 18446744073709551616
    · rw [if_pos c2]
      by_cases c3 : P % 18446744073709551616 < Q % 18446744073709551616
      · rw [decide_eq_true c3, decide_eq_true (by omega)]
      · rw [decide_eq_false c3, decide_eq_false (by omega)]
    · rw [if_neg c2, decide_eq_false (by omega)]
theorem rbelow_f {x y P Q : Int} (e1 : x = if x < 0 then -P else P) (e2 : y = if y < 0 then -Q else Q) :
    ref02_below.f (decide (x < 0)) (P / 18446744073709551616) (P % 18446744073709551616) (decide (y < 0)) (Q / 18446744073709551616) (Q % 18446744073709551616) = some (decide (x < y)) := by
  unfold ref02_below.f
  rw [rless_f, rless_f]
  simp only [Option.bind_some]
  by_cases hx : x < 0 <;> by_cases hy : y < 0
  · rw [if_pos hx] at e1; rw [if_pos hy] at e2
    simp only [hx, hy, decide_true, bne_self_eq_false, Bool.false_eq_true, if_false, if_true]
    exact congrArg some (decide_eq_decide.2 (by omega))
  · simp only [hx, hy, decide_true, decide_false, show (true != false) = true from rfl, if_true]
    exact congrArg some (decide_eq_true (by omega)).symm
  · simp only [hx, hy, decide_true, decide_false, show (false != true) = true from rfl, if_true]
    exact congrArg some (decide_eq_false (by omega)).symm
  · rw [if_neg hx] at e1; rw [if_neg hy] at e2
    simp only [hx, hy, decide_false, bne_self_eq_false, Bool.false_eq_true, if_false]
    exact congrArg some (decide_eq_decide.2 (by omega))
theorem neg_bool {a b : Int} : (if (decide (a < 0) != decide (b < 0)) = true then (!(ab a * ab b / 18446744073709551616 == 0) || !(ab a * ab b % 18446744073709551616 == 0)) else false) = decide (a * b < 0) := by
  by_cases h : a * b = 0
  · have h2 := ab_mul.2 h
    rw [h2, decide_eq_false (show ¬ a * b < 0 by omega)]; split <;> rfl
  · have h2 := mul_neg_iff h
    have h3 : ab a * ab b ≠ 0 := fun e => h (ab_mul.1 e)
    have h4 : (!(ab a * ab b / 18446744073709551616 == 0) || !(ab a * ab b % 18446744073709551616 == 0)) = true := by
      by_cases z : ab a * ab b / 18446744073709551616 = 0
      · have : ab a * ab b % 18446744073709551616 ≠ 0 := by clear h2; omega
        simp [this]
      · simp [z]
    rw [h4]
    by_cases hh : a * b < 0 <;> by_cases c : a < 0 <;> by_cases d : b < 0 <;> simp [hh, c, d] at h2 ⊢
theorem rcmp_f {a b c d : Int} (ha : I64 a) (hb : I64 b) (hc : I64 c) (hd : I64 d) : Ev (fun k => ref02_Cmp.f k a b c d) (cmpI (a * b) (c * d)) := by
  unfold ref02_Cmp.f
  rw [rsize_f ha, rsize_f hb, rsize_f hc, rsize_f hd]
  simp only [Option.bind_some]
  refine Ev.bind (rtimes_f ⟨ab_nonneg a, ab_le ha⟩ ⟨ab_nonneg b, ab_le hb⟩) ?_
  refine Ev.bind (rtimes_f ⟨ab_nonneg c, ab_le hc⟩ ⟨ab_nonneg d, ab_le hd⟩) ?_
  have n1 := neg_bool (a := a) (b := b)
  have n2 := neg_bool (a := c) (b := d)
  have e1 := neg_prod (a := a) (b := b)
  have e2 := neg_prod (a := c) (b := d)
  have hj1 : Ev (fun k => ref02_Cmp.j1 k (decide (a * b < 0)) (decide (c * d < 0)) (ab a * ab b / 18446744073709551616) (ab a * ab b % 18446744073709551616) (ab c * ab d / 18446744073709551616) (ab c * ab d % 18446744073709551616)) (cmpI (a * b) (c * d)) := by
    refine Ev.step (f := fun _ => some _) (fun k => ?_) (Ev.now _)
    rw [ref02_Cmp.j1.eq_2, rbelow_f e1 e2, rbelow_f e2 e1]
    simp only [Option.bind_some]
    unfold cmpI
    by_cases c1 : a * b < c * d
    · simp only [c1, decide_true, if_true]
    · simp only [c1, decide_false, Bool.false_eq_true, if_false]
      by_cases c2 : c * d < a * b
      · simp only [c2, decide_true, if_true]
      · simp only [c2, decide_false, Bool.false_eq_true, if_false]
  have hj0 : Ev (fun k => ref02_Cmp.j0 k c d (decide (a * b < 0)) (ab a * ab b / 18446744073709551616) (ab a * ab b % 18446744073709551616) (ab c * ab d / 18446744073709551616) (ab c * ab d % 18446744073709551616)) (cmpI (a * b) (c * d)) := by
    rw [← n2] at hj1
    refine Ev.step (fun k => ?_) hj1
    rw [ref02_Cmp.j0.eq_2]
    by_cases z : (decide (c < 0) != decide (d < 0)) = true
    · rw [if_pos z, if_pos z]
    · rw [if_neg z, if_neg z]
  rw [← n1] at hj0
  by_cases z : (decide (a < 0) != decide (b < 0)) = true
  · simp only [if_pos z] at hj0 ⊢; exact hj0
  · simp only [if_neg z] at hj0 ⊢; exact hj0
end Go.Proofs.YthidfomkgclkcaaGreatDoor.M
namespace Go.Proofs.YthidfomkgclkcaaGreatDoor.M
open Go.RowKit Go.Proofs.YthidfomkgclkcaaGreatDoorW.PrintWords Go.Proofs.YthidfomkgclkcaaGreatDoorW.PrintLast Go.Proofs.YthidfomkgclkcaaGreatDoorW.PrintMore Go.Proofs.YthidfomkgclkcaaGreatDoor.Q

theorem rgcdl_f (d : Nat) : ∀ x y : Nat, y ≤ d → Ev (fun k => ref02_Gcd.l0 k (x : Int) (y : Int)) ((Nat.gcd x y : Nat) : Int) := by
  induction d with
  | zero =>
    intro x y h
    obtain rfl : y = 0 := by omega
    refine Ev.step (f := fun _ => some _) (fun k => ?_) (Ev.now _)
    rw [ref02_Gcd.l0.eq_2, if_pos (by rfl), Nat.gcd_zero_right]
  | succ d ih =>
    intro x y h
    by_cases hy : y = 0
    · subst hy
      refine Ev.step (f := fun _ => some _) (fun k => ?_) (Ev.now _)
      rw [ref02_Gcd.l0.eq_2, if_pos (by rfl), Nat.gcd_zero_right]
    · have hlt := Nat.mod_lt x (show y > 0 by omega)
      have := ih y (x % y) (by omega)
      rw [Nat.gcd_comm, Nat.gcd_rec, Nat.gcd_comm]
      refine Ev.step (fun k => ?_) this
      rw [ref02_Gcd.l0.eq_2, if_neg (by omega)]; rfl
theorem rgcd_f {a b : Int} (ha : I64 a) (hb : I64 b) : Ev (fun k => ref02_Gcd.f k a b) ((Int.gcd a b : Nat) : Int) := by
  unfold ref02_Gcd.f
  rw [rsize_f ha, rsize_f hb]
  simp only [Option.bind_some]
  have e : ∀ x : Int, ab x = (x.natAbs : Int) := by intro x; unfold ab; split <;> omega
  rw [e, e]
  exact rgcdl_f _ _ _ (Nat.le_refl _)
end Go.Proofs.YthidfomkgclkcaaGreatDoor.M
namespace Go.Proofs.YthidfomkgclkcaaGreatDoor.M
open Go.RowKit Go.Proofs.YthidfomkgclkcaaGreatDoorW.PrintWords Go.Proofs.YthidfomkgclkcaaGreatDoorW.PrintLast Go.Proofs.YthidfomkgclkcaaGreatDoorW.PrintMore Go.Proofs.YthidfomkgclkcaaGreatDoor.Q
theorem rright_f {n d : Int} (hn : I64 n) (hd : I64 d) : Ev (fun k => ref03_Right.f k n d) (rightS n d) := by
  unfold ref03_Right.f rightS
  by_cases c1 : in9 n
  · simp only [decide_eq_true c1, Bool.true_and, if_pos (show n ≥ 1 from c1.1), if_pos c1.2]
    by_cases c2 : in9 d
    · simp only [decide_eq_true c2, Bool.true_and, if_pos (show d ≥ 1 from c2.1), if_pos c2.2]
      refine Ev.bind (rgcd_f hn hd) ?_
      rw [show decide (Int.gcd n d = 1) = (((Int.gcd n d : Nat) : Int) == 1) by rw [Bool.eq_iff_iff]; simp; omega]
      exact Ev.now _
    · simp only [decide_eq_false c2, Bool.false_and]
      by_cases e : d ≥ 1
      · simp only [if_pos e, if_neg (fun h : d ≤ 1000000000 => c2 ⟨e, h⟩)]; exact Ev.now _
      · simp only [if_neg e]; exact Ev.now _
  · simp only [decide_eq_false c1, Bool.false_and]
    by_cases e : n ≥ 1
    · simp only [if_pos e, if_neg (fun h : n ≤ 1000000000 => c1 ⟨e, h⟩)]; exact Ev.now _
    · simp only [if_neg e]; exact Ev.now _
theorem rmake_f {n d : Int} (hn : I64 n) (hd : I64 d) : Ev (fun k => ref03_Make.f k n d) (makeS n d) := by
  unfold ref03_Make.f
  have bad : Ev (fun k => ref03_Make.j0 k n d true) (0, 0, 1) :=
    Ev.step (f := fun _ => some _) (fun k => by rw [ref03_Make.j0.eq_2, if_pos rfl]) (Ev.now _)
  by_cases c1 : n < 1
  · simp only [if_pos c1]
    rw [show makeS n d = (0, 0, 1) by unfold makeS; rw [if_pos (.inl c1)]]; exact bad
  · simp only [if_neg c1]
    by_cases c2 : d < 1
    · rw [decide_eq_true c2, show makeS n d = (0, 0, 1) by unfold makeS; rw [if_pos (.inr c2)]]; exact bad
    · rw [decide_eq_false c2]
      refine Ev.step (f := fun k => _) (fun k => by rw [ref03_Make.j0.eq_2, if_neg (by decide)]) ?_
      refine Ev.bind (rgcd_f hn hd) ?_
      have hg := gcd_pos' (n := n) (d := d) (by omega)
      have hgi := gcd_lt (n := n) (d := d) (by omega) hn
      obtain ⟨q1, q1'⟩ := div_gcd_i64 (n := n) (d := d) (by omega) hn
      have q2 : I64 (d / (Int.gcd n d : Nat)) ∧ 0 ≤ d / (Int.gcd n d : Nat) := by rw [Int.gcd_comm]; exact div_gcd_i64 (n := d) (d := n) (by omega) hd
      have l1 : (Int.gcd n d : Int) ≤ n := Int.gcd_le_left _ (by omega)
      have l2 : (Int.gcd n d : Int) ≤ d := Int.gcd_le_right _ (by omega)
      have p1 : 1 ≤ n / (Int.gcd n d : Nat) := Int.le_ediv_of_mul_le (by omega) (by omega)
      have p2 : 1 ≤ d / (Int.gcd n d : Nat) := Int.le_ediv_of_mul_le (by omega) (by omega)
      rw [w64_in hgi, if_neg (by omega), Int.tdiv_eq_ediv_of_nonneg (by omega), Int.tdiv_eq_ediv_of_nonneg (by omega), w64_in q1, w64_in q2.1]
      rw [makeS_pos (by omega) (by omega)]
      by_cases d1 : n / (Int.gcd n d : Nat) > 1000000000
      · simp only [if_pos d1]; rw [if_neg (fun h : in9 _ ∧ in9 _ => by have := h.1.2; omega)]; exact Ev.now _
      · by_cases d2 : d / (Int.gcd n d : Nat) > 1000000000
        · simp only [if_neg d1, if_pos d2]; rw [if_neg (fun h : in9 _ ∧ in9 _ => by have := h.2.2; omega)]; exact Ev.now _
        · simp only [if_neg d1, if_neg d2]; rw [if_pos (show in9 _ ∧ in9 _ from ⟨⟨p1, by omega⟩, ⟨p2, by omega⟩⟩)]; exact Ev.now _
theorem rapply_f {n d a : Int} (hn : I64 n) (hd : I64 d) (ha : I64 a) : Ev (fun k => ref03_Apply.f k n d a) (applyS n d a) := by
  unfold ref03_Apply.f applyS
  refine Ev.bind (rright_f hn hd) ?_
  by_cases c : rightS n d = true
  · simp only [if_pos c]; refine Ev.bind (rmuldiv_f ha hn hd) ?_; exact Ev.now _
  · simp only [if_neg c]; exact Ev.now _
theorem rcmp3_f {a b c d : Int} (ha : I64 a) (hb : I64 b) (hc : I64 c) (hd : I64 d) : Ev (fun k => ref03_Cmp.f k a b c d) (rcmpS a b c d) := by
  unfold ref03_Cmp.f rcmpS
  refine Ev.bind (rcmp_f ha hd hc hb) ?_; exact Ev.now _
end Go.Proofs.YthidfomkgclkcaaGreatDoor.M
