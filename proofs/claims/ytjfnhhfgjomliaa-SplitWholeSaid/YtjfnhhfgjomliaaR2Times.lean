import Derived.Test.YtjfnhhfgjomliaaQx7
import Derived.Test.YtjfnhhfgjomliaaCWide
import Derived.Test.YtjfnhhfgjomliaaMWide2
/- the reference's product, bit by bit -/
set_option linter.unusedVariables false
set_option linter.unusedSimpArgs false
namespace Go.Proofs.Ytjfnhhfgjomliaa.M
open Go.RowKit Go.Proofs.YtjfnhhfgjomliaaW.PrintWords Go.Proofs.YtjfnhhfgjomliaaW.PrintLast Go.Proofs.YtjfnhhfgjomliaaW.PrintMore Go.Proofs.Ytjfnhhfgjomliaa.Q

theorem rsize_f {a : Int} (h : I64 a) : comptrollerref02_size.f a = some (ab a) := by
  obtain ⟨h1, h2⟩ := h
  unfold comptrollerref02_size.f ab
  by_cases c : a < 0
  · rw [if_pos c, if_pos c]; simp only [wu64]; exact congrArg some (by omega)
  · rw [if_neg c, if_neg c]; simp only [wu64]; exact congrArg some (by omega)
theorem rdouble_f {h l one : Int} (hl : 0 ≤ l ∧ l < 18446744073709551616) (hh : 0 ≤ h) (ho : 0 ≤ one ∧ one ≤ 1) (hb : h * 18446744073709551616 + l < 170141183460469231731687303715884105728) :
    comptrollerref02_double.f h l one = some ((2 * (h * 18446744073709551616 + l) + one) / 18446744073709551616, (2 * (h * 18446744073709551616 + l) + one) % 18446744073709551616) := by
  unfold comptrollerref02_double.f
  rw [Int.tdiv_eq_ediv_of_nonneg hl.1]
  simp only [wu64]
  refine congrArg some (Prod.ext ?_ ?_) <;> (show _ = _) <;> omega
theorem rplus_f {h l b : Int} (hl : 0 ≤ l ∧ l < 18446744073709551616) (hh : 0 ≤ h) (ho : 0 ≤ b ∧ b < 18446744073709551616) (hb : h * 18446744073709551616 + l + b < 340282366920938463463374607431768211456) :
    comptrollerref02_plus.f h l b = some ((h * 18446744073709551616 + l + b) / 18446744073709551616, (h * 18446744073709551616 + l + b) % 18446744073709551616) := by
  unfold comptrollerref02_plus.f
  simp only [wu64]
  by_cases c : (l + b) % 18446744073709551616 < b
  · rw [if_pos c]; refine congrArg some (Prod.ext ?_ ?_) <;> (show _ = _) <;> omega
  · rw [if_neg c]; refine congrArg some (Prod.ext ?_ ?_) <;> (show _ = _) <;> omega

/-- the product: after i rounds it is the highest i bits of a, times b -/
theorem rtimesl_f {a b : Int} (ha : 0 ≤ a ∧ a ≤ 9223372036854775808) (hb : 0 ≤ b ∧ b ≤ 9223372036854775808) (d : Nat) : ∀ (i : Nat) (n : Int), i + d = 64 → n = a / 2 ^ d * b →
    Ev (fun k => comptrollerref02_times.l0 k a b (2 ^ d / 2) (i : Int) (n / 18446744073709551616) (n % 18446744073709551616)) (a * b / 18446744073709551616, a * b % 18446744073709551616) := by
  induction d with
  | zero =>
    intro i n hi hn
    refine Ev.step (f := fun _ => some _) (fun k => ?_) (Ev.now _)
    rw [comptrollerref02_times.l0.eq_2, if_neg (by omega), hn]
    simp
  | succ d ih =>
    intro i n hi hn
    have hi64 : (i : Int) < 64 := by omega
    have hp : (0 : Int) < 2 ^ d := Int.pow_pos (by omega)
    have hq : (2 : Int) ^ (d + 1) = 2 ^ d * 2 := Int.pow_succ ..
    have hd63 : (2 : Int) ^ d ≤ 9223372036854775808 := by
      have : (2 : Int) ^ d ≤ 2 ^ 63 := by exact_mod_cast Nat.pow_le_pow_right (by decide) (show d ≤ 63 by omega)
      exact this
    have e1 : (2 : Int) ^ (d + 1) / 2 = 2 ^ d := by rw [hq]; omega
    have e2 : a / 2 ^ d / 2 = a / 2 ^ (d + 1) := by rw [Int.ediv_ediv_of_nonneg (by omega), ← hq]
    rw [e1]
    rw [← e2] at hn
    clear hq e1 e2
    generalize (2 : Int) ^ d = D at *
    generalize hA : a / D = A at *
    have hA0 : 0 ≤ A := by rw [← hA]; exact Int.ediv_nonneg ha.1 (by omega)
    have hA1 : A ≤ a := by rw [← hA]; exact Int.ediv_le_self _ ha.1
    have hn0 : 0 ≤ n := by rw [hn]; exact Int.mul_nonneg (by omega) hb.1
    have hn1 : n ≤ 4611686018427387904 * 9223372036854775808 := by rw [hn]; exact mul_le_mul' (by omega) hb.2 (by omega) (by omega)
    have hAb : A * b = 2 * n + (if A % 2 = 1 then b else 0) := by
      have : A = A / 2 * 2 + A % 2 := by omega
      rw [hn]
      generalize A / 2 = X at *
      by_cases c : A % 2 = 1
      · rw [if_pos c, this, c, Int.add_mul, Int.mul_right_comm]; omega
      · rw [if_neg c, this, show A % 2 = 0 by omega, Int.add_mul, Int.mul_right_comm]; omega
    have ew : IntKind.u64.wrap (Int.tdiv a D) = A := by
      rw [Int.tdiv_eq_ediv_of_nonneg ha.1, hA]; exact IntWalk.u64_in _ ⟨hA0, by omega⟩
    have ep : IntKind.u64.wrap (Int.tdiv D 2) = D / 2 := by
      rw [Int.tdiv_eq_ediv_of_nonneg (by omega)]; exact IntWalk.u64_in _ ⟨by omega, by omega⟩
    have ei : wrap64 ((i : Int) + 1) = ((i + 1 : Nat) : Int) := by rw [w64_in (by unfold I64; omega)]; rfl
    have hl0 : 0 ≤ n % 18446744073709551616 ∧ n % 18446744073709551616 < 18446744073709551616 := by clear hAb hn hA ih; omega
    have hh0 : 0 ≤ n / 18446744073709551616 := by clear hAb hn hA ih; omega
    have h01 : (0 : Int) ≤ 0 ∧ (0 : Int) ≤ 1 := by omega
    have hb0 : n / 18446744073709551616 * 18446744073709551616 + n % 18446744073709551616 < 170141183460469231731687303715884105728 := by clear hAb hn hA ih; omega
    by_cases c : A % 2 = 1
    · rw [if_pos c] at hAb
      have := ih (i + 1) (2 * n + b) (by omega) (by rw [hAb])
      refine Ev.step (fun k => ?_) this
      rw [comptrollerref02_times.l0.eq_2, if_pos hi64, rdouble_f (h := n / 18446744073709551616) (l := n % 18446744073709551616) (one := 0) hl0 hh0 h01 hb0]
      simp only [Option.bind_some]
      rw [if_neg (by omega), ew, Int.tmod_eq_emod_of_nonneg hA0, if_pos c]
      rw [show n / 18446744073709551616 * 18446744073709551616 + n % 18446744073709551616 = n by omega]
      rw [rplus_f (by omega) (by omega) (by omega) (by omega)]
      simp only [Option.bind_some, Int.add_zero]
      rw [ep, ei, show 2 * n / 18446744073709551616 * 18446744073709551616 + 2 * n % 18446744073709551616 = 2 * n by omega]
    · rw [if_neg c] at hAb
      have := ih (i + 1) (2 * n) (by omega) (by omega)
      refine Ev.step (fun k => ?_) this
      rw [comptrollerref02_times.l0.eq_2, if_pos hi64, rdouble_f (h := n / 18446744073709551616) (l := n % 18446744073709551616) (one := 0) hl0 hh0 h01 hb0]
      simp only [Option.bind_some]
      rw [if_neg (by omega), ew, Int.tmod_eq_emod_of_nonneg hA0, if_neg c]
      rw [show n / 18446744073709551616 * 18446744073709551616 + n % 18446744073709551616 = n by omega]
      simp only [Int.add_zero]
      rw [ep, ei]
theorem rtimes_f {a b : Int} (ha : 0 ≤ a ∧ a ≤ 9223372036854775808) (hb : 0 ≤ b ∧ b ≤ 9223372036854775808) :
    Ev (fun k => comptrollerref02_times.f k a b) (a * b / 18446744073709551616, a * b % 18446744073709551616) := by
  unfold comptrollerref02_times.f
  have := rtimesl_f ha hb 64 0 0 (by omega) (by
    rw [show a / 2 ^ 64 = 0 from Int.ediv_eq_zero_of_lt ha.1 (by omega), Int.zero_mul])
  exact this

end Go.Proofs.Ytjfnhhfgjomliaa.M
