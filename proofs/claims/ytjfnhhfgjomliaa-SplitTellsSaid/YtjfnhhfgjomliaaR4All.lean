import Derived.Test.YtjfnhhfgjomliaaQx6
import Derived.Test.YtjfnhhfgjomliaaMCent
import Derived.Test.YtjfnhhfgjomliaaCEv
import Derived.Test.YtjfnhhfgjomliaaCWide
import Derived.Test.YtjfnhhfgjomliaaMWide2
import Derived.Test.YtjfnhhfgjomliaaQx7
import Derived.Test.YtjfnhhfgjomliaaQx9
import Derived.Test.YtjfnhhfgjomliaaCByl
/- what the reference's Add and Sum tell -/
set_option linter.unusedVariables false
set_option linter.unusedSimpArgs false
namespace Go.Proofs.Ytjfnhhfgjomliaa.M
open Go.RowKit Go.Proofs.YtjfnhhfgjomliaaW.PrintWords Go.Proofs.YtjfnhhfgjomliaaW.PrintLast Go.Proofs.YtjfnhhfgjomliaaW.PrintMore Go.Proofs.Ytjfnhhfgjomliaa.Q
theorem radd_f {a b : Int} (ha : I64 a) (hb : I64 b) : ref01_Add.f a b = some (addS a b) := by
  have e1 : b > 0 → wrap64 (9223372036854775807 - b) = 9223372036854775807 - b := fun h => w64_in (by unfold I64 at *; omega)
  have e2 : b < 0 → wrap64 (-9223372036854775808 - b) = -9223372036854775808 - b := fun h => w64_in (by unfold I64 at *; omega)
  unfold ref01_Add.f addS
  by_cases c1 : b > 0
  · rw [if_pos c1, e1 c1, if_neg (show ¬ b < 0 by omega)]
    by_cases c : I64 (a + b)
    · rw [if_pos c, if_neg (by unfold I64 at c; omega), w64_in c]
    · rw [if_neg c, if_pos (by unfold I64 at *; omega)]
  · rw [if_neg c1]
    by_cases c2 : b < 0
    · rw [if_pos c2, e2 c2]
      by_cases c : I64 (a + b)
      · rw [if_pos c, if_neg (by unfold I64 at c; omega), w64_in c]
      · rw [if_neg c, if_pos (by unfold I64 at *; omega)]
    · have c : I64 (a + b) := by unfold I64 at *; omega
      rw [if_neg c2, if_pos c, w64_in c]
theorem rsuml_f (T : List Int) : ∀ (P : List Int) (n : Int) (i : Nat), (∀ x ∈ T, I64 x) → I64 n → P.length = i → i + T.length ≤ 9223372036854775807 →
    Ev (fun k => ref01_Sum.l0 k (P ++ T) n (i : Int)) (sumS n T) := by
  induction T with
  | nil =>
    intro P n i hT hn hi hL
    refine Ev.step (f := fun _ => some _) (fun k => ?_) (Ev.now _)
    rw [ref01_Sum.l0.eq_2, if_neg (by simp; omega)]; rfl
  | cons x T ih =>
    intro P n i hT hn hi hL
    have hx := hT x List.mem_cons_self
    have r : rd (P ++ x :: T) (i : Int) = x := by unfold rd; rw [Int.toNat_natCast]; exact rd_int rfl hi
    have hlen : ((P ++ x :: T).length : Int) = i + 1 + T.length := by simp; omega
    simp only [List.length_cons] at hL
    by_cases c : I64 (n + x)
    · have := ih (P ++ [x]) (n + x) (i + 1) (fun y hy => hT y (List.mem_cons_of_mem _ hy)) c (by simp; omega) (by omega)
      rw [show P ++ [x] ++ T = P ++ x :: T by simp] at this
      have e : sumS n (x :: T) = sumS (n + x) T := by show (if _ then _ else _) = _; rw [if_pos c]
      rw [e]
      refine Ev.step (fun k => ?_) this
      rw [ref01_Sum.l0.eq_2, if_pos (by omega), if_pos (by omega), r, radd_f hn hx, addS, if_pos c]
      simp only [Option.bind_some, if_true]
      rw [w64_in (by unfold I64; omega)]; rfl
    · have e : sumS n (x :: T) = (0, 2) := by show (if _ then _ else _) = _; rw [if_neg c]
      rw [e]
      refine Ev.step (f := fun _ => some _) (fun k => ?_) (Ev.now _)
      rw [ref01_Sum.l0.eq_2, if_pos (by omega), if_pos (by omega), r, radd_f hn hx, addS, if_neg c]
      simp
theorem rsum_f {L : List Int} (hL : ∀ x ∈ L, I64 x) (hl : L.length ≤ 9223372036854775807) : Ev (fun k => ref01_Sum.f k L) (sumS 0 L) := by
  unfold ref01_Sum.f
  have := rsuml_f L [] 0 0 hL (by unfold I64; omega) rfl (by omega)
  simpa using this
end Go.Proofs.Ytjfnhhfgjomliaa.M

/- the reference's product, bit by bit -/
namespace Go.Proofs.Ytjfnhhfgjomliaa.M
open Go.RowKit Go.Proofs.YtjfnhhfgjomliaaW.PrintWords Go.Proofs.YtjfnhhfgjomliaaW.PrintLast Go.Proofs.YtjfnhhfgjomliaaW.PrintMore Go.Proofs.Ytjfnhhfgjomliaa.Q

theorem rsize_f {a : Int} (h : I64 a) : ref02_size.f a = some (ab a) := by
  obtain ⟨h1, h2⟩ := h
  unfold ref02_size.f ab
  by_cases c : a < 0
  · rw [if_pos c, if_pos c]; simp only [wu64]; exact congrArg some (by omega)
  · rw [if_neg c, if_neg c]; simp only [wu64]; exact congrArg some (by omega)
theorem rdouble_f {h l one : Int} (hl : 0 ≤ l ∧ l < 18446744073709551616) (hh : 0 ≤ h) (ho : 0 ≤ one ∧ one ≤ 1) (hb : h * 18446744073709551616 + l < 170141183460469231731687303715884105728) :
    ref02_double.f h l one = some ((2 * (h * 18446744073709551616 + l) + one) / 18446744073709551616, (2 * (h * 18446744073709551616 + l) + one) % 18446744073709551616) := by
  unfold ref02_double.f
  rw [Int.tdiv_eq_ediv_of_nonneg hl.1]
  simp only [wu64]
  refine congrArg some (Prod.ext ?_ ?_) <;> (show _ = _) <;> omega
theorem rplus_f {h l b : Int} (hl : 0 ≤ l ∧ l < 18446744073709551616) (hh : 0 ≤ h) (ho : 0 ≤ b ∧ b < 18446744073709551616) (hb : h * 18446744073709551616 + l + b < 340282366920938463463374607431768211456) :
    ref02_plus.f h l b = some ((h * 18446744073709551616 + l + b) / 18446744073709551616, (h * 18446744073709551616 + l + b) % 18446744073709551616) := by
  unfold ref02_plus.f
  simp only [wu64]
  by_cases c : (l + b) % 18446744073709551616 < b
  · rw [if_pos c]; refine congrArg some (Prod.ext ?_ ?_) <;> (show _ = _) <;> omega
  · rw [if_neg c]; refine congrArg some (Prod.ext ?_ ?_) <;> (show _ = _) <;> omega

/-- the product: after i rounds it is the highest i bits of a, times b -/
theorem rtimesl_f {a b : Int} (ha : 0 ≤ a ∧ a ≤ 9223372036854775808) (hb : 0 ≤ b ∧ b ≤ 9223372036854775808) (d : Nat) : ∀ (i : Nat) (n : Int), i + d = 64 → n = a / 2 ^ d * b →
    Ev (fun k => ref02_times.l0 k a b (2 ^ d / 2) (i : Int) (n / 18446744073709551616) (n % 18446744073709551616)) (a * b / 18446744073709551616, a * b % 18446744073709551616) := by
  induction d with
  | zero =>
    intro i n hi hn
    refine Ev.step (f := fun _ => some _) (fun k => ?_) (Ev.now _)
    rw [ref02_times.l0.eq_2, if_neg (by omega), hn]
    simp
  | succ d ih =>
    intro i n hi hn
    have hi64 : (i : Int) < 64 := by omega
    have hp : (0 : Int) < 2 ^ d := Int.pow_pos (by omega)
    have hq : (2 : Int) ^ (d + 1) = 2 ^ d * 2 := Int.pow_succ ..
    have hd63 : (2 : Int) ^ d ≤ 9223372036854775808 := by
      have : (2 : Int) ^ d ≤ 2 ^ 63 := by exact_mod_cast Nat.pow_le_pow_right (by decide) (show d ≤ 63 by omega)
      exact this
    have e1 : (2 : Int) ^ (d + 1) / 2 = 2 ^ d := by rw [hq]; omega
    have e2 : a / 2 ^ d / 2 = a / 2 ^ (d + 1) := by rw [Int.ediv_ediv_of_nonneg (by omega), ← hq]
    rw [e1]
    rw [← e2] at hn
    clear hq e1 e2
    generalize (2 : Int) ^ d = D at *
    generalize hA : a / D = A at *
    have hA0 : 0 ≤ A := by rw [← hA]; exact Int.ediv_nonneg ha.1 (by omega)
    have hA1 : A ≤ a := by rw [← hA]; exact Int.ediv_le_self _ ha.1
    have hn0 : 0 ≤ n := by rw [hn]; exact Int.mul_nonneg (by omega) hb.1
    have hn1 : n ≤ 4611686018427387904 * 9223372036854775808 := by rw [hn]; exact mul_le_mul' (by omega) hb.2 (by omega) (by omega)
    have hAb : A * b = 2 * n + (if A % 2 = 1 then b else 0) := by
      have : A = A / 2 * 2 + A % 2 := by omega
      rw [hn]
      generalize A / 2 = X at *
      by_cases c : A % 2 = 1
      · rw [if_pos c, this, c, Int.add_mul, Int.mul_right_comm]; omega
      · rw [if_neg c, this, show A % 2 = 0 by omega, Int.add_mul, Int.mul_right_comm]; omega
    have ew : IntKind.u64.wrap (Int.tdiv a D) = A := by
      rw [Int.tdiv_eq_ediv_of_nonneg ha.1, hA]; exact IntWalk.u64_in _ ⟨hA0, by omega⟩
    have ep : IntKind.u64.wrap (Int.tdiv D 2) = D / 2 := by
      rw [Int.tdiv_eq_ediv_of_nonneg (by omega)]; exact IntWalk.u64_in _ ⟨by omega, by omega⟩
    have ei : wrap64 ((i : Int) + 1) = ((i + 1 : Nat) : Int) := by rw [w64_in (by unfold I64; omega)]; rfl
    have hl0 : 0 ≤ n % 18446744073709551616 ∧ n % 18446744073709551616 < 18446744073709551616 := by clear hAb hn hA ih; omega
    have hh0 : 0 ≤ n / 18446744073709551616 := by clear hAb hn hA ih; omega
    have h01 : (0 : Int) ≤ 0 ∧ (0 : Int) ≤ 1 := by omega
    have hb0 : n / 18446744073709551616 * 18446744073709551616 + n % 18446744073709551616 < 170141183460469231731687303715884105728 := by clear hAb hn hA ih; omega
    by_cases c : A % 2 = 1
    · rw [if_pos c] at hAb
      have := ih (i + 1) (2 * n + b) (by omega) (by rw [hAb])
      refine Ev.step (fun k => ?_) this
      rw [ref02_times.l0.eq_2, if_pos hi64, rdouble_f (h := n / 18446744073709551616) (l := n % 18446744073709551616) (one := 0) hl0 hh0 h01 hb0]
      simp only [Option.bind_some]
      rw [if_neg (by omega), ew, Int.tmod_eq_emod_of_nonneg hA0, if_pos c]
      rw [show n / 18446744073709551616 * 18446744073709551616 + n % 18446744073709551616 = n by omega]
      rw [rplus_f (by omega) (by omega) (by omega) (by omega)]
      simp only [Option.bind_some, Int.add_zero]
      rw [ep, ei, show 2 * n / 18446744073709551616 * 18446744073709551616 + 2 * n % 18446744073709551616 = 2 * n by omega]
    · rw [if_neg c] at hAb
      have := ih (i + 1) (2 * n) (by omega) (by omega)
      refine Ev.step (fun k => ?_) this
      rw [ref02_times.l0.eq_2, if_pos hi64, rdouble_f (h := n / 18446744073709551616) (l := n % 18446744073709551616) (one := 0) hl0 hh0 h01 hb0]
      simp only [Option.bind_some]
      rw [if_neg (by omega), ew, Int.tmod_eq_emod_of_nonneg hA0, if_neg c]
      rw [show n / 18446744073709551616 * 18446744073709551616 + n % 18446744073709551616 = n by omega]
      simp only [Int.add_zero]
      rw [ep, ei]
theorem rtimes_f {a b : Int} (ha : 0 ≤ a ∧ a ≤ 9223372036854775808) (hb : 0 ≤ b ∧ b ≤ 9223372036854775808) :
    Ev (fun k => ref02_times.f k a b) (a * b / 18446744073709551616, a * b % 18446744073709551616) := by
  unfold ref02_times.f
  have := rtimesl_f ha hb 64 0 0 (by omega) (by
    rw [show a / 2 ^ 64 = 0 from Int.ediv_eq_zero_of_lt ha.1 (by omega), Int.zero_mul])
  exact this

end Go.Proofs.Ytjfnhhfgjomliaa.M

/- the reference's MulDiv -/
namespace Go.Proofs.Ytjfnhhfgjomliaa.M
open Go.RowKit Go.Proofs.YtjfnhhfgjomliaaW.PrintWords Go.Proofs.YtjfnhhfgjomliaaW.PrintLast Go.Proofs.YtjfnhhfgjomliaaW.PrintMore Go.Proofs.Ytjfnhhfgjomliaa.Q

theorem rbitl_f (d : Nat) : ∀ (i k0 : Nat) (x : Int), k0 + d = i → i ≤ 64 → 0 ≤ x → x < 18446744073709551616 → Ev (fun k => ref02_bit.l0 k (i : Int) x (k0 : Int)) (x / 2 ^ d % 2) := by
  induction d with
  | zero =>
    intro i k0 x h hi hx hx1
    refine Ev.step (f := fun _ => some _) (fun k => ?_) (Ev.now _)
    rw [ref02_bit.l0.eq_2, if_neg (by omega), Int.tmod_eq_emod_of_nonneg hx]; simp
  | succ d ih =>
    intro i k0 x h hi hx hx1
    have := ih i (k0 + 1) (x / 2) (by omega) hi (by omega) (by omega)
    have hp : (0 : Int) < 2 ^ d := Int.pow_pos (by omega)
    have hq : (2 : Int) ^ (d + 1) = 2 * 2 ^ d := by rw [Int.pow_succ, Int.mul_comm]
    rw [Int.ediv_ediv_of_nonneg (by omega), ← hq] at this
    refine Ev.step (fun k => ?_) this
    rw [ref02_bit.l0.eq_2, if_pos (by omega), Int.tdiv_eq_ediv_of_nonneg hx, IntWalk.u64_in (x / 2) ⟨by omega, by omega⟩, w64_in (by unfold I64; omega)]
    rfl
theorem rbit_f {n : Int} (i : Nat) (hi : i < 128) (hn : 0 ≤ n ∧ n < 340282366920938463463374607431768211456) :
    Ev (fun k => ref02_bit.f k (n / 18446744073709551616) (n % 18446744073709551616) (i : Int)) (n / 2 ^ i % 2) := by
  unfold ref02_bit.f
  by_cases c : 64 ≤ i
  · have := rbitl_f (i - 64) (i - 64) 0 (n / 18446744073709551616) (by omega) (by omega) (by omega) (by omega)
    have hp : (0 : Int) < 2 ^ (i - 64) := Int.pow_pos (by omega)
    have hq : (2 : Int) ^ i = 18446744073709551616 * 2 ^ (i - 64) := by
      have h : (2 : Int) ^ i = 2 ^ 64 * 2 ^ (i - 64) := by rw [← Int.pow_add]; congr 1; omega
      exact h
    rw [Int.ediv_ediv_of_nonneg (by omega), ← hq] at this
    simp only [if_pos (show (i : Int) ≥ 64 by omega)]
    rw [w64_in (by unfold I64; omega), show (i : Int) - 64 = ((i - 64 : Nat) : Int) by omega]
    refine Ev.step (fun k => ?_) this
    rw [ref02_bit.j0.eq_2]; rfl
  · have := rbitl_f i i 0 (n % 18446744073709551616) (by omega) (by omega) (by omega) (by omega)
    simp only [if_neg (show ¬ (i : Int) ≥ 64 by omega)]
    have e : n % 18446744073709551616 / 2 ^ i % 2 = n / 2 ^ i % 2 := by
      have hp : (0 : Int) < 2 ^ i := Int.pow_pos (by omega)
      have hq : (18446744073709551616 : Int) = 2 ^ i * 2 ^ (64 - i) := by
        have h : (2 : Int) ^ 64 = 2 ^ i * 2 ^ (64 - i) := by rw [← Int.pow_add]; congr 1; omega
        exact h
      have h1 := Int.mul_ediv_add_emod n 18446744073709551616
      have h2 : n = n % 18446744073709551616 + 2 ^ i * (2 * (2 ^ (63 - i) * (n / 18446744073709551616))) := by
        have h3 : (2 : Int) ^ i * (2 * (2 ^ (63 - i) * (n / 18446744073709551616))) = 18446744073709551616 * (n / 18446744073709551616) := by
          rw [hq, show 64 - i = 63 - i + 1 by omega, Int.pow_succ]
          simp only [Int.mul_assoc, Int.mul_left_comm]
        rw [h3]; omega
      conv => rhs; rw [h2, Int.add_mul_ediv_left _ _ (by omega)]
      omega
    rw [e] at this
    refine Ev.step (fun k => ?_) this
    rw [ref02_bit.j0.eq_2]; rfl

/-- the quotient and the rest, from the highest bit on: with d bits left -/
theorem rbyl_f {n c : Int} (hn : 0 ≤ n ∧ n < 340282366920938463463374607431768211456) (hc : 0 < c ∧ c ≤ 9223372036854775808) (d : Nat) : ∀ q r : Int, d ≤ 128 → n / 2 ^ d = q * c + r → 0 ≤ r → r < c → 0 ≤ q →
    Ev (fun k => ref02_by.l0 k c r ((d : Int) - 1) (n / 18446744073709551616) (n % 18446744073709551616) (q / 18446744073709551616) (q % 18446744073709551616))
      (n / c / 18446744073709551616, n / c % 18446744073709551616, n % c) := by
  induction d with
  | zero =>
    intro q r hd hqr h0 h1 hq
    rw [show (2 : Int) ^ 0 = 1 from rfl, Int.ediv_one] at hqr
    have e1 : n / c = q := by
      rw [hqr, Int.add_comm, Int.add_mul_ediv_right _ _ (by omega), Int.ediv_eq_zero_of_lt h0 h1, Int.zero_add]
    have e2 : n % c = r := by
      rw [hqr, Int.add_comm, Int.add_mul_emod_self_right, Int.emod_eq_of_lt h0 h1]
    refine Ev.step (f := fun _ => some _) (fun k => ?_) (Ev.now _)
    rw [ref02_by.l0.eq_2, if_neg (by omega), e1, e2]
  | succ d ih =>
    intro q r hd hqr h0 h1 hq
    have hp : (0 : Int) < 2 ^ d := Int.pow_pos (by omega)
    have hq2 : (2 : Int) ^ (d + 1) = 2 ^ d * 2 := Int.pow_succ ..
    have e2 : n / 2 ^ d / 2 = n / 2 ^ (d + 1) := by rw [Int.ediv_ediv_of_nonneg (by omega), ← hq2]
    have hb := rbit_f d (by omega) hn
    rw [← e2] at hqr
    have hA0 : 0 ≤ n / 2 ^ d := Int.ediv_nonneg hn.1 (by omega)
    have hA1 : n / 2 ^ d ≤ n := Int.ediv_le_self _ hn.1
    have hqb : q ≤ q * c := by have := Int.mul_le_mul_of_nonneg_left (show (1 : Int) ≤ c by omega) hq; omega
    have e3 : (2 * q + 1) * c = 2 * (q * c) + c := by rw [Int.add_mul, Int.mul_assoc, Int.one_mul]
    have e4 : (2 * q) * c = 2 * (q * c) := by rw [Int.mul_assoc]
    generalize hA : n / 2 ^ d = A at *
    have b0 : 0 ≤ A % 2 ∧ A % 2 ≤ 1 := by omega
    have ew : wrap64 (((d + 1 : Nat) : Int) - 1 - 1) = (d : Int) - 1 := by rw [w64_in (by unfold I64; omega)]; omega
    have er : IntKind.u64.wrap (IntKind.u64.wrap (r * 2) + A % 2) = 2 * r + A % 2 := by simp only [wu64]; omega
    by_cases c1 : c ≤ 2 * r + A % 2
    · have := ih (2 * q + 1) (2 * r + A % 2 - c) (by omega) (by omega) (by omega) (by omega) (by omega)
      refine Ev.step (f := fun k => (ref02_bit.f k (n / 18446744073709551616) (n % 18446744073709551616) (d : Int)).bind fun t => if IntKind.u64.wrap (IntKind.u64.wrap (r * 2) + t) ≥ c then (ref02_double.f (q / 18446744073709551616) (q % 18446744073709551616) 1).bind fun bt => ref02_by.l0 k c (IntKind.u64.wrap (IntKind.u64.wrap (IntKind.u64.wrap (r * 2) + t) - c)) ((d : Int) - 1) (n / 18446744073709551616) (n % 18446744073709551616) bt.1 bt.2 else (ref02_double.f (q / 18446744073709551616) (q % 18446744073709551616) 0).bind fun bt => ref02_by.l0 k c (IntKind.u64.wrap (IntKind.u64.wrap (r * 2) + t)) ((d : Int) - 1) (n / 18446744073709551616) (n % 18446744073709551616) bt.1 bt.2) (fun k => ?_) (Ev.bind hb ?_)
      · rw [ref02_by.l0.eq_2, if_pos (by omega), ew, show ((d + 1 : Nat) : Int) - 1 = d by omega]
      · simp only [er, if_pos (show 2 * r + A % 2 ≥ c by omega), wu64 (2 * r + A % 2 - c)]
        rw [rdouble_f (by omega) (by omega) (by omega) (by omega)]
        simp only [Option.bind_some]
        rw [show q / 18446744073709551616 * 18446744073709551616 + q % 18446744073709551616 = q by omega, show (2 * r + A % 2 - c) % 18446744073709551616 = 2 * r + A % 2 - c by omega]
        exact this
    · have := ih (2 * q) (2 * r + A % 2) (by omega) (by omega) (by omega) (by omega) (by omega)
      refine Ev.step (f := fun k => (ref02_bit.f k (n / 18446744073709551616) (n % 18446744073709551616) (d : Int)).bind fun t => if IntKind.u64.wrap (IntKind.u64.wrap (r * 2) + t) ≥ c then (ref02_double.f (q / 18446744073709551616) (q % 18446744073709551616) 1).bind fun bt => ref02_by.l0 k c (IntKind.u64.wrap (IntKind.u64.wrap (IntKind.u64.wrap (r * 2) + t) - c)) ((d : Int) - 1) (n / 18446744073709551616) (n % 18446744073709551616) bt.1 bt.2 else (ref02_double.f (q / 18446744073709551616) (q % 18446744073709551616) 0).bind fun bt => ref02_by.l0 k c (IntKind.u64.wrap (IntKind.u64.wrap (r * 2) + t)) ((d : Int) - 1) (n / 18446744073709551616) (n % 18446744073709551616) bt.1 bt.2) (fun k => ?_) (Ev.bind hb ?_)
      · rw [ref02_by.l0.eq_2, if_pos (by omega), ew, show ((d + 1 : Nat) : Int) - 1 = d by omega]
      · simp only [er, if_neg (show ¬ 2 * r + A % 2 ≥ c by omega)]
        rw [rdouble_f (by omega) (by omega) (by omega) (by omega)]
        simp only [Option.bind_some]
        rw [show q / 18446744073709551616 * 18446744073709551616 + q % 18446744073709551616 = q by omega, Int.add_zero]
        exact this
theorem rby_f {n c : Int} (hn : 0 ≤ n ∧ n ≤ 85070591730234615865843651857942052864) (hc : 0 < c ∧ c ≤ 9223372036854775808) :
    Ev (fun k => ref02_by.f k (n / 18446744073709551616) (n % 18446744073709551616) c) (n / c / 18446744073709551616, n / c % 18446744073709551616, n % c) := by
  unfold ref02_by.f
  exact rbyl_f (n := n) ⟨hn.1, by omega⟩ hc 128 0 0 (by omega) (by
    rw [Int.ediv_eq_zero_of_lt hn.1 (by omega), Int.zero_mul]; rfl) (by omega) (by omega) (by omega)
theorem rfits_f {s : Bool} {q : Int} (h0 : 0 ≤ q) (h1 : q < 340282366920938463463374607431768211456) :
    Ev (fun k => ref02_fits.f k s (q / 18446744073709551616) (q % 18446744073709551616)) (if I64 (sg s q) then (sg s q, true) else (0, false)) := by
  unfold ref02_fits.f
  have hbad : ¬ I64 (sg s q) → Ev (fun k => ref02_fits.j0 k s true (q / 18446744073709551616) (q % 18446744073709551616)) (if I64 (sg s q) then (sg s q, true) else (0, false)) := by
    intro h
    rw [if_neg h]
    refine Ev.step (f := fun _ => some _) (fun k => ?_) (Ev.now _)
    rw [ref02_fits.j0.eq_2, if_pos rfl]
  have hgood : I64 (sg s q) → q ≤ 9223372036854775808 → Ev (fun k => ref02_fits.j0 k s false (q / 18446744073709551616) (q % 18446744073709551616)) (if I64 (sg s q) then (sg s q, true) else (0, false)) := by
    intro h h2
    rw [if_pos h]
    refine Ev.step (f := fun _ => some _) (fun k => ?_) (Ev.now _)
    rw [ref02_fits.j0.eq_2, if_neg (by simp)]
    unfold sg at *
    unfold I64 at h
    cases s with
    | true =>
      simp only [if_true] at *
      rw [wu64]; unfold wrap64
      refine congrArg some (Prod.ext ?_ rfl); show _ = _; omega
    | false =>
      simp only [Bool.false_eq_true, if_false] at *
      unfold wrap64
      refine congrArg some (Prod.ext ?_ rfl); show _ = _; omega
  by_cases c1 : q / 18446744073709551616 > 0
  · simp only [if_pos c1]; exact hbad (by unfold I64 sg; split <;> omega)
  · simp only [if_neg c1]
    by_cases c2 : q % 18446744073709551616 > 9223372036854775808
    · simp only [if_pos c2]; exact hbad (by unfold I64 sg; split <;> omega)
    · simp only [if_neg c2]
      by_cases c3 : q % 18446744073709551616 = 9223372036854775808
      · simp only [if_pos c3]
        cases s with
        | true => exact hgood (by unfold I64 sg; simp; omega) (by omega)
        | false => exact hbad (by unfold I64 sg; simp; omega)
      · simp only [if_neg c3]; exact hgood (by unfold I64 sg; split <;> omega) (by omega)
theorem rmuldiv_f {a b c : Int} (ha : I64 a) (hb : I64 b) (hc : I64 c) : Ev (fun k => ref02_MulDiv.f k a b c) (mulDiv a b c) := by
  unfold ref02_MulDiv.f mulDiv
  by_cases hc0 : c = 0
  · simp only [if_pos hc0]; exact Ev.now _
  · simp only [if_neg hc0]
    rw [rsize_f ha, rsize_f hb, rsize_f hc]
    simp only [Option.bind_some]
    have pd := prod_bd ha hb
    have cb : 0 < ab c ∧ ab c ≤ 9223372036854775808 := ⟨ab_pos hc0, ab_le hc⟩
    refine Ev.bind (rtimes_f ⟨ab_nonneg a, ab_le ha⟩ ⟨ab_nonneg b, ab_le hb⟩) ?_
    refine Ev.bind (rby_f pd cb) ?_
    have q0 : 0 ≤ ab a * ab b / ab c := Int.ediv_nonneg pd.1 (by omega)
    have q1 : ab a * ab b / ab c ≤ ab a * ab b := Int.ediv_le_self _ pd.1
    have r0 := Int.emod_nonneg (ab a * ab b) (show ab c ≠ 0 by omega)
    have r1 := Int.emod_lt_of_pos (ab a * ab b) cb.1
    have hj : ∀ q, q = rnd (ab a * ab b) (ab c) → 0 ≤ q → q ≤ 85070591730234615865843651857942052865 → Ev (fun k => ref02_MulDiv.j0 k a b c (q / 18446744073709551616) (q % 18446744073709551616)) (fit (sg (ngs a b c) (rnd (ab a * ab b) (ab c)))) := by
      intro q e h0 h1
      rw [← e]
      refine Ev.step (f := fun k => (ref02_fits.f k (ngs a b c) (q / 18446744073709551616) (q % 18446744073709551616)).bind fun bt => if bt.2 = true then some (bt.1, 0) else some (0, 2)) (fun k => ?_) ?_
      · rw [ref02_MulDiv.j0.eq_2]; rfl
      · refine Ev.bind (rfits_f h0 (by omega)) ?_
        by_cases h : I64 (sg (ngs a b c) q)
        · simp only [if_pos h, if_true]; rw [fit_in h]; exact Ev.now _
        · simp only [if_neg h, Bool.false_eq_true, if_false]; rw [fit_out h]; exact Ev.now _
    rw [IntWalk.u64_in (ab c - ab a * ab b % ab c) ⟨by omega, by omega⟩]
    by_cases hr : ab c - ab a * ab b % ab c ≤ ab a * ab b % ab c
    · simp only [if_pos (show ab a * ab b % ab c ≥ ab c - ab a * ab b % ab c by omega)]
      rw [rplus_f (by omega) (by omega) (by omega) (by omega)]
      simp only [Option.bind_some]
      rw [show ab a * ab b / ab c / 18446744073709551616 * 18446744073709551616 + ab a * ab b / ab c % 18446744073709551616 = ab a * ab b / ab c by omega]
      exact hj _ (by unfold rnd; rw [if_pos hr]) (by omega) (by omega)
    · simp only [if_neg (show ¬ ab a * ab b % ab c ≥ ab c - ab a * ab b % ab c by omega)]
      exact hj _ (by unfold rnd; rw [if_neg hr]) (by omega) (by omega)
end Go.Proofs.Ytjfnhhfgjomliaa.M

/- the reference's Cmp -/
namespace Go.Proofs.Ytjfnhhfgjomliaa.M
open Go.RowKit Go.Proofs.YtjfnhhfgjomliaaW.PrintWords Go.Proofs.YtjfnhhfgjomliaaW.PrintLast Go.Proofs.YtjfnhhfgjomliaaW.PrintMore Go.Proofs.Ytjfnhhfgjomliaa.Q

theorem rless_f (P Q : Int) : ref02_less.f (P / 18446744073709551616) (P % 18446744073709551616) (Q / 18446744073709551616) (Q % 18446744073709551616) = some (decide (P < Q)) := by
  unfold ref02_less.f
  by_cases c1 : P / 18446744073709551616 < Q / 18446744073709551616
  · rw [if_pos c1, decide_eq_true (by omega)]
  · rw [if_neg c1]
    by_cases c2 : P / 18446744073709551616 = Q / 18446744073709551616
    · rw [if_pos c2]
      by_cases c3 : P % 18446744073709551616 < Q % 18446744073709551616
      · rw [decide_eq_true c3, decide_eq_true (by omega)]
      · rw [decide_eq_false c3, decide_eq_false (by omega)]
    · rw [if_neg c2, decide_eq_false (by omega)]
theorem rbelow_f {x y P Q : Int} (e1 : x = if x < 0 then -P else P) (e2 : y = if y < 0 then -Q else Q) :
    ref02_below.f (decide (x < 0)) (P / 18446744073709551616) (P % 18446744073709551616) (decide (y < 0)) (Q / 18446744073709551616) (Q % 18446744073709551616) = some (decide (x < y)) := by
  unfold ref02_below.f
  rw [rless_f, rless_f]
  simp only [Option.bind_some]
  by_cases hx : x < 0 <;> by_cases hy : y < 0
  · rw [if_pos hx] at e1; rw [if_pos hy] at e2
    simp only [hx, hy, decide_true, bne_self_eq_false, Bool.false_eq_true, if_false, if_true]
    exact congrArg some (decide_eq_decide.2 (by omega))
  · simp only [hx, hy, decide_true, decide_false, show (true != false) = true from rfl, if_true]
    exact congrArg some (decide_eq_true (by omega)).symm
  · simp only [hx, hy, decide_true, decide_false, show (false != true) = true from rfl, if_true]
    exact congrArg some (decide_eq_false (by omega)).symm
  · rw [if_neg hx] at e1; rw [if_neg hy] at e2
    simp only [hx, hy, decide_false, bne_self_eq_false, Bool.false_eq_true, if_false]
    exact congrArg some (decide_eq_decide.2 (by omega))
theorem neg_bool {a b : Int} : (if (decide (a < 0) != decide (b < 0)) = true then (!(ab a * ab b / 18446744073709551616 == 0) || !(ab a * ab b % 18446744073709551616 == 0)) else false) = decide (a * b < 0) := by
  by_cases h : a * b = 0
  · have h2 := ab_mul.2 h
    rw [h2, decide_eq_false (show ¬ a * b < 0 by omega)]; split <;> rfl
  · have h2 := mul_neg_iff h
    have h3 : ab a * ab b ≠ 0 := fun e => h (ab_mul.1 e)
    have h4 : (!(ab a * ab b / 18446744073709551616 == 0) || !(ab a * ab b % 18446744073709551616 == 0)) = true := by
      by_cases z : ab a * ab b / 18446744073709551616 = 0
      · have : ab a * ab b % 18446744073709551616 ≠ 0 := by clear h2; omega
        simp [this]
      · simp [z]
    rw [h4]
    by_cases hh : a * b < 0 <;> by_cases c : a < 0 <;> by_cases d : b < 0 <;> simp [hh, c, d] at h2 ⊢
theorem rcmp_f {a b c d : Int} (ha : I64 a) (hb : I64 b) (hc : I64 c) (hd : I64 d) : Ev (fun k => ref02_Cmp.f k a b c d) (cmpI (a * b) (c * d)) := by
  unfold ref02_Cmp.f
  rw [rsize_f ha, rsize_f hb, rsize_f hc, rsize_f hd]
  simp only [Option.bind_some]
  refine Ev.bind (rtimes_f ⟨ab_nonneg a, ab_le ha⟩ ⟨ab_nonneg b, ab_le hb⟩) ?_
  refine Ev.bind (rtimes_f ⟨ab_nonneg c, ab_le hc⟩ ⟨ab_nonneg d, ab_le hd⟩) ?_
  have n1 := neg_bool (a := a) (b := b)
  have n2 := neg_bool (a := c) (b := d)
  have e1 := neg_prod (a := a) (b := b)
  have e2 := neg_prod (a := c) (b := d)
  have hj1 : Ev (fun k => ref02_Cmp.j1 k (decide (a * b < 0)) (decide (c * d < 0)) (ab a * ab b / 18446744073709551616) (ab a * ab b % 18446744073709551616) (ab c * ab d / 18446744073709551616) (ab c * ab d % 18446744073709551616)) (cmpI (a * b) (c * d)) := by
    refine Ev.step (f := fun _ => some _) (fun k => ?_) (Ev.now _)
    rw [ref02_Cmp.j1.eq_2, rbelow_f e1 e2, rbelow_f e2 e1]
    simp only [Option.bind_some]
    unfold cmpI
    by_cases c1 : a * b < c * d
    · simp only [c1, decide_true, if_true]
    · simp only [c1, decide_false, Bool.false_eq_true, if_false]
      by_cases c2 : c * d < a * b
      · simp only [c2, decide_true, if_true]
      · simp only [c2, decide_false, Bool.false_eq_true, if_false]
  have hj0 : Ev (fun k => ref02_Cmp.j0 k c d (decide (a * b < 0)) (ab a * ab b / 18446744073709551616) (ab a * ab b % 18446744073709551616) (ab c * ab d / 18446744073709551616) (ab c * ab d % 18446744073709551616)) (cmpI (a * b) (c * d)) := by
    rw [← n2] at hj1
    refine Ev.step (fun k => ?_) hj1
    rw [ref02_Cmp.j0.eq_2]
    by_cases z : (decide (c < 0) != decide (d < 0)) = true
    · rw [if_pos z, if_pos z]
    · rw [if_neg z, if_neg z]
  rw [← n1] at hj0
  by_cases z : (decide (a < 0) != decide (b < 0)) = true
  · simp only [if_pos z] at hj0 ⊢; exact hj0
  · simp only [if_neg z] at hj0 ⊢; exact hj0
end Go.Proofs.Ytjfnhhfgjomliaa.M

/- what the reference's By tells -/
namespace Go.Proofs.Ytjfnhhfgjomliaa.M
open Go.RowKit Go.Proofs.YtjfnhhfgjomliaaW.PrintWords Go.Proofs.YtjfnhhfgjomliaaW.PrintLast Go.Proofs.YtjfnhhfgjomliaaW.PrintMore Go.Proofs.Ytjfnhhfgjomliaa.Q

def sa (a x : Int) : Int := if a < 0 then -x else x
def lowS (a w S : Int) : Int := sa a (ab a * w / S)
theorem rnd_bd {x A S : Int} (hS : 0 < S) (h0 : 0 ≤ x) (h1 : x ≤ A * S) : 0 ≤ rnd x S ∧ rnd x S ≤ A ∧ 0 ≤ x / S ∧ x / S ≤ A := by
  have e := Int.mul_ediv_add_emod x S
  have hr1 := Int.emod_nonneg x (show S ≠ 0 by omega)
  have hr2 := Int.emod_lt_of_pos x hS
  have hq : 0 ≤ x / S := Int.ediv_nonneg h0 (by omega)
  have hle : x / S ≤ A := by
    have : S * (x / S) ≤ S * A := by rw [Int.mul_comm S A]; omega
    exact Int.le_of_mul_le_mul_left this hS
  unfold rnd
  by_cases c : S - x % S ≤ x % S
  · rw [if_pos c]
    have : x / S < A := by
      have : S * (x / S) < S * A := by rw [Int.mul_comm S A]; omega
      exact Int.lt_of_mul_lt_mul_left this (by omega)
    omega
  · rw [if_neg c]; omega
theorem frac_md {a w S : Int} (ha : I64 a) (hS : 0 < S) (h0 : 0 ≤ w) (h1 : w ≤ S) : mulDiv a w S = (sa a (rnd (ab a * w) S), 0) ∧ I64 (sa a (rnd (ab a * w) S)) := by
  have hA := ab_le ha
  have hA0 := ab_nonneg a
  have hcs := ab_cases a
  have hb := rnd_bd (x := ab a * w) (A := ab a) hS (Int.mul_nonneg hA0 h0) (Int.mul_le_mul_of_nonneg_left h1 hA0)
  have hw : ab w = w := by unfold ab; rw [if_neg (by omega)]
  have hSS : ab S = S := by unfold ab; rw [if_neg (by omega)]
  have hng : ngs a w S = decide (a < 0) := by
    unfold ngs; rw [decide_eq_false (show ¬ w < 0 by omega), decide_eq_false (show ¬ S < 0 by omega)]; simp
  have e : sg (decide (a < 0)) (rnd (ab a * w) S) = sa a (rnd (ab a * w) S) := by
    unfold sg sa; by_cases c : a < 0 <;> simp [c]
  have hI : I64 (sa a (rnd (ab a * w) S)) := by
    unfold sa I64 at *; split <;> omega
  refine ⟨?_, hI⟩
  unfold mulDiv; rw [if_neg (by omega), hng, hw, hSS, e]; unfold fit; unfold I64 at hI; rw [if_pos hI]
theorem rlow_f {a w S : Int} (ha : I64 a) (hS : 0 < S) (hSI : I64 S) (h0 : 0 ≤ w) (h1 : w ≤ S) : Ev (fun k => ref04_low.f k a w S) (lowS a w S) := by
  have hm := frac_md ha hS h0 h1
  have hwI : I64 w := by unfold I64 at *; omega
  have k1 := rmuldiv_f ha hwI hSI
  rw [hm.1] at k1
  have k2 := rcmp_f hm.2 hSI ha hwI
  have hA := ab_le ha
  have hA0 := ab_nonneg a
  have hx0 := Int.mul_nonneg hA0 h0
  have hb := rnd_bd (x := ab a * w) (A := ab a) hS hx0 (Int.mul_le_mul_of_nonneg_left h1 hA0)
  have e := Int.mul_ediv_add_emod (ab a * w) S
  have hr1 := Int.emod_nonneg (ab a * w) (show S ≠ 0 by omega)
  have hr2 := Int.emod_lt_of_pos (ab a * w) hS
  have hI := hm.2
  unfold ref04_low.f
  refine Ev.bind k1 (Ev.bind (f := fun k t => if a > 0 then (ref04_low.j0 k a (sa a (rnd (ab a * w) S)) t (decide (t > 0))) else (ref04_low.j0 k a (sa a (rnd (ab a * w) S)) t false)) k2 ?_)
  -- the size's own: rounded up or not
  have hup : (rnd (ab a * w) S = ab a * w / S + 1 ∧ ab a * w < rnd (ab a * w) S * S) ∨ (rnd (ab a * w) S = ab a * w / S ∧ rnd (ab a * w) S * S ≤ ab a * w) := by
    have e3 := Int.mul_comm S (ab a * w / S)
    unfold rnd
    by_cases c : S - ab a * w % S ≤ ab a * w % S
    · rw [if_pos c, Int.add_mul, Int.one_mul]; left; exact ⟨rfl, by omega⟩
    · rw [if_neg c]; right; exact ⟨rfl, by omega⟩
  unfold lowS
  generalize hn : rnd (ab a * w) S = n at *
  generalize hq : ab a * w / S = q at *
  rcases ab_cases a with ⟨c, ea⟩ | ⟨c, ea⟩
  · have s1 : sa a n = -n := by unfold sa; rw [if_pos c]
    have s2 : sa a q = -q := by unfold sa; rw [if_pos c]
    rw [s1] at hI ⊢
    rw [s2]
    have e4 : a * w = -(ab a * w) := by rw [ea, Int.neg_mul, Int.neg_neg]
    simp only [if_neg (show ¬ a > 0 by omega), e4, Int.neg_mul]
    refine Ev.step (f := fun _ => some (-q)) (fun k => ?_) (Ev.now _)
    rw [ref04_low.j0.eq_2, if_neg (by decide), if_pos c]
    unfold cmpI
    rcases hup with ⟨h2, h3⟩ | ⟨h2, h3⟩
    · rw [if_pos (by omega), w64_in (by unfold I64 at *; omega), h2]; congr 1; omega
    · rw [if_neg (by omega), h2]
  · have s1 : sa a n = n := by unfold sa; rw [if_neg c]
    have s2 : sa a q = q := by unfold sa; rw [if_neg c]
    rw [s1] at hI ⊢
    rw [s2]
    have e4 : a * w = ab a * w := by rw [ea]
    rw [e4]
    unfold cmpI
    by_cases c0 : a > 0
    · simp only [if_pos c0]
      refine Ev.step (f := fun _ => some q) (fun k => ?_) (Ev.now _)
      rcases hup with ⟨h2, h3⟩ | ⟨h2, h3⟩
      · rw [if_neg (by omega), if_pos h3, ref04_low.j0.eq_2, if_pos (by decide), w64_in (by unfold I64 at *; omega), h2]; congr 1; omega
      · rw [h2] at h3 ⊢
        by_cases c5 : q * S < ab a * w
        · rw [if_pos c5, ref04_low.j0.eq_2, if_neg (by decide), if_neg c]
        · rw [if_neg c5, if_neg (by omega), ref04_low.j0.eq_2, if_neg (by decide), if_neg c]
    · simp only [if_neg c0]
      have ha0 : ab a = 0 := by omega
      refine Ev.step (f := fun _ => some q) (fun k => ?_) (Ev.now _)
      rw [ref04_low.j0.eq_2, if_neg (by decide), if_neg c]
      congr 1; omega
theorem rfur_f {a S u v : Int} (ha : I64 a) (hS : 0 < S) (hSI : I64 S) (hu : 0 ≤ u ∧ u ≤ S) (hv : 0 ≤ v ∧ v ≤ S) (h1 : ab a * u / S ≤ ab a - 1) (h2 : ab a * v / S ≤ ab a - 1) :
    Ev (fun k => ref04_further.f k a S u (lowS a u S) v (lowS a v S)) (decide (ab a * v % S < ab a * u % S)) := by
  have hA := ab_le ha
  have hA0 := ab_nonneg a
  have q1 : 0 ≤ ab a * u / S := Int.ediv_nonneg (Int.mul_nonneg hA0 hu.1) (by omega)
  have q2 : 0 ≤ ab a * v / S := Int.ediv_nonneg (Int.mul_nonneg hA0 hv.1) (by omega)
  have e1 := Int.mul_ediv_add_emod (ab a * u) S
  have e2 := Int.mul_ediv_add_emod (ab a * v) S
  have w1 : wrap64 (u - v) = u - v := w64_in (by unfold I64 at *; omega)
  have w2 : wrap64 (lowS a u S - lowS a v S) = lowS a u S - lowS a v S := w64_in (by unfold lowS sa I64 at *; split <;> omega)
  have hI : I64 (lowS a u S - lowS a v S) := by unfold lowS sa I64 at *; split <;> omega
  unfold ref04_further.f
  rw [w1, w2]
  refine Ev.bind (rcmp_f ha (show I64 (u - v) by unfold I64 at *; omega) hI hSI) ?_
  have x1 : ab a * (u - v) = ab a * u - ab a * v := Int.mul_sub _ _ _
  unfold lowS
  generalize ab a * u / S = p at *
  generalize ab a * v / S = q at *
  have x2 : (p - q) * S = S * p - S * q := by rw [Int.sub_mul, Int.mul_comm p, Int.mul_comm q]
  rcases ab_cases a with ⟨c, ea⟩ | ⟨c, ea⟩
  · have s1 : sa a p - sa a q = -(p - q) := by unfold sa; rw [if_pos c, if_pos c]; omega
    have s2 : a * (u - v) = -(ab a * (u - v)) := by rw [ea, Int.neg_mul, Int.neg_neg]
    rw [s1, s2, Int.neg_mul]
    simp only [if_pos c]
    have : cmpI (-(ab a * (u - v))) (-((p - q) * S)) = if ab a * v % S < ab a * u % S then -1 else if ab a * u % S < ab a * v % S then 1 else 0 := by
      unfold cmpI
      by_cases c1 : ab a * v % S < ab a * u % S
      · rw [if_pos c1, if_pos (by omega)]
      · rw [if_neg c1, if_neg (by omega)]
        by_cases c2 : ab a * u % S < ab a * v % S
        · rw [if_pos c2, if_pos (by omega)]
        · rw [if_neg c2, if_neg (by omega)]
    rw [this]
    by_cases c1 : ab a * v % S < ab a * u % S
    · rw [if_pos c1, decide_eq_true c1]; exact evk (by decide +kernel)
    · rw [if_neg c1, decide_eq_false c1]; split <;> exact evk (by decide +kernel)
  · have s1 : sa a p - sa a q = p - q := by unfold sa; rw [if_neg c, if_neg c]
    have s2 : a * (u - v) = ab a * (u - v) := by rw [ea]
    rw [s1, s2]
    simp only [if_neg c]
    have : cmpI (ab a * (u - v)) ((p - q) * S) = if ab a * v % S < ab a * u % S then 1 else if ab a * u % S < ab a * v % S then -1 else 0 := by
      unfold cmpI
      by_cases c1 : ab a * v % S < ab a * u % S
      · rw [if_pos c1, if_neg (by omega), if_pos (by omega)]
      · rw [if_neg c1]
        by_cases c2 : ab a * u % S < ab a * v % S
        · rw [if_pos c2, if_pos (by omega)]
        · rw [if_neg c2, if_neg (by omega), if_neg (by omega)]
    rw [this]
    by_cases c1 : ab a * v % S < ab a * u % S
    · rw [if_pos c1, decide_eq_true c1]; exact evk (by decide +kernel)
    · rw [if_neg c1, decide_eq_false c1]; split <;> exact evk (by decide +kernel)

/-! ### the part with the greatest rest, of those that were not taken -/
def tk (T : List Bool) (m : Nat) : Bool := T.getD m false
theorem rdb {T : List Bool} (i : Nat) : rdOf false T (i : Int) = tk T i := by unfold rdOf tk; rw [Int.toNat_natCast]
theorem rdn {L : List Int} (i : Nat) : rd L (i : Int) = wN L i := by unfold rd wN; rw [Int.toNat_natCast]
theorem best_l0 {a S : Int} {l P : List Int} {T : List Bool} {n : Nat} (ha : I64 a) (hS : 0 < S) (hSI : I64 S) (hl : l.length = n) (hP : P.length = n) (hT : T.length = n) (hn : n ≤ 100)
    (hw : ∀ m, m < n → 0 ≤ wN l m ∧ wN l m ≤ S) (hq : ∀ m, m < n → ab a * wN l m / S ≤ ab a - 1) (hv : ∀ m, m < n → wN P m = lowS a (wN l m) S) (d : Nat) :
    ∀ (i : Nat) (t : Int), i + d = n → (t = -1 ∧ (∀ j, j < i → tk T j = true) ∨ ∃ b : Nat, t = (b : Int) ∧ b < i ∧ tk T b = false ∧ ∀ j, j < i → tk T j = false → j ≠ b → ab a * wN l j % S < ab a * wN l b % S ∨ (ab a * wN l j % S = ab a * wN l b % S ∧ b < j)) →
    ∃ u : Int, Ev (fun k => ref04_best.l0 k a l S P T t (i : Int)) u ∧ (u = -1 ∧ (∀ j, j < n → tk T j = true) ∨ ∃ b : Nat, u = (b : Int) ∧ b < n ∧ tk T b = false ∧ ∀ j, j < n → tk T j = false → j ≠ b → ab a * wN l j % S < ab a * wN l b % S ∨ (ab a * wN l j % S = ab a * wN l b % S ∧ b < j)) := by
  induction d with
  | zero =>
    intro i t hi h
    have : i = n := by omega
    subst this
    refine ⟨t, ?_, h⟩
    refine Ev.step (f := fun _ => some _) (fun k => ?_) (Ev.now _)
    rw [ref04_best.l0.eq_2, if_neg (by omega)]
  | succ d ih =>
    intro i t hi h
    have w1 := w_one i (by omega)
    by_cases c1 : tk T i = true
    · obtain ⟨u, hE, hu⟩ := ih (i + 1) t (by omega) (by
        rcases h with ⟨h1, h2⟩ | ⟨b, h1, h2, h3, h4⟩
        · refine .inl ⟨h1, fun j hj => ?_⟩
          by_cases e : j = i
          · rw [e]; exact c1
          · exact h2 j (by omega)
        · refine .inr ⟨b, h1, by omega, h3, fun j hj hf hne => ?_⟩
          by_cases e : j = i
          · rw [e, c1] at hf; exact absurd hf (by decide)
          · exact h4 j (by omega) hf hne)
      refine ⟨u, Ev.step (fun k => ?_) hE, hu⟩
      rw [ref04_best.l0.eq_2, if_pos (by omega), if_pos (by omega), if_pos (by omega), rdb, if_pos c1, w1]
    · have c1f : tk T i = false := by simpa using c1
      rcases h with ⟨h1, h2⟩ | ⟨b, h1, h2, h3, h4⟩
      · obtain ⟨u, hE, hu⟩ := ih (i + 1) (i : Int) (by omega) (.inr ⟨i, rfl, by omega, c1f, fun j hj hf hne => by
          have := h2 j (by omega); rw [hf] at this; exact absurd this (by decide)⟩)
        refine ⟨u, Ev.step (fun k => ?_) hE, hu⟩
        rw [ref04_best.l0.eq_2, if_pos (by omega), if_pos (by omega), if_pos (by omega), rdb, if_neg c1, if_pos (by omega), w1]
      · subst h1
        have hf := rfur_f ha hS hSI (hw i (by omega)) (hw b (by omega)) (hq i (by omega)) (hq b (by omega))
        have step : ∀ u, Ev (fun k => if decide (ab a * wN l b % S < ab a * wN l i % S) = true then (ref04_best.l0 k a l S P T (i : Int) ((i + 1 : Nat) : Int)) else (ref04_best.l0 k a l S P T (b : Int) ((i + 1 : Nat) : Int))) u → Ev (fun k => ref04_best.l0 k a l S P T (b : Int) (i : Int)) u := by
          intro u hu
          refine Ev.step (fun k => ?_) (Ev.bind (f := fun k t => if t = true then (ref04_best.l0 k a l S P T (i : Int) ((i + 1 : Nat) : Int)) else (ref04_best.l0 k a l S P T (b : Int) ((i + 1 : Nat) : Int))) hf hu)
          rw [ref04_best.l0.eq_2, if_pos (by omega), if_pos (by omega), if_pos (by omega), rdb, if_neg c1, if_neg (by omega), if_pos (by omega), if_pos (by omega), if_pos (by omega), if_pos (by omega), rdn, rdn, rdn, rdn, hv i (by omega), hv b (by omega), w1]
        by_cases c2 : ab a * wN l b % S < ab a * wN l i % S
        · obtain ⟨u, hE, hu⟩ := ih (i + 1) (i : Int) (by omega) (.inr ⟨i, rfl, by omega, c1f, fun j hj hfj hne => by
            by_cases e : j = b
            · rw [e]; exact .inl c2
            · rcases h4 j (by omega) hfj e with g | ⟨g, _⟩
              · left; omega
              · left; omega⟩)
          refine ⟨u, step u ?_, hu⟩
          simp only [decide_eq_true c2, if_true]; exact hE
        · obtain ⟨u, hE, hu⟩ := ih (i + 1) (b : Int) (by omega) (.inr ⟨b, rfl, by omega, h3, fun j hj hfj hne => by
            by_cases e : j = i
            · subst e
              by_cases e2 : ab a * wN l j % S = ab a * wN l b % S
              · exact .inr ⟨e2, h2⟩
              · left; omega
            · exact h4 j (by omega) hfj hne⟩)
          refine ⟨u, step u ?_, hu⟩
          simp only [decide_eq_false c2, Bool.false_eq_true, if_false]; exact hE
theorem cnt_all {δ : Nat → Bool} : ∀ n, (∀ i, i < n → δ i = true) → cnt δ n = n
  | 0, _ => rfl
  | n + 1, h => by rw [cnt_succ, cnt_all n (fun i hi => h i (by omega)), if_pos (h n (by omega))]
theorem cnt_set {δ ε : Nat → Bool} {b : Nat} (hb : δ b = false) (he : ∀ m, ε m = if m = b then true else δ m) : ∀ n, cnt ε n = cnt δ n + (if b < n then 1 else 0)
  | 0 => by simp [cnt]
  | n + 1 => by
    rw [cnt_succ, cnt_succ, cnt_set hb he n, he n]
    by_cases c : n = b
    · subst c; rw [if_pos rfl, hb]; simp
    · rw [if_neg c]
      by_cases d : b < n
      · rw [if_pos d, if_pos (show b < n + 1 by omega)]; omega
      · rw [if_neg d, if_neg (show ¬ b < n + 1 by omega)]; omega
theorem tk_set {T : List Bool} {b : Nat} (hb : b < T.length) (m : Nat) : tk (T.set b true) m = if m = b then true else tk T m := by
  unfold tk
  rw [List.getD_eq_getElem?_getD, List.getElem?_set]
  by_cases c : b = m
  · subst c; rw [if_pos rfl, if_pos hb, if_pos rfl]; rfl
  · rw [if_neg c, if_neg (fun h => c h.symm), List.getD_eq_getElem?_getD]
theorem wN_set {L : List Int} {b : Nat} {v : Int} (hb : b < L.length) (m : Nat) : wN (L.set b v) m = if m = b then v else wN L m := by
  unfold wN
  rw [List.getD_eq_getElem?_getD, List.getElem?_set]
  by_cases c : b = m
  · subst c; rw [if_pos rfl, if_pos hb, if_pos rfl]; rfl
  · rw [if_neg c, if_neg (fun h => c h.symm), List.getD_eq_getElem?_getD]
theorem rby_l2 {a S : Int} {l P : List Int} {n left : Nat} (ha : I64 a) (hS : 0 < S) (hSI : I64 S) (hl : l.length = n) (hP : P.length = n) (hn : n ≤ 100)
    (hw : ∀ m, m < n → 0 ≤ wN l m ∧ wN l m ≤ S) (hq0 : ∀ m, m < n → 0 ≤ ab a * wN l m / S) (hq : 0 < left → ∀ m, m < n → ab a * wN l m / S ≤ ab a - 1) (hv : ∀ m, m < n → wN P m = lowS a (wN l m) S) (hln : left ≤ n) (hap : 0 < left → a ≠ 0) (d : Nat) :
    ∀ (T : List Bool) (out : List Int), T.length = n → out.length = n → cnt (tk T) n + d = left →
    (∀ i j, i < n → j < n → tk T i = true → tk T j = false → ab a * wN l j % S < ab a * wN l i % S ∨ (ab a * wN l j % S = ab a * wN l i % S ∧ i < j)) →
    (∀ m, m < n → wN out m = sa a (ab a * wN l m / S + if tk T m = true then 1 else 0)) →
    ∃ (out' : List Int) (ε : Nat → Bool), Ev (fun k => ref04_By.l2 k a l S P (sa a (d : Int)) T out) (out', 0) ∧ out'.length = n ∧ Dl (fun i => ab a * wN l i % S) n left ε ∧
      (∀ m, m < n → wN out' m = sa a (ab a * wN l m / S + if ε m = true then 1 else 0)) := by
  induction d with
  | zero =>
    intro T out hT ho hc hord hout
    refine ⟨out, tk T, ?_, ho, ⟨by omega, hord⟩, hout⟩
    refine Ev.step (f := fun _ => some _) (fun k => ?_) (Ev.now _)
    rw [ref04_By.l2.eq_2, if_pos (by unfold sa; split <;> rfl)]
  | succ d ih =>
    intro T out hT ho hc hord hout
    have hlp : 0 < left := by omega
    have ha0 := hap hlp
    obtain ⟨u, hE, hu⟩ := best_l0 ha hS hSI hl hP hT hn hw (hq hlp) hv n 0 (-1) (by omega) (.inl ⟨rfl, fun j hj => absurd hj (Nat.not_lt_zero _)⟩)
    have hub : ∃ b : Nat, u = (b : Int) ∧ b < n ∧ tk T b = false ∧ ∀ j, j < n → tk T j = false → j ≠ b → ab a * wN l j % S < ab a * wN l b % S ∨ (ab a * wN l j % S = ab a * wN l b % S ∧ b < j) := by
      rcases hu with ⟨_, h⟩ | h
      · have := cnt_all n h; omega
      · exact h
    obtain ⟨b, rfl, hbn, hbf, hbest⟩ := hub
    have hts := tk_set (T := T) (b := b) (by omega)
    have hcn := cnt_set (δ := tk T) (ε := tk (T.set b true)) hbf hts n
    rw [if_pos hbn] at hcn
    have hA := ab_le ha
    have hb1 := hq hlp b hbn
    have hb0 := hq0 b hbn
    have hob : wN out b = sa a (ab a * wN l b / S) := by rw [hout b hbn, hbf]; simp
    obtain ⟨out', ε, hEv, g1, g2, g3⟩ := ih (T.set b true) (out.set b (sa a (ab a * wN l b / S + 1))) (by simp [hT]) (by simp [ho]) (by omega) (by
      intro i j hi hj h1 h2
      rw [hts] at h1 h2
      by_cases e2 : j = b
      · rw [if_pos e2] at h2; exact absurd h2 (by decide)
      · rw [if_neg e2] at h2
        by_cases e1 : i = b
        · subst e1; exact hbest j hj h2 e2
        · rw [if_neg e1] at h1; exact hord i j hi hj h1 h2) (by
      intro m hm
      rw [wN_set (by omega), hts]
      by_cases e : m = b
      · rw [if_pos e, if_pos e, if_pos rfl, e]
      · rw [if_neg e, if_neg e]; exact hout m hm)
    refine ⟨out', ε, ?_, g1, g2, g3⟩
    have hEb : Ev (fun k => ref04_best.f k a l S P T) (b : Int) := hE
    have hs0 : ¬ sa a (((d + 1 : Nat)) : Int) = 0 := by unfold sa; split <;> omega
    have hdn : (d : Int) + 1 ≤ 100 := by omega
    refine Ev.step (fun k => ?_) (Ev.bind (f := fun k t => if 0 ≤ t then (if t < (T.length : Int) then ((some (T.set (t : Int).toNat true : List Bool)).bind fun y310 => (if sa a (((d + 1 : Nat)) : Int) > 0 then (if t < (out.length : Int) then (ref04_By.l2 k a l S P (wrap64 (sa a (((d + 1 : Nat)) : Int) - 1)) y310 (out.set (t : Int).toNat (wrap64 ((rd out t) + 1)))) else (none)) else (if t < (out.length : Int) then (ref04_By.l2 k a l S P (wrap64 (sa a (((d + 1 : Nat)) : Int) + 1)) y310 (out.set (t : Int).toNat (wrap64 ((rd out t) - 1)))) else (none)))) else (none)) else (none)) hEb ?_)
    · rw [ref04_By.l2.eq_2, if_neg hs0]
    · simp only [if_pos (show (0 : Int) ≤ (b : Int) by omega), if_pos (show (b : Int) < (T.length : Int) by omega), if_pos (show (b : Int) < (out.length : Int) by omega), Int.toNat_natCast, Option.bind_some, rdn, hob]
      by_cases c : a < 0
      · have e1 : wrap64 (sa a (((d + 1 : Nat)) : Int) + 1) = sa a (d : Int) := by unfold sa; rw [if_pos c, if_pos c]; unfold wrap64; omega
        have e2 : wrap64 (sa a (ab a * wN l b / S) - 1) = sa a (ab a * wN l b / S + 1) := by unfold sa; rw [if_pos c, if_pos c]; unfold wrap64; omega
        simp only [if_neg (show ¬ sa a (((d + 1 : Nat)) : Int) > 0 by unfold sa; rw [if_pos c]; omega), e1, e2]
        exact hEv
      · have e1 : wrap64 (sa a (((d + 1 : Nat)) : Int) - 1) = sa a (d : Int) := by unfold sa; rw [if_neg c, if_neg c]; unfold wrap64; omega
        have hcs := ab_cases a
        have e2 : wrap64 (sa a (ab a * wN l b / S) + 1) = sa a (ab a * wN l b / S + 1) := by unfold sa; rw [if_neg c, if_neg c]; unfold I64 at ha; unfold wrap64; omega
        simp only [if_pos (show sa a (((d + 1 : Nat)) : Int) > 0 by unfold sa; rw [if_neg c]; omega), e1, e2]
        exact hEv

/-! ### the whole of By -/
theorem rby_l0_neg {a : Int} {l : List Int} (hl : l.length ≤ 100) (T : List Int) : ∀ (P : List Int) (i : Nat), l = P ++ T → P.length = i → (∃ w ∈ T, w < 0) →
    Ev (fun k => ref04_By.l0 k a l (i : Int)) ([], 1) := by
  induction T with
  | nil => intro P i _ _ h; obtain ⟨w, hw, _⟩ := h; exact absurd hw List.not_mem_nil
  | cons x T ih =>
    intro P i e hi h
    have hlen : l.length = i + 1 + T.length := by rw [e]; simp; omega
    have r : rd l (i : Int) = x := by unfold rd; rw [Int.toNat_natCast]; exact rd_int e hi
    by_cases c : x < 0
    · refine Ev.step (f := fun _ => some _) (fun k => ?_) (Ev.now _)
      rw [ref04_By.l0.eq_2, if_pos (by omega), if_pos (by omega), r, if_pos c]
    · have := ih (P ++ [x]) (i + 1) (by rw [e]; simp) (by simp; omega) (by
        obtain ⟨w, hw, hn⟩ := h
        rcases List.mem_cons.1 hw with rfl | hw
        · exact absurd hn c
        · exact ⟨w, hw, hn⟩)
      refine Ev.step (fun k => ?_) this
      rw [ref04_By.l0.eq_2, if_pos (by omega), if_pos (by omega), r, if_neg c, w_one i (by omega)]
theorem rby_l0_pos {a : Int} {l : List Int} {r : List Int × Int} (hl : l.length ≤ 100) (hr : Ev (fun k => (ref01_Sum.f k l).bind fun t => (if t.2 = 0 then (if t.1 = 0 then (some (([] : List Int), 3)) else (ref04_By.l1 k a l t.1 ([] : List Int) a 0)) else (some (([] : List Int), t.2)))) r) (T : List Int) : ∀ (P : List Int) (i : Nat), l = P ++ T → P.length = i → (∀ w ∈ T, ¬ w < 0) →
    Ev (fun k => ref04_By.l0 k a l (i : Int)) r := by
  induction T with
  | nil =>
    intro P i e hi h
    have hlen : l.length = i := by rw [e]; simp; omega
    refine Ev.step (fun k => ?_) hr
    rw [ref04_By.l0.eq_2, if_neg (by omega)]
  | cons x T ih =>
    intro P i e hi h
    have hlen : l.length = i + 1 + T.length := by rw [e]; simp; omega
    have r : rd l (i : Int) = x := by unfold rd; rw [Int.toNat_natCast]; exact rd_int e hi
    have := ih (P ++ [x]) (i + 1) (by rw [e]; simp) (by simp; omega) (fun w hw => h w (List.mem_cons_of_mem _ hw))
    refine Ev.step (fun k => ?_) this
    rw [ref04_By.l0.eq_2, if_pos (by omega), if_pos (by omega), r, if_neg (h x List.mem_cons_self), w_one i (by omega)]
def lowsL (a S : Int) (l : List Int) (i : Nat) : List Int := (List.range i).map (fun m => lowS a (wN l m) S)
theorem lows_len (a S : Int) (l : List Int) (i : Nat) : (lowsL a S l i).length = i := by unfold lowsL; simp
theorem lows_at {a S : Int} {l : List Int} {n m : Nat} (h : m < n) : wN (lowsL a S l n) m = lowS a (wN l m) S := by
  unfold wN lowsL
  rw [List.getD_eq_getElem?_getD, List.getElem?_map, List.getElem?_range h]; rfl
theorem lows_succ (a S : Int) (l : List Int) (i : Nat) : lowsL a S l i ++ [lowS a (wN l i) S] = lowsL a S l (i + 1) := by
  unfold lowsL; rw [List.range_succ, List.map_append]; rfl
theorem rby_l1 {a S : Int} {l : List Int} {r : List Int × Int} {z : Int} (ha : I64 a) (hS : 0 < S) (hSI : I64 S) (hl : l.length ≤ 100) (hw : ∀ m, m < l.length → 0 ≤ wN l m ∧ wN l m ≤ S)
    (hz : wrap64 (a - tot (fun m => lowS a (wN l m) S) l.length) = z) (hr : Ev (fun k => ref04_By.l2 k a l S (lowsL a S l l.length) z (List.replicate l.length false) (lowsL a S l l.length)) r) (d : Nat) :
    ∀ (i : Nat) (x : Int), i + d = l.length → x = wrap64 (a - tot (fun m => lowS a (wN l m) S) i) → Ev (fun k => ref04_By.l1 k a l S (lowsL a S l i) x (i : Int)) r := by
  induction d with
  | zero =>
    intro i x hi hx
    have hi : i = l.length := by omega
    subst hi
    refine Ev.step (fun k => ?_) hr
    rw [ref04_By.l1.eq_2, if_neg (by omega), hx, hz, lows_len]
    simp only [if_pos (show (0 : Int) ≤ (l.length : Int) by omega), Int.toNat_natCast, if_pos (show l.length ≤ 281474976710656 by omega), Option.bind_some, List.length_nil, Nat.zero_add, if_pos (show l.length < 17592186044416 by omega), List.nil_append]
  | succ d ih =>
    intro i x hi hx
    have hwi := hw i (by omega)
    have e1 : wN (lowsL a S l (i + 1)) i = lowS a (wN l i) S := lows_at (by omega)
    have := ih (i + 1) (wrap64 (x - lowS a (wN l i) S)) (by omega) (by rw [hx, tot]; unfold wrap64; omega)
    refine Ev.step (fun k => ?_) (Ev.bind (f := fun k t => if (lowsL a S l i).length < 17592186044416 then ((some (lowsL a S l i ++ [t] : List Int)).bind fun y => (if (i : Int) < (y.length : Int) then (ref04_By.l1 k a l S y (wrap64 (x - (rd y (i : Int)))) ((i + 1 : Nat) : Int)) else (none))) else (none)) (rlow_f ha hS hSI hwi.1 hwi.2) ?_)
    · rw [ref04_By.l1.eq_2, if_pos (by omega), if_pos (by omega), rdn, w_one i (by omega)]
    · simp only [lows_len, if_pos (show i < 17592186044416 by omega), Option.bind_some, lows_succ, rdn, e1, if_pos (show (i : Int) < ((i + 1 : Nat) : Int) by omega)]
      exact this
theorem tk_rep (n m : Nat) : tk (List.replicate n false) m = false := by
  unfold tk; rw [List.getD_eq_getElem?_getD, List.getElem?_replicate]; split <;> rfl
theorem cnt_none {δ : Nat → Bool} : ∀ n, (∀ i, δ i = false) → cnt δ n = 0
  | 0, _ => rfl
  | n + 1, h => by rw [cnt_succ, cnt_none n h, h n]; rfl
theorem tot_sa {a : Int} (f : Nat → Int) (n : Nat) : tot (fun m => sa a (f m)) n = sa a (tot f n) := by
  by_cases c : a < 0
  · have e : (fun m => sa a (f m)) = fun m => (-1) * f m := by funext m; unfold sa; rw [if_pos c]; omega
    rw [e, tot_mul]; unfold sa; rw [if_pos c]; omega
  · have e : (fun m => sa a (f m)) = f := by funext m; unfold sa; rw [if_neg c]
    rw [e]; unfold sa; rw [if_neg c]
theorem rby04_f {a : Int} {l L : List Int} (ha : I64 a) (hl : ∀ x ∈ l, I64 x) (hno : byErr l ≠ 0 → L = []) (hok : byErr l = 0 → ByOk a l L) :
    ∃ M, Ev (fun k => ref04_By.f k a l) (M, byErr l) ∧ L.length = M.length ∧ ∀ m, m < L.length → L.getD m 0 = M.getD m 0 := by
  by_cases herr : byErr l = 0
  · obtain ⟨S, left, δ, h1, h2, h3, h4, h5, h6, h7, h8, h9, h10, h11⟩ := byok_val (hok herr)
    have c1 : ¬ 100 < l.length := fun c => by unfold byErr at herr; rw [if_pos c] at herr; exact absurd herr (by decide)
    have c2 : ¬ ∃ w ∈ l, w < 0 := fun c => by unfold byErr at herr; rw [if_neg c1, if_pos c] at herr; exact absurd herr (by decide)
    have c3 : (sumS 0 l).2 = 0 := by
      apply Classical.byContradiction
      intro c; unfold byErr at herr; rw [if_neg c1, if_neg c2, if_neg c] at herr; exact c herr
    have hs := sum_tot l 0 c3
    rw [h2, Int.zero_add] at hs
    have hA := ab_le ha
    have hA0 := ab_nonneg a
    have hT0 : tot (fun m => lowS a (wN l m) S) l.length = sa a (tot (fun m => ab a * wN l m / S) l.length) := tot_sa _ _
    have htn := tot_nonneg (f := fun m => ab a * wN l m / S) l.length (fun i hi => h10 i hi)
    have hz : wrap64 (a - tot (fun m => lowS a (wN l m) S) l.length) = sa a (left : Int) := by
      rw [hT0, h4]
      have hcs := ab_cases a
      unfold sa; unfold I64 at ha
      rcases hcs with ⟨c, e⟩ | ⟨c, e⟩
      · rw [if_pos c, if_pos c]; unfold wrap64; omega
      · rw [if_neg c, if_neg c]; unfold wrap64; omega
    have hlb := left_bd (A := ab a) h1 h2
    have hln : left ≤ l.length := by omega
    obtain ⟨M, ε, g1, g2, g3, g4⟩ := rby_l2 (a := a) (S := S) (l := l) (P := lowsL a S l l.length) (n := l.length) (left := left) ha h1 h3 rfl (lows_len _ _ _ _) (by omega) h8 h10 (fun hp m hm => by
      have := tot_one (f := fun i => ab a * wN l i / S) l.length h10 hm
      have : ab a * wN l m / S ≤ tot (fun i => ab a * wN l i / S) l.length := this
      omega) (fun m hm => lows_at hm) hln (fun hp he => by subst he; have : ab 0 = 0 := rfl; omega) left (List.replicate l.length false) (lowsL a S l l.length) (by simp) (lows_len _ _ _ _) (by rw [cnt_none _ (fun i => tk_rep _ i)]; omega) (fun i j _ _ h _ => by rw [tk_rep] at h; exact absurd h (by decide)) (fun m hm => by
        rw [lows_at hm, tk_rep]; unfold lowS; simp)
    have hj := rby_l1 ha h1 h3 (by omega) h8 hz g1 l.length 0 a (by omega) (by unfold I64 at ha; simp only [tot]; unfold wrap64; omega)
    refine ⟨M, ?_, by omega, ?_⟩
    · unfold ref04_By.f
      simp only [if_neg (show ¬ (l.length : Int) > 100 by omega)]
      rw [herr]
      refine rby_l0_pos (by omega) (Ev.bind (f := fun k t => if t.2 = 0 then (if t.1 = 0 then (some (([] : List Int), 3)) else (ref04_By.l1 k a l t.1 ([] : List Int) a 0)) else (some (([] : List Int), t.2))) (rsum_f hl (by omega)) ?_) l [] 0 rfl rfl (fun w hw h => c2 ⟨w, hw, h⟩)
      simp only [if_pos c3, hs, if_neg (show ¬ S = 0 by omega)]
      exact hj
    · intro m hm
      rw [h6] at hm
      have e1 := h7 m hm
      have e2 : M.getD m 0 = _ := g4 m hm
      rw [e1, e2, h5.unique g3 m hm]
      unfold sa; rfl
  · have hL := hno herr
    refine ⟨[], ?_, by rw [hL], fun m hm => by rw [hL] at hm; exact absurd hm (Nat.not_lt_zero _)⟩
    unfold ref04_By.f
    unfold byErr at herr ⊢
    by_cases c1 : 100 < l.length
    · simp only [if_pos c1, if_pos (show (l.length : Int) > 100 by omega)]; exact Ev.now _
    simp only [if_neg c1, if_neg (show ¬ (l.length : Int) > 100 by omega)] at herr ⊢
    by_cases c2 : ∃ w ∈ l, w < 0
    · simp only [if_pos c2]
      exact rby_l0_neg (by omega) l [] 0 rfl rfl c2
    simp only [if_neg c2] at herr ⊢
    refine rby_l0_pos (by omega) (Ev.bind (f := fun k t => if t.2 = 0 then (if t.1 = 0 then (some (([] : List Int), 3)) else (ref04_By.l1 k a l t.1 ([] : List Int) a 0)) else (some (([] : List Int), t.2))) (rsum_f hl (by omega)) ?_) l [] 0 rfl rfl (fun w hw h => c2 ⟨w, hw, h⟩)
    by_cases c3 : (sumS 0 l).2 = 0
    · simp only [if_pos c3] at herr ⊢
      by_cases c4 : (sumS 0 l).1 = 0
      · simp only [if_pos c4]; exact Ev.now _
      · simp only [if_neg c4] at herr; exact absurd trivial herr
    · simp only [if_neg c3]; exact Ev.now _
theorem rshare_f {a p : Int} (ha : I64 a) (h0 : 0 ≤ p) (h1 : p ≤ 10000) : Ev (fun k => ref04_Share.f k a p) (shrS a p, wrap64 (a - shrS a p), 0) := by
  have hm := shr_md ha h0 h1
  unfold ref04_Share.f
  simp only [if_neg (show ¬ p < 0 by omega), if_neg (show ¬ p > 10000 by omega)]
  refine Ev.bind (f := fun k t => some (t.1, wrap64 (a - t.1), (0 : Int))) (rmuldiv_f ha (show I64 p by unfold I64; omega) (show I64 10000 by unfold I64; omega)) ?_
  rw [hm.1]; exact Ev.now _
theorem rshare_bad {a p : Int} (h : p < 0 ∨ 10000 < p) : Ev (fun k => ref04_Share.f k a p) (0, 0, 1) := by
  unfold ref04_Share.f
  by_cases c : p < 0
  · simp only [if_pos c]; exact Ev.now _
  · simp only [if_neg c, if_pos (show p > 10000 by omega)]; exact Ev.now _
end Go.Proofs.Ytjfnhhfgjomliaa.M
