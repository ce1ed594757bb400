import Derived.IntWalk
import Derived.Laws.BitsLemmas
import Derived.RowKit
/- plain integers: no program here -/
set_option linter.unusedVariables false
set_option linter.unusedSimpArgs false
namespace Go.Proofs.YtffdhekmnoajiaaDoor.M
open Go.RowKit

def I64 (a : Int) : Prop := -9223372036854775808 ≤ a ∧ a ≤ 9223372036854775807
def ab (a : Int) : Int := if a < 0 then -a else a
theorem ab_nonneg (a : Int) : 0 ≤ ab a := by unfold ab; split <;> omega
theorem ab_le {a : Int} (h : I64 a) : ab a ≤ 9223372036854775808 := by obtain ⟨h1, h2⟩ := h; unfold ab; split <;> omega
theorem ab_pos {a : Int} (h : a ≠ 0) : 0 < ab a := by unfold ab; split <;> omega
theorem ab_zero {a : Int} : ab a = 0 ↔ a = 0 := by unfold ab; split <;> omega

/-- a*b by c: the quotient of the sizes, rounded half up -/
def rnd (P C : Int) : Int := if C - P % C ≤ P % C then P / C + 1 else P / C
/-- is the sign of (a*b)/c below 0, told by the signs -/
def ngs (a b c : Int) : Bool := (decide (a < 0)) != ((decide (b < 0)) != (decide (c < 0)))
def sg (n : Bool) (q : Int) : Int := if n = true then -q else q
def fit (v : Int) : Int × Int := if -9223372036854775808 ≤ v ∧ v ≤ 9223372036854775807 then (v, 0) else (0, 2)
def mulDiv (a b c : Int) : Int × Int := if c = 0 then (0, 3) else fit (sg (ngs a b c) (rnd (ab a * ab b) (ab c)))
def exact (a b c : Int) : Int × Bool × Int :=
  if c = 0 then (0, false, 3) else if (ab a * ab b) % ab c = 0 then
    (let v := sg (ngs a b c) (ab a * ab b / ab c); if -9223372036854775808 ≤ v ∧ v ≤ 9223372036854775807 then (v, true, 0) else (0, false, 2)) else (0, false, 0)
def cmpI (x y : Int) : Int := if x < y then -1 else if y < x then 1 else 0

theorem and32 {x : Int} (h0 : 0 ≤ x) (h1 : x ≤ 18446744073709551615) : Go.bits .and .u64 x 4294967295 = x % 4294967296 :=
  bits_mask .u64 64 (by decide) (fun n a b => IntWalk.u64_in n ⟨a, by omega⟩) 32 (by decide) x h0 (by omega)
theorem wu64 (n : Int) : IntKind.u64.wrap n = n % 18446744073709551616 := by
  simp [IntKind.wrap, IntKind.bits, IntKind.signed]
theorem w64_in {n : Int} (h : I64 n) : wrap64 n = n := by obtain ⟨h1, h2⟩ := h; unfold wrap64; omega
theorem w64_i64 (n : Int) : I64 (wrap64 n) := by unfold wrap64 I64; omega
theorem or_zero64 {x y : Int} (hx : 0 ≤ x) (hx1 : x < 18446744073709551616) (hy : 0 ≤ y) (hy1 : y < 18446744073709551616) : (Go.bits .or .u64 x y != 0) = decide (x ≠ 0 ∨ y ≠ 0) := by
  obtain ⟨a, rfl⟩ := Int.eq_ofNat_of_zero_le hx
  obtain ⟨b, rfl⟩ := Int.eq_ofNat_of_zero_le hy
  rw [(bits_nat .u64 64 (by decide) (fun n a b => IntWalk.u64_in n ⟨a, by omega⟩) a b (by omega) (by omega)).2]
  by_cases ha : a = 0
  · subst ha; by_cases hb : b = 0
    · subst hb; rfl
    · simp [hb]
  · have : a ||| b ≠ 0 := by
      intro h
      have := Nat.left_le_or (n := a) (m := b)
      omega
    simp [ha]
theorem or_join {x y : Int} (i : Nat) (hx₀ : 0 ≤ x) (hx : x % 2 ^ i = 0) (hx₁ : x < 18446744073709551616) (hy₀ : 0 ≤ y) (hy : y < 2 ^ i) (hy₁ : y < 18446744073709551616) : Go.bits .or .u64 x y = x + y :=
  bits_join .u64 64 (by decide) (fun n a b => IntWalk.u64_in n ⟨a, by omega⟩) i x y hx₀ hx (by omega) hy₀ hy (by omega)
theorem mul_le_mul' {a b c d : Int} (h1 : a ≤ c) (h2 : b ≤ d) (h3 : 0 ≤ a) (h4 : 0 ≤ d) : a * b ≤ c * d :=
  Int.le_trans (Int.mul_le_mul_of_nonneg_left h2 h3) (Int.mul_le_mul_of_nonneg_right h1 h4)

/-! ### Div64: two digits of 32 bits -/
/-- the digit is right if the guess is neither too great nor too small -/
theorem digit {T y q : Int} (hy : 0 < y) (h1 : q * y ≤ T) (h2 : T < (q + 1) * y) : T / y = q := by
  have h3 : q ≤ T / y := (Int.le_ediv_iff_mul_le hy).2 h1
  have h4 : T / y < q + 1 := Int.ediv_lt_of_lt_mul hy h2
  omega

structure Dg (y1 y0 u u0 q r : Int) : Prop where
  y1l : 2147483648 ≤ y1
  y1h : y1 < 4294967296
  y0l : 0 ≤ y0
  y0h : y0 < 4294967296
  u0l : 0 ≤ u0
  u0h : u0 < 4294967296
  ul : 0 ≤ u
  uh : u < y1 * 4294967296 + y0
  ql : 0 ≤ q
  qh : q ≤ 8589934592
  rl : 0 ≤ r
  rh : r < 4294967296
  eq : q * y1 + r = u
  ge : (u * 4294967296 + u0) / (y1 * 4294967296 + y0) ≤ q

theorem mul_lin (q y1 y0 : Int) : q * (y1 * 4294967296 + y0) = (q * y1) * 4294967296 + q * y0 := by
  rw [Int.mul_add, Int.mul_assoc]
theorem Dg.no {y1 y0 u u0 q r : Int} (h : Dg y1 y0 u u0 q r) (hc : q * y0 ≤ 4294967296 * r + u0) : (u * 4294967296 + u0) / (y1 * 4294967296 + y0) = q := by
  obtain ⟨h1, h2, h3, h4, h5, h6, h7, h8, h9, h10, h11, h12, h13, h14⟩ := h
  have hy : 0 < y1 * 4294967296 + y0 := by omega
  have : q ≤ (u * 4294967296 + u0) / (y1 * 4294967296 + y0) := (Int.le_ediv_iff_mul_le hy).2 (by rw [mul_lin]; omega)
  omega
theorem Dg.lt {y1 y0 u u0 q r : Int} (h : Dg y1 y0 u u0 q r) (hc : 4294967296 ≤ q ∨ 4294967296 * r + u0 < q * y0) : (u * 4294967296 + u0) / (y1 * 4294967296 + y0) ≤ q - 1 := by
  obtain ⟨h1, h2, h3, h4, h5, h6, h7, h8, h9, h10, h11, h12, h13, h14⟩ := h
  have hy : 0 < y1 * 4294967296 + y0 := by omega
  rcases hc with hc | hc
  · have : (u * 4294967296 + u0) / (y1 * 4294967296 + y0) < 4294967296 := Int.ediv_lt_of_lt_mul hy (by omega)
    omega
  · have : (u * 4294967296 + u0) / (y1 * 4294967296 + y0) < q := Int.ediv_lt_of_lt_mul hy (by rw [mul_lin]; omega)
    omega
theorem Dg.pos {y1 y0 u u0 q r : Int} (h : Dg y1 y0 u u0 q r) (hc : 4294967296 ≤ q ∨ 4294967296 * r + u0 < q * y0) : 1 ≤ q := by
  have := h.lt hc
  have h2 : 0 ≤ (u * 4294967296 + u0) / (y1 * 4294967296 + y0) := Int.ediv_nonneg (by have := h.ul; have := h.u0l; omega) (by have := h.y1l; have := h.y0l; omega)
  omega
theorem Dg.out {y1 y0 u u0 q r : Int} (h : Dg y1 y0 u u0 q r) (hc : 4294967296 ≤ q ∨ 4294967296 * r + u0 < q * y0) (hr : 4294967296 ≤ r + y1) : (u * 4294967296 + u0) / (y1 * 4294967296 + y0) = q - 1 := by
  have hlt := h.lt hc
  have hp := h.pos hc
  obtain ⟨h1, h2, h3, h4, h5, h6, h7, h8, h9, h10, h11, h12, h13, h14⟩ := h
  have hy : 0 < y1 * 4294967296 + y0 := by omega
  have e : (q - 1) * y1 = q * y1 - y1 := by rw [Int.sub_mul, Int.one_mul]
  have hq : q - 1 < 4294967296 := by
    apply Int.lt_of_not_ge
    intro hge
    have := Int.mul_le_mul_of_nonneg_right hge (show 0 ≤ y1 by omega)
    omega
  have h15 : (q - 1) * y0 ≤ 4294967296 * 4294967296 := mul_le_mul' (by omega) (by omega) (by omega) (by omega)
  have : q - 1 ≤ (u * 4294967296 + u0) / (y1 * 4294967296 + y0) := (Int.le_ediv_iff_mul_le hy).2 (by rw [mul_lin]; omega)
  omega
theorem Dg.next {y1 y0 u u0 q r : Int} (h : Dg y1 y0 u u0 q r) (hc : 4294967296 ≤ q ∨ 4294967296 * r + u0 < q * y0) (hr : r + y1 < 4294967296) : Dg y1 y0 u u0 (q - 1) (r + y1) := by
  have hlt := h.lt hc
  have hp := h.pos hc
  obtain ⟨h1, h2, h3, h4, h5, h6, h7, h8, h9, h10, h11, h12, h13, h14⟩ := h
  have e : (q - 1) * y1 = q * y1 - y1 := by rw [Int.sub_mul, Int.one_mul]
  exact ⟨h1, h2, h3, h4, h5, h6, h7, h8, by omega, by omega, by omega, by omega, by omega, hlt⟩
theorem Dg.init {y1 y0 u u0 : Int} (h1 : 2147483648 ≤ y1) (h2 : y1 < 4294967296) (h3 : 0 ≤ y0) (h4 : y0 < 4294967296) (h5 : 0 ≤ u0) (h6 : u0 < 4294967296) (h7 : 0 ≤ u) (h8 : u < y1 * 4294967296 + y0) :
    Dg y1 y0 u u0 (u / y1) (u - u / y1 * y1) := by
  have hy : 0 < y1 * 4294967296 + y0 := by omega
  have hm := Int.emod_nonneg u (show y1 ≠ 0 by omega)
  have hm2 := Int.emod_lt_of_pos u (show 0 < y1 by omega)
  have hd := Int.mul_ediv_add_emod u y1
  rw [Int.mul_comm] at hd
  have hq0 : 0 ≤ u / y1 := Int.ediv_nonneg h7 (by omega)
  refine ⟨h1, h2, h3, h4, h5, h6, h7, h8, hq0, ?_, by omega, by omega, by omega, ?_⟩
  · have : u / y1 < 8589934592 := Int.ediv_lt_of_lt_mul (by omega) (by omega)
    omega
  · generalize hQ : (u * 4294967296 + u0) / (y1 * 4294967296 + y0) = Q
    have hQ0 : 0 ≤ Q := by rw [← hQ]; exact Int.ediv_nonneg (by omega) (by omega)
    have h9 : Q * (y1 * 4294967296 + y0) ≤ u * 4294967296 + u0 := (Int.le_ediv_iff_mul_le hy).1 (by omega)
    rw [mul_lin] at h9
    have h10 : 0 ≤ Q * y0 := Int.mul_nonneg hQ0 h3
    exact (Int.le_ediv_iff_mul_le (by omega)).2 (by omega)
/-- what is left behind a digit -/
theorem Dg.rest {y1 y0 u u0 q : Int} (h1 : 2147483648 ≤ y1) (h2 : y1 < 4294967296) (h3 : 0 ≤ y0) (h4 : y0 < 4294967296)
    (hq : (u * 4294967296 + u0) / (y1 * 4294967296 + y0) = q) : IntKind.u64.wrap (IntKind.u64.wrap (IntKind.u64.wrap (u * 4294967296) + u0) - IntKind.u64.wrap (q * (y1 * 4294967296 + y0))) = (u * 4294967296 + u0) % (y1 * 4294967296 + y0) := by
  have hy : 0 < y1 * 4294967296 + y0 := by omega
  have hm := Int.emod_nonneg (u * 4294967296 + u0) (show y1 * 4294967296 + y0 ≠ 0 by omega)
  have hm2 := Int.emod_lt_of_pos (u * 4294967296 + u0) hy
  have hd := Int.mul_ediv_add_emod (u * 4294967296 + u0) (y1 * 4294967296 + y0)
  rw [hq, Int.mul_comm] at hd
  simp only [wu64]
  omega
/-- two digits: the quotient and the rest of the whole -/
theorem two_digits {U u0 y q1 q0 : Int} (hy : 0 < y) (h1 : U / y = q1) (h0 : (U % y * 4294967296 + u0) / y = q0) : (U * 4294967296 + u0) / y = q1 * 4294967296 + q0 ∧ (U * 4294967296 + u0) % y = (U % y * 4294967296 + u0) % y := by
  have hd := Int.mul_ediv_add_emod U y
  rw [h1] at hd
  have e : U * 4294967296 + u0 = (U % y * 4294967296 + u0) + y * (q1 * 4294967296) := by
    have : U * 4294967296 = (y * q1 + U % y) * 4294967296 := by rw [hd]
    rw [this, Int.add_mul, Int.mul_assoc]; omega
  constructor
  · rw [e, Int.add_mul_ediv_left _ _ (by omega), h0]; omega
  · rw [e, Int.add_mul_emod_self_left]
end Go.Proofs.YtffdhekmnoajiaaDoor.M
