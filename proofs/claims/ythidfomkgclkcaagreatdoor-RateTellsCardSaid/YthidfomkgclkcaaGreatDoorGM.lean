import Derived.IntWalk
import Derived.Laws.BitsLemmas
import Derived.RowKit

import Derived.Laws.Entries



import Derived.ProofKit
import Derived.Test.YthidfomkgclkcaaGreatDoorGX
import Derived.Lib.ParseIntBCases
import Derived.Lib.ParseIntBTie
import Derived.Lib.ItoaNum



import Derived.Test.YthidfomkgclkcaaGreatDoorWMore
import Derived.Lib.Strings
/- several texts of this session in one -/
set_option linter.unusedVariables false
set_option linter.unusedSimpArgs false
namespace Go.Proofs.YthidfomkgclkcaaGreatDoor.M
open Go.RowKit

def I64 (a : Int) : Prop := -9223372036854775808 ≤ a ∧ a ≤ 9223372036854775807
def ab (a : Int) : Int := if a < 0 then -a else a
theorem ab_nonneg (a : Int) : 0 ≤ ab a := by unfold ab; split <;> omega
theorem ab_le {a : Int} (h : I64 a) : ab a ≤ 9223372036854775808 := by obtain ⟨h1, h2⟩ := h; unfold ab; split <;> omega
theorem ab_pos {a : Int} (h : a ≠ 0) : 0 < ab a := by unfold ab; split <;> omega
theorem ab_zero {a : Int} : ab a = 0 ↔ a = 0 := by unfold ab; split <;> omega

/-- a*b by c: the quotient of the sizes, rounded half up -/
def rnd (P C : Int) : Int := if C - P % C ≤ P % C then P / C + 1 else P / C
/-- is the sign of (a*b)/c below 0, told by the signs -/
def ngs (a b c : Int) : Bool := (decide (a < 0)) != ((decide (b < 0)) != (decide (c < 0)))
def sg (n : Bool) (q : Int) : Int := if n = true then -q else q
def fit (v : Int) : Int × Int := if -9223372036854775808 ≤ v ∧ v ≤ 9223372036854775807 then (v, 0) else (0, 2)
def mulDiv (a b c : Int) : Int × Int := if c = 0 then (0, 3) else fit (sg (ngs a b c) (rnd (ab a * ab b) (ab c)))
def exact (a b c : Int) : Int × Bool × Int :=
  if c = 0 then (0, false, 3) else if (ab a * ab b) % ab c = 0 then
    (let v := sg (ngs a b c) (ab a * ab b / ab c); if -9223372036854775808 ≤ v ∧ v ≤ 9223372036854775807 then (v, true, 0) else (0, false, 2)) else (0, false, 0)
def cmpI (x y : Int) : Int := if x < y then -1 else if y < x then 1 else 0

theorem and32 {x : Int} (h0 : 0 ≤ x) (h1 : x ≤ 18446744073709551615) : Go.bits .and .u64 x 4294967295 = x % 4294967296 :=
  bits_mask .u64 64 (by decide) (fun n a b => IntWalk.u64_in n ⟨a, by omega⟩) 32 (by decide) x h0 (by omega)
theorem wu64 (n : Int) : IntKind.u64.wrap n = n % 18446744073709551616 := by
  simp [IntKind.wrap, IntKind.bits, IntKind.signed]
theorem w64_in {n : Int} (h : I64 n) : wrap64 n = n := by obtain ⟨h1, h2⟩ := h; unfold wrap64; omega
theorem w64_i64 (n : Int) : I64 (wrap64 n) := by unfold wrap64 I64; omega
theorem or_zero64 {x y : Int} (hx : 0 ≤ x) (hx1 : x < 18446744073709551616) (hy : 0 ≤ y) (hy1 : y < 18446744073709551616) : (Go.bits .or .u64 x y != 0) = decide (x ≠ 0 ∨ y ≠ 0) := by
  obtain ⟨a, rfl⟩ := Int.eq_ofNat_of_zero_le hx
  obtain ⟨b, rfl⟩ := Int.eq_ofNat_of_zero_le hy
  rw [(bits_nat .u64 64 (by decide) (fun n a b => IntWalk.u64_in n ⟨a, by omega⟩) a b (by omega) (by omega)).2]
  by_cases ha : a = 0
  · subst ha; by_cases hb : b = 0
    · subst hb; rfl
    · simp [hb]
  · have : a ||| b ≠ 0 := by
      intro h
      have := Nat.left_le_or (n := a) (m := b)
      omega
    simp [ha]
theorem or_join {x y : Int} (i : Nat) (hx₀ : 0 ≤ x) (hx : x % 2 ^ i = 0) (hx₁ : x < 18446744073709551616) (hy₀ : 0 ≤ y) (hy : y < 2 ^ i) (hy₁ : y < 18446744073709551616) : Go.bits .or .u64 x y = x + y :=
  bits_join .u64 64 (by decide) (fun n a b => IntWalk.u64_in n ⟨a, by omega⟩) i x y hx₀ hx (by omega) hy₀ hy (by omega)
theorem mul_le_mul' {a b c d : Int} (h1 : a ≤ c) (h2 : b ≤ d) (h3 : 0 ≤ a) (h4 : 0 ≤ d) : a * b ≤ c * d :=
  Int.le_trans (Int.mul_le_mul_of_nonneg_left h2 h3) (Int.mul_le_mul_of_nonneg_right h1 h4)

/-! ### Div64: two digits of 32 bits -/
/-- the digit is right if the guess is neither too great nor too small -/
theorem digit {T y q : Int} (hy : 0 < y) (h1 : q * y ≤ T) (h2 : T < (q + 1) * y) : T / y = q := by
  have h3 : q ≤ T / y := (Int.le_ediv_iff_mul_le hy).2 h1
  have h4 : T / y < q + 1 := Int.ediv_lt_of_lt_mul hy h2
  omega

structure Dg (y1 y0 u u0 q r : Int) : Prop where
  y1l : 2147483648 ≤ y1
  y1h : y1 < 4294967296
  y0l : 0 ≤ y0
  y0h : y0 < 4294967296
  u0l : 0 ≤ u0
  u0h : u0 < 4294967296
  ul : 0 ≤ u
  uh : u < y1 * 4294967296 + y0
  ql : 0 ≤ q
  qh : q ≤ 8589934592
  rl : 0 ≤ r
  rh : r < 4294967296
  eq : q * y1 + r = u
  ge : (u * 4294967296 + u0) / (y1 * 4294967296 + y0) ≤ q

theorem mul_lin (q y1 y0 : Int) : q * (y1 * 4294967296 + y0) = (q * y1) * 4294967296 + q * y0 := by
  rw [Int.mul_add, Int.mul_assoc]
theorem Dg.no {y1 y0 u u0 q r : Int} (h : Dg y1 y0 u u0 q r) (hc : q * y0 ≤ 4294967296 * r + u0) : (u * 4294967296 + u0) / (y1 * 4294967296 + y0) = q := by
  obtain ⟨h1, h2, h3, h4, h5, h6, h7, h8, h9, h10, h11, h12, h13, h14⟩ := h
  have hy : 0 < y1 * 4294967296 + y0 := by omega
  have : q ≤ (u * 4294967296 + u0) / (y1 * 4294967296 + y0) := (Int.le_ediv_iff_mul_le hy).2 (by rw [mul_lin]; omega)
  omega
theorem Dg.lt {y1 y0 u u0 q r : Int} (h : Dg y1 y0 u u0 q r) (hc : 4294967296 ≤ q ∨ 4294967296 * r + u0 < q * y0) : (u * 4294967296 + u0) / (y1 * 4294967296 + y0) ≤ q - 1 := by
  obtain ⟨h1, h2, h3, h4, h5, h6, h7, h8, h9, h10, h11, h12, h13, h14⟩ := h
  have hy : 0 < y1 * 4294967296 + y0 := by omega
  rcases hc with hc | hc
  · have : (u * 4294967296 + u0) / (y1 * 4294967296 + y0) < 4294967296 := Int.ediv_lt_of_lt_mul hy (by omega)
    omega
  · have : (u * 4294967296 + u0) / (y1 * 4294967296 + y0) < q := Int.ediv_lt_of_lt_mul hy (by rw [mul_lin]; omega)
    omega
theorem Dg.pos {y1 y0 u u0 q r : Int} (h : Dg y1 y0 u u0 q r) (hc : 4294967296 ≤ q ∨ 4294967296 * r + u0 < q * y0) : 1 ≤ q := by
  have := h.lt hc
  have h2 : 0 ≤ (u * 4294967296 + u0) / (y1 * 4294967296 + y0) := Int.ediv_nonneg (by have := h.ul; have := h.u0l; omega) (by have := h.y1l; have := h.y0l; omega)
  omega
theorem Dg.out {y1 y0 u u0 q r : Int} (h : Dg y1 y0 u u0 q r) (hc : 4294967296 ≤ q ∨ 4294967296 * r + u0 < q * y0) (hr : 4294967296 ≤ r + y1) : (u * 4294967296 + u0) / (y1 * 4294967296 + y0) = q - 1 := by
  have hlt := h.lt hc
  have hp := h.pos hc
  obtain ⟨h1, h2, h3, h4, h5, h6, h7, h8, h9, h10, h11, h12, h13, h14⟩ := h
  have hy : 0 < y1 * 4294967296 + y0 := by omega
  have e : (q - 1) * y1 = q * y1 - y1 := by rw [Int.sub_mul, Int.one_mul]
  have hq : q - 1 < 4294967296 := by
    apply Int.lt_of_not_ge
    intro hge
    have := Int.mul_le_mul_of_nonneg_right hge (show 0 ≤ y1 by omega)
    omega
  have h15 : (q - 1) * y0 ≤ 4294967296 * 4294967296 := mul_le_mul' (by omega) (by omega) (by omega) (by omega)
  have : q - 1 ≤ (u * 4294967296 + u0) / (y1 * 4294967296 + y0) := (Int.le_ediv_iff_mul_le hy).2 (by rw [mul_lin]; omega)
  omega
theorem Dg.next {y1 y0 u u0 q r : Int} (h : Dg y1 y0 u u0 q r) (hc : 4294967296 ≤ q ∨ 4294967296 * r + u0 < q * y0) (hr : r + y1 < 4294967296) : Dg y1 y0 u u0 (q - 1) (r + y1) := by
  have hlt := h.lt hc
  have hp := h.pos hc
  obtain ⟨h1, h2, h3, h4, h5, h6, h7, h8, h9, h10, h11, h12, h13, h14⟩ := h
  have e : (q - 1) * y1 = q * y1 - y1 := by rw [Int.sub_mul, Int.one_mul]
  exact ⟨h1, h2, h3, h4, h5, h6, h7, h8, by omega, by omega, by omega, by omega, by omega, hlt⟩
theorem Dg.init {y1 y0 u u0 : Int} (h1 : 2147483648 ≤ y1) (h2 : y1 < 4294967296) (h3 : 0 ≤ y0) (h4 : y0 < 4294967296) (h5 : 0 ≤ u0) (h6 : u0 < 4294967296) (h7 : 0 ≤ u) (h8 : u < y1 * 4294967296 + y0) :
    Dg y1 y0 u u0 (u / y1) (u - u / y1 * y1) := by
  have hy : 0 < y1 * 4294967296 + y0 := by omega
  have hm := Int.emod_nonneg u (show y1 ≠ 0 by omega)
  have hm2 := Int.emod_lt_of_pos u (show 0 < y1 by omega)
  have hd := Int.mul_ediv_add_emod u y1
  rw [Int.mul_comm] at hd
  have hq0 : 0 ≤ u / y1 := Int.ediv_nonneg h7 (by omega)
  refine ⟨h1, h2, h3, h4, h5, h6, h7, h8, hq0, ?_, by omega, by omega, by omega, ?_⟩
  · have : u / y1 < 8589934592 := Int.ediv_lt_of_lt_mul (by omega) (by omega)
    omega
  · generalize hQ : (u * 4294967296 + u0) / (y1 * 4294967296 + y0) = Q
    have hQ0 : 0 ≤ Q := by rw [← hQ]; exact Int.ediv_nonneg (by omega) (by omega)
    have h9 : Q * (y1 * 4294967296 + y0) ≤ u * 4294967296 + u0 := (Int.le_ediv_iff_mul_le hy).1 (by omega)
    rw [mul_lin] at h9
    have h10 : 0 ≤ Q * y0 := Int.mul_nonneg hQ0 h3
    exact (Int.le_ediv_iff_mul_le (by omega)).2 (by omega)
/-- what is left behind a digit -/
theorem Dg.rest {y1 y0 u u0 q : Int} (h1 : 2147483648 ≤ y1) (h2 : y1 < 4294967296) (h3 : 0 ≤ y0) (h4 : y0 < 4294967296)
    (hq : (u * 4294967296 + u0) / (y1 * 4294967296 + y0) = q) : IntKind.u64.wrap (IntKind.u64.wrap (IntKind.u64.wrap (u * 4294967296) + u0) - IntKind.u64.wrap (q * (y1 * 4294967296 + y0))) = (u * 4294967296 + u0) % (y1 * 4294967296 + y0) := by
  have hy : 0 < y1 * 4294967296 + y0 := by omega
  have hm := Int.emod_nonneg (u * 4294967296 + u0) (show y1 * 4294967296 + y0 ≠ 0 by omega)
  have hm2 := Int.emod_lt_of_pos (u * 4294967296 + u0) hy
  have hd := Int.mul_ediv_add_emod (u * 4294967296 + u0) (y1 * 4294967296 + y0)
  rw [hq, Int.mul_comm] at hd
  simp only [wu64]
  omega
/-- two digits: the quotient and the rest of the whole -/
theorem two_digits {U u0 y q1 q0 : Int} (hy : 0 < y) (h1 : U / y = q1) (h0 : (U % y * 4294967296 + u0) / y = q0) : (U * 4294967296 + u0) / y = q1 * 4294967296 + q0 ∧ (U * 4294967296 + u0) % y = (U % y * 4294967296 + u0) % y := by
  have hd := Int.mul_ediv_add_emod U y
  rw [h1] at hd
  have e : U * 4294967296 + u0 = (U % y * 4294967296 + u0) + y * (q1 * 4294967296) := by
    have : U * 4294967296 = (y * q1 + U % y) * 4294967296 := by rw [hd]
    rw [this, Int.add_mul, Int.mul_assoc]; omega
  constructor
  · rw [e, Int.add_mul_ediv_left _ _ (by omega), h0]; omega
  · rw [e, Int.add_mul_emod_self_left]
end Go.Proofs.YthidfomkgclkcaaGreatDoor.M
namespace Go.Proofs.YthidfomkgclkcaaGreatDoor.M
open Go.RowKit

instance decI64 (v : Int) : Decidable (I64 v) := by unfold I64; infer_instance
def addS (a b : Int) : Int × Int := if I64 (a + b) then (a + b, 0) else (0, 2)
def sumS : Int → List Int → Int × Int
  | n, [] => (n, 0)
  | n, x :: l => if I64 (n + x) then sumS (n + x) l else (0, 2)
theorem wrap_toInt (v : BitVec 64) : IntKind.i64.wrap (v.toNat : Int) = v.toInt := by
  rw [IntKind.wrap_i64, BitVec.toInt_eq_toNat_cond]; have := v.isLt; split <;> omega
theorem msb_ofInt {x : Int} (h : I64 x) : (BitVec.ofInt 64 x).msb = decide (x < 0) := by
  obtain ⟨h1, h2⟩ := h
  rw [BitVec.msb_eq_toInt, BitVec.toInt_ofInt]
  have : Int.bmod x (2 ^ 64) = x := by unfold Int.bmod; simp only []; split <;> omega
  rw [this]
theorem toInt_i64 (v : BitVec 64) : I64 v.toInt := by
  have h1 := BitVec.toInt_lt (x := v)
  have h2 := BitVec.le_toInt (x := v)
  unfold I64; omega
theorem xor_neg {x y : Int} (hx : I64 x) (hy : I64 y) : I64 (Go.bits .xor .i64 x y) ∧ (Go.bits .xor .i64 x y < 0 ↔ ¬ (x < 0 ↔ y < 0)) := by
  have e : Go.bits .xor .i64 x y = (BitVec.ofInt 64 x ^^^ BitVec.ofInt 64 y).toInt := wrap_toInt _
  rw [e]
  refine ⟨toInt_i64 _, ?_⟩
  have := BitVec.msb_eq_toInt (x := BitVec.ofInt 64 x ^^^ BitVec.ofInt 64 y)
  rw [BitVec.msb_xor, msb_ofInt hx, msb_ofInt hy] at this
  by_cases c : x < 0 <;> by_cases d : y < 0 <;> simp [c, d] at this ⊢ <;> omega
theorem and_neg {x y : Int} (hx : I64 x) (hy : I64 y) : (Go.bits .and .i64 x y < 0 ↔ (x < 0 ∧ y < 0)) := by
  have e : Go.bits .and .i64 x y = (BitVec.ofInt 64 x &&& BitVec.ofInt 64 y).toInt := wrap_toInt _
  rw [e]
  have := BitVec.msb_eq_toInt (x := BitVec.ofInt 64 x &&& BitVec.ofInt 64 y)
  rw [BitVec.msb_and, msb_ofInt hx, msb_ofInt hy] at this
  by_cases c : x < 0 <;> by_cases d : y < 0 <;> simp [c, d] at this ⊢ <;> omega
theorem sumS_ok {l : List Int} : ∀ {n : Int}, (sumS n l).2 = 0 ∨ sumS n l = (0, 2) := by
  induction l with
  | nil => intro n; exact .inl rfl
  | cons x l ih =>
    intro n
    unfold sumS
    split
    · exact ih
    · exact .inr rfl
theorem sumS_i64 {l : List Int} : ∀ {n : Int}, I64 n → I64 (sumS n l).1 := by
  induction l with
  | nil => intro n h; exact h
  | cons x l ih =>
    intro n h
    unfold sumS
    split
    · rename_i h2; exact ih h2
    · unfold I64; omega
theorem rd_int {L P R : List Int} {x : Int} {i : Nat} (h : L = P ++ x :: R) (hi : P.length = i) : L.getD i 0 = x := by
  rw [h, List.getD_eq_getElem?_getD, List.getElem?_append_right (by omega), hi, Nat.sub_self]; rfl
end Go.Proofs.YthidfomkgclkcaaGreatDoor.M
namespace Go.Proofs.YthidfomkgclkcaaGreatDoor.M
open Go.RowKit

def Near (p v c : Int) : Prop :=
  (0 ≤ p ∧ ((v * c ≤ p ∧ 2 * (p - v * c) < ab c) ∨ (p < v * c ∧ 2 * (v * c - p) ≤ ab c))) ∨
  (p < 0 ∧ ((p ≤ v * c ∧ 2 * (v * c - p) < ab c) ∨ (v * c < p ∧ 2 * (p - v * c) ≤ ab c)))
theorem Near.unique {p v w c : Int} (hc : c ≠ 0) (h : Near p v c) (k : Near p w c) : v = w := by
  apply Decidable.byContradiction
  intro hne
  have h1 : v * c - w * c = (v - w) * c := by rw [Int.sub_mul]
  have h2 : ab c ≤ ab ((v - w) * c) := by
    have e : ab ((v - w) * c) = ab (v - w) * ab c := by
      have f : ∀ x : Int, ab x = (x.natAbs : Int) := by intro x; unfold ab; split <;> omega
      rw [f, f, f, Int.natAbs_mul]; rfl
    rw [e]
    have h3 : 1 ≤ ab (v - w) := ab_pos (by omega)
    have := Int.mul_le_mul_of_nonneg_right h3 (ab_nonneg c)
    omega
  rw [← h1] at h2
  unfold Near at h k
  have hc1 := ab_pos hc
  generalize v * c = x at *
  generalize w * c = y at *
  generalize ab c = C at *
  unfold ab at h2
  split at h2 <;> omega
theorem rnd_spec {P C : Int} (hC : 0 < C) : (rnd P C * C ≤ P ∧ 2 * (P - rnd P C * C) < C) ∨ (P < rnd P C * C ∧ 2 * (rnd P C * C - P) ≤ C) := by
  have h1 := Int.mul_ediv_add_emod P C
  have h2 := Int.emod_lt_of_pos P hC
  have h3 := Int.emod_nonneg P (show C ≠ 0 by omega)
  rw [Int.mul_comm] at h1
  unfold rnd
  by_cases h : C - P % C ≤ P % C
  · rw [if_pos h, Int.add_mul, Int.one_mul]; omega
  · rw [if_neg h]; omega
theorem ab_natAbs (x : Int) : ab x = (x.natAbs : Int) := by unfold ab; split <;> omega
theorem ab_mul_ab (a b : Int) : ab a * ab b = ab (a * b) := by rw [ab_natAbs, ab_natAbs, ab_natAbs, Int.natAbs_mul]; rfl
theorem ab_neg (a : Int) : ab (-a) = ab a := by unfold ab; split <;> split <;> omega
theorem mul_neg_iff {a b : Int} (h : a * b ≠ 0) : (a * b < 0) ↔ ((a < 0) ↔ ¬ (b < 0)) := by
  have ha : a ≠ 0 := fun e => h (by rw [e, Int.zero_mul])
  have hb : b ≠ 0 := fun e => h (by rw [e, Int.mul_zero])
  by_cases c : a < 0 <;> by_cases d : b < 0
  · have := Int.mul_pos_of_neg_of_neg c d; simp [c, d]; omega
  · have := Int.mul_neg_of_neg_of_pos c (show 0 < b by omega); simp [c, d]; omega
  · have := Int.mul_neg_of_pos_of_neg (show 0 < a by omega) d; simp [c, d]; omega
  · have := Int.mul_pos (show 0 < a by omega) (show 0 < b by omega); simp [c, d]; omega
theorem ab_mul {a b : Int} : ab a * ab b = 0 ↔ a * b = 0 := by
  rw [Int.mul_eq_zero, Int.mul_eq_zero, ab_zero, ab_zero]
theorem sg_eq {a b c q : Int} (hq : ab a * ab b = 0 → q = 0) : sg ((decide (a * b < 0)) != (decide (c < 0))) q = sg (ngs a b c) q := by
  by_cases h : a * b = 0
  · rw [hq (ab_mul.2 h)]; unfold sg; split <;> split <;> rfl
  · have h2 := mul_neg_iff h
    have e : decide (a * b < 0) = ((decide (a < 0)) != (decide (b < 0))) := by
      by_cases hh : a * b < 0 <;> by_cases c : a < 0 <;> by_cases d : b < 0 <;> simp [hh, c, d] at h2 ⊢
    unfold ngs
    rw [e, Bool.bne_assoc]
theorem rnd_nonneg {P C : Int} (hP : 0 ≤ P) (hC : 0 < C) : 0 ≤ rnd P C := by
  have := Int.ediv_nonneg hP (show 0 ≤ C by omega)
  unfold rnd; split <;> omega
theorem rnd_zero {C : Int} (hC : 0 < C) : rnd 0 C = 0 := by
  unfold rnd; rw [Int.zero_emod, Int.zero_ediv, if_neg (by omega)]
theorem near_core {a b c : Int} (hc : c ≠ 0) : Near (a * b) (sg (ngs a b c) (rnd (ab a * ab b) (ab c))) c := by
  have hC := ab_pos hc
  rw [← sg_eq (fun h => by rw [h]; exact rnd_zero hC)]
  have hs := rnd_spec (P := ab a * ab b) hC
  rw [ab_mul_ab] at *
  generalize a * b = p at *
  generalize rnd (ab p) (ab c) = q at *
  have e1 : ∀ x y : Int, -x * y = -(x * y) := Int.neg_mul
  have e2 : q * ab c = if c < 0 then -(q * c) else q * c := by unfold ab; split; rw [Int.mul_neg]; rfl
  rw [e2] at hs
  unfold Near sg
  unfold ab at *
  by_cases h1 : p < 0 <;> by_cases h2 : c < 0 <;> simp only [h1, h2, decide_true, decide_false, if_true, if_false, bne_self_eq_false, Bool.false_eq_true, show (true != false) = true from rfl, show (false != true) = true from rfl, e1, true_and] at hs ⊢ <;> omega
theorem mulDiv_near {a b c : Int} (hc : c ≠ 0) : ∃ v, mulDiv a b c = fit v ∧ Near (a * b) v c :=
  ⟨_, by unfold mulDiv; rw [if_neg hc], near_core hc⟩
theorem mulDiv_of {a b c v : Int} (hc : c ≠ 0) (h : Near (a * b) v c) : mulDiv a b c = fit v := by
  obtain ⟨w, h1, h2⟩ := mulDiv_near (a := a) (b := b) hc
  rw [h1, h2.unique hc h]
theorem Near.of_eq {p v c : Int} (hc : c ≠ 0) (h : p = v * c) : Near p v c := by
  have := ab_pos hc
  unfold Near; omega
theorem Near.neg {p v c : Int} (h : Near p v c) (hp : p ≠ 0) : Near (-p) (-v) c := by
  unfold Near at *; rw [Int.neg_mul]; omega
theorem Near.negc {p v c : Int} (h : Near p v c) : Near p (-v) (-c) := by
  unfold Near at *; rw [Int.neg_mul_neg, ab_neg]; exact h
theorem Near.zero {v c : Int} (hc : c ≠ 0) (h : Near 0 v c) : v = 0 := h.unique hc (Near.of_eq hc (by rw [Int.zero_mul]))
theorem fit_in {v : Int} (h : I64 v) : fit v = (v, 0) := if_pos h
theorem fit_out {v : Int} (h : ¬ I64 v) : fit v = (0, 2) := if_neg h
theorem dvd_iff {a b c : Int} (hc : c ≠ 0) : (ab a * ab b) % ab c = 0 ↔ c ∣ a * b := by
  rw [ab_mul_ab, ← Int.dvd_iff_emod_eq_zero, ab_natAbs, ab_natAbs, Int.natCast_dvd_natCast, Int.natAbs_dvd_natAbs]
theorem exact_no {a b c : Int} (hc : c ≠ 0) (h : ¬ c ∣ a * b) : exact a b c = (0, false, 0) := by
  unfold exact; rw [if_neg hc, if_neg (fun h' => h ((dvd_iff hc).1 h'))]
theorem exact_yes {a b c v : Int} (hc : c ≠ 0) (h : a * b = v * c) : exact a b c = if I64 v then (v, true, 0) else (0, false, 2) := by
  have hd : (ab a * ab b) % ab c = 0 := (dvd_iff hc).2 ⟨v, by rw [h, Int.mul_comm]⟩
  have hv : sg (ngs a b c) (ab a * ab b / ab c) = v := by
    have h1 : rnd (ab a * ab b) (ab c) = ab a * ab b / ab c := by unfold rnd; rw [hd, if_neg (by have := ab_pos hc; omega)]
    have h2 := near_core (a := a) (b := b) hc
    rw [h1] at h2
    exact h2.unique hc (Near.of_eq hc h)
  unfold exact; rw [if_neg hc, if_pos hd, hv]; rfl
end Go.Proofs.YthidfomkgclkcaaGreatDoor.M
namespace Go.Proofs.YthidfomkgclkcaaGreatDoor.M
open Go
theorem wf_i64 {a : Int} (h : (Lit.int .i64 a).wf = true) : I64 a := by
  simp [Lit.wf, IntKind.min, IntKind.max, IntKind.bits, IntKind.signed] at h
  unfold I64
  omega
theorem wf_i32 {a : Int} (h : (Lit.int .i32 a).wf = true) : -2147483648 ≤ a ∧ a ≤ 2147483647 := by
  simp [Lit.wf, IntKind.min, IntKind.max, IntKind.bits, IntKind.signed] at h
  omega
theorem wf_u8 {a : Int} (h : (Lit.int .u8 a).wf = true) : 0 ≤ a ∧ a ≤ 255 := by
  simp [Lit.wf, IntKind.min, IntKind.max, IntKind.bits, IntKind.signed] at h
  omega
theorem wf_u16 {a : Int} (h : (Lit.int .u16 a).wf = true) : 0 ≤ a ∧ a ≤ 65535 := by
  simp [Lit.wf, IntKind.min, IntKind.max, IntKind.bits, IntKind.signed] at h
  omega
end Go.Proofs.YthidfomkgclkcaaGreatDoor.M
namespace Go.Proofs.YthidfomkgclkcaaGreatDoor.M
open Go.RowKit
theorem prod_bd {a b : Int} (ha : I64 a) (hb : I64 b) : 0 ≤ ab a * ab b ∧ ab a * ab b ≤ 85070591730234615865843651857942052864 := by
  have ha' := ab_le ha
  have hb' := ab_le hb
  have ha0 := ab_nonneg a
  have hb0 := ab_nonneg b
  exact ⟨Int.mul_nonneg ha0 hb0, mul_le_mul' ha' hb' ha0 (by omega)⟩

theorem cmp_words (P Q : Int) : (if cmpI (P / 18446744073709551616) (Q / 18446744073709551616) = 0 then cmpI (P % 18446744073709551616) (Q % 18446744073709551616) else cmpI (P / 18446744073709551616) (Q / 18446744073709551616)) = cmpI P Q := by
  unfold cmpI; repeat' split
  all_goals omega
theorem neg_prod {a b : Int} : a * b = if a * b < 0 then -(ab a * ab b) else ab a * ab b := by
  by_cases h : a * b = 0
  · rw [if_neg (by omega), ab_mul.2 h]; exact h
  · have h2 := mul_neg_iff h
    unfold ab
    by_cases c : a < 0 <;> by_cases d : b < 0 <;> simp [c, d] at h2 <;> simp [c, d, Int.neg_mul, Int.mul_neg] <;> (first | (rw [if_pos h2]) | (rw [if_neg (by omega)]) | omega)
end Go.Proofs.YthidfomkgclkcaaGreatDoor.M
namespace Go.Proofs.YthidfomkgclkcaaGreatDoor.M
open Go Go.Lib
def isD (c : UInt8) : Bool := decide (48 ≤ c.toNat) && decide (c.toNat ≤ 57)
theorem isD_iff {c : UInt8} : isD c = true ↔ 48 ≤ c.toNat ∧ c.toNat ≤ 57 := by unfold isD; simp
/-- what digits tell, behind a number -/
def vD : Nat → List UInt8 → Nat
  | a, [] => a
  | a, c :: r => vD (a * 10 + (c.toNat - 48)) r
theorem vD_snoc (l : List UInt8) (c : UInt8) : ∀ a, vD a (l ++ [c]) = vD a l * 10 + (c.toNat - 48) := by
  induction l with
  | nil => intro a; rfl
  | cons x l ih => intro a; exact ih _
theorem vD_le (l : List UInt8) : ∀ a, a ≤ vD a l := by
  induction l with
  | nil => intro a; exact Nat.le_refl _
  | cons x l ih => intro a; exact Nat.le_trans (by omega) (ih _)
theorem ofNat_toNat (c : UInt8) : UInt8.ofNat c.toNat = c := by simp
theorem toNat_ofNat_dig {u : Nat} (h : u < 10) : (UInt8.ofNat (48 + u)).toNat = 48 + u := by
  rw [UInt8.toNat_ofNat']; omega
theorem dec_small {u : Nat} (h : u < 10) : decDigits u = [UInt8.ofNat (48 + u)] := by rw [decDigits, dif_pos h]
theorem dec_big {u : Nat} (h : ¬ u < 10) : decDigits u = decDigits (u / 10) ++ [UInt8.ofNat (48 + u % 10)] := by rw [decDigits, dif_neg h]
theorem dec_vD (u : Nat) : vD 0 (decDigits u) = u := by
  induction u using Nat.strongRecOn with
  | _ u ih =>
    by_cases h : u < 10
    · rw [dec_small h]; show 0 * 10 + ((UInt8.ofNat (48 + u)).toNat - 48) = u
      rw [toNat_ofNat_dig h]; omega
    · rw [dec_big h, vD_snoc, ih _ (by omega), toNat_ofNat_dig (by omega)]; omega
theorem dec_dig (u : Nat) : ∀ c ∈ decDigits u, isD c = true := by
  induction u using Nat.strongRecOn with
  | _ u ih =>
    intro c hc
    by_cases h : u < 10
    · rw [dec_small h] at hc; rw [List.mem_singleton.1 hc, isD_iff, toNat_ofNat_dig h]; omega
    · rw [dec_big h] at hc
      rcases List.mem_append.1 hc with hc | hc
      · exact ih _ (by omega) c hc
      · rw [List.mem_singleton.1 hc, isD_iff, toNat_ofNat_dig (by omega)]; omega
theorem dec_head (u : Nat) : ∃ c r, decDigits u = c :: r ∧ (c.toNat = 48 → u = 0) := by
  induction u using Nat.strongRecOn with
  | _ u ih =>
    by_cases h : u < 10
    · exact ⟨_, _, dec_small h, fun e => by rw [toNat_ofNat_dig h] at e; omega⟩
    · obtain ⟨c, r, e, h2⟩ := ih (u / 10) (by omega)
      exact ⟨c, r ++ [UInt8.ofNat (48 + u % 10)], by rw [dec_big h, e]; rfl, fun e => by have := h2 e; omega⟩
theorem dec_ne (u : Nat) : decDigits u ≠ [] := by obtain ⟨c, r, e, _⟩ := dec_head u; rw [e]; simp
theorem vD_pos {l : List UInt8} (h1 : ∀ c ∈ l, isD c = true) (h2 : l ≠ []) (h3 : ∀ c r, l = c :: r → c.toNat ≠ 48) : 1 ≤ vD 0 l := by
  cases l with
  | nil => exact absurd rfl h2
  | cons c r =>
    have := h3 c r rfl
    have hd := isD_iff.1 (h1 c List.mem_cons_self)
    exact Nat.le_trans (show 1 ≤ 0 * 10 + (c.toNat - 48) by omega) (vD_le r _)
theorem vD_dec (l : List UInt8) (h1 : ∀ c ∈ l, isD c = true) (h2 : l ≠ []) (h3 : ∀ c r, l = c :: r → c.toNat = 48 → r = []) : decDigits (vD 0 l) = l := by
  rcases List.eq_nil_or_concat l with rfl | ⟨xs, c, rfl⟩
  · exact absurd rfl h2
  · suffices H : ∀ (n : Nat) (xs : List UInt8) (c : UInt8), xs.length = n → (∀ d ∈ xs ++ [c], isD d = true) → (∀ d r, xs ++ [c] = d :: r → d.toNat = 48 → r = []) → decDigits (vD 0 (xs ++ [c])) = xs ++ [c] by
      rw [List.concat_eq_append] at h1 h3 ⊢
      exact H _ xs c rfl h1 h3
    intro n
    induction n with
    | zero =>
      intro xs c hl h1 h3
      obtain rfl : xs = [] := List.eq_nil_of_length_eq_zero hl
      have hd := isD_iff.1 (h1 c (by simp))
      rw [vD_snoc]
      show decDigits (0 * 10 + (c.toNat - 48)) = [c]
      rw [dec_small (by omega), show 48 + (0 * 10 + (c.toNat - 48)) = c.toNat by omega, ofNat_toNat]
    | succ n ih =>
      intro xs c hl h1 h3
      have hd := isD_iff.1 (h1 c (by simp))
      have hxs : ∀ d r, xs = d :: r → d.toNat ≠ 48 := fun d r e h => by
        have := h3 d (r ++ [c]) (by rw [e]; rfl) h
        simp at this
      have hne : xs ≠ [] := by intro e; rw [e] at hl; simp at hl
      have hp := vD_pos (fun d hd => h1 d (by simp [hd])) hne hxs
      have hi : decDigits (vD 0 xs) = xs := by
        rcases List.eq_nil_or_concat xs with e | ⟨ys, y, e⟩
        · exact absurd e hne
        · rw [List.concat_eq_append] at e
          subst e
          refine ih ys y (by simp at hl; omega) (fun d hd => h1 d (by simp at hd ⊢; rcases hd with h | h <;> simp [h])) (fun d r e h => absurd h (hxs d r e))
      rw [vD_snoc, dec_big (by omega), show (vD 0 xs * 10 + (c.toNat - 48)) / 10 = vD 0 xs by omega, hi, show 48 + (vD 0 xs * 10 + (c.toNat - 48)) % 10 = c.toNat by omega, ofNat_toNat]
/-- a numeral that may not be: empty, another sign, a 0 ahead -/
def okS (neg : Bool) (D : List UInt8) : Bool := !D.isEmpty && D.all isD && !(D.head? == some 48 && (neg || !(D.length == 1)))
def sD (neg : Bool) (D : List UInt8) : Int × Int :=
  if okS neg D = true then (if I64 (if neg then -(vD 0 D : Int) else vD 0 D) then ((if neg then -(vD 0 D : Int) else vD 0 D), 0) else (0, 2)) else (0, 5)
def pS (l : List UInt8) : Int × Int := match l with
  | [] => (0, 5)
  | c :: r => if c.toNat = 45 then sD true r else sD false (c :: r)
theorem uintM (M : Nat) (hM : M = 18446744073709551615) (l : List UInt8) : ∀ a, (∀ c ∈ l, isD c = true) → a ≤ M → parseUintM M a l = if vD a l ≤ M then .ok (vD a l) else .range := by
  induction l with
  | nil => intro a _ ha; show NumEnd.ok a = _; rw [if_pos (show vD a [] ≤ M from ha)]; rfl
  | cons c l ih =>
    intro a h ha
    have hd := isD_iff.1 (h c List.mem_cons_self)
    have hv := vD_le l (a * 10 + (c.toNat - 48))
    show (if 48 ≤ c.toNat ∧ c.toNat ≤ 57 then _ else _) = _
    rw [if_pos hd]
    show _ = if vD (a * 10 + (c.toNat - 48)) l ≤ M then _ else _
    by_cases c1 : 1844674407370955162 ≤ a
    · rw [if_pos c1, if_neg (by omega)]
    · rw [if_neg c1]
      by_cases c2 : M < a * 10 + (c.toNat - 48)
      · rw [if_pos c2, if_neg (by omega)]
      · rw [if_neg c2]
        exact ih _ (fun x hx => h x (List.mem_cons_of_mem _ hx)) (by omega)
theorem uintB (l : List UInt8) (h : ∀ c ∈ l, isD c = true) (hn : l ≠ []) : parseUintB 64 l = if vD 0 l ≤ 18446744073709551615 then .ok (vD 0 l) else .range := by
  unfold parseUintB
  rw [if_neg hn]
  exact uintM _ (by decide) l 0 h (by omega)
theorem dw_nil {p : UInt8 → Bool} : ∀ {l : List UInt8}, l.dropWhile p = [] ↔ ∀ c ∈ l, p c = true
  | [] => by simp
  | x :: l => by
    rw [List.dropWhile_cons]
    split
    · rename_i hx; rw [dw_nil]; simp [hx]
    · rename_i hx; simp [hx]
theorem dw_mem {p : UInt8 → Bool} : ∀ {l : List UInt8}, (∀ c ∈ l.dropWhile p, p c = true) → ∀ c ∈ l, p c = true
  | [], _ => by simp
  | x :: l, h => by
    rw [List.dropWhile_cons] at h
    by_cases hx : p x = true
    · rw [if_pos hx] at h
      intro c hc
      rcases List.mem_cons.1 hc with rfl | hc
      · exact hx
      · exact dw_mem h c hc
    · rw [if_neg hx] at h; exact h
theorem dw_sub {p : UInt8 → Bool} : ∀ {l : List UInt8} {c : UInt8}, c ∈ l.dropWhile p → c ∈ l
  | [], _, h => by cases h
  | x :: l, c, h => by
    rw [List.dropWhile_cons] at h
    split at h
    · exact List.mem_cons_of_mem _ (dw_sub h)
    · exact h
theorem trim_digits (D : List UInt8) : (trimS D [48, 49, 50, 51, 52, 53, 54, 55, 56, 57]).isEmpty = D.all isD := by
  have hp : ∀ c : UInt8, ([48, 49, 50, 51, 52, 53, 54, 55, 56, 57] : List UInt8).contains c = isD c := by
    intro c
    have : ∀ n : Fin 256, ([48, 49, 50, 51, 52, 53, 54, 55, 56, 57] : List UInt8).contains (UInt8.ofNat n.val) = isD (UInt8.ofNat n.val) := by decide +kernel
    have h := this ⟨c.toNat, c.toNat_lt⟩
    rwa [ofNat_toNat] at h
  rw [Bool.eq_iff_iff, List.isEmpty_iff, List.all_eq_true]
  unfold trimS trimLeftS trimRightS
  rw [dw_nil]
  constructor
  · intro h c hc
    rw [← hp c]
    refine dw_mem (l := D.reverse) (p := fun c => ([48, 49, 50, 51, 52, 53, 54, 55, 56, 57] : List UInt8).contains c) (fun c hc => h c (by simpa using hc)) c (by simpa using hc)
  · intro h c hc
    rw [hp]
    exact h c (List.mem_reverse.1 (dw_sub (List.mem_reverse.1 hc)))
end Go.Proofs.YthidfomkgclkcaaGreatDoor.M
namespace Go.Proofs.YthidfomkgclkcaaGreatDoor.M
open Go Go.Lib
theorem okS_iff {neg : Bool} {D : List UInt8} : okS neg D = true ↔ D ≠ [] ∧ (∀ c ∈ D, isD c = true) ∧ (∀ c r, D = c :: r → c.toNat = 48 → neg = false ∧ r = []) := by
  unfold okS
  cases D with
  | nil => simp
  | cons c r =>
    have e : (c == (48 : UInt8)) = decide (c.toNat = 48) := by
      rw [Bool.eq_iff_iff, beq_iff_eq, decide_eq_true_iff]
      exact ⟨fun h => by rw [h]; rfl, fun h => by rw [← ofNat_toNat c, h]; rfl⟩
    cases neg <;> simp [e, List.all_eq_true]
    · intro _ _; exact ⟨fun h h2 => h.resolve_left (fun h3 => h3 h2), fun h => by by_cases h2 : c.toNat = 48 <;> simp [h2, h]⟩
theorem badF_pos (c : UInt8) (r : List UInt8) (h : c.toNat ≠ 45) : X.badF (c :: r) = !(okS false (c :: r)) := by
  have e45 : (45 == c) = false := by rw [beq_eq_false_iff_ne]; intro e; rw [← e] at h; exact h rfl
  have e1 : trimPrefix (c :: r) [45] = c :: r := by
    unfold trimPrefix hasPrefix; rw [show List.isPrefixOf [45] (c :: r) = false by simp [List.isPrefixOf, e45]]; rfl
  unfold X.badF
  rw [e1, trim_digits]
  have e2 : hasPrefix (c :: r) [48] = (c == 48) := by
    unfold hasPrefix; simp [List.isPrefixOf]; rw [Bool.eq_iff_iff]; simp; exact eq_comm
  have e3 : (c :: r == [48]) = (c == 48 && (r.isEmpty)) := by cases r <;> (rw [Bool.eq_iff_iff]; simp)
  rw [e2, e3]
  unfold okS
  cases h1 : (c == (48 : UInt8)) <;> cases h2 : (c :: r).all isD <;> cases r <;> simp_all
theorem badF_neg (r : List UInt8) : X.badF (45 :: r) = !(okS true r) := by
  have e1 : trimPrefix (45 :: r) [45] = r := by
    unfold trimPrefix hasPrefix; rw [show List.isPrefixOf [45] (45 :: r) = true by simp [List.isPrefixOf]]; rfl
  unfold X.badF
  rw [e1, trim_digits]
  have e2 : hasPrefix r [48] = (r.head? == some 48) := by
    unfold hasPrefix; cases r with
    | nil => rfl
    | cons x r => rw [Bool.eq_iff_iff]; simp [List.isPrefixOf]; exact eq_comm
  have e3 : ((45 : UInt8) :: r == [48]) = false := by simp
  rw [e2, e3]
  unfold okS
  cases h1 : (r.head? == some (48 : UInt8)) <;> cases h2 : r.all isD <;> cases r <;> simp_all
theorem signed_m (u : Nat) : (match signedC (2 ^ (64 - 1)) (if u ≤ 18446744073709551615 then NumEnd.ok u else .range) with | .ok v => (v, 0) | _ => (0, 2)) = (if I64 (-(u : Int)) then (-(u : Int), 0) else ((0, 2) : Int × Int)) := by
  have e : (2 : Nat) ^ (64 - 1) = 9223372036854775808 := by decide
  by_cases c1 : u ≤ 18446744073709551615
  · rw [if_pos c1]
    rw [show signedC (2 ^ (64 - 1)) (NumEnd.ok u) = (if 2 ^ (64 - 1) < u then NumEnd.range else .ok (-(u : Int))) from rfl]
    by_cases c2 : 2 ^ (64 - 1) < u
    · rw [if_pos c2, if_neg (by unfold I64; omega)]
    · rw [if_neg c2, if_pos (by unfold I64; omega)]
  · rw [if_neg c1, if_neg (by unfold I64; omega)]; rfl
theorem signless_m (u : Nat) : (match signlessC (2 ^ (64 - 1)) (if u ≤ 18446744073709551615 then NumEnd.ok u else .range) with | .ok v => (v, 0) | _ => (0, 2)) = (if I64 (u : Int) then ((u : Int), 0) else ((0, 2) : Int × Int)) := by
  have e : (2 : Nat) ^ (64 - 1) = 9223372036854775808 := by decide
  by_cases c1 : u ≤ 18446744073709551615
  · rw [if_pos c1]
    rw [show signlessC (2 ^ (64 - 1)) (NumEnd.ok u) = (if 2 ^ (64 - 1) ≤ u then NumEnd.range else .ok (u : Int)) from rfl]
    by_cases c2 : 2 ^ (64 - 1) ≤ u
    · rw [if_pos c2, if_neg (by unfold I64; omega)]
    · rw [if_neg c2, if_pos (by unfold I64; omega)]
  · rw [if_neg c1, if_neg (by unfold I64; omega)]; rfl
theorem parseF_pS (l : List UInt8) : X.parseF l = pS l := by
  cases l with
  | nil => rfl
  | cons c r =>
    by_cases h : c.toNat = 45
    · obtain rfl : c = 45 := by rw [← ofNat_toNat c, h]; rfl
      unfold X.parseF
      rw [badF_neg]
      show _ = sD true r
      unfold sD
      by_cases ho : okS true r = true
      · rw [if_pos ho, if_neg (by simp [ho])]
        obtain ⟨h1, h2, h3⟩ := okS_iff.1 ho
        rw [parseIntB_minus, uintB r h2 h1]
        exact signed_m _
      · rw [if_neg ho, if_pos (by simp [ho])]
    · unfold X.parseF
      rw [badF_pos c r h]
      show _ = (if c.toNat = 45 then sD true r else sD false (c :: r))
      rw [if_neg h]
      unfold sD
      by_cases ho : okS false (c :: r) = true
      · rw [if_pos ho, if_neg (by simp [ho])]
        obtain ⟨h1, h2, h3⟩ := okS_iff.1 ho
        have hc := isD_iff.1 (h2 c List.mem_cons_self)
        rw [parseIntB_plain 64 c r (by omega) h, uintB _ h2 h1]
        exact signless_m _
      · rw [if_neg ho, if_pos (by simp [ho])]
theorem pS_itoa {n : Int} (hn : I64 n) : pS (itoa n) = (n, 0) := by
  unfold itoa
  by_cases c : n < 0
  · rw [if_pos c]
    show sD true _ = _
    unfold sD
    obtain ⟨x, r, e, h0⟩ := dec_head n.natAbs
    rw [if_pos (okS_iff.2 ⟨dec_ne _, dec_dig _, fun c r e2 h => by rw [e] at e2; obtain ⟨rfl, rfl⟩ := List.cons.inj e2; have := h0 h; omega⟩), dec_vD]
    simp only [if_true]
    rw [show -(n.natAbs : Int) = n by omega, if_pos hn]
  · rw [if_neg c]
    obtain ⟨x, r, e, h0⟩ := dec_head n.toNat
    have hx := isD_iff.1 (dec_dig n.toNat x (by rw [e]; exact List.mem_cons_self))
    have hs : sD false (decDigits n.toNat) = (n, 0) := by
      unfold sD
      rw [if_pos (okS_iff.2 ⟨dec_ne _, dec_dig _, fun c r2 e2 h => ⟨rfl, by
        rw [e] at e2; obtain ⟨rfl, rfl⟩ := List.cons.inj e2; have := h0 h
        rw [this, dec_small (by omega)] at e; exact (List.cons.inj e).2.symm⟩⟩), dec_vD]
      simp only [Bool.false_eq_true, if_false]
      rw [show (n.toNat : Int) = n by omega, if_pos hn]
    rw [e] at hs ⊢
    show (if x.toNat = 45 then _ else _) = _
    rw [if_neg (by omega)]; exact hs
theorem itoa_pS {l : List UInt8} {v : Int} (h : pS l = (v, 0)) : itoa v = l := by
  cases l with
  | nil => cases h
  | cons c r =>
    by_cases hc : c.toNat = 45
    · obtain rfl : c = 45 := by rw [← ofNat_toNat c, hc]; rfl
      replace h : sD true r = (v, 0) := h
      unfold sD at h
      by_cases ho : okS true r = true
      · rw [if_pos ho] at h
        simp only [if_true] at h
        obtain ⟨h1, h2, h3⟩ := okS_iff.1 ho
        have hp := vD_pos h2 h1 (fun c r e h => by have := (h3 c r e h).1; cases this)
        by_cases hi : I64 (-(vD 0 r : Int))
        · rw [if_pos hi] at h
          obtain rfl := (Prod.mk.inj h).1
          unfold itoa
          rw [if_pos (by omega), show (-(vD 0 r : Int)).natAbs = vD 0 r by omega, vD_dec r h2 h1 (fun c r e h => (h3 c r e h).2)]
        · rw [if_neg hi] at h; cases h
      · rw [if_neg ho] at h; cases h
    · replace h : (if c.toNat = 45 then sD true r else sD false (c :: r)) = (v, 0) := h
      rw [if_neg hc] at h
      unfold sD at h
      by_cases ho : okS false (c :: r) = true
      · rw [if_pos ho] at h
        simp only [Bool.false_eq_true, if_false] at h
        obtain ⟨h1, h2, h3⟩ := okS_iff.1 ho
        by_cases hi : I64 (vD 0 (c :: r) : Int)
        · rw [if_pos hi] at h
          obtain rfl := (Prod.mk.inj h).1
          unfold itoa
          rw [if_neg (by omega), show ((vD 0 (c :: r) : Int)).toNat = vD 0 (c :: r) by omega, vD_dec _ h2 h1 (fun c r e h => (h3 c r e h).2)]
        · rw [if_neg hi] at h; cases h
      · rw [if_neg ho] at h; cases h
theorem sD_i64 (n : Bool) (D : List UInt8) : I64 (sD n D).1 := by
  unfold sD
  by_cases h : okS n D = true
  · rw [if_pos h]
    by_cases h2 : I64 (if n then -(vD 0 D : Int) else vD 0 D)
    · rw [if_pos h2]; exact h2
    · rw [if_neg h2]; exact ⟨by decide, by decide⟩
  · rw [if_neg h]; exact ⟨by decide, by decide⟩
theorem pS_i64 (l : List UInt8) : I64 (pS l).1 := by
  cases l with
  | nil => exact ⟨by decide, by decide⟩
  | cons c r => show I64 (if c.toNat = 45 then sD true r else sD false (c :: r)).1; split <;> exact sD_i64 _ _
theorem itoa_inj {a b : Int} (ha : I64 a) (hb : I64 b) (h : itoa a = itoa b) : a = b := by
  have h1 := pS_itoa ha
  rw [h, pS_itoa hb] at h1
  exact ((Prod.mk.inj h1).1).symm
theorem itoa_ne (a : Int) : itoa a ≠ [] := by unfold itoa; split; simp; exact dec_ne _
end Go.Proofs.YthidfomkgclkcaaGreatDoor.M
namespace Go.Proofs.YthidfomkgclkcaaGreatDoor.M
open Go Go.Lib
def in9 (n : Int) : Prop := 1 ≤ n ∧ n ≤ 1000000000
instance (n : Int) : Decidable (in9 n) := by unfold in9; infer_instance
def rightS (n d : Int) : Bool := decide (in9 n) && (decide (in9 d) && decide (Int.gcd n d = 1))
def makeS (n d : Int) : Int × Int × Int :=
  if n < 1 ∨ d < 1 then (0, 0, 1) else
  if in9 (n / (Int.gcd n d : Nat)) ∧ in9 (d / (Int.gcd n d : Nat)) then (n / (Int.gcd n d : Nat), d / (Int.gcd n d : Nat), 0) else (0, 0, 4)
def rparseS (l : List UInt8) : Int × Int × Int :=
  if (pS (X.upF l)).2 = 5 ∨ (pS (X.downF l)).2 = 5 then (0, 0, 5) else
  if (pS (X.upF l)).2 ≠ 0 ∨ (pS (X.downF l)).2 ≠ 0 then (0, 0, 4) else makeS (pS (X.upF l)).1 (pS (X.downF l)).1
def rprintS (n d : Int) : List UInt8 := if rightS n d = true then (if d = 1 then itoa n else itoa n ++ [47] ++ itoa d) else []
def applyS (n d a : Int) : Int × Int := if rightS n d = true then mulDiv a n d else (0, 1)
def rcmpS (a b c d : Int) : Int := cmpI (a * d) (c * b)
def chainF : Int → List Int → Int × Int
  | n, [] => (n, 0)
  | n, p :: l => if n * p % 10000 = 0 then chainF (n * p / 10000) l else (0, 12)
def okP4 (p : Int) : Bool := decide (0 ≤ p) && decide (p ≤ 10000)
theorem okP4_iff {p : Int} : okP4 p = true ↔ 0 ≤ p ∧ p ≤ 10000 := by unfold okP4; simp
def chainS (l : List Int) : Int × Int := if l.all okP4 = true then chainF 10000 l else (0, 1)
theorem rightS_iff {n d : Int} : rightS n d = true ↔ in9 n ∧ in9 d ∧ Int.gcd n d = 1 := by unfold rightS; simp
theorem in9_i64 {n : Int} (h : in9 n) : I64 n := by unfold in9 at h; unfold I64; omega
/-! lowest terms -/
theorem gcd_pos' {n d : Int} (hn : 1 ≤ n) : 1 ≤ (Int.gcd n d : Int) := by
  have : 0 < Int.gcd n d := Int.gcd_pos_of_ne_zero_left _ (by omega)
  omega
theorem div_gcd_i64 {n d : Int} (hn : 1 ≤ n) (h : I64 n) : I64 (n / (Int.gcd n d : Nat)) ∧ 0 ≤ n / (Int.gcd n d : Nat) := by
  have hg := gcd_pos' (d := d) hn
  have h1 : 0 ≤ n / (Int.gcd n d : Nat) := Int.ediv_nonneg (by omega) (by omega)
  have h2 : n / (Int.gcd n d : Nat) ≤ n := Int.ediv_le_self _ (by omega)
  unfold I64 at *; omega
theorem makeS_pos {n d : Int} (h1 : ¬ n < 1) (h2 : ¬ d < 1) : makeS n d = if in9 (n / (Int.gcd n d : Nat)) ∧ in9 (d / (Int.gcd n d : Nat)) then (n / (Int.gcd n d : Nat), d / (Int.gcd n d : Nat), 0) else (0, 0, 4) := by
  unfold makeS; rw [if_neg (fun h => h.elim h1 h2)]
theorem makeS_right {n d x y : Int} (h : makeS n d = (x, y, 0)) : rightS x y = true := by
  unfold makeS at h
  by_cases c : n < 1 ∨ d < 1
  · rw [if_pos c] at h; cases h
  · rw [if_neg c] at h
    by_cases c2 : in9 (n / (Int.gcd n d : Nat)) ∧ in9 (d / (Int.gcd n d : Nat))
    · rw [if_pos c2] at h
      obtain ⟨rfl, h2⟩ := Prod.mk.inj h
      obtain ⟨rfl, _⟩ := Prod.mk.inj h2
      refine rightS_iff.2 ⟨c2.1, c2.2, ?_⟩
      exact Int.gcd_ediv_gcd_ediv_gcd (Int.gcd_pos_of_ne_zero_left _ (by omega))
    · rw [if_neg c2] at h; cases h
theorem makeS_of_right {n d : Int} (h : rightS n d = true) : makeS n d = (n, d, 0) := by
  obtain ⟨h1, h2, h3⟩ := rightS_iff.1 h
  unfold makeS
  rw [if_neg (by unfold in9 at *; omega), h3]
  have e : ∀ z : Int, z / ((1 : Nat) : Int) = z := fun z => by simp
  rw [e, e, if_pos ⟨h1, h2⟩]
theorem makeS_times {x y k : Int} (h : rightS x y = true) (hk : 1 ≤ k) : makeS (x * k) (y * k) = (x, y, 0) := by
  obtain ⟨h1, h2, h3⟩ := rightS_iff.1 h
  have p1 : 1 ≤ x * k := by have := Int.mul_le_mul h1.1 hk (by omega) (by unfold in9 at h1; omega); omega
  have p2 : 1 ≤ y * k := by have := Int.mul_le_mul h2.1 hk (by omega) (by unfold in9 at h2; omega); omega
  have hg : (Int.gcd (x * k) (y * k) : Int) = k := by
    rw [Int.gcd_mul_right, h3]; simp; omega
  unfold makeS
  rw [if_neg (by omega), hg, Int.mul_ediv_cancel _ (by omega), Int.mul_ediv_cancel _ (by omega), if_pos ⟨h1, h2⟩]
theorem makeS_bad {n d : Int} (h : (makeS n d).2.2 ≠ 0) : rightS n d = false ∧ (makeS n d).1 = 0 ∧ (makeS n d).2.1 = 0 := by
  refine ⟨?_, ?_⟩
  · cases hr : rightS n d
    · rfl
    · rw [makeS_of_right hr] at h; exact absurd rfl h
  · unfold makeS at h ⊢
    by_cases c : n < 1 ∨ d < 1
    · rw [if_pos c]; exact ⟨rfl, rfl⟩
    · rw [if_neg c] at h ⊢
      by_cases c2 : in9 (n / (Int.gcd n d : Nat)) ∧ in9 (d / (Int.gcd n d : Nat))
      · rw [if_pos c2] at h; exact absurd rfl h
      · rw [if_neg c2]; exact ⟨rfl, rfl⟩
/-! texts -/
theorem index_no : ∀ {A : List UInt8}, (∀ c ∈ A, c ≠ 47) → index A [47] = -1
  | [], _ => rfl
  | c :: A, h => by
    have ih := index_no (A := A) (fun x hx => h x (List.mem_cons_of_mem _ hx))
    have hc := h c List.mem_cons_self
    have hb : ((47 : UInt8) == c) = false := by rw [beq_eq_false_iff_ne]; exact fun e => hc e.symm
    unfold index
    rw [show List.isPrefixOf [47] (c :: A) = false by simp [List.isPrefixOf, hb], ih]; rfl
theorem index_at : ∀ {A B : List UInt8}, (∀ c ∈ A, c ≠ 47) → index (A ++ 47 :: B) [47] = A.length
  | [], B, _ => by
    show index (47 :: B) [47] = 0
    unfold index
    rw [if_pos (by simp [List.isPrefixOf])]
  | c :: A, B, h => by
    have ih := index_at (A := A) (B := B) (fun x hx => h x (List.mem_cons_of_mem _ hx))
    have hc := h c List.mem_cons_self
    have hb : ((47 : UInt8) == c) = false := by rw [beq_eq_false_iff_ne]; exact fun e => hc e.symm
    show index (c :: (A ++ 47 :: B)) [47] = _
    unfold index
    rw [show List.isPrefixOf [47] (c :: (A ++ 47 :: B)) = false by simp [List.isPrefixOf, hb], ih]
    rw [if_neg (by simp), if_neg (by rw [beq_iff_eq]; omega)]; simp
theorem itoa_no47 (n : Int) : ∀ c ∈ itoa n, c ≠ 47 := by
  intro c hc e
  subst e
  have hd : ∀ u, (47 : UInt8) ∉ decDigits u := fun u h => by
    have := isD_iff.1 (dec_dig u _ h)
    have e : (47 : UInt8).toNat = 47 := rfl
    omega
  unfold itoa at hc
  split at hc
  · rcases List.mem_cons.1 hc with h | h
    · exact absurd h (by decide)
    · exact hd _ h
  · exact hd _ hc
theorem cut_at {A B : List UInt8} (h : ∀ c ∈ A, c ≠ 47) : cut (A ++ 47 :: B) [47] = (A, B, true) := by
  unfold cut
  rw [index_at h, if_pos (by omega)]
  simp
theorem cut_no {A : List UInt8} (h : ∀ c ∈ A, c ≠ 47) : cut A [47] = (A, [], false) := by
  unfold cut
  rw [index_no h, if_neg (by omega)]
theorem rparse_print {n d : Int} (h : rightS n d = true) : rparseS (rprintS n d) = (n, d, 0) := by
  obtain ⟨h1, h2, h3⟩ := rightS_iff.1 h
  unfold rprintS
  rw [if_pos h]
  by_cases c : d = 1
  · subst c
    rw [if_pos rfl]
    have eu : X.upF (itoa n) = itoa n := by unfold X.upF; rw [cut_no (itoa_no47 n)]
    have ed : X.downF (itoa n) = [49] := by unfold X.downF; rw [cut_no (itoa_no47 n)]; rfl
    unfold rparseS
    rw [eu, ed, pS_itoa (in9_i64 h1), show pS [49] = (1, 0) by decide +kernel, if_neg (by simp), if_neg (by simp)]
    exact makeS_of_right h
  · rw [if_neg c]
    have e : itoa n ++ [47] ++ itoa d = itoa n ++ 47 :: itoa d := by simp
    rw [e]
    have eu : X.upF (itoa n ++ 47 :: itoa d) = itoa n := by unfold X.upF; rw [cut_at (itoa_no47 n)]
    have ed : X.downF (itoa n ++ 47 :: itoa d) = itoa d := by unfold X.downF; rw [cut_at (itoa_no47 n)]; rfl
    unfold rparseS
    rw [eu, ed, pS_itoa (in9_i64 h1), pS_itoa (in9_i64 h2), if_neg (by simp), if_neg (by simp)]
    exact makeS_of_right h
/-! chains -/
theorem step4 {n p : Int} (hn : 0 ≤ n ∧ n ≤ 10000) (hp : 0 ≤ p ∧ p ≤ 10000) : 0 ≤ n * p ∧ n * p ≤ 100000000 ∧ n * p / 10000 ≤ n ∧ n * p / 10000 ≤ p := by
  have h0 : 0 ≤ n * p := Int.mul_nonneg hn.1 hp.1
  have h1 : n * p ≤ n * 10000 := Int.mul_le_mul_of_nonneg_left hp.2 hn.1
  have h2 : n * p ≤ 10000 * p := Int.mul_le_mul_of_nonneg_right hn.2 hp.1
  omega
theorem chainF_le (l : List Int) : ∀ n m, (0 ≤ n ∧ n ≤ 10000) → (∀ p ∈ l, 0 ≤ p ∧ p ≤ 10000) → chainF n l = (m, 0) → 0 ≤ m ∧ m ≤ n ∧ ∀ p ∈ l, m ≤ p := by
  induction l with
  | nil => intro n m hn _ h; obtain rfl := (Prod.mk.inj h).1; exact ⟨hn.1, Int.le_refl _, by simp⟩
  | cons p l ih =>
    intro n m hn hp h
    have hp0 := hp p List.mem_cons_self
    have hs := step4 hn hp0
    unfold chainF at h
    by_cases c : n * p % 10000 = 0
    · rw [if_pos c] at h
      obtain ⟨a, b, d⟩ := ih _ m ⟨by omega, by omega⟩ (fun q hq => hp q (List.mem_cons_of_mem _ hq)) h
      refine ⟨a, by omega, fun q hq => ?_⟩
      rcases List.mem_cons.1 hq with rfl | hq
      · omega
      · exact d q hq
    · rw [if_neg c] at h; cases h
theorem chainF_app (a : List Int) : ∀ n b, chainF n (a ++ b) = if (chainF n a).2 = 0 then chainF (chainF n a).1 b else (0, 12) := by
  induction a with
  | nil => intro n b; rfl
  | cons p a ih =>
    intro n b
    show (if n * p % 10000 = 0 then chainF (n * p / 10000) (a ++ b) else (0, 12)) = _
    rw [show chainF n (p :: a) = if n * p % 10000 = 0 then chainF (n * p / 10000) a else (0, 12) from rfl]
    by_cases c : n * p % 10000 = 0
    · simp only [if_pos c]; exact ih _ b
    · simp only [if_neg c]; rw [if_neg (by decide)]
theorem chainF_bad (l : List Int) : ∀ n, (chainF n l).2 ≠ 0 → chainF n l = (0, 12) := by
  induction l with
  | nil => intro n h; exact absurd rfl h
  | cons p l ih =>
    intro n h
    unfold chainF at h ⊢
    by_cases c : n * p % 10000 = 0
    · rw [if_pos c] at h ⊢; exact ih _ h
    · rw [if_neg c]
theorem chainF_whole (n : Int) (l : List Int) : chainF n (10000 :: l) = chainF n l := by
  show (if n * 10000 % 10000 = 0 then chainF (n * 10000 / 10000) l else (0, 12)) = _
  rw [if_pos (by omega), show n * 10000 / 10000 = n by omega]
theorem chainF_scale (l : List Int) : ∀ x y m n, chainF x l = (m, 0) → chainF y l = (n, 0) → x * n = y * m := by
  induction l with
  | nil => intro x y m n h1 h2; obtain rfl := (Prod.mk.inj h1).1; obtain rfl := (Prod.mk.inj h2).1; exact Int.mul_comm _ _
  | cons p l ih =>
    intro x y m n h1 h2
    unfold chainF at h1 h2
    by_cases c1 : x * p % 10000 = 0
    · by_cases c2 : y * p % 10000 = 0
      · rw [if_pos c1] at h1; rw [if_pos c2] at h2
        have := ih _ _ m n h1 h2
        by_cases hp : p = 0
        · subst hp
          have z : ∀ (l : List Int) k, chainF 0 l = (k, 0) → k = 0 := by
            intro l
            induction l with
            | nil => intro k h; exact ((Prod.mk.inj h).1).symm
            | cons q l ih2 =>
              intro k h
              unfold chainF at h
              rw [if_pos (by simp), show (0 : Int) * q / 10000 = 0 by simp] at h
              exact ih2 k h
          rw [Int.mul_zero] at h1 h2
          rw [z l m h1, z l n h2, Int.mul_zero, Int.mul_zero]
        · have e1 : x * p = 10000 * (x * p / 10000) := by omega
          have e2 : y * p = 10000 * (y * p / 10000) := by omega
          have e3 : (x * p) * n = (y * p) * m := by
            rw [e1, e2, Int.mul_assoc, Int.mul_assoc, this]
          have e4 : p * (x * n) = p * (y * m) := by
            have l1 : p * (x * n) = (x * p) * n := by rw [Int.mul_comm x p, Int.mul_assoc]
            have l2 : p * (y * m) = (y * p) * m := by rw [Int.mul_comm y p, Int.mul_assoc]
            rw [l1, l2, e3]
          exact Int.eq_of_mul_eq_mul_left hp e4
      · rw [if_neg c2] at h2; cases h2
    · rw [if_neg c1] at h1; cases h1
end Go.Proofs.YthidfomkgclkcaaGreatDoor.M
namespace Go.Proofs.YthidfomkgclkcaaGreatDoor.M
open Go.RowKit Go.Proofs.YthidfomkgclkcaaGreatDoorW.PrintWords
def bs (l : List UInt8) : ByteArray := ⟨l.toArray⟩
theorem bs_data (s : ByteArray) : bs s.data.toList = s := by obtain ⟨⟨l⟩⟩ := s; rfl
theorem bs_eta (s : ByteArray) : ∃ l, s = bs l := ⟨s.data.toList, (bs_data s).symm⟩
theorem bs_size (l : List UInt8) : (bs l).size = l.length := by show l.toArray.size = _; simp
theorem bs_toList (l : List UInt8) : (bs l).toList = l := by rw [Lib.toList_data]; rfl
theorem bs_dataL (l : List UInt8) : (bs l).data.toList = l := rfl
theorem bs_inj {a b : List UInt8} (h : bs a = bs b) : a = b := by rw [← bs_toList a, h, bs_toList]
theorem bs_append (a b : List UInt8) : bs a ++ bs b = bs (a ++ b) := by
  apply ByteArray.ext
  show _ = (a ++ b).toArray
  rw [ByteArray.data_append]; simp [bs]
theorem bs_extract (l : List UInt8) (a b : Nat) : (bs l).extract a b = bs ((l.drop a).take (b - a)) := by
  have h := Lib.extract_toList (bs l) a b
  rw [Lib.toList_data] at h
  rw [← bs_data ((bs l).extract a b), h]; rfl
theorem bt_bs {P R : List UInt8} {c : UInt8} {i : Int} (hi : i = P.length) : bt (bs (P ++ c :: R)) i = c.toNat := by
  subst hi
  unfold bt
  have hlt : (P.length : Int).toNat < (bs (P ++ c :: R)).size := by rw [bs_size]; simp
  rw [dif_pos hlt]
  have : (bs (P ++ c :: R))[(P.length : Int).toNat]'hlt = (P ++ c :: R)[P.length]'(by simp) := by
    show (P ++ c :: R).toArray[(P.length : Int).toNat]'(by simp) = _
    simp
  rw [this]; simp
theorem bt0_bs {R : List UInt8} {c : UInt8} : bt (bs (c :: R)) 0 = c.toNat := bt_bs (P := []) rfl
end Go.Proofs.YthidfomkgclkcaaGreatDoor.M
namespace Go.Proofs.YthidfomkgclkcaaGreatDoor.M
open Go.Proofs.YthidfomkgclkcaaGreatDoorW.PrintWords
theorem evk {α : Type} {g : Option α} {r : α} (h : g = some r) : Ev (fun _ => g) r := by subst h; exact Ev.now r
end Go.Proofs.YthidfomkgclkcaaGreatDoor.M
