import Derived.IntWalk
import Derived.Laws.BitsLemmas
import Derived.RowKit

import Derived.Laws.Entries
import Derived.Test.YtgheapbhakamaaaWMore
/- several texts of this session in one -/
set_option linter.unusedVariables false
set_option linter.unusedSimpArgs false
namespace Go.Proofs.Ytgheapbhakamaaa.M
open Go.RowKit

def I64 (a : Int) : Prop := -9223372036854775808 ≤ a ∧ a ≤ 9223372036854775807
def ab (a : Int) : Int := if a < 0 then -a else a
theorem ab_nonneg (a : Int) : 0 ≤ ab a := by unfold ab; split <;> omega
theorem ab_le {a : Int} (h : I64 a) : ab a ≤ 9223372036854775808 := by obtain ⟨h1, h2⟩ := h; unfold ab; split <;> omega
theorem ab_pos {a : Int} (h : a ≠ 0) : 0 < ab a := by unfold ab; split <;> omega
theorem ab_zero {a : Int} : ab a = 0 ↔ a = 0 := by unfold ab; split <;> omega
def rnd (P C : Int) : Int := if C - P % C ≤ P % C then P / C + 1 else P / C
def ngs (a b c : Int) : Bool := (decide (a < 0)) != ((decide (b < 0)) != (decide (c < 0)))
def sg (n : Bool) (q : Int) : Int := if n = true then -q else q
def fit (v : Int) : Int × Int := if -9223372036854775808 ≤ v ∧ v ≤ 9223372036854775807 then (v, 0) else (0, 2)
def mulDiv (a b c : Int) : Int × Int := if c = 0 then (0, 3) else fit (sg (ngs a b c) (rnd (ab a * ab b) (ab c)))
def exact (a b c : Int) : Int × Bool × Int :=
 if c = 0 then (0, false, 3) else if (ab a * ab b) % ab c = 0 then
  (let v := sg (ngs a b c) (ab a * ab b / ab c); if -9223372036854775808 ≤ v ∧ v ≤ 9223372036854775807 then (v, true, 0) else (0, false, 2)) else (0, false, 0)
def cmpI (x y : Int) : Int := if x < y then -1 else if y < x then 1 else 0

theorem and32 {x : Int} (h0 : 0 ≤ x) (h1 : x ≤ 18446744073709551615) : Go.bits .and .u64 x 4294967295 = x % 4294967296 :=
 bits_mask .u64 64 (by decide) (fun n a b => IntWalk.u64_in n ⟨a, by omega⟩) 32 (by decide) x h0 (by omega)
theorem wu64 (n : Int) : IntKind.u64.wrap n = n % 18446744073709551616 := by
 simp [IntKind.wrap, IntKind.bits, IntKind.signed]
theorem w64_in {n : Int} (h : I64 n) : wrap64 n = n := by obtain ⟨h1, h2⟩ := h; unfold wrap64; omega
theorem w64_i64 (n : Int) : I64 (wrap64 n) := by unfold wrap64 I64; omega
theorem or_zero64 {x y : Int} (hx : 0 ≤ x) (hx1 : x < 18446744073709551616) (hy : 0 ≤ y) (hy1 : y < 18446744073709551616) : (Go.bits .or .u64 x y != 0) = decide (x ≠ 0 ∨ y ≠ 0) := by
 obtain ⟨a, rfl⟩ := Int.eq_ofNat_of_zero_le hx
 obtain ⟨b, rfl⟩ := Int.eq_ofNat_of_zero_le hy
 rw [(bits_nat .u64 64 (by decide) (fun n a b => IntWalk.u64_in n ⟨a, by omega⟩) a b (by omega) (by omega)).2]
 by_cases ha : a = 0
 ·subst ha; by_cases hb : b = 0
  ·subst hb; rfl
  ·simp [hb]
 ·have : a ||| b ≠ 0 := by
   intro h
   have := Nat.left_le_or (n := a) (m := b)
   omega
  simp [ha]
theorem or_join {x y : Int} (i : Nat) (hx₀ : 0 ≤ x) (hx : x % 2 ^ i = 0) (hx₁ : x < 18446744073709551616) (hy₀ : 0 ≤ y) (hy : y < 2 ^ i) (hy₁ : y < 18446744073709551616) : Go.bits .or .u64 x y = x + y :=
 bits_join .u64 64 (by decide) (fun n a b => IntWalk.u64_in n ⟨a, by omega⟩) i x y hx₀ hx (by omega) hy₀ hy (by omega)
theorem mul_le_mul' {a b c d : Int} (h1 : a ≤ c) (h2 : b ≤ d) (h3 : 0 ≤ a) (h4 : 0 ≤ d) : a * b ≤ c * d :=
 Int.le_trans (Int.mul_le_mul_of_nonneg_left h2 h3) (Int.mul_le_mul_of_nonneg_right h1 h4)

theorem digit {T y q : Int} (hy : 0 < y) (h1 : q * y ≤ T) (h2 : T < (q + 1) * y) : T / y = q := by
 have h3 : q ≤ T / y := (Int.le_ediv_iff_mul_le hy).2 h1
 have h4 : T / y < q + 1 := Int.ediv_lt_of_lt_mul hy h2
 omega

structure Dg (y1 y0 u u0 q r : Int) : Prop where
 y1l : 2147483648 ≤ y1
 y1h : y1 < 4294967296
 y0l : 0 ≤ y0
 y0h : y0 < 4294967296
 u0l : 0 ≤ u0
 u0h : u0 < 4294967296
 ul : 0 ≤ u
 uh : u < y1 * 4294967296 + y0
 ql : 0 ≤ q
 qh : q ≤ 8589934592
 rl : 0 ≤ r
 rh : r < 4294967296
 eq : q * y1 + r = u
 ge : (u * 4294967296 + u0) / (y1 * 4294967296 + y0) ≤ q

theorem mul_lin (q y1 y0 : Int) : q * (y1 * 4294967296 + y0) = (q * y1) * 4294967296 + q * y0 := by
 rw [Int.mul_add, Int.mul_assoc]
theorem Dg.no {y1 y0 u u0 q r : Int} (h : Dg y1 y0 u u0 q r) (hc : q * y0 ≤ 4294967296 * r + u0) : (u * 4294967296 + u0) / (y1 * 4294967296 + y0) = q := by
 obtain ⟨h1, h2, h3, h4, h5, h6, h7, h8, h9, h10, h11, h12, h13, h14⟩ := h
 have hy : 0 < y1 * 4294967296 + y0 := by omega
 have : q ≤ (u * 4294967296 + u0) / (y1 * 4294967296 + y0) := (Int.le_ediv_iff_mul_le hy).2 (by rw [mul_lin]; omega)
 omega
theorem Dg.lt {y1 y0 u u0 q r : Int} (h : Dg y1 y0 u u0 q r) (hc : 4294967296 ≤ q ∨ 4294967296 * r + u0 < q * y0) : (u * 4294967296 + u0) / (y1 * 4294967296 + y0) ≤ q - 1 := by
 obtain ⟨h1, h2, h3, h4, h5, h6, h7, h8, h9, h10, h11, h12, h13, h14⟩ := h
 have hy : 0 < y1 * 4294967296 + y0 := by omega
 rcases hc with hc | hc
 ·have : (u * 4294967296 + u0) / (y1 * 4294967296 + y0) < 4294967296 := Int.ediv_lt_of_lt_mul hy (by omega)
  omega
 ·have : (u * 4294967296 + u0) / (y1 * 4294967296 + y0) < q := Int.ediv_lt_of_lt_mul hy (by rw [mul_lin]; omega)
  omega
theorem Dg.pos {y1 y0 u u0 q r : Int} (h : Dg y1 y0 u u0 q r) (hc : 4294967296 ≤ q ∨ 4294967296 * r + u0 < q * y0) : 1 ≤ q := by
 have := h.lt hc
 have h2 : 0 ≤ (u * 4294967296 + u0) / (y1 * 4294967296 + y0) := Int.ediv_nonneg (by have := h.ul; have := h.u0l; omega) (by have := h.y1l; have := h.y0l; omega)
 omega
theorem Dg.out {y1 y0 u u0 q r : Int} (h : Dg y1 y0 u u0 q r) (hc : 4294967296 ≤ q ∨ 4294967296 * r + u0 < q * y0) (hr : 4294967296 ≤ r + y1) : (u * 4294967296 + u0) / (y1 * 4294967296 + y0) = q - 1 := by
 have hlt := h.lt hc
 have hp := h.pos hc
 obtain ⟨h1, h2, h3, h4, h5, h6, h7, h8, h9, h10, h11, h12, h13, h14⟩ := h
 have hy : 0 < y1 * 4294967296 + y0 := by omega
 have e : (q - 1) * y1 = q * y1 - y1 := by rw [Int.sub_mul, Int.one_mul]
 have hq : q - 1 < 4294967296 := by
  apply Int.lt_of_not_ge
  intro hge
  have := Int.mul_le_mul_of_nonneg_right hge (show 0 ≤ y1 by omega)
  omega
 have h15 : (q - 1) * y0 ≤ 4294967296 * 4294967296 := mul_le_mul' (by omega) (by omega) (by omega) (by omega)
 have : q - 1 ≤ (u * 4294967296 + u0) / (y1 * 4294967296 + y0) := (Int.le_ediv_iff_mul_le hy).2 (by rw [mul_lin]; omega)
 omega
theorem Dg.next {y1 y0 u u0 q r : Int} (h : Dg y1 y0 u u0 q r) (hc : 4294967296 ≤ q ∨ 4294967296 * r + u0 < q * y0) (hr : r + y1 < 4294967296) : Dg y1 y0 u u0 (q - 1) (r + y1) := by
 have hlt := h.lt hc
 have hp := h.pos hc
 obtain ⟨h1, h2, h3, h4, h5, h6, h7, h8, h9, h10, h11, h12, h13, h14⟩ := h
 have e : (q - 1) * y1 = q * y1 - y1 := by rw [Int.sub_mul, Int.one_mul]
 exact ⟨h1, h2, h3, h4, h5, h6, h7, h8, by omega, by omega, by omega, by omega, by omega, hlt⟩
theorem Dg.init {y1 y0 u u0 : Int} (h1 : 2147483648 ≤ y1) (h2 : y1 < 4294967296) (h3 : 0 ≤ y0) (h4 : y0 < 4294967296) (h5 : 0 ≤ u0) (h6 : u0 < 4294967296) (h7 : 0 ≤ u) (h8 : u < y1 * 4294967296 + y0) :
  Dg y1 y0 u u0 (u / y1) (u - u / y1 * y1) := by
 have hy : 0 < y1 * 4294967296 + y0 := by omega
 have hm := Int.emod_nonneg u (show y1 ≠ 0 by omega)
 have hm2 := Int.emod_lt_of_pos u (show 0 < y1 by omega)
 have hd := Int.mul_ediv_add_emod u y1
 rw [Int.mul_comm] at hd
 have hq0 : 0 ≤ u / y1 := Int.ediv_nonneg h7 (by omega)
 refine ⟨h1, h2, h3, h4, h5, h6, h7, h8, hq0, ?_, by omega, by omega, by omega, ?_⟩
 ·have : u / y1 < 8589934592 := Int.ediv_lt_of_lt_mul (by omega) (by omega)
  omega
 ·generalize hQ : (u * 4294967296 + u0) / (y1 * 4294967296 + y0) = Q
  have hQ0 : 0 ≤ Q := by rw [← hQ]; exact Int.ediv_nonneg (by omega) (by omega)
  have h9 : Q * (y1 * 4294967296 + y0) ≤ u * 4294967296 + u0 := (Int.le_ediv_iff_mul_le hy).1 (by omega)
  rw [mul_lin] at h9
  have h10 : 0 ≤ Q * y0 := Int.mul_nonneg hQ0 h3
  exact (Int.le_ediv_iff_mul_le (by omega)).2 (by omega)
theorem Dg.rest {y1 y0 u u0 q : Int} (h1 : 2147483648 ≤ y1) (h2 : y1 < 4294967296) (h3 : 0 ≤ y0) (h4 : y0 < 4294967296)
  (hq : (u * 4294967296 + u0) / (y1 * 4294967296 + y0) = q) : IntKind.u64.wrap (IntKind.u64.wrap (IntKind.u64.wrap (u * 4294967296) + u0) - IntKind.u64.wrap (q * (y1 * 4294967296 + y0))) = (u * 4294967296 + u0) % (y1 * 4294967296 + y0) := by
 have hy : 0 < y1 * 4294967296 + y0 := by omega
 have hm := Int.emod_nonneg (u * 4294967296 + u0) (show y1 * 4294967296 + y0 ≠ 0 by omega)
 have hm2 := Int.emod_lt_of_pos (u * 4294967296 + u0) hy
 have hd := Int.mul_ediv_add_emod (u * 4294967296 + u0) (y1 * 4294967296 + y0)
 rw [hq, Int.mul_comm] at hd
 simp only [wu64]
 omega
theorem two_digits {U u0 y q1 q0 : Int} (hy : 0 < y) (h1 : U / y = q1) (h0 : (U % y * 4294967296 + u0) / y = q0) : (U * 4294967296 + u0) / y = q1 * 4294967296 + q0 ∧ (U * 4294967296 + u0) % y = (U % y * 4294967296 + u0) % y := by
 have hd := Int.mul_ediv_add_emod U y
 rw [h1] at hd
 have e : U * 4294967296 + u0 = (U % y * 4294967296 + u0) + y * (q1 * 4294967296) := by
  have : U * 4294967296 = (y * q1 + U % y) * 4294967296 := by rw [hd]
  rw [this, Int.add_mul, Int.mul_assoc]; omega
 constructor
 ·rw [e, Int.add_mul_ediv_left _ _ (by omega), h0]; omega
 ·rw [e, Int.add_mul_emod_self_left]
end Go.Proofs.Ytgheapbhakamaaa.M
namespace Go.Proofs.Ytgheapbhakamaaa.M
open Go.RowKit

instance decI64 (v : Int) : Decidable (I64 v) := by unfold I64; infer_instance
def addS (a b : Int) : Int × Int := if I64 (a + b) then (a + b, 0) else (0, 2)
def sumS : Int → List Int → Int × Int
 | n, [] => (n, 0)
 | n, x :: l => if I64 (n + x) then sumS (n + x) l else (0, 2)
theorem wrap_toInt (v : BitVec 64) : IntKind.i64.wrap (v.toNat : Int) = v.toInt := by
 rw [IntKind.wrap_i64, BitVec.toInt_eq_toNat_cond]; have := v.isLt; split <;> omega
theorem msb_ofInt {x : Int} (h : I64 x) : (BitVec.ofInt 64 x).msb = decide (x < 0) := by
 obtain ⟨h1, h2⟩ := h
 rw [BitVec.msb_eq_toInt, BitVec.toInt_ofInt]
 have : Int.bmod x (2 ^ 64) = x := by unfold Int.bmod; simp only []; split <;> omega
 rw [this]
theorem toInt_i64 (v : BitVec 64) : I64 v.toInt := by
 have h1 := BitVec.toInt_lt (x := v)
 have h2 := BitVec.le_toInt (x := v)
 unfold I64; omega
theorem xor_neg {x y : Int} (hx : I64 x) (hy : I64 y) : I64 (Go.bits .xor .i64 x y) ∧ (Go.bits .xor .i64 x y < 0 ↔ ¬ (x < 0 ↔ y < 0)) := by
 have e : Go.bits .xor .i64 x y = (BitVec.ofInt 64 x ^^^ BitVec.ofInt 64 y).toInt := wrap_toInt _
 rw [e]
 refine ⟨toInt_i64 _, ?_⟩
 have := BitVec.msb_eq_toInt (x := BitVec.ofInt 64 x ^^^ BitVec.ofInt 64 y)
 rw [BitVec.msb_xor, msb_ofInt hx, msb_ofInt hy] at this
 by_cases c : x < 0 <;> by_cases d : y < 0 <;> simp [c, d] at this ⊢ <;> omega
theorem and_neg {x y : Int} (hx : I64 x) (hy : I64 y) : (Go.bits .and .i64 x y < 0 ↔ (x < 0 ∧ y < 0)) := by
 have e : Go.bits .and .i64 x y = (BitVec.ofInt 64 x &&& BitVec.ofInt 64 y).toInt := wrap_toInt _
 rw [e]
 have := BitVec.msb_eq_toInt (x := BitVec.ofInt 64 x &&& BitVec.ofInt 64 y)
 rw [BitVec.msb_and, msb_ofInt hx, msb_ofInt hy] at this
 by_cases c : x < 0 <;> by_cases d : y < 0 <;> simp [c, d] at this ⊢ <;> omega
theorem sumS_ok {l : List Int} : ∀ {n : Int}, (sumS n l).2 = 0 ∨ sumS n l = (0, 2) := by
 induction l with
 | nil => intro n; exact .inl rfl
 | cons x l ih =>
  intro n
  unfold sumS
  split
  ·exact ih
  ·exact .inr rfl
theorem sumS_i64 {l : List Int} : ∀ {n : Int}, I64 n → I64 (sumS n l).1 := by
 induction l with
 | nil => intro n h; exact h
 | cons x l ih =>
  intro n h
  unfold sumS
  split
  ·rename_i h2; exact ih h2
  ·unfold I64; omega
theorem rd_int {L P R : List Int} {x : Int} {i : Nat} (h : L = P ++ x :: R) (hi : P.length = i) : L.getD i 0 = x := by
 rw [h, List.getD_eq_getElem?_getD, List.getElem?_append_right (by omega), hi, Nat.sub_self]; rfl
end Go.Proofs.Ytgheapbhakamaaa.M
namespace Go.Proofs.Ytgheapbhakamaaa.M
open Go
theorem wf_i64 {a : Int} (h : (Lit.int .i64 a).wf = true) : I64 a := by
 simp [Lit.wf, IntKind.min, IntKind.max, IntKind.bits, IntKind.signed] at h
 unfold I64
 omega
theorem wf_i32 {a : Int} (h : (Lit.int .i32 a).wf = true) : -2147483648 ≤ a ∧ a ≤ 2147483647 := by
 simp [Lit.wf, IntKind.min, IntKind.max, IntKind.bits, IntKind.signed] at h
 omega
theorem wf_u8 {a : Int} (h : (Lit.int .u8 a).wf = true) : 0 ≤ a ∧ a ≤ 255 := by
 simp [Lit.wf, IntKind.min, IntKind.max, IntKind.bits, IntKind.signed] at h
 omega
theorem wf_u16 {a : Int} (h : (Lit.int .u16 a).wf = true) : 0 ≤ a ∧ a ≤ 65535 := by
 simp [Lit.wf, IntKind.min, IntKind.max, IntKind.bits, IntKind.signed] at h
 omega
end Go.Proofs.Ytgheapbhakamaaa.M
namespace Go.Proofs.Ytgheapbhakamaaa.M
structure SWO {α : Type} (lt : α → α → Bool) : Prop where
 asymm : ∀ {a b}, lt a b = true → lt b a = false
 trans : ∀ {a b c}, lt b a = false → lt c b = false → lt c a = false
variable {α : Type} {lt : α → α → Bool}
def le (lt : α → α → Bool) (a b : α) : Prop := lt b a = false
def eqv (lt : α → α → Bool) (x y : α) : Bool := !lt x y && !lt y x
theorem SWO.irrefl (h : SWO lt) (a : α) : lt a a = false := by
 cases e : lt a a with
 | false => rfl
 | true => exact (h.asymm e).symm.trans e |>.symm ▸ rfl
theorem SWO.lt_le (h : SWO lt) {a b c : α} (h1 : lt a b = true) (h2 : lt c b = false) : lt a c = true := by
 cases e : lt a c with
 | true => rfl
 | false => have := h.trans h2 e; rw [h1] at this; cases this
theorem SWO.le_lt (h : SWO lt) {a b c : α} (h1 : lt b a = false) (h2 : lt b c = true) : lt a c = true := by
 cases e : lt a c with
 | true => rfl
 | false => have := h.trans e h1; rw [h2] at this; cases this
def Srt (lt : α → α → Bool) (l : List α) : Prop := l.Pairwise (le lt)
def St (lt : α → α → Bool) (L R : List α) : Prop := Srt lt R ∧ ∀ x, R.filter (eqv lt x) = L.filter (eqv lt x)
theorem St.nil : St lt [] [] := ⟨List.Pairwise.nil, fun _ => rfl⟩
theorem St.of_sorted {L : List α} (h : Srt lt L) : St lt L L := ⟨h, fun _ => rfl⟩
theorem St.one (x : α) : St lt [x] [x] := .of_sorted (List.pairwise_singleton ..)
theorem St.comp {C0 C D0 D M : List α} (h1 : St lt C0 C) (h2 : St lt D0 D) (h3 : St lt (C ++ D) M) : St lt (C0 ++ D0) M :=
 ⟨h3.1, fun x => by rw [h3.2, List.filter_append, List.filter_append, h1.2, h2.2]⟩
theorem St.trans {A B C : List α} (h1 : St lt A B) (h2 : St lt B C) : St lt A C := ⟨h2.1, fun x => (h2.2 x).trans (h1.2 x)⟩
theorem eqv_refl (h : SWO lt) (x : α) : eqv lt x x = true := by simp [eqv, h.irrefl]
theorem St.mem (h : SWO lt) {L R : List α} (hs : St lt L R) (x : α) : x ∈ R ↔ x ∈ L := by
 have h1 : x ∈ R.filter (eqv lt x) ↔ x ∈ R := by simp [eqv_refl h]
 have h2 : x ∈ L.filter (eqv lt x) ↔ x ∈ L := by simp [eqv_refl h]
 rw [← h1, hs.2 x, h2]
theorem St.perm (h : SWO lt) {L R : List α} (hs : St lt L R) [DecidableEq α] : R.Perm L := by
 rw [List.perm_iff_count]
 intro a
 have h1 : ∀ l : List α, l.count a = (l.filter (eqv lt a)).count a := fun l => by
  rw [List.count_filter (by exact eqv_refl h a)]
 rw [h1 R, h1 L, hs.2]
theorem filter_nil_of {p : α → Bool} {l : List α} (h : ∀ x ∈ l, p x = false) : l.filter p = [] := by
 rw [List.filter_eq_nil_iff]; intro x hx; simp [h x hx]
theorem St.halves (h : SWO lt) {A1 A2 B1 B2 M1 M2 : List α} (h1 : St lt (A1 ++ B1) M1) (h2 : St lt (A2 ++ B2) M2)
  (hA : ∀ x ∈ A1, ∀ y ∈ A2, le lt x y) (hB : ∀ x ∈ B1, ∀ y ∈ B2, le lt x y) (c1 : ∀ x ∈ A1, ∀ y ∈ B2, le lt x y) (c2 : ∀ y ∈ B1, ∀ x ∈ A2, lt y x = true) :
  St lt ((A1 ++ A2) ++ (B1 ++ B2)) (M1 ++ M2) := by
 constructor
 ·refine List.pairwise_append.2 ⟨h1.1, h2.1, fun x hx y hy => ?_⟩
  have hx' := (h1.mem h x).1 hx
  have hy' := (h2.mem h y).1 hy
  rcases List.mem_append.1 hx' with hx' | hx' <;> rcases List.mem_append.1 hy' with hy' | hy'
  ·exact hA x hx' y hy'
  ·exact c1 x hx' y hy'
  ·exact h.asymm (c2 x hx' y hy')
  ·exact hB x hx' y hy'
 ·intro z
  simp only [List.filter_append, h1.2, h2.2]
  have : A2.filter (eqv lt z) = [] ∨ B1.filter (eqv lt z) = [] := by
   cases e : B1.filter (eqv lt z) with
   | nil => exact .inr rfl
   | cons b t =>
    refine .inl (filter_nil_of fun x hx => ?_)
    have hb : b ∈ B1.filter (eqv lt z) := by rw [e]; exact List.mem_cons_self
    obtain ⟨hb1, hb2⟩ := List.mem_filter.1 hb
    have hlt := c2 b hb1 x hx
    simp only [eqv, Bool.and_eq_true, Bool.not_eq_true'] at hb2
    have : lt z x = true := h.le_lt hb2.2 hlt
    simp [eqv, this]
  rcases this with e | e <;> simp [e]
theorem St.insert (h : SWO lt) {B1 B2 : List α} {x : α} (hs : Srt lt (B1 ++ B2)) (h1 : ∀ y ∈ B1, le lt y x) (h2 : ∀ y ∈ B2, lt x y = true) : St lt ((B1 ++ B2) ++ [x]) (B1 ++ x :: B2) := by
 obtain ⟨s1, s2, s3⟩ := List.pairwise_append.1 hs
 constructor
 ·refine List.pairwise_append.2 ⟨s1, List.pairwise_cons.2 ⟨fun y hy => h.asymm (h2 y hy), s2⟩, fun a ha b hb => ?_⟩
  rcases List.mem_cons.1 hb with rfl | hb
  ·exact h1 a ha
  ·exact s3 a ha b hb
 ·intro z
  simp only [List.filter_append, List.filter_cons, List.filter_nil]
  by_cases hz : eqv lt z x = true
  ·have : B2.filter (eqv lt z) = [] := filter_nil_of fun y hy => by
    simp only [eqv, Bool.and_eq_true, Bool.not_eq_true'] at hz
    have : lt z y = true := h.le_lt hz.2 (h2 y hy)
    simp [eqv, this]
   simp [hz, this]
  ·simp [hz]
theorem St.insertL (h : SWO lt) {B1 B2 : List α} {x : α} (hs : Srt lt (B1 ++ B2)) (h1 : ∀ y ∈ B1, lt y x = true) (h2 : ∀ y ∈ B2, le lt x y) : St lt (x :: (B1 ++ B2)) (B1 ++ x :: B2) := by
 obtain ⟨s1, s2, s3⟩ := List.pairwise_append.1 hs
 constructor
 ·refine List.pairwise_append.2 ⟨s1, List.pairwise_cons.2 ⟨h2, s2⟩, fun a ha b hb => ?_⟩
  rcases List.mem_cons.1 hb with rfl | hb
  ·exact h.asymm (h1 a ha)
  ·exact s3 a ha b hb
 ·intro z
  simp only [List.filter_append, List.filter_cons]
  by_cases hz : eqv lt z x = true
  ·have : B1.filter (eqv lt z) = [] := filter_nil_of fun y hy => by
    simp only [eqv, Bool.and_eq_true, Bool.not_eq_true'] at hz
    have : lt y z = true := h.lt_le (h1 y hy) hz.1
    simp [eqv, this]
   simp [hz, this]
  ·simp [hz]
theorem Srt.head (h : SWO lt) {l : List α} {x y : α} (hs : Srt lt (l ++ [x])) (hy : y ∈ l ++ [x]) : le lt y x := by
 obtain ⟨_, _, s3⟩ := List.pairwise_append.1 hs
 rcases List.mem_append.1 hy with hy | hy
 ·exact s3 y hy x (List.mem_singleton.2 rfl)
 ·rw [List.mem_singleton.1 hy]; exact h.irrefl x
theorem St.unique (h : SWO lt) : ∀ {R R' : List α}, Srt lt R → Srt lt R' → (∀ x, R.filter (eqv lt x) = R'.filter (eqv lt x)) → R = R'
 | [], [], _, _, _ => rfl
 | [], b :: R', _, _, hf => by
  have := hf b
  rw [List.filter_cons, if_pos (eqv_refl h b)] at this
  cases this
 | a :: R, [], _, _, hf => by
  have := hf a
  rw [List.filter_cons, if_pos (eqv_refl h a)] at this
  cases this
 | a :: R, b :: R', hs, hs', hf => by
  have memA : ∀ x, x ∈ a :: R ↔ x ∈ b :: R' := fun x => by
   have h1 : ∀ l : List α, x ∈ l.filter (eqv lt x) ↔ x ∈ l := fun l => by simp [eqv_refl h]
   rw [← h1, hf x, h1]
  have hab : le lt a b := by
   rcases List.mem_cons.1 ((memA b).2 List.mem_cons_self) with e | e
   ·rw [e]; exact h.irrefl a
   ·exact (List.pairwise_cons.1 hs).1 b e
  have hba : le lt b a := by
   rcases List.mem_cons.1 ((memA a).1 List.mem_cons_self) with e | e
   ·rw [e]; exact h.irrefl b
   ·exact (List.pairwise_cons.1 hs').1 a e
  have hab2 : eqv lt a b = true := by simp [eqv]; exact ⟨hba, hab⟩
  have h0 := hf a
  rw [List.filter_cons, if_pos (eqv_refl h a), List.filter_cons, if_pos hab2] at h0
  obtain ⟨rfl, h0⟩ := List.cons.inj h0
  have : R = R' := St.unique h (List.pairwise_cons.1 hs).2 (List.pairwise_cons.1 hs').2 (fun x => by
   have := hf x
   rw [List.filter_cons, List.filter_cons] at this
   split at this
   ·exact (List.cons.inj this).2
   ·exact this)
  rw [this]
inductive Bk (lt : α → α → Bool) (n : Nat) : List α → List α → Prop
 | last {L0 L : List α} : L0.length ≤ n → St lt L0 L → L.length = L0.length → Bk lt n L0 L
 | cons {C0 C L0 L : List α} : C0.length = n → C.length = n → St lt C0 C → Bk lt n L0 L → Bk lt n (C0 ++ L0) (C ++ L)
theorem Bk.len {n : Nat} {L0 L : List α} (h : Bk lt n L0 L) : L.length = L0.length := by
 induction h with
 | last _ _ h => exact h
 | cons h1 h2 _ _ ih => simp [h1, h2, ih]
theorem Bk.whole {n : Nat} {L0 L : List α} (h : Bk lt n L0 L) (hn : L0.length ≤ n) : St lt L0 L := by
 cases h with
 | last _ h _ => exact h
 | @cons C0 C L0 L h1 h2 h3 h4 =>
  have e := h4.len
  simp at hn
  have e1 : L0 = [] := List.eq_nil_of_length_eq_zero (by omega)
  subst e1
  have e2 : L = [] := List.eq_nil_of_length_eq_zero (by simpa using e)
  subst e2
  simpa using h3
theorem Bk.first {n : Nat} {L0 L : List α} (h : Bk lt n L0 L) (hn : n ≤ L0.length) : ∃ C0 C D0 D, L0 = C0 ++ D0 ∧ L = C ++ D ∧ C0.length = n ∧ C.length = n ∧ St lt C0 C ∧ Bk lt n D0 D := by
 cases h with
 | last h1 h2 h3 => exact ⟨L0, L, [], [], by simp, by simp, by omega, by omega, h2, .last (by simp) St.nil rfl⟩
 | @cons C0 C L0 L h1 h2 h3 h4 => exact ⟨C0, C, L0, L, rfl, rfl, h1, h2, h3, h4⟩
theorem set_mid {P R : List α} {x v : α} {i : Nat} (h : P.length = i) : (P ++ x :: R).set i v = P ++ v :: R := by
 rw [List.set_append_right _ _ (by omega), h, Nat.sub_self]; rfl
theorem getD_mid {P R : List α} {x d : α} {i : Nat} (h : P.length = i) : (P ++ x :: R).getD i d = x := by
 rw [List.getD_eq_getElem?_getD, List.getElem?_append_right (by omega), h, Nat.sub_self]; rfl
end Go.Proofs.Ytgheapbhakamaaa.M
namespace Go.Proofs.Ytgheapbhakamaaa.M
open Go.Proofs.YtgheapbhakamaaaW.PrintWords
theorem evk {α : Type} {g : Option α} {r : α} (h : g = some r) : Ev (fun _ => g) r := by subst h; exact Ev.now r
end Go.Proofs.Ytgheapbhakamaaa.M
