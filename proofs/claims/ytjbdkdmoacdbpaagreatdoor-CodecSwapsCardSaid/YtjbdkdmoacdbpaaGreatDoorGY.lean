import Derived.IntWalk
import Derived.Laws.BitsLemmas
import Derived.RowKit

import Derived.Laws.Entries
import Derived.Test.YtjbdkdmoacdbpaaGreatDoorWMore
import Derived.Test.YtjbdkdmoacdbpaaGreatDoorQx10
import Derived.Test.YtjbdkdmoacdbpaaGreatDoorQx5
import Derived.Test.YtjbdkdmoacdbpaaGreatDoorQx8




import Derived.Lib.Bytealg
/- several texts of this session in one -/
set_option linter.unusedVariables false
set_option linter.unusedSimpArgs false
namespace Go.Proofs.YtjbdkdmoacdbpaaGreatDoor.M
open Go.RowKit

def I64 (a : Int) : Prop := -9223372036854775808 ≤ a ∧ a ≤ 9223372036854775807
def ab (a : Int) : Int := if a < 0 then -a else a
theorem ab_nonneg (a : Int) : 0 ≤ ab a := by unfold ab; split <;> omega
theorem ab_le {a : Int} (h : I64 a) : ab a ≤ 9223372036854775808 := by obtain ⟨h1, h2⟩ := h; unfold ab; split <;> omega
theorem ab_pos {a : Int} (h : a ≠ 0) : 0 < ab a := by unfold ab; split <;> omega
theorem ab_zero {a : Int} : ab a = 0 ↔ a = 0 := by unfold ab; split <;> omega

/-- a*b by c: the quotient of the sizes, rounded half up -/
def rnd (P C : Int) : Int := if C - P % C ≤ P % C then P / C + 1 else P / C
/-- is the sign of (a*b)/c below 0, told by the signs -/
def ngs (a b c : Int) : Bool := (decide (a < 0)) != ((decide (b < 0)) != (decide (c < 0)))
def sg (n : Bool) (q : Int) : Int := if n = true then -q else q
def fit (v : Int) : Int × Int := if -9223372036854775808 ≤ v ∧ v ≤ 9223372036854775807 then (v, 0) else (0, 2)
def mulDiv (a b c : Int) : Int × Int := if c = 0 then (0, 3) else fit (sg (ngs a b c) (rnd (ab a * ab b) (ab c)))
def exact (a b c : Int) : Int × Bool × Int :=
  if c = 0 then (0, false, 3) else if (ab a * ab b) % ab c = 0 then
    (let v := sg (ngs a b c) (ab a * ab b / ab c); if -9223372036854775808 ≤ v ∧ v ≤ 9223372036854775807 then (v, true, 0) else (0, false, 2)) else (0, false, 0)
def cmpI (x y : Int) : Int := if x < y then -1 else if y < x then 1 else 0

theorem and32 {x : Int} (h0 : 0 ≤ x) (h1 : x ≤ 18446744073709551615) : Go.bits .and .u64 x 4294967295 = x % 4294967296 :=
  bits_mask .u64 64 (by decide) (fun n a b => IntWalk.u64_in n ⟨a, by omega⟩) 32 (by decide) x h0 (by omega)
theorem wu64 (n : Int) : IntKind.u64.wrap n = n % 18446744073709551616 := by
  simp [IntKind.wrap, IntKind.bits, IntKind.signed]
theorem w64_in {n : Int} (h : I64 n) : wrap64 n = n := by obtain ⟨h1, h2⟩ := h; unfold wrap64; omega
theorem w64_i64 (n : Int) : I64 (wrap64 n) := by unfold wrap64 I64; omega
theorem or_zero64 {x y : Int} (hx : 0 ≤ x) (hx1 : x < 18446744073709551616) (hy : 0 ≤ y) (hy1 : y < 18446744073709551616) : (Go.bits .or .u64 x y != 0) = decide (x ≠ 0 ∨ y ≠ 0) := by
  obtain ⟨a, rfl⟩ := Int.eq_ofNat_of_zero_le hx
  obtain ⟨b, rfl⟩ := Int.eq_ofNat_of_zero_le hy
  rw [(bits_nat .u64 64 (by decide) (fun n a b => IntWalk.u64_in n ⟨a, by omega⟩) a b (by omega) (by omega)).2]
  by_cases ha : a = 0
  · subst ha; by_cases hb : b = 0
    · subst hb; rfl
    · simp [hb]
  · have : a ||| b ≠ 0 := by
      intro h
      have := Nat.left_le_or (n := a) (m := b)
      omega
    simp [ha]
theorem or_join {x y : Int} (i : Nat) (hx₀ : 0 ≤ x) (hx : x % 2 ^ i = 0) (hx₁ : x < 18446744073709551616) (hy₀ : 0 ≤ y) (hy : y < 2 ^ i) (hy₁ : y < 18446744073709551616) : Go.bits .or .u64 x y = x + y :=
  bits_join .u64 64 (by decide) (fun n a b => IntWalk.u64_in n ⟨a, by omega⟩) i x y hx₀ hx (by omega) hy₀ hy (by omega)
theorem mul_le_mul' {a b c d : Int} (h1 : a ≤ c) (h2 : b ≤ d) (h3 : 0 ≤ a) (h4 : 0 ≤ d) : a * b ≤ c * d :=
  Int.le_trans (Int.mul_le_mul_of_nonneg_left h2 h3) (Int.mul_le_mul_of_nonneg_right h1 h4)

/-! ### Div64: two digits of 32 bits -/
/-- the digit is right if the guess is neither too great nor too small -/
theorem digit {T y q : Int} (hy : 0 < y) (h1 : q * y ≤ T) (h2 : T < (q + 1) * y) : T / y = q := by
  have h3 : q ≤ T / y := (Int.le_ediv_iff_mul_le hy).2 h1
  have h4 : T / y < q + 1 := Int.ediv_lt_of_lt_mul hy h2
  omega

structure Dg (y1 y0 u u0 q r : Int) : Prop where
  y1l : 2147483648 ≤ y1
  y1h : y1 < 4294967296
  y0l : 0 ≤ y0
  y0h : y0 < 4294967296
  u0l : 0 ≤ u0
  u0h : u0 < 4294967296
  ul : 0 ≤ u
  uh : u < y1 * 4294967296 + y0
  ql : 0 ≤ q
  qh : q ≤ 8589934592
  rl : 0 ≤ r
  rh : r < 4294967296
  eq : q * y1 + r = u
  ge : (u * 4294967296 + u0) / (y1 * 4294967296 + y0) ≤ q

theorem mul_lin (q y1 y0 : Int) : q * (y1 * 4294967296 + y0) = (q * y1) * 4294967296 + q * y0 := by
  rw [Int.mul_add, Int.mul_assoc]
theorem Dg.no {y1 y0 u u0 q r : Int} (h : Dg y1 y0 u u0 q r) (hc : q * y0 ≤ 4294967296 * r + u0) : (u * 4294967296 + u0) / (y1 * 4294967296 + y0) = q := by
  obtain ⟨h1, h2, h3, h4, h5, h6, h7, h8, h9, h10, h11, h12, h13, h14⟩ := h
  have hy : 0 < y1 * 4294967296 + y0 := by omega
  have : q ≤ (u * 4294967296 + u0) / (y1 * 4294967296 + y0) := (Int.le_ediv_iff_mul_le hy).2 (by rw [mul_lin]; omega)
  omega
theorem Dg.lt {y1 y0 u u0 q r : Int} (h : Dg y1 y0 u u0 q r) (hc : 4294967296 ≤ q ∨ 4294967296 * r + u0 < q * y0) : (u * 4294967296 + u0) / (y1 * 4294967296 + y0) ≤ q - 1 := by
  obtain ⟨h1, h2, h3, h4, h5, h6, h7, h8, h9, h10, h11, h12, h13, h14⟩ := h
  have hy : 0 < y1 * 4294967296 + y0 := by omega
  rcases hc with hc | hc
  · have : (u * 4294967296 + u0) / (y1 * 4294967296 + y0) < 4294967296 := Int.ediv_lt_of_lt_mul hy (by omega)
    omega
  · have : (u * 4294967296 + u0) / (y1 * 4294967296 + y0) < q := Int.ediv_lt_of_lt_mul hy (by rw [mul_lin]; omega)
    omega
theorem Dg.pos {y1 y0 u u0 q r : Int} (h : Dg y1 y0 u u0 q r) (hc : 4294967296 ≤ q ∨ 4294967296 * r + u0 < q * y0) : 1 ≤ q := by
  have := h.lt hc
  have h2 : 0 ≤ (u * 4294967296 + u0) / (y1 * 4294967296 + y0) := Int.ediv_nonneg (by have := h.ul; have := h.u0l; omega) (by have := h.y1l; have := h.y0l; omega)
  omega
theorem Dg.out {y1 y0 u u0 q r : Int} (h : Dg y1 y0 u u0 q r) (hc : 4294967296 ≤ q ∨ 4294967296 * r + u0 < q * y0) (hr : 4294967296 ≤ r + y1) : (u * 4294967296 + u0) / (y1 * 4294967296 + y0) = q - 1 := by
  have hlt := h.lt hc
  have hp := h.pos hc
  obtain ⟨h1, h2, h3, h4, h5, h6, h7, h8, h9, h10, h11, h12, h13, h14⟩ := h
  have hy : 0 < y1 * 4294967296 + y0 := by omega
  have e : (q - 1) * y1 = q * y1 - y1 := by rw [Int.sub_mul, Int.one_mul]
  have hq : q - 1 < 4294967296 := by
    apply Int.lt_of_not_ge
    intro hge
    have := Int.mul_le_mul_of_nonneg_right hge (show 0 ≤ y1 by omega)
    omega
  have h15 : (q - 1) * y0 ≤ 4294967296 * 4294967296 := mul_le_mul' (by omega) (by omega) (by omega) (by omega)
  have : q - 1 ≤ (u * 4294967296 + u0) / (y1 * 4294967296 + y0) := (Int.le_ediv_iff_mul_le hy).2 (by rw [mul_lin]; omega)
  omega
theorem Dg.next {y1 y0 u u0 q r : Int} (h : Dg y1 y0 u u0 q r) (hc : 4294967296 ≤ q ∨ 4294967296 * r + u0 < q * y0) (hr : r + y1 < 4294967296) : Dg y1 y0 u u0 (q - 1) (r + y1) := by
  have hlt := h.lt hc
  have hp := h.pos hc
  obtain ⟨h1, h2, h3, h4, h5, h6, h7, h8, h9, h10, h11, h12, h13, h14⟩ := h
  have e : (q - 1) * y1 = q * y1 - y1 := by rw [Int.sub_mul, Int.one_mul]
  exact ⟨h1, h2, h3, h4, h5, h6, h7, h8, by omega, by omega, by omega, by omega, by omega, hlt⟩
theorem Dg.init {y1 y0 u u0 : Int} (h1 : 2147483648 ≤ y1) (h2 : y1 < 4294967296) (h3 : 0 ≤ y0) (h4 : y0 < 4294967296) (h5 : 0 ≤ u0) (h6 : u0 < 4294967296) (h7 : 0 ≤ u) (h8 : u < y1 * 4294967296 + y0) :
    Dg y1 y0 u u0 (u / y1) (u - u / y1 * y1) := by
  have hy : 0 < y1 * 4294967296 + y0 := by omega
  have hm := Int.emod_nonneg u (show y1 ≠ 0 by omega)
  have hm2 := Int.emod_lt_of_pos u (show 0 < y1 by omega)
  have hd := Int.mul_ediv_add_emod u y1
  rw [Int.mul_comm] at hd
  have hq0 : 0 ≤ u / y1 := Int.ediv_nonneg h7 (by omega)
  refine ⟨h1, h2, h3, h4, h5, h6, h7, h8, hq0, ?_, by omega, by omega, by omega, ?_⟩
  · have : u / y1 < 8589934592 := Int.ediv_lt_of_lt_mul (by omega) (by omega)
    omega
  · generalize hQ : (u * 4294967296 + u0) / (y1 * 4294967296 + y0) = Q
    have hQ0 : 0 ≤ Q := by rw [← hQ]; exact Int.ediv_nonneg (by omega) (by omega)
    have h9 : Q * (y1 * 4294967296 + y0) ≤ u * 4294967296 + u0 := (Int.le_ediv_iff_mul_le hy).1 (by omega)
    rw [mul_lin] at h9
    have h10 : 0 ≤ Q * y0 := Int.mul_nonneg hQ0 h3
    exact (Int.le_ediv_iff_mul_le (by omega)).2 (by omega)
/-- what is left behind a digit -/
theorem Dg.rest {y1 y0 u u0 q : Int} (h1 : 2147483648 ≤ y1) (h2 : y1 < 4294967296) (h3 : 0 ≤ y0) (h4 : y0 < 4294967296)
    (hq : (u * 4294967296 + u0) / (y1 * 4294967296 + y0) = q) : IntKind.u64.wrap (IntKind.u64.wrap (IntKind.u64.wrap (u * 4294967296) + u0) - IntKind.u64.wrap (q * (y1 * 4294967296 + y0))) = (u * 4294967296 + u0) % (y1 * 4294967296 + y0) := by
  have hy : 0 < y1 * 4294967296 + y0 := by omega
  have hm := Int.emod_nonneg (u * 4294967296 + u0) (show y1 * 4294967296 + y0 ≠ 0 by omega)
  have hm2 := Int.emod_lt_of_pos (u * 4294967296 + u0) hy
  have hd := Int.mul_ediv_add_emod (u * 4294967296 + u0) (y1 * 4294967296 + y0)
  rw [hq, Int.mul_comm] at hd
  simp only [wu64]
  omega
/-- two digits: the quotient and the rest of the whole -/
theorem two_digits {U u0 y q1 q0 : Int} (hy : 0 < y) (h1 : U / y = q1) (h0 : (U % y * 4294967296 + u0) / y = q0) : (U * 4294967296 + u0) / y = q1 * 4294967296 + q0 ∧ (U * 4294967296 + u0) % y = (U % y * 4294967296 + u0) % y := by
  have hd := Int.mul_ediv_add_emod U y
  rw [h1] at hd
  have e : U * 4294967296 + u0 = (U % y * 4294967296 + u0) + y * (q1 * 4294967296) := by
    have : U * 4294967296 = (y * q1 + U % y) * 4294967296 := by rw [hd]
    rw [this, Int.add_mul, Int.mul_assoc]; omega
  constructor
  · rw [e, Int.add_mul_ediv_left _ _ (by omega), h0]; omega
  · rw [e, Int.add_mul_emod_self_left]
end Go.Proofs.YtjbdkdmoacdbpaaGreatDoor.M
namespace Go.Proofs.YtjbdkdmoacdbpaaGreatDoor.M
open Go.RowKit

instance decI64 (v : Int) : Decidable (I64 v) := by unfold I64; infer_instance
def addS (a b : Int) : Int × Int := if I64 (a + b) then (a + b, 0) else (0, 2)
def sumS : Int → List Int → Int × Int
  | n, [] => (n, 0)
  | n, x :: l => if I64 (n + x) then sumS (n + x) l else (0, 2)
theorem wrap_toInt (v : BitVec 64) : IntKind.i64.wrap (v.toNat : Int) = v.toInt := by
  rw [IntKind.wrap_i64, BitVec.toInt_eq_toNat_cond]; have := v.isLt; split <;> omega
theorem msb_ofInt {x : Int} (h : I64 x) : (BitVec.ofInt 64 x).msb = decide (x < 0) := by
  obtain ⟨h1, h2⟩ := h
  rw [BitVec.msb_eq_toInt, BitVec.toInt_ofInt]
  have : Int.bmod x (2 ^ 64) = x := by unfold Int.bmod; simp only []; split <;> omega
  rw [this]
theorem toInt_i64 (v : BitVec 64) : I64 v.toInt := by
  have h1 := BitVec.toInt_lt (x := v)
  have h2 := BitVec.le_toInt (x := v)
  unfold I64; omega
theorem xor_neg {x y : Int} (hx : I64 x) (hy : I64 y) : I64 (Go.bits .xor .i64 x y) ∧ (Go.bits .xor .i64 x y < 0 ↔ ¬ (x < 0 ↔ y < 0)) := by
  have e : Go.bits .xor .i64 x y = (BitVec.ofInt 64 x ^^^ BitVec.ofInt 64 y).toInt := wrap_toInt _
  rw [e]
  refine ⟨toInt_i64 _, ?_⟩
  have := BitVec.msb_eq_toInt (x := BitVec.ofInt 64 x ^^^ BitVec.ofInt 64 y)
  rw [BitVec.msb_xor, msb_ofInt hx, msb_ofInt hy] at this
  by_cases c : x < 0 <;> by_cases d : y < 0 <;> simp [c, d] at this ⊢ <;> omega
theorem and_neg {x y : Int} (hx : I64 x) (hy : I64 y) : (Go.bits .and .i64 x y < 0 ↔ (x < 0 ∧ y < 0)) := by
  have e : Go.bits .and .i64 x y = (BitVec.ofInt 64 x &&& BitVec.ofInt 64 y).toInt := wrap_toInt _
  rw [e]
  have := BitVec.msb_eq_toInt (x := BitVec.ofInt 64 x &&& BitVec.ofInt 64 y)
  rw [BitVec.msb_and, msb_ofInt hx, msb_ofInt hy] at this
  by_cases c : x < 0 <;> by_cases d : y < 0 <;> simp [c, d] at this ⊢ <;> omega
theorem sumS_ok {l : List Int} : ∀ {n : Int}, (sumS n l).2 = 0 ∨ sumS n l = (0, 2) := by
  induction l with
  | nil => intro n; exact .inl rfl
  | cons x l ih =>
    intro n
    unfold sumS
    split
    · exact ih
    · exact .inr rfl
theorem sumS_i64 {l : List Int} : ∀ {n : Int}, I64 n → I64 (sumS n l).1 := by
  induction l with
  | nil => intro n h; exact h
  | cons x l ih =>
    intro n h
    unfold sumS
    split
    · rename_i h2; exact ih h2
    · unfold I64; omega
theorem rd_int {L P R : List Int} {x : Int} {i : Nat} (h : L = P ++ x :: R) (hi : P.length = i) : L.getD i 0 = x := by
  rw [h, List.getD_eq_getElem?_getD, List.getElem?_append_right (by omega), hi, Nat.sub_self]; rfl
end Go.Proofs.YtjbdkdmoacdbpaaGreatDoor.M
namespace Go.Proofs.YtjbdkdmoacdbpaaGreatDoor.M
open Go
theorem wf_i64 {a : Int} (h : (Lit.int .i64 a).wf = true) : I64 a := by
  simp [Lit.wf, IntKind.min, IntKind.max, IntKind.bits, IntKind.signed] at h
  unfold I64
  omega
theorem wf_i32 {a : Int} (h : (Lit.int .i32 a).wf = true) : -2147483648 ≤ a ∧ a ≤ 2147483647 := by
  simp [Lit.wf, IntKind.min, IntKind.max, IntKind.bits, IntKind.signed] at h
  omega
theorem wf_u8 {a : Int} (h : (Lit.int .u8 a).wf = true) : 0 ≤ a ∧ a ≤ 255 := by
  simp [Lit.wf, IntKind.min, IntKind.max, IntKind.bits, IntKind.signed] at h
  omega
theorem wf_u16 {a : Int} (h : (Lit.int .u16 a).wf = true) : 0 ≤ a ∧ a ≤ 65535 := by
  simp [Lit.wf, IntKind.min, IntKind.max, IntKind.bits, IntKind.signed] at h
  omega
end Go.Proofs.YtjbdkdmoacdbpaaGreatDoor.M
namespace Go.Proofs.YtjbdkdmoacdbpaaGreatDoor.M

/-- a strict weak order -/
structure SWO {α : Type} (lt : α → α → Bool) : Prop where
  asymm : ∀ {a b}, lt a b = true → lt b a = false
  trans : ∀ {a b c}, lt b a = false → lt c b = false → lt c a = false
variable {α : Type} {lt : α → α → Bool}
def le (lt : α → α → Bool) (a b : α) : Prop := lt b a = false
def eqv (lt : α → α → Bool) (x y : α) : Bool := !lt x y && !lt y x
theorem SWO.irrefl (h : SWO lt) (a : α) : lt a a = false := by
  cases e : lt a a with
  | false => rfl
  | true => exact (h.asymm e).symm.trans e |>.symm ▸ rfl
theorem SWO.lt_le (h : SWO lt) {a b c : α} (h1 : lt a b = true) (h2 : lt c b = false) : lt a c = true := by
  cases e : lt a c with
  | true => rfl
  | false => have := h.trans h2 e; rw [h1] at this; cases this
theorem SWO.le_lt (h : SWO lt) {a b c : α} (h1 : lt b a = false) (h2 : lt b c = true) : lt a c = true := by
  cases e : lt a c with
  | true => rfl
  | false => have := h.trans e h1; rw [h2] at this; cases this
def Srt (lt : α → α → Bool) (l : List α) : Prop := l.Pairwise (le lt)
/-- R is L, sorted stably -/
def St (lt : α → α → Bool) (L R : List α) : Prop := Srt lt R ∧ ∀ x, R.filter (eqv lt x) = L.filter (eqv lt x)
theorem St.nil : St lt [] [] := ⟨List.Pairwise.nil, fun _ => rfl⟩
theorem St.of_sorted {L : List α} (h : Srt lt L) : St lt L L := ⟨h, fun _ => rfl⟩
theorem St.one (x : α) : St lt [x] [x] := .of_sorted (List.pairwise_singleton ..)
theorem St.comp {C0 C D0 D M : List α} (h1 : St lt C0 C) (h2 : St lt D0 D) (h3 : St lt (C ++ D) M) : St lt (C0 ++ D0) M :=
  ⟨h3.1, fun x => by rw [h3.2, List.filter_append, List.filter_append, h1.2, h2.2]⟩
theorem St.trans {A B C : List α} (h1 : St lt A B) (h2 : St lt B C) : St lt A C := ⟨h2.1, fun x => (h2.2 x).trans (h1.2 x)⟩
theorem eqv_refl (h : SWO lt) (x : α) : eqv lt x x = true := by simp [eqv, h.irrefl]
theorem St.mem (h : SWO lt) {L R : List α} (hs : St lt L R) (x : α) : x ∈ R ↔ x ∈ L := by
  have h1 : x ∈ R.filter (eqv lt x) ↔ x ∈ R := by simp [eqv_refl h]
  have h2 : x ∈ L.filter (eqv lt x) ↔ x ∈ L := by simp [eqv_refl h]
  rw [← h1, hs.2 x, h2]
theorem St.perm (h : SWO lt) {L R : List α} (hs : St lt L R) [DecidableEq α] : R.Perm L := by
  rw [List.perm_iff_count]
  intro a
  have h1 : ∀ l : List α, l.count a = (l.filter (eqv lt a)).count a := fun l => by
    rw [List.count_filter (by exact eqv_refl h a)]
  rw [h1 R, h1 L, hs.2]
theorem filter_nil_of {p : α → Bool} {l : List α} (h : ∀ x ∈ l, p x = false) : l.filter p = [] := by
  rw [List.filter_eq_nil_iff]; intro x hx; simp [h x hx]
/-- halves that stand in order, each sorted of its own parts -/
theorem St.halves (h : SWO lt) {A1 A2 B1 B2 M1 M2 : List α} (h1 : St lt (A1 ++ B1) M1) (h2 : St lt (A2 ++ B2) M2)
    (hA : ∀ x ∈ A1, ∀ y ∈ A2, le lt x y) (hB : ∀ x ∈ B1, ∀ y ∈ B2, le lt x y) (c1 : ∀ x ∈ A1, ∀ y ∈ B2, le lt x y) (c2 : ∀ y ∈ B1, ∀ x ∈ A2, lt y x = true) :
    St lt ((A1 ++ A2) ++ (B1 ++ B2)) (M1 ++ M2) := by
  constructor
  · refine List.pairwise_append.2 ⟨h1.1, h2.1, fun x hx y hy => ?_⟩
    have hx' := (h1.mem h x).1 hx
    have hy' := (h2.mem h y).1 hy
    rcases List.mem_append.1 hx' with hx' | hx' <;> rcases List.mem_append.1 hy' with hy' | hy'
    · exact hA x hx' y hy'
    · exact c1 x hx' y hy'
    · exact h.asymm (c2 x hx' y hy')
    · exact hB x hx' y hy'
  · intro z
    simp only [List.filter_append, h1.2, h2.2]
    -- one of A2, B1 has none that stand like z
    have : A2.filter (eqv lt z) = [] ∨ B1.filter (eqv lt z) = [] := by
      cases e : B1.filter (eqv lt z) with
      | nil => exact .inr rfl
      | cons b t =>
        refine .inl (filter_nil_of fun x hx => ?_)
        have hb : b ∈ B1.filter (eqv lt z) := by rw [e]; exact List.mem_cons_self
        obtain ⟨hb1, hb2⟩ := List.mem_filter.1 hb
        have hlt := c2 b hb1 x hx
        simp only [eqv, Bool.and_eq_true, Bool.not_eq_true'] at hb2
        have : lt z x = true := h.le_lt hb2.2 hlt
        simp [eqv, this]
    rcases this with e | e <;> simp [e]
/-- an element put into a sorted row, behind those that stand like it -/
theorem St.insert (h : SWO lt) {B1 B2 : List α} {x : α} (hs : Srt lt (B1 ++ B2)) (h1 : ∀ y ∈ B1, le lt y x) (h2 : ∀ y ∈ B2, lt x y = true) : St lt ((B1 ++ B2) ++ [x]) (B1 ++ x :: B2) := by
  obtain ⟨s1, s2, s3⟩ := List.pairwise_append.1 hs
  constructor
  · refine List.pairwise_append.2 ⟨s1, List.pairwise_cons.2 ⟨fun y hy => h.asymm (h2 y hy), s2⟩, fun a ha b hb => ?_⟩
    rcases List.mem_cons.1 hb with rfl | hb
    · exact h1 a ha
    · exact s3 a ha b hb
  · intro z
    simp only [List.filter_append, List.filter_cons, List.filter_nil]
    by_cases hz : eqv lt z x = true
    · have : B2.filter (eqv lt z) = [] := filter_nil_of fun y hy => by
        simp only [eqv, Bool.and_eq_true, Bool.not_eq_true'] at hz
        have : lt z y = true := h.le_lt hz.2 (h2 y hy)
        simp [eqv, this]
      simp [hz, this]
    · simp [hz]
/-- an element put into a sorted row, ahead of those that stand like it -/
theorem St.insertL (h : SWO lt) {B1 B2 : List α} {x : α} (hs : Srt lt (B1 ++ B2)) (h1 : ∀ y ∈ B1, lt y x = true) (h2 : ∀ y ∈ B2, le lt x y) : St lt (x :: (B1 ++ B2)) (B1 ++ x :: B2) := by
  obtain ⟨s1, s2, s3⟩ := List.pairwise_append.1 hs
  constructor
  · refine List.pairwise_append.2 ⟨s1, List.pairwise_cons.2 ⟨h2, s2⟩, fun a ha b hb => ?_⟩
    rcases List.mem_cons.1 hb with rfl | hb
    · exact h.asymm (h1 a ha)
    · exact s3 a ha b hb
  · intro z
    simp only [List.filter_append, List.filter_cons]
    by_cases hz : eqv lt z x = true
    · have : B1.filter (eqv lt z) = [] := filter_nil_of fun y hy => by
        simp only [eqv, Bool.and_eq_true, Bool.not_eq_true'] at hz
        have : lt y z = true := h.lt_le (h1 y hy) hz.1
        simp [eqv, this]
      simp [hz, this]
    · simp [hz]
theorem Srt.head (h : SWO lt) {l : List α} {x y : α} (hs : Srt lt (l ++ [x])) (hy : y ∈ l ++ [x]) : le lt y x := by
  obtain ⟨_, _, s3⟩ := List.pairwise_append.1 hs
  rcases List.mem_append.1 hy with hy | hy
  · exact s3 y hy x (List.mem_singleton.2 rfl)
  · rw [List.mem_singleton.1 hy]; exact h.irrefl x
/-- two stably sorted rows of one row are one -/
theorem St.unique (h : SWO lt) : ∀ {R R' : List α}, Srt lt R → Srt lt R' → (∀ x, R.filter (eqv lt x) = R'.filter (eqv lt x)) → R = R'
  | [], [], _, _, _ => rfl
  | [], b :: R', _, _, hf => by
    have := hf b
    rw [List.filter_cons, if_pos (eqv_refl h b)] at this
    cases this
  | a :: R, [], _, _, hf => by
    have := hf a
    rw [List.filter_cons, if_pos (eqv_refl h a)] at this
    cases this
  | a :: R, b :: R', hs, hs', hf => by
    have memA : ∀ x, x ∈ a :: R ↔ x ∈ b :: R' := fun x => by
      have h1 : ∀ l : List α, x ∈ l.filter (eqv lt x) ↔ x ∈ l := fun l => by simp [eqv_refl h]
      rw [← h1, hf x, h1]
    have hab : le lt a b := by
      rcases List.mem_cons.1 ((memA b).2 List.mem_cons_self) with e | e
      · rw [e]; exact h.irrefl a
      · exact (List.pairwise_cons.1 hs).1 b e
    have hba : le lt b a := by
      rcases List.mem_cons.1 ((memA a).1 List.mem_cons_self) with e | e
      · rw [e]; exact h.irrefl b
      · exact (List.pairwise_cons.1 hs').1 a e
    have hab2 : eqv lt a b = true := by simp [eqv]; exact ⟨hba, hab⟩
    have h0 := hf a
    rw [List.filter_cons, if_pos (eqv_refl h a), List.filter_cons, if_pos hab2] at h0
    obtain ⟨rfl, h0⟩ := List.cons.inj h0
    have : R = R' := St.unique h (List.pairwise_cons.1 hs).2 (List.pairwise_cons.1 hs').2 (fun x => by
      have := hf x
      rw [List.filter_cons, List.filter_cons] at this
      split at this
      · exact (List.cons.inj this).2
      · exact this)
    rw [this]
/-! ### rows in blocks -/
inductive Bk (lt : α → α → Bool) (n : Nat) : List α → List α → Prop
  | last {L0 L : List α} : L0.length ≤ n → St lt L0 L → L.length = L0.length → Bk lt n L0 L
  | cons {C0 C L0 L : List α} : C0.length = n → C.length = n → St lt C0 C → Bk lt n L0 L → Bk lt n (C0 ++ L0) (C ++ L)
theorem Bk.len {n : Nat} {L0 L : List α} (h : Bk lt n L0 L) : L.length = L0.length := by
  induction h with
  | last _ _ h => exact h
  | cons h1 h2 _ _ ih => simp [h1, h2, ih]
theorem Bk.whole {n : Nat} {L0 L : List α} (h : Bk lt n L0 L) (hn : L0.length ≤ n) : St lt L0 L := by
  cases h with
  | last _ h _ => exact h
  | @cons C0 C L0 L h1 h2 h3 h4 =>
    have e := h4.len
    simp at hn
    have e1 : L0 = [] := List.eq_nil_of_length_eq_zero (by omega)
    subst e1
    have e2 : L = [] := List.eq_nil_of_length_eq_zero (by simpa using e)
    subst e2
    simpa using h3
/-- the first block, and what stands behind it -/
theorem Bk.first {n : Nat} {L0 L : List α} (h : Bk lt n L0 L) (hn : n ≤ L0.length) : ∃ C0 C D0 D, L0 = C0 ++ D0 ∧ L = C ++ D ∧ C0.length = n ∧ C.length = n ∧ St lt C0 C ∧ Bk lt n D0 D := by
  cases h with
  | last h1 h2 h3 => exact ⟨L0, L, [], [], by simp, by simp, by omega, by omega, h2, .last (by simp) St.nil rfl⟩
  | @cons C0 C L0 L h1 h2 h3 h4 => exact ⟨C0, C, L0, L, rfl, rfl, h1, h2, h3, h4⟩
/-! ### places in a row -/
theorem set_mid {P R : List α} {x v : α} {i : Nat} (h : P.length = i) : (P ++ x :: R).set i v = P ++ v :: R := by
  rw [List.set_append_right _ _ (by omega), h, Nat.sub_self]; rfl
theorem getD_mid {P R : List α} {x d : α} {i : Nat} (h : P.length = i) : (P ++ x :: R).getD i d = x := by
  rw [List.getD_eq_getElem?_getD, List.getElem?_append_right (by omega), h, Nat.sub_self]; rfl
end Go.Proofs.YtjbdkdmoacdbpaaGreatDoor.M
namespace Go.Proofs.YtjbdkdmoacdbpaaGreatDoor.M
open Go.Proofs.YtjbdkdmoacdbpaaGreatDoorW.PrintWords
theorem evk {α : Type} {g : Option α} {r : α} (h : g = some r) : Ev (fun _ => g) r := by subst h; exact Ev.now r
end Go.Proofs.YtjbdkdmoacdbpaaGreatDoor.M
namespace Go.Proofs.YtjbdkdmoacdbpaaGreatDoor.M
open Go Go.RowKit Go.Proofs.YtjbdkdmoacdbpaaGreatDoorW.PrintWords Go.Proofs.YtjbdkdmoacdbpaaGreatDoorW.PrintLast Go.Proofs.YtjbdkdmoacdbpaaGreatDoorW.PrintMore Go.Proofs.YtjbdkdmoacdbpaaGreatDoor.Q
/-- a total order, told by a number -/
structure IsCmp {α : Type} (c : α → α → Int) : Prop where
  zero : ∀ {a b}, c a b = 0 ↔ a = b
  swap : ∀ a b, c b a = - c a b
  trans : ∀ {a b d}, c a b ≤ 0 → c b d ≤ 0 → c a d ≤ 0
def lexC {α β : Type} (c1 : α → α → Int) (c2 : β → β → Int) (x y : α × β) : Int := if c1 x.1 y.1 = 0 then c2 x.2 y.2 else c1 x.1 y.1
theorem IsCmp.lex {α β : Type} {c1 : α → α → Int} {c2 : β → β → Int} (h1 : IsCmp c1) (h2 : IsCmp c2) : IsCmp (lexC c1 c2) := by
  refine ⟨?_, ?_, ?_⟩
  · rintro ⟨a1, a2⟩ ⟨b1, b2⟩
    unfold lexC
    by_cases c : c1 a1 b1 = 0
    · simp only [c, if_true]
      rw [h2.zero, h1.zero.1 c]; simp
    · rw [if_neg c]
      constructor
      · intro h; exact absurd h c
      · intro h; cases h; exact absurd (h1.zero.2 rfl) c
  · rintro ⟨a1, a2⟩ ⟨b1, b2⟩
    unfold lexC
    have := h1.swap a1 b1
    have := h2.swap a2 b2
    by_cases c : c1 a1 b1 = 0
    · rw [if_pos c, if_pos (by simp only; omega)]; assumption
    · rw [if_neg c, if_neg (by simp only; omega)]; assumption
  · rintro ⟨a1, a2⟩ ⟨b1, b2⟩ ⟨d1, d2⟩ h k
    unfold lexC at *
    simp only at *
    by_cases c : c1 a1 b1 = 0
    · obtain rfl := h1.zero.1 c
      rw [if_pos c] at h
      by_cases e : c1 a1 d1 = 0
      · rw [if_pos e] at k ⊢; exact h2.trans h k
      · rw [if_neg e] at k ⊢; exact k
    · rw [if_neg c] at h
      by_cases e : c1 b1 d1 = 0
      · obtain rfl := h1.zero.1 e
        rw [if_neg c]; exact h
      · rw [if_neg e] at k
        have t := h1.trans h k
        by_cases z : c1 a1 d1 = 0
        · obtain rfl := h1.zero.1 z
          have := h1.swap a1 b1
          omega
        · rw [if_neg z]; exact t
theorem cb_zero : ∀ a b : List UInt8, Lib.compareBytes a b = 0 ↔ a = b
  | [], [] => by simp [Lib.compareBytes]
  | [], b :: ys => by simp [Lib.compareBytes]
  | a :: xs, [] => by simp [Lib.compareBytes]
  | a :: xs, b :: ys => by
    have ih := cb_zero xs ys
    simp only [Lib.compareBytes, List.cons.injEq]
    by_cases h1 : a < b
    · have : a ≠ b := by rintro rfl; exact absurd h1 (by simp)
      simp [h1, this]
    · by_cases h2 : b < a
      · have : a ≠ b := by rintro rfl; exact absurd h2 (by simp)
        simp [h1, h2, this]
      · have : a = b := by apply UInt8.toNat.inj; simp only [UInt8.lt_iff_toNat_lt] at *; omega
        simp [h1, h2, this, ih]
theorem cb_swap : ∀ a b : List UInt8, Lib.compareBytes b a = - Lib.compareBytes a b
  | [], [] => by simp [Lib.compareBytes]
  | [], b :: ys => by simp [Lib.compareBytes]
  | a :: xs, [] => by simp [Lib.compareBytes]
  | a :: xs, b :: ys => by
    have ih := cb_swap xs ys
    simp only [Lib.compareBytes]
    by_cases h1 : a < b
    · have : ¬ b < a := by simp only [UInt8.lt_iff_toNat_lt] at *; omega
      simp [h1, this]
    · by_cases h2 : b < a
      · simp [h1, h2]
      · simp [h1, h2, ih]
theorem cb_trans : ∀ a b d : List UInt8, Lib.compareBytes a b ≤ 0 → Lib.compareBytes b d ≤ 0 → Lib.compareBytes a d ≤ 0
  | [], _, [] => by simp [Lib.compareBytes]
  | [], _, d :: zs => by simp [Lib.compareBytes]
  | a :: xs, [], _ => by simp [Lib.compareBytes]
  | a :: xs, b :: ys, [] => by simp [Lib.compareBytes]
  | a :: xs, b :: ys, d :: zs => by
    have ih := cb_trans xs ys zs
    simp only [Lib.compareBytes]
    by_cases h1 : a < b
    · by_cases h2 : b < d
      · have : a < d := by simp only [UInt8.lt_iff_toNat_lt] at *; omega
        simp [h1, h2, this]
      · by_cases h3 : d < b
        · simp [h1, h2, h3]
        · have : b = d := by apply UInt8.toNat.inj; simp only [UInt8.lt_iff_toNat_lt] at *; omega
          subst this; simp [h1]
    · by_cases h4 : b < a
      · simp [h1, h4]
      · have : a = b := by apply UInt8.toNat.inj; simp only [UInt8.lt_iff_toNat_lt] at *; omega
        subst this
        simp only [h1, if_false]
        by_cases h2 : a < d
        · simp [h2]
        · by_cases h3 : d < a
          · simp [h2, h3]
          · simpa [h2, h3] using ih
def cmpB (x y : ByteArray) : Int := Lib.compareBytes x.data.toList y.data.toList
theorem isB : IsCmp cmpB := by
  refine ⟨fun {a b} => ?_, fun a b => cb_swap _ _, fun {a b d} => cb_trans _ _ _⟩
  unfold cmpB
  rw [cb_zero]
  constructor
  · intro h; obtain ⟨⟨l⟩⟩ := a; obtain ⟨⟨m⟩⟩ := b; cases h; rfl
  · rintro rfl; rfl
def cmpN (a b : Int) : Int := if a < b then -1 else if b < a then 1 else 0
theorem isN : IsCmp cmpN := by
  have lo : ∀ {a b : Int}, a < b → cmpN a b = -1 := fun h => if_pos h
  have eq : ∀ a : Int, cmpN a a = 0 := fun a => by simp [cmpN]
  have hi : ∀ {a b : Int}, b < a → cmpN a b = 1 := fun h => by unfold cmpN; rw [if_neg (by omega), if_pos h]
  refine ⟨fun {a b} => ?_, fun a b => ?_, fun {a b d} h k => ?_⟩
  · rcases Int.lt_trichotomy a b with h | h | h
    · rw [lo h]; omega
    · subst h; simp [eq]
    · rw [hi h]; omega
  · rcases Int.lt_trichotomy a b with h | h | h
    · rw [lo h, hi h]; rfl
    · subst h; rw [eq]; rfl
    · rw [lo h, hi h]
  · have h1 : a ≤ b := by
      rcases Int.lt_trichotomy a b with e | e | e
      · omega
      · omega
      · rw [hi e] at h; omega
    have k1 : b ≤ d := by
      rcases Int.lt_trichotomy b d with e | e | e
      · omega
      · omega
      · rw [hi e] at k; omega
    rcases Int.lt_trichotomy a d with e | e | e
    · rw [lo e]; omega
    · subst e; rw [eq]; omega
    · omega
def tup (x : S48) : ByteArray × ByteArray × ByteArray × ByteArray × Int := (x.f0, x.f1, x.f2, x.f3, x.f4)
def cmpK (x y : S48) : Int := lexC cmpB (lexC cmpB (lexC cmpB (lexC cmpB cmpN))) (tup x) (tup y)
theorem isK : IsCmp cmpK := by
  have h := isB.lex (isB.lex (isB.lex (isB.lex isN)))
  refine ⟨fun {a b} => ?_, fun a b => h.swap _ _, fun {a b d} => h.trans⟩
  unfold cmpK
  rw [h.zero]
  constructor
  · intro e; obtain ⟨a0, a1, a2, a3, a4⟩ := a; obtain ⟨b0, b1, b2, b3, b4⟩ := b; simp only [tup, Prod.mk.injEq] at e; obtain ⟨rfl, rfl, rfl, rfl, rfl⟩ := e; rfl
  · rintro rfl; rfl
def lt (x y : S50) : Bool := decide (cmpK x.f0 y.f0 < 0)
theorem swo : SWO lt := by
  refine ⟨fun {a b} h => ?_, fun {a b c} h1 h2 => ?_⟩
  · have := isK.swap a.f0 b.f0
    simp only [lt, decide_eq_true_eq, decide_eq_false_iff_not] at *; omega
  · have s1 := isK.swap a.f0 b.f0
    have s2 := isK.swap b.f0 c.f0
    have s3 := isK.swap a.f0 c.f0
    simp only [lt, decide_eq_false_iff_not] at *
    have := isK.trans (a := a.f0) (b := b.f0) (d := c.f0) (by omega) (by omega)
    omega

/-- the first that is not nothing -/
def first : List Int → Int
  | [] => 0
  | x :: xs => if x = 0 then first xs else x
theorem or_l (L : List Int) (hL : L.length < 9223372036854775807) : ∀ (d : Nat) (P R : List Int) (k : Nat), L = P ++ R → R.length = d → d + 1 ≤ k → cmp_Or_int.l0 k 0 L (L.length : Int) (P.length : Int) = some (first R) := by
  intro d
  induction d with
  | zero =>
    intro P R k hLR hR hk
    obtain rfl := List.eq_nil_of_length_eq_zero hR
    obtain ⟨k, rfl⟩ : ∃ j, k = j + 1 := ⟨k - 1, by omega⟩
    rw [cmp_Or_int.l0.eq_2, if_neg (by rw [hLR]; simp)]; rfl
  | succ d ih =>
    intro P R k hLR hR hk
    obtain ⟨k, rfl⟩ : ∃ j, k = j + 1 := ⟨k - 1, by omega⟩
    cases R with
    | nil => simp at hR
    | cons x R =>
      have hl : L.length = P.length + 1 + R.length := by rw [hLR]; simp; omega
      have hx : rd L (P.length : Int) = x := by unfold rd; rw [hLR]; simp
      rw [cmp_Or_int.l0.eq_2, if_pos (by omega), if_pos (by omega), if_pos (by omega), hx]
      simp only [first]
      by_cases c : x = 0
      · rw [if_pos c, if_pos c, w64_in (by unfold I64; omega)]
        have := ih (P ++ [x]) R k (by rw [hLR]; simp) (by simpa using hR) (by omega)
        rw [List.length_append, List.length_singleton] at this
        exact this
      · rw [if_neg c, if_neg c]
theorem or_f (L : List Int) (hL : L.length < 9223372036854775807) (k : Nat) (hk : L.length + 1 ≤ k) : cmp_Or_int.f k L = some (first L) := or_l L hL L.length [] L k rfl rfl hk
theorem compare_f (a b : Int) : cmp_Compare_int.f a b = some (cmpN a b) := by
  unfold cmp_Compare_int.f cmp_isNaN_int.f cmpN
  simp only [bne_self_eq_false, Option.bind_some, Bool.false_eq_true, if_false]
  split
  · rfl
  · split <;> rfl
theorem first_lex (x y : S48) : first [cmpB x.f0 y.f0, cmpB x.f1 y.f1, cmpB x.f2 y.f2, cmpB x.f3 y.f3, cmpN x.f4 y.f4] = cmpK x y := by
  simp only [first, cmpK, lexC, tup]
  repeat' split
  all_goals first | rfl | omega | skip
theorem cmp_f (x y : S48) (k : Nat) (hk : 6 ≤ k) : fact_Cmp.f k x.f0 x.f1 x.f2 x.f3 x.f4 y.f0 y.f1 y.f2 y.f3 y.f4 = some (cmpK x y) := by
  unfold fact_Cmp.f strings_Compare.f
  simp only [Option.bind_some, compare_f]
  rw [or_f _ (by simp) k (by simpa using hk)]
  simp only [Option.bind_some]
  rw [← first_lex]; rfl
theorem less_cb : ∀ x y : List UInt8, Op.bytesLess x y = decide (Lib.compareBytes x y < 0)
  | [], [] => by simp [Op.bytesLess, Lib.compareBytes]
  | [], b :: ys => by simp [Op.bytesLess, Lib.compareBytes]
  | a :: xs, [] => by simp [Op.bytesLess, Lib.compareBytes]
  | a :: xs, b :: ys => by
    have ih := less_cb xs ys
    simp only [Op.bytesLess, Lib.compareBytes]
    by_cases h1 : a < b
    · simp [h1]
    · by_cases h2 : b < a
      · have : a ≠ b := by rintro rfl; exact h1 h2
        simp [h1, h2, this]
      · have : a = b := by apply UInt8.toNat.inj; simp only [UInt8.lt_iff_toNat_lt] at *; omega
        subst this
        simp [ih]
theorem cmpB_val (a b : ByteArray) : cmpB a b = if Op.bytesLess a.toList b.toList = true then -1 else if Op.bytesLess b.toList a.toList = true then 1 else 0 := by
  rw [less_cb, less_cb, Lib.toList_data, Lib.toList_data]
  have hs := cb_swap a.data.toList b.data.toList
  have hv : ∀ x y : List UInt8, Lib.compareBytes x y = -1 ∨ Lib.compareBytes x y = 0 ∨ Lib.compareBytes x y = 1 := by
    intro x
    induction x with
    | nil => intro y; cases y <;> simp [Lib.compareBytes]
    | cons a xs ih =>
      intro y
      cases y with
      | nil => simp [Lib.compareBytes]
      | cons b ys =>
        simp only [Lib.compareBytes]
        split
        · simp
        · split
          · simp
          · exact ih ys
  have := hv a.data.toList b.data.toList
  unfold cmpB
  simp only [decide_eq_true_eq]
  split
  · omega
  · split <;> omega
theorem text_f (a b : ByteArray) : ref09_text.f a b = some (cmpB a b) := by
  unfold ref09_text.f
  rw [cmpB_val]
  split
  · rfl
  · split <;> rfl
theorem rcmp_l (L : List Int) (hL : L.length = 4) (x y : S48) : ∀ (d : Nat) (P R : List Int) (k : Nat), L = P ++ R → R.length = d → d + 1 ≤ k →
    ref09_Cmp.l0 k L (P.length : Int) x.f0 x.f1 x.f2 x.f3 x.f4 y.f0 y.f1 y.f2 y.f3 y.f4 = some (first (R ++ [cmpN x.f4 y.f4])) := by
  intro d
  induction d with
  | zero =>
    intro P R k hLR hR hk
    obtain rfl := List.eq_nil_of_length_eq_zero hR
    obtain ⟨k, rfl⟩ : ∃ j, k = j + 1 := ⟨k - 1, by omega⟩
    have hP : P.length = 4 := by rw [hLR] at hL; simpa using hL
    rw [ref09_Cmp.l0.eq_2, if_neg (by rw [hP]; decide)]
    simp only [first, List.nil_append, cmpN]
    by_cases h1 : x.f4 < y.f4
    · simp [h1]
    · by_cases h2 : y.f4 < x.f4
      · simp [h1, h2]
      · simp [h1, h2]
  | succ d ih =>
    intro P R k hLR hR hk
    obtain ⟨k, rfl⟩ : ∃ j, k = j + 1 := ⟨k - 1, by omega⟩
    cases R with
    | nil => simp at hR
    | cons z R =>
      have hl : L.length = P.length + 1 + R.length := by rw [hLR]; simp; omega
      have hx : rd L (P.length : Int) = z := by unfold rd; rw [hLR]; simp
      rw [ref09_Cmp.l0.eq_2, if_pos (by omega), if_pos (by omega), if_pos (by omega), hx]
      simp only [first, List.cons_append]
      by_cases c : z = 0
      · rw [if_pos c, if_pos c, w64_in (by unfold I64; omega)]
        have := ih (P ++ [z]) R k (by rw [hLR]; simp) (by simpa using hR) (by omega)
        rw [List.length_append, List.length_singleton] at this
        exact this
      · rw [if_neg c, if_neg c]
theorem rcmp_f (x y : S48) (k : Nat) (hk : 6 ≤ k) : ref09_Cmp.f k x.f0 x.f1 x.f2 x.f3 x.f4 y.f0 y.f1 y.f2 y.f3 y.f4 = some (cmpK x y) := by
  unfold ref09_Cmp.f
  simp only [Option.bind_some, text_f]
  rw [← first_lex]
  exact rcmp_l _ rfl x y 4 [] _ k rfl rfl (by omega)

theorem byte_eq (a b : ByteArray) : (a.toList == b.toList) = decide (a = b) := by
  rw [Lib.toList_data, Lib.toList_data, Bool.eq_iff_iff, beq_iff_eq, decide_eq_true_eq]
  constructor
  · intro h; obtain ⟨⟨l⟩⟩ := a; obtain ⟨⟨m⟩⟩ := b; cases h; rfl
  · rintro rfl; rfl
instance decK : DecidableEq S48 := fun a b => decidable_of_iff (cmpK a b = 0) isK.zero
theorem cmpK_self (a : S48) : cmpK a a = 0 := isK.zero.2 rfl
theorem cmpK_lt_trans {a b c : S48} (h1 : cmpK a b < 0) (h2 : cmpK b c < 0) : cmpK a c < 0 := by
  have h := isK.trans (a := a) (b := b) (d := c) (by omega) (by omega)
  by_cases e : cmpK a c = 0
  · obtain rfl := isK.zero.1 e
    have := isK.swap a b
    omega
  · omega
theorem cmpK_irrefl {a : S48} (h : cmpK a a < 0) : False := by rw [cmpK_self] at h; omega
def SK (l : List S48) : Prop := l.Pairwise fun a b => cmpK a b < 0

theorem stepK {α : Type} {g f : Nat → Option α} {r : α} (N : Nat) (h : ∀ k, N ≤ k → g (k + 1) = f k) (hf : Ev f r) : Ev g r := by
  obtain ⟨K, hK⟩ := hf
  exact ⟨K + N + 1, fun k hk => by
    obtain ⟨j, rfl⟩ : ∃ j, k = j + 1 := ⟨k - 1, by omega⟩
    rw [h j (by omega)]; exact hK j (by omega)⟩
theorem rd_at {L P R : List S50} {x : S50} {i : Nat} (h : L = P ++ x :: R) (hi : P.length = i) : rd_T50 L (i : Int) = x := by
  unfold rd_T50
  rw [Int.toNat_natCast, h, getD_mid hi]
theorem w_add (a b : Nat) (h : a + b ≤ 9223372036854775807) : wrap64 ((a : Int) + (b : Int)) = ((a + b : Nat) : Int) := by
  rw [w64_in (by unfold I64; omega)]; rfl
theorem w_one (a : Nat) (h : a + 1 ≤ 9223372036854775807) : wrap64 ((a : Int) + 1) = ((a + 1 : Nat) : Int) := by
  rw [w64_in (by unfold I64; omega)]; rfl
theorem w_sub (a b : Nat) (h : b ≤ a) (h2 : a ≤ 9223372036854775807) : wrap64 ((a : Int) - (b : Int)) = ((a - b : Nat) : Int) := by
  rw [w64_in (by unfold I64; omega)]; omega
theorem w_pred (a : Nat) (h : 1 ≤ a) (h2 : a ≤ 9223372036854775807) : wrap64 ((a : Int) - 1) = ((a - 1 : Nat) : Int) := by
  rw [w64_in (by unfold I64; omega)]; omega

def rc : Option S48 → List S50 → Bool
  | _, [] => true
  | none, x :: xs => if x.f1 = 0 then false else rc (some x.f0) xs
  | some q, x :: xs => if x.f1 = 0 then false else if cmpK q x.f0 ≥ 0 then false else rc (some x.f0) xs
def rightS (l : List S50) : Bool := rc none l && decide (l.length ≤ 2000)
theorem rc_some {l : List S50} : ∀ {q : S48}, rc (some q) l = true ↔ (∀ x ∈ l, x.f1 ≠ 0) ∧ SK (q :: l.map (·.f0)) := by
  induction l with
  | nil => intro q; simp [rc, SK]
  | cons x xs ih =>
    intro q
    unfold rc
    by_cases c0 : x.f1 = 0
    · simp [c0]
    by_cases c1 : cmpK q x.f0 ≥ 0
    · rw [if_neg c0, if_pos c1]
      refine ⟨fun h => (by cases h), fun h => ?_⟩
      have := (List.pairwise_cons.1 h.2).1 x.f0 (by simp)
      omega
    · rw [if_neg c0, if_neg c1, ih]
      constructor
      · rintro ⟨h1, h2⟩
        obtain ⟨h3, h4⟩ := List.pairwise_cons.1 h2
        refine ⟨fun y hy => ?_, List.pairwise_cons.2 ⟨fun y hy => ?_, h2⟩⟩
        · rcases List.mem_cons.1 hy with rfl | hy
          · exact c0
          · exact h1 y hy
        · rcases List.mem_cons.1 hy with rfl | hy
          · show cmpK q x.f0 < 0; omega
          · exact cmpK_lt_trans (by omega) (h3 y hy)
      · rintro ⟨h1, h2⟩
        exact ⟨fun y hy => h1 y (List.mem_cons_of_mem _ hy), (List.pairwise_cons.1 h2).2⟩
theorem rc_none {l : List S50} : rc none l = true ↔ (∀ x ∈ l, x.f1 ≠ 0) ∧ SK (l.map (·.f0)) := by
  cases l with
  | nil => simp [rc, SK]
  | cons x xs =>
    unfold rc
    by_cases c0 : x.f1 = 0
    · simp [c0]
    · rw [if_neg c0, rc_some]
      constructor
      · rintro ⟨h1, h2⟩
        refine ⟨fun y hy => ?_, h2⟩
        rcases List.mem_cons.1 hy with rfl | hy
        · exact c0
        · exact h1 y hy
      · rintro ⟨h1, h2⟩
        exact ⟨fun y hy => h1 y (List.mem_cons_of_mem _ hy), h2⟩

theorem last_of {P : List S50} {q : S48} (h : P.getLast?.map (·.f0) = some q) : ∃ P' z, P = P' ++ [z] ∧ z.f0 = q := by
  cases hg : P.getLast? with
  | none => rw [hg] at h; cases h
  | some z =>
    rw [hg] at h
    obtain ⟨P', hP⟩ := List.getLast?_eq_some_iff.1 hg
    exact ⟨P', z, hP, by simpa using h⟩
theorem right_l (T : List S50) : ∀ (P L : List S50) (i : Nat) (p : Option S48), L = P ++ T → P.length = i → L.length < 9223372036854775807 → P.getLast?.map (·.f0) = p → Ev (fun k => fact_Right.l0 k L L (L.length : Int) (i : Int)) (rc p T && decide (L.length ≤ 2000)) := by
  induction T with
  | nil =>
    intro P L i p hL hi hl hp
    have e : P = L := by rw [hL]; simp
    subst e
    refine Ev.step (f := fun _ => some _) (fun k => ?_) (Ev.now _)
    rw [fact_Right.l0.eq_2, if_neg (by omega)]
    simp [rc]
    by_cases c : P.length ≤ 2000
    · simp [c]; omega
    · simp [c]; omega
  | cons x T ih =>
    intro P L i p hL hi hl hp
    have hlen : L.length = P.length + 1 + T.length := by rw [hL]; simp; omega
    have hih := ih (P ++ [x]) L (i + 1) (some x.f0) (by rw [hL]; simp) (by simp; omega) hl (by simp)
    cases p with
    | none =>
      have hP : P = [] := by cases P with | nil => rfl | cons a t => simp at hp
      subst hP
      obtain rfl : i = 0 := by simpa using hi.symm
      unfold rc
      by_cases c0 : x.f1 = 0
      · rw [if_pos c0]
        refine Ev.step (f := fun _ => some _) (fun k => ?_) (Ev.now _)
        rw [fact_Right.l0.eq_2, if_pos (by omega), if_pos (by omega), if_pos (by omega), rd_at hL hi, if_pos c0]; rfl
      · rw [if_neg c0]
        refine Ev.step (fun k => ?_) hih
        rw [fact_Right.l0.eq_2, if_pos (by omega), if_pos (by omega), if_pos (by omega), rd_at hL hi, if_neg c0, if_neg (by simp), w_one 0 (by omega)]
    | some q =>
      obtain ⟨P', z, hP, hz⟩ := last_of hp
      have hi1 : i = P'.length + 1 := by rw [← hi, hP]; simp
      have hr : rd_T50 L ((i - 1 : Nat) : Int) = z := rd_at (P := P') (R := x :: T) (by rw [hL, hP]; simp) (by omega)
      have e : ∀ k, 6 ≤ k → fact_Right.l0 (k + 1) L L (L.length : Int) (i : Int) = if x.f1 = 0 then some false else if cmpK q x.f0 ≥ 0 then some false else fact_Right.l0 k L L (L.length : Int) ((i + 1 : Nat) : Int) := fun k hk => by
        rw [fact_Right.l0.eq_2, if_pos (by omega), if_pos (by omega), if_pos (by omega), rd_at hL hi]
        by_cases c0 : x.f1 = 0
        · rw [if_pos c0, if_pos c0]
        rw [if_neg c0, if_neg c0, if_pos (by omega), w_pred i (by omega) (by omega), if_pos (by omega), if_pos (by omega), hr, cmp_f z.f0 x.f0 k hk, hz, w_one i (by omega)]
        simp only [Option.bind_some]
      unfold rc
      by_cases c0 : x.f1 = 0
      · rw [if_pos c0]
        exact stepK (f := fun _ => some _) 6 (fun k hk => by rw [e k hk, if_pos c0]; rfl) (Ev.now _)
      by_cases c1 : cmpK q x.f0 ≥ 0
      · rw [if_neg c0, if_pos c1]
        exact stepK (f := fun _ => some _) 6 (fun k hk => by rw [e k hk, if_neg c0, if_pos c1]; rfl) (Ev.now _)
      · rw [if_neg c0, if_neg c1]
        exact stepK 6 (fun k hk => by rw [e k hk, if_neg c0, if_neg c1]) hih
theorem right_f {l : List S50} (h : l.length < 9223372036854775807) : Ev (fun k => fact_Right.f k l) (rightS l) := right_l l [] l 0 none rfl rfl h rfl

def tk (k : S52) : S48 := ⟨k.f0, k.f1, k.f2, k.f3, k.f4⟩
def uk (k : S48) : S52 := ⟨k.f0, k.f1, k.f2, k.f3, k.f4⟩
def tf (x : S54) : S50 := ⟨tk x.f0, x.f1⟩
def uf (x : S50) : S54 := ⟨uk x.f0, x.f1⟩
theorem tf_uf (x : S50) : tf (uf x) = x := rfl
theorem uk_tk (x : S52) : uk (tk x) = x := rfl
theorem uf_tf (x : S54) : uf (tf x) = x := rfl
theorem map_tf_uf (l : List S50) : (l.map uf).map tf = l := by rw [List.map_map]; exact List.map_id l
theorem map_uf_tf (l : List S54) : (l.map tf).map uf = l := by rw [List.map_map]; exact List.map_id l
theorem rd28 {L P R : List S54} {x : S54} {i : Nat} (h : L = P ++ x :: R) (hi : P.length = i) : rd_T54 L (i : Int) = x := by
  unfold rd_T54; rw [h, Int.toNat_natCast, List.getD_eq_getElem?_getD, List.getElem?_append_right (by omega), hi, Nat.sub_self]; rfl
theorem rd24 {L P R : List S52} {x : S52} {i : Nat} (h : L = P ++ x :: R) (hi : P.length = i) : rd_T52 L (i : Int) = x := by
  unfold rd_T52; rw [h, Int.toNat_natCast, List.getD_eq_getElem?_getD, List.getElem?_append_right (by omega), hi, Nat.sub_self]; rfl
theorem theirs_l (T : List S54) : ∀ (P L : List S54) (i : Nat), L = P ++ T → P.length = i → L.length < 1759218604441 → Ev (fun k => law09_Theirs.l0 k (P.map tf) L (L.length : Int) (i : Int)) (L.map tf) := by
  induction T with
  | nil =>
    intro P L i hL hi hl
    have e : P = L := by rw [hL]; simp
    subst e
    refine Ev.step (f := fun _ => some _) (fun k => ?_) (Ev.now _)
    rw [law09_Theirs.l0.eq_2, if_neg (by omega)]
  | cons x T ih =>
    intro P L i hL hi hl
    have hlen : L.length = P.length + 1 + T.length := by rw [hL]; simp; omega
    have := ih (P ++ [x]) L (i + 1) (by rw [hL]; simp) (by simp; omega) hl
    refine Ev.step (fun k => ?_) this
    rw [law09_Theirs.l0.eq_2, if_pos (by omega), if_pos (by omega), if_pos (by omega), if_pos (by rw [List.length_map]; omega), rd28 hL hi, w_one i (by omega), List.map_append]
    rfl
theorem theirs_f {l : List S54} (h : l.length < 1759218604441) : Ev (fun k => law09_Theirs.f k l) (l.map tf) := theirs_l l [] l 0 rfl rfl h
theorem ours_l (T : List S50) : ∀ (P L : List S50) (i : Nat), L = P ++ T → P.length = i → L.length < 1759218604441 → Ev (fun k => law09_Ours.l0 k (P.map uf) L (L.length : Int) (i : Int)) (L.map uf) := by
  induction T with
  | nil =>
    intro P L i hL hi hl
    have e : P = L := by rw [hL]; simp
    subst e
    refine Ev.step (f := fun _ => some _) (fun k => ?_) (Ev.now _)
    rw [law09_Ours.l0.eq_2, if_neg (by omega)]
  | cons x T ih =>
    intro P L i hL hi hl
    have hlen : L.length = P.length + 1 + T.length := by rw [hL]; simp; omega
    have := ih (P ++ [x]) L (i + 1) (by rw [hL]; simp) (by simp; omega) hl
    refine Ev.step (fun k => ?_) this
    rw [law09_Ours.l0.eq_2, if_pos (by omega), if_pos (by omega), if_pos (by omega), if_pos (by rw [List.length_map]; omega), rd_at hL hi, w_one i (by omega), List.map_append]
    rfl
theorem ours_f {l : List S50} (h : l.length < 1759218604441) : Ev (fun k => law09_Ours.f k l) (l.map uf) := ours_l l [] l 0 rfl rfl h
theorem few_l (T : List S54) : ∀ (P L : List S54) (i : Nat), L = P ++ T → P.length = i → L.length ≤ 9223372036854775807 → ∃ b, Ev (fun k => law09_Few.l0 k L L (L.length : Int) (i : Int)) b ∧ (b = true → L.length ≤ 150 ∧ ∀ y ∈ T, y.f0.f0.size ≤ 40 ∧ y.f0.f1.size ≤ 40 ∧ y.f0.f2.size ≤ 40 ∧ y.f0.f3.size ≤ 40) := by
  induction T with
  | nil =>
    intro P L i hL hi hl
    have e : P = L := by rw [hL]; simp
    subst e
    refine ⟨decide ((P.length : Int) ≤ 150), Ev.step (f := fun _ => some _) (fun k => ?_) (Ev.now _), fun h => ⟨by have := of_decide_eq_true h; omega, by simp⟩⟩
    rw [law09_Few.l0.eq_2, if_neg (by omega)]
  | cons x T ih =>
    intro P L i hL hi hl
    have hlen : L.length = P.length + 1 + T.length := by rw [hL]; simp; omega
    obtain ⟨b, h1, h2⟩ := ih (P ++ [x]) L (i + 1) (by rw [hL]; simp) (by simp; omega) hl
    have no : ∀ {g : Nat → Option Bool}, (∀ k, g (k + 1) = some false) → ∃ b, Ev g b ∧ (b = true → L.length ≤ 150 ∧ ∀ y ∈ x :: T, y.f0.f0.size ≤ 40 ∧ y.f0.f1.size ≤ 40 ∧ y.f0.f2.size ≤ 40 ∧ y.f0.f3.size ≤ 40) := fun h => ⟨false, Ev.step (f := fun _ => some _) h (Ev.now _), fun h => by cases h⟩
    have e : ∀ k, law09_Few.l0 (k + 1) L L (L.length : Int) (i : Int) = if (x.f0.f0.size : Int) > 40 then some false else if (x.f0.f1.size : Int) > 40 then some false else if (x.f0.f2.size : Int) > 40 then some false else if (x.f0.f3.size : Int) > 40 then some false else law09_Few.l0 k L L (L.length : Int) ((i + 1 : Nat) : Int) := fun k => by
      rw [law09_Few.l0.eq_2, if_pos (by omega), if_pos (by omega), if_pos (by omega), rd28 hL hi, w_one i (by omega)]
    by_cases c0 : (x.f0.f0.size : Int) > 40
    · exact no fun k => by rw [e, if_pos c0]
    by_cases c1 : (x.f0.f1.size : Int) > 40
    · exact no fun k => by rw [e, if_neg c0, if_pos c1]
    by_cases c2 : (x.f0.f2.size : Int) > 40
    · exact no fun k => by rw [e, if_neg c0, if_neg c1, if_pos c2]
    by_cases c3 : (x.f0.f3.size : Int) > 40
    · exact no fun k => by rw [e, if_neg c0, if_neg c1, if_neg c2, if_pos c3]
    exact ⟨b, Ev.step (fun k => by rw [e, if_neg c0, if_neg c1, if_neg c2, if_neg c3]) h1, fun hb => ⟨(h2 hb).1, fun y hy => by
      rcases List.mem_cons.1 hy with rfl | hy
      · omega
      · exact (h2 hb).2 y hy⟩⟩
theorem few_f {l : List S54} (h : l.length ≤ 9223372036854775807) : ∃ b, Ev (fun k => law09_Few.f k l) b ∧ (b = true → l.length ≤ 150 ∧ ∀ x ∈ l, x.f0.f0.size ≤ 40 ∧ x.f0.f1.size ≤ 40 ∧ x.f0.f2.size ≤ 40 ∧ x.f0.f3.size ≤ 40) := few_l l [] l 0 rfl rfl h

theorem same_l (T : List S54) : ∀ (P L : List S54) (i : Nat), L = P ++ T → P.length = i → L.length ≤ 9223372036854775807 → Ev (fun k => ref09_Same.l0 k L L (i : Int)) true := by
  induction T with
  | nil =>
    intro P L i hL hi hl
    have e : P = L := by rw [hL]; simp
    subst e
    refine Ev.step (f := fun _ => some _) (fun k => ?_) (Ev.now _)
    rw [ref09_Same.l0.eq_2, if_neg (by omega)]
  | cons x T ih =>
    intro P L i hL hi hl
    have hlen : L.length = P.length + 1 + T.length := by rw [hL]; simp; omega
    have := ih (P ++ [x]) L (i + 1) (by rw [hL]; simp) (by simp; omega) hl
    refine Ev.step (fun k => ?_) this
    rw [ref09_Same.l0.eq_2, if_pos (by omega), if_pos (by omega), if_pos (by omega), rd28 hL hi, w_one i (by omega), if_neg (by simp)]
theorem same_f {l : List S54} (h : l.length ≤ 9223372036854775807) : Ev (fun k => ref09_Same.f k l l) true := by
  unfold ref09_Same.f
  simp only [if_true]
  exact same_l l [] l 0 rfl rfl h

theorem rcmp_k (a b : S52) (k : Nat) (hk : 6 ≤ k) : ref09_Cmp.f k a.f0 a.f1 a.f2 a.f3 a.f4 b.f0 b.f1 b.f2 b.f3 b.f4 = some (cmpK (tk a) (tk b)) := rcmp_f (tk a) (tk b) k hk

theorem rright_l (T : List S54) : ∀ (P L : List S54) (i : Nat) (p : Option S48), L = P ++ T → P.length = i → L.length < 9223372036854775807 → (P.map tf).getLast?.map (·.f0) = p → Ev (fun k => ref09_Right.l0 k L (i : Int)) (rc p (T.map tf) && decide (L.length ≤ 2000)) := by
  induction T with
  | nil =>
    intro P L i p hL hi hl hp
    have e : P = L := by rw [hL]; simp
    subst e
    refine Ev.step (f := fun _ => some _) (fun k => ?_) (Ev.now _)
    rw [ref09_Right.l0.eq_2, if_neg (by omega)]
    simp [rc]
    by_cases c : P.length ≤ 2000
    · simp [c]; omega
    · simp [c]; omega
  | cons x T ih =>
    intro P L i p hL hi hl hp
    have hlen : L.length = P.length + 1 + T.length := by rw [hL]; simp; omega
    have hih := ih (P ++ [x]) L (i + 1) (some (tf x).f0) (by rw [hL]; simp) (by simp; omega) hl (by simp)
    cases p with
    | none =>
      have hP : P = [] := by cases P with | nil => rfl | cons a t => simp at hp
      subst hP
      obtain rfl : i = 0 := by simpa using hi.symm
      rw [List.map_cons]
      unfold rc
      by_cases c0 : x.f1 = 0
      · rw [if_pos (by exact c0)]
        refine Ev.step (f := fun _ => some _) (fun k => ?_) (Ev.now _)
        rw [ref09_Right.l0.eq_2, if_pos (by omega), if_pos (by omega), rd28 hL hi, if_pos c0]; rfl
      · rw [if_neg (by exact c0)]
        refine Ev.step (fun k => ?_) hih
        rw [ref09_Right.l0.eq_2, if_pos (by omega), if_pos (by omega), rd28 hL hi, if_neg c0, if_neg (by simp), w_one 0 (by omega)]
    | some q =>
      obtain ⟨P', z, hP, hz⟩ := last_of hp
      obtain ⟨P0, z0, hP0, rfl, hz0⟩ : ∃ P0 z0, P = P0 ++ [z0] ∧ P0.map tf = P' ∧ tf z0 = z := by
        rcases List.eq_nil_or_concat P with rfl | ⟨P0, z0, rfl⟩
        · simp at hP
        · rw [List.concat_eq_append, List.map_append] at hP
          obtain ⟨h1, h2⟩ := List.append_inj' hP rfl
          exact ⟨P0, z0, by simp, h1, by simpa using h2⟩
      have hi1 : i = P0.length + 1 := by rw [← hi, hP0]; simp
      have hr : rd_T54 L ((i - 1 : Nat) : Int) = z0 := rd28 (P := P0) (R := x :: T) (by rw [hL, hP0]; simp) (by omega)
      have e : ∀ k, 6 ≤ k → ref09_Right.l0 (k + 1) L (i : Int) = if x.f1 = 0 then some false else if cmpK q (tk x.f0) ≥ 0 then some false else ref09_Right.l0 k L ((i + 1 : Nat) : Int) := fun k hk => by
        rw [ref09_Right.l0.eq_2, if_pos (by omega), if_pos (by omega), rd28 hL hi]
        by_cases c0 : x.f1 = 0
        · rw [if_pos c0, if_pos c0]
        rw [if_neg c0, if_neg c0, if_pos (by omega), w_pred i (by omega) (by omega), if_pos (by omega), if_pos (by omega), hr, rcmp_k z0.f0 x.f0 k hk, w_one i (by omega), ← hz, ← hz0]
        simp only [Option.bind_some]
        rfl
      rw [List.map_cons]
      unfold rc
      by_cases c0 : x.f1 = 0
      · rw [if_pos (by exact c0)]
        exact stepK (f := fun _ => some _) 6 (fun k hk => by rw [e k hk, if_pos c0]; rfl) (Ev.now _)
      by_cases c1 : cmpK q (tk x.f0) ≥ 0
      · rw [if_neg (by exact c0), if_pos (by exact c1)]
        exact stepK (f := fun _ => some _) 6 (fun k hk => by rw [e k hk, if_neg c0, if_pos c1]; rfl) (Ev.now _)
      · rw [if_neg (by exact c0), if_neg (by exact c1)]
        exact stepK 6 (fun k hk => by rw [e k hk, if_neg c0, if_neg c1]) hih
theorem rright_f {l : List S54} (h : l.length < 9223372036854775807) : Ev (fun k => ref09_Right.f k l) (rightS (l.map tf)) := by
  have := rright_l l [] l 0 none rfl rfl h rfl
  unfold rightS
  rw [List.length_map]
  exact this
theorem rcmp_ev (x y : S48) : Ev (fun k => ref09_Cmp.f k x.f0 x.f1 x.f2 x.f3 x.f4 y.f0 y.f1 y.f2 y.f3 y.f4) (cmpK x y) := ⟨6, fun k hk => rcmp_f x y k hk⟩

end Go.Proofs.YtjbdkdmoacdbpaaGreatDoor.M
