import Derived.Test.YtpfhoenjndmoaaaDoorMInt
import Derived.Laws.Entries
/- sums of amounts, that fit or do not -/
set_option linter.unusedVariables false
set_option linter.unusedSimpArgs false
namespace Go.Proofs.YtpfhoenjndmoaaaDoor.M
open Go.RowKit

instance decI64 (v : Int) : Decidable (I64 v) := by unfold I64; infer_instance
def addS (a b : Int) : Int × Int := if I64 (a + b) then (a + b, 0) else (0, 2)
def sumS : Int → List Int → Int × Int
  | n, [] => (n, 0)
  | n, x :: l => if I64 (n + x) then sumS (n + x) l else (0, 2)
theorem wrap_toInt (v : BitVec 64) : IntKind.i64.wrap (v.toNat : Int) = v.toInt := by
  rw [IntKind.wrap_i64, BitVec.toInt_eq_toNat_cond]; have := v.isLt; split <;> omega
theorem msb_ofInt {x : Int} (h : I64 x) : (BitVec.ofInt 64 x).msb = decide (x < 0) := by
  obtain ⟨h1, h2⟩ := h
  rw [BitVec.msb_eq_toInt, BitVec.toInt_ofInt]
  have : Int.bmod x (2 ^ 64) = x := by unfold Int.bmod; simp only []; split <;> omega
  rw [this]
theorem toInt_i64 (v : BitVec 64) : I64 v.toInt := by
  have h1 := BitVec.toInt_lt (x := v)
  have h2 := BitVec.le_toInt (x := v)
  unfold I64; omega
theorem xor_neg {x y : Int} (hx : I64 x) (hy : I64 y) : I64 (Go.bits .xor .i64 x y) ∧ (Go.bits .xor .i64 x y < 0 ↔ ¬ (x < 0 ↔ y < 0)) := by
  have e : Go.bits .xor .i64 x y = (BitVec.ofInt 64 x ^^^ BitVec.ofInt 64 y).toInt := wrap_toInt _
  rw [e]
  refine ⟨toInt_i64 _, ?_⟩
  have := BitVec.msb_eq_toInt (x := BitVec.ofInt 64 x ^^^ BitVec.ofInt 64 y)
  rw [BitVec.msb_xor, msb_ofInt hx, msb_ofInt hy] at this
  by_cases c : x < 0 <;> by_cases d : y < 0 <;> simp [c, d] at this ⊢ <;> omega
theorem and_neg {x y : Int} (hx : I64 x) (hy : I64 y) : (Go.bits .and .i64 x y < 0 ↔ (x < 0 ∧ y < 0)) := by
  have e : Go.bits .and .i64 x y = (BitVec.ofInt 64 x &&& BitVec.ofInt 64 y).toInt := wrap_toInt _
  rw [e]
  have := BitVec.msb_eq_toInt (x := BitVec.ofInt 64 x &&& BitVec.ofInt 64 y)
  rw [BitVec.msb_and, msb_ofInt hx, msb_ofInt hy] at this
  by_cases c : x < 0 <;> by_cases d : y < 0 <;> simp [c, d] at this ⊢ <;> omega
theorem sumS_ok {l : List Int} : ∀ {n : Int}, (sumS n l).2 = 0 ∨ sumS n l = (0, 2) := by
  induction l with
  | nil => intro n; exact .inl rfl
  | cons x l ih =>
    intro n
    unfold sumS
    split
    · exact ih
    · exact .inr rfl
theorem sumS_i64 {l : List Int} : ∀ {n : Int}, I64 n → I64 (sumS n l).1 := by
  induction l with
  | nil => intro n h; exact h
  | cons x l ih =>
    intro n h
    unfold sumS
    split
    · rename_i h2; exact ih h2
    · unfold I64; omega
theorem rd_int {L P R : List Int} {x : Int} {i : Nat} (h : L = P ++ x :: R) (hi : P.length = i) : L.getD i 0 = x := by
  rw [h, List.getD_eq_getElem?_getD, List.getElem?_append_right (by omega), hi, Nat.sub_self]; rfl
end Go.Proofs.YtpfhoenjndmoaaaDoor.M
