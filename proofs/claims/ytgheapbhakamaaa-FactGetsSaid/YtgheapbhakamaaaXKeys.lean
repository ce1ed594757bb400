import Derived.Test.YtgheapbhakamaaaProg
import Derived.Maps.Own
import Derived.Maps.OwnOps
import Derived.Maps.OwnSet
import Derived.Maps.RangeWalk
import Derived.DeepKeys4
import Derived.StringKeys
import Derived.WalkKit
/- a fact's key as a map's key -/
set_option linter.unusedVariables false
set_option linter.unusedSimpArgs false
namespace Go.Proofs.Ytgheapbhakamaaa.XG
open Go Go.RowKit Go.Maps
theorem laidOut : laidOutB Try.prog = true := by kernel_rfl
theorem rowK : (24 : TypeId) < Try.prog.types.size := of_decide_eq_true (by kernel_rfl)
theorem wideK : (match Try.prog.underlying 24 with | some (.array _ _) | some (.struct _) => true | _ => false) = true := by rw [Try.underlying24]
theorem klawK : WideMaps.KeyLaw Try.prog 24 := deep_law_laid laidOut (m := 3) (by omega) rowK (by kernel_rfl) wideK
theorem lawK : Keyed Try.prog 24 := Keyed.of_law klawK
theorem lawS : Keyed Try.prog 9 := string_keyed Try.underlying9
theorem cellsK : Try.prog.cellsOf 24 = 5 := by kernel_rfl
theorem cellsS : Try.prog.cellsOf 9 = 1 := by kernel_rfl
theorem cellsI : Try.prog.cellsOf 3 = 1 := by kernel_rfl
theorem keyTypeK : Try.prog.keyType 24 = true := by kernel_rfl
theorem typesS : ∃ m, Try.prog.types.size = m + 1 := by
 have : 0 < Try.prog.types.size := of_decide_eq_true (by kernel_rfl)
 exact ⟨Try.prog.types.size - 1, by omega⟩
def kLit (a b c d : ByteArray) (n : Int) : Lit := .string (keyBytes [.string a.data.toList, .string b.data.toList, .string c.data.toList, .string d.data.toList, .int .i64 n])
theorem key_some {a b c d : ByteArray} {n : Int} (ha : a.size ≤ maxLen) (hb : b.size ≤ maxLen) (hc : c.size ≤ maxLen) (hd : d.size ≤ maxLen) (hn : (Lit.int .i64 n).wf = true) : keyOf Try.prog 24 (.agg #[.string a, .string b, .string c, .string d, .int .i64 n]) = some (kLit a b c d n) := by
 obtain ⟨m, hm⟩ := typesS
 have hform : (Value.agg #[.string a, .string b, .string c, .string d, .int .i64 n]).formed Try.prog 24 = true := by simp [Value.formed, Try.underlying24, cellsK]
 unfold keyOf
 simp only [Try.underlying24, keyTypeK, hform, hm, Bool.and_self, if_true]
 simp [Program.keyLits, Try.underlying24, Try.underlying9, Try.underlying3, cellsK, cellsS, cellsI, Value.cells, ha, hb, hc, hd, hn, kLit]
theorem lits_s {m : Nat} {x : Value} {l : List Lit} (h : Try.prog.keyLits (m + 1) 9 [x] = some l) : ∃ s, x = .string s ∧ s.size ≤ maxLen := by
 unfold Program.keyLits at h
 rw [Try.underlying9] at h
 cases x with
 | string s =>
  by_cases c : s.size ≤ maxLen
  ·exact ⟨s, rfl, c⟩
  ·simp [c] at h
 | _ => simp at h
theorem lits_i {m : Nat} {x : Value} {l : List Lit} (h : Try.prog.keyLits (m + 1) 3 [x] = some l) : ∃ n, x = .int .i64 n ∧ (Lit.int .i64 n).wf = true := by
 unfold Program.keyLits at h
 rw [Try.underlying3] at h
 cases x with
 | int q n =>
  by_cases c : q = .i64 ∧ (Lit.int .i64 n).wf = true
  ·obtain ⟨rfl, c⟩ := c
   exact ⟨n, rfl, c⟩
  ·simp only at h
   rw [if_neg c] at h
   cases h
 | _ => simp at h
theorem key_inv {v : Value} {l : Lit} (h : keyOf Try.prog 24 v = some l) : ∃ a b c d n, v = .agg #[.string a, .string b, .string c, .string d, .int .i64 n] ∧ a.size ≤ maxLen ∧ b.size ≤ maxLen ∧ c.size ≤ maxLen ∧ d.size ≤ maxLen ∧ (Lit.int .i64 n).wf = true := by
 obtain ⟨m, hm⟩ := typesS
 unfold keyOf at h
 simp only [Try.underlying24, keyTypeK, hm, Bool.true_and] at h
 split at h
 ·rename_i hf
  cases v with
  | agg cs =>
   simp [Value.formed, Try.underlying24, cellsK] at hf
   obtain ⟨l0, rfl⟩ : ∃ l0 : List Value, cs = l0.toArray := ⟨cs.toList, rfl⟩
   match l0, hf with
   | [x0, x1, x2, x3, x4], _ =>
    obtain ⟨ls, h, _⟩ := Option.map_eq_some_iff.1 h
    unfold Program.keyLits at h
    simp only [Try.underlying24, cellsK, Value.cells] at h
    split at h
    ·obtain ⟨l2, h, _⟩ := Option.map_eq_some_iff.1 h
     simp [cellsS, cellsI] at h
     obtain ⟨y0, h0, h⟩ := Option.bind_eq_some_iff.1 h
     obtain ⟨z0, h, _⟩ := Option.bind_eq_some_iff.1 h
     obtain ⟨y1, h1, h⟩ := Option.bind_eq_some_iff.1 h
     obtain ⟨z1, h, _⟩ := Option.bind_eq_some_iff.1 h
     obtain ⟨y2, h2, h⟩ := Option.bind_eq_some_iff.1 h
     obtain ⟨z2, h, _⟩ := Option.bind_eq_some_iff.1 h
     obtain ⟨y3, h3, h⟩ := Option.bind_eq_some_iff.1 h
     obtain ⟨z3, h, _⟩ := Option.bind_eq_some_iff.1 h
     obtain ⟨y4, h4, h⟩ := Option.bind_eq_some_iff.1 h
     obtain ⟨a, rfl, ha⟩ := lits_s h0
     obtain ⟨b, rfl, hb⟩ := lits_s h1
     obtain ⟨c, rfl, hc⟩ := lits_s h2
     obtain ⟨d, rfl, hd⟩ := lits_s h3
     obtain ⟨n, rfl, hn⟩ := lits_i h4
     exact ⟨a, b, c, d, n, rfl, ha, hb, hc, hd, hn⟩
    ·cases h
  | _ => simp [Value.formed, Try.underlying24] at hf
 ·cases h
end Go.Proofs.Ytgheapbhakamaaa.XG
