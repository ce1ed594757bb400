import Derived.Test.YtffdhekmnoajiaaDoorXLexLines
import Derived.Test.YtffdhekmnoajiaaDoorXLexJoin
import Derived.Test.YtffdhekmnoajiaaDoorMLex
/- what lex.Lines tells, in lines of words -/
set_option linter.unusedVariables false
set_option linter.unusedSimpArgs false
namespace Go.Proofs.YtffdhekmnoajiaaDoor.M
open Go.RowKit Go.Proofs.YtffdhekmnoajiaaDoorW.PrintWords Go.Proofs.YtffdhekmnoajiaaDoor.Q Go.Proofs.YtffdhekmnoajiaaDoor.X
def s42 (x : Int × List (List UInt8)) : S42 := ⟨x.1, x.2.map bs⟩
def s49 (x : Int × List (List UInt8)) : S49 := ⟨x.1, x.2.map bs⟩
theorem bytesL_bs (l : List UInt8) : bytesL (bs l) = l.map fun b => (b.toNat : Int) := rfl
theorem u8_eq (c d : UInt8) : ((c.toNat : Int) == (d.toNat : Int)) = (c == d) := by
  rw [Bool.eq_iff_iff, beq_iff_eq, beq_iff_eq, ← UInt8.toNat_inj]; omega
theorem u8_ne (c d : UInt8) : ((c.toNat : Int) != (d.toNat : Int)) = (c != d) := by
  unfold bne; rw [u8_eq]
theorem any_odd (l : List UInt8) : (bytesL (bs l)).any oddP = l.any oddM := by
  rw [bytesL_bs, List.any_map]
  congr 1
  funext c
  simp only [Function.comp, oddP, oddM]
  have e1 : ((c.toNat : Int) != 9) = (c != 9) := u8_ne c 9
  have e2 : ((c.toNat : Int) != 10) = (c != 10) := u8_ne c 10
  rw [e1, e2]
  congr 2
  · rw [decide_eq_decide]; omega
  · rw [decide_eq_decide]; omega
theorem odd_small {c : UInt8} (h : oddM c = false) : c.toNat < 128 := by
  unfold oddM at h
  by_cases h9 : c = 9
  · subst h9; decide
  by_cases h10 : c = 10
  · subst h10; decide
  have e1 : (c != 9) = true := bne_iff_ne.2 h9
  have e2 : (c != 10) = true := bne_iff_ne.2 h10
  simp only [e1, e2, Bool.true_and, Bool.or_eq_false_iff, decide_eq_false_iff_not] at h
  omega
theorem blank_is (c : UInt8) : blankP c.toNat = isB c := by
  unfold blankP isB
  have e1 : (c.toNat == 32) = (c == 32) := by rw [Bool.eq_iff_iff, beq_iff_eq, beq_iff_eq, ← UInt8.toNat_inj]; simp
  have e2 : (c.toNat == 9) = (c == 9) := by rw [Bool.eq_iff_iff, beq_iff_eq, beq_iff_eq, ← UInt8.toNat_inj]; simp
  rw [e1, e2]
theorem wordsOf_bs (p : List UInt8) (h : ∀ c ∈ p, oddM c = false) : wordsOf (bs p) = (wordsM p).map bs := by
  unfold wordsOf plainL wordsM
  rw [bs_dataL, cut_fst]
  exact fields_words blankP (cutM p) (fun c hc => odd_small (h c (cutM_mem hc))) (fun c _ => blank_is c)
theorem outM_one (k : Int) (p : List UInt8) (ps : List (List UInt8)) : outM k (p :: ps) = outM k [p] ++ outM (k + 1) ps := by
  simp only [outM]
  by_cases h : wordsM p = []
  · rw [if_pos h, if_pos h]; rfl
  · rw [if_neg h, if_neg h]; rfl
theorem lineOut_bs (k : Int) (p : List UInt8) (h : ∀ c ∈ p, oddM c = false) : lineOut k (bs p) = (outM k [p]).map s42 := by
  unfold lineOut
  rw [wordsOf_bs p h, List.length_map]
  simp only [outM]
  by_cases hw : wordsM p = []
  · rw [if_pos hw, hw]; rfl
  · rw [if_neg hw, if_pos (List.length_pos_iff.2 hw)]; rfl
theorem goL_bs : ∀ (f : Nat) (k : Int) (t : List UInt8) (out : List S42), t.length < f → (∀ c ∈ t, oddM c = false) → goL f k (bs t) out = some (out ++ (outM (k + 1) (linesM t)).map s42) := by
  intro f
  induction f with
  | zero => intro k t out h; omega
  | succ f ih =>
    intro k t out hf ho
    have hn : nl (bs t) = Lib.index t [10] := rfl
    rw [goL]
    rcases index_cases t 10 with ⟨e, hm⟩ | ⟨p, r, rfl, hm, e⟩
    · rw [if_pos (by rw [hn, e]; decide)]
      have hh : headL (bs t) = bs t := by unfold headL; rw [if_pos (by rw [hn, e]; decide)]
      rw [hh, lineOut_bs _ _ ho, linesM_plain hm]
    · rw [if_neg (by rw [hn, e]; omega)]
      have hh : headL (bs (p ++ 10 :: r)) = bs p := by
        unfold headL
        rw [if_neg (by rw [hn, e]; omega), hn, e, bs_extract]
        simp
      have hr : restL (bs (p ++ 10 :: r)) = bs r := by
        unfold restL
        rw [hn, e, bs_extract, bs_size]
        congr 1
        simp only [List.length_append, List.length_cons, Int.toNat_natCast]
        rw [show p ++ 10 :: r = (p ++ [10]) ++ r by simp, show p.length + 1 = (p ++ [10]).length by simp, List.drop_left, List.take_of_length_le (by simp; omega)]
      simp only [List.length_append, List.length_cons] at hf
      rw [hh, hr, ih _ _ _ (by omega) (fun c hc => ho c (List.mem_append_right _ (List.mem_cons_of_mem _ hc))), lineOut_bs _ _ (fun c hc => ho c (List.mem_append_left _ hc)), linesM_cut hm, outM_one _ p (linesM r)]
      rw [List.map_append, List.append_assoc]
def linesT (s : List UInt8) : List (Int × List (List UInt8)) × Int := if 20000 < s.length then ([], 4) else if s.any oddM = true then ([], 5) else (textM s, 0)
theorem linesF_bs (s : List UInt8) : linesF (bs s) = some ((linesT s).1.map s42, (linesT s).2) := by
  unfold linesF linesT
  rw [bs_size, any_odd]
  by_cases h1 : 20000 < s.length
  · rw [if_pos h1, if_pos h1]; rfl
  · rw [if_neg h1, if_neg h1]
    by_cases h2 : s.any oddM = true
    · rw [if_pos h2, if_pos h2]; rfl
    · rw [if_neg h2, if_neg h2, goL_bs _ _ _ _ (by omega) (fun c hc => by
        rw [Bool.not_eq_true] at h2
        exact Bool.eq_false_iff.2 (fun e => by rw [List.any_eq_false] at h2; exact h2 c hc e))]
      rfl
end Go.Proofs.YtffdhekmnoajiaaDoor.M
