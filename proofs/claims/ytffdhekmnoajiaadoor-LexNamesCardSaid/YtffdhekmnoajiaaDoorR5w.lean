import Derived.Test.YtffdhekmnoajiaaDoorQx2
import Derived.Test.YtffdhekmnoajiaaDoorMInt
import Derived.Test.YtffdhekmnoajiaaDoorMLex
import Derived.Test.YtffdhekmnoajiaaDoorCEv
import Derived.Test.YtffdhekmnoajiaaDoorCLexL
/- what the reference's Words and Lines tell -/
set_option linter.unusedVariables false
set_option linter.unusedSimpArgs false
namespace Go.Proofs.YtffdhekmnoajiaaDoor.M
open Go.RowKit Go.Proofs.YtffdhekmnoajiaaDoorW.PrintWords Go.Proofs.YtffdhekmnoajiaaDoorW.PrintLast Go.Proofs.YtffdhekmnoajiaaDoorW.PrintMore Go.Proofs.YtffdhekmnoajiaaDoor.Q
theorem bt_u8 (c d : UInt8) : ((c.toNat : Int) = (d.toNat : Int)) ↔ c = d := by rw [← UInt8.toNat_inj]; omega
theorem w64_nat {n : Nat} (h : n < 9223372036854775807) : wrap64 ((n : Int) + 1) = ((n + 1 : Nat) : Int) := by rw [w64_in (by unfold I64; omega)]; rfl
theorem bs_nil (l : List UInt8) : (bs l).toList = ([] : List UInt8) ↔ l = [] := by rw [bs_toList]
theorem bs_emp : (⟨#[]⟩ : ByteArray) = bs [] := rfl
theorem wordsC_len : ∀ (l cur : List UInt8), (wordsC cur l).length ≤ l.length + 1
  | [], cur => by unfold wordsC; split <;> simp
  | c :: r, cur => by
    unfold wordsC
    split
    · split
      · have := wordsC_len r []; simp only [List.length_cons]; omega
      · have := wordsC_len r []; simp only [List.length_cons]; omega
    · have := wordsC_len r (cur ++ [c]); simp only [List.length_cons]; omega
theorem words_l (T : List UInt8) : ∀ (P cur : List UInt8) (W : List ByteArray), (P ++ T).length ≤ 1000000 → cur.length ≤ P.length → W.length ≤ P.length →
    Ev (fun k => ref05_Words.l0 k (bs (P ++ T)) W (bs cur) (P.length : Int)) (W ++ (wordsC cur (cutM T)).map bs) := by
  induction T with
  | nil =>
    intro P cur W hL hc hW
    rw [List.append_nil] at hL ⊢
    refine Ev.step (f := fun k => ref05_Words.j1 k (bs P) W (bs cur) (P.length : Int) false) (fun k => by rw [ref05_Words.l0.eq_2, bs_size, if_neg (by omega)]) ?_
    refine Ev.step (f := fun _ => some _) (fun k => ?_) (Ev.now _)
    rw [ref05_Words.j1.eq_2, if_neg (by simp), bs_toList]
    simp only [cutM, List.takeWhile_nil, wordsC]
    by_cases h : cur = []
    · rw [if_pos h, if_pos h]; simp
    · rw [if_neg h, if_neg h, if_pos (by omega)]; rfl
  | cons c T ih =>
    intro P cur W hL hc hW
    have hsz : ((bs (P ++ c :: T)).size : Int) = P.length + 1 + T.length := by rw [bs_size]; simp; omega
    have hbt : bt (bs (P ++ c :: T)) (P.length : Int) = c.toNat := bt_bs rfl
    simp only [List.length_append, List.length_cons] at hL
    have e1 : P ++ c :: T = (P ++ [c]) ++ T := by simp
    have hlen : ((P ++ [c]).length : Int) = P.length + 1 := by simp
    have hw : wrap64 ((P.length : Int) + 1) = ((P ++ [c]).length : Int) := by rw [w64_in (by unfold I64; omega), hlen]
    refine Ev.step (f := fun k => ref05_Words.j1 k (bs (P ++ c :: T)) W (bs cur) (P.length : Int) ((c.toNat : Int) != 35)) (fun k => by rw [ref05_Words.l0.eq_2, if_pos (by omega), if_pos (by omega), hbt]) ?_
    by_cases h35 : c = 35
    · subst h35
      refine Ev.step (f := fun _ => some _) (fun k => ?_) (Ev.now _)
      have hcut : cutM (35 :: T) = [] := by unfold cutM; rw [List.takeWhile_cons, if_neg (by decide)]
      rw [ref05_Words.j1.eq_2, if_neg (by decide), bs_toList, hcut]
      simp only [wordsC]
      by_cases h : cur = []
      · rw [if_pos h, if_pos h]; simp
      · rw [if_neg h, if_neg h, if_pos (by omega)]; rfl
    · have h35' : ((c.toNat : Int) != 35) = true := bne_iff_ne.2 (fun e => h35 ((bt_u8 c 35).1 e))
      have hcut : cutM (c :: T) = c :: cutM T := by
        unfold cutM
        rw [List.takeWhile_cons, if_pos (bne_iff_ne.2 h35)]
      refine Ev.step (f := fun k => ref05_Words.j2 k (bs (P ++ c :: T)) W (bs cur) (P.length : Int) (isB c)) (fun k => ?_) ?_
      · rw [h35', ref05_Words.j1.eq_2, if_pos rfl, if_pos (by omega), if_pos (by omega), hbt]
        by_cases h9 : c = 9
        · subst h9; rfl
        · rw [if_neg (show ¬ (c.toNat : Int) = 9 from fun e => h9 ((bt_u8 c 9).1 e))]
          congr 1
          unfold isB
          rw [beq_eq_false_iff_ne.2 h9, Bool.or_false]
          exact u8_eq c 32
      · rw [hcut]
        cases hb : isB c with
        | true =>
          by_cases h : cur = []
          · refine Ev.step (f := fun k => ref05_Words.l0 k (bs ((P ++ [c]) ++ T)) W (bs []) ((P ++ [c]).length : Int)) (fun k => by rw [ref05_Words.j2.eq_2, if_pos rfl, bs_toList, if_pos h, hw, ← e1]; rfl) ?_
            have := ih (P ++ [c]) [] W (by simp; omega) (by simp) (by simp; omega)
            simpa only [wordsC, hb, if_true, h] using this
          · refine Ev.step (f := fun k => ref05_Words.l0 k (bs ((P ++ [c]) ++ T)) (W ++ [bs cur]) (bs []) ((P ++ [c]).length : Int)) (fun k => by rw [ref05_Words.j2.eq_2, if_pos rfl, bs_toList, if_neg h, if_pos (by omega), hw, ← e1]; rfl) ?_
            have := ih (P ++ [c]) [] (W ++ [bs cur]) (by simp; omega) (by simp) (by simp; omega)
            simpa only [wordsC, hb, if_true, h, if_false, List.map_cons, List.append_assoc, List.singleton_append] using this
        | false =>
          have hex : (bs (P ++ c :: T)).extract (P.length : Int).toNat ((P ++ [c]).length : Int).toNat = bs [c] := by
            rw [bs_extract, Int.toNat_natCast, Int.toNat_natCast, List.drop_left]
            simp
          refine Ev.step (f := fun k => ref05_Words.l0 k (bs ((P ++ [c]) ++ T)) W (bs (cur ++ [c])) ((P ++ [c]).length : Int)) (fun k => ?_) ?_
          · rw [ref05_Words.j2.eq_2, if_neg (by simp), if_pos (by omega), hw, if_pos (by omega), if_pos (by omega), hex, if_pos (by rw [bs_size, bs_size]; simp; omega), bs_append, ← e1]
          · have := ih (P ++ [c]) (cur ++ [c]) W (by simp; omega) (by simp; omega) (by simp; omega)
            simpa only [wordsC, hb, Bool.false_eq_true, if_false] using this
theorem words_f {l : List UInt8} (h : l.length ≤ 1000000) : Ev (fun k => ref05_Words.f k (bs l)) ((wordsM l).map bs) := by
  have := words_l l [] [] [] (by simpa using h) (by simp) (by simp)
  show Ev (fun k => ref05_Words.l0 k (bs l) [] (bs []) 0) _
  simpa [wordsM] using this
theorem s49_out (k : Int) (p : List UInt8) : (outM k [p]).map s49 = if wordsM p = [] then [] else [⟨k, (wordsM p).map bs⟩] := by
  simp only [outM]
  split <;> rfl
theorem lines_j {S : List UInt8} (hS : S.length ≤ 20000) (out : List S49) (n : Int) (A B T : List UInt8) (hs : S = A ++ B ++ T) (hn : 0 ≤ n) (hn2 : n ≤ 30000) (ho : (out.length : Int) ≤ n) {R : List S49 × Int}
    (h : Ev (fun k => ref05_Lines.l1 k (bs S) (out ++ (outM n [B]).map s49) (n + 1) (((A ++ B).length + 1 : Nat) : Int) (((A ++ B).length + 1 : Nat) : Int)) R) :
    Ev (fun k => ref05_Lines.j2 k (bs S) out n (A.length : Int) ((A ++ B).length : Int) true) R := by
  have hsz : (bs S).size = A.length + B.length + T.length := by rw [bs_size, hs]; simp; omega
  have hSl : S.length = A.length + B.length + T.length := by rw [← bs_size]; exact hsz
  have hab : ((A ++ B).length : Int) = A.length + B.length := by simp
  have hex : (bs S).extract (A.length : Int).toNat ((A ++ B).length : Int).toNat = bs B := by
    rw [bs_extract, Int.toNat_natCast, Int.toNat_natCast, hs, List.append_assoc, List.drop_left]
    simp
  have hw : wrap64 (((A ++ B).length : Int) + 1) = (((A ++ B).length + 1 : Nat) : Int) := w64_nat (by simp; omega)
  have hwn : wrap64 (n + 1) = n + 1 := w64_in (by unfold I64; omega)
  have hwf := words_f (l := B) (by omega)
  have e1 : (fun k => ref05_Lines.j2 (k + 1) (bs S) out n (A.length : Int) ((A ++ B).length : Int) true) = fun k => (ref05_Words.f k (bs B)).bind fun t154 => (if (t154.length : Int) > 0 then (if out.length < 4398046511104 then (ref05_Lines.l1 k (bs S) (out ++ [(⟨n, t154⟩ : S49)]) (n + 1) (((A ++ B).length + 1 : Nat) : Int) (((A ++ B).length + 1 : Nat) : Int)) else (none)) else (ref05_Lines.l1 k (bs S) out (n + 1) (((A ++ B).length + 1 : Nat) : Int) (((A ++ B).length + 1 : Nat) : Int))) := by
    funext k
    rw [ref05_Lines.j2.eq_2, if_pos rfl, if_pos (by omega), if_pos (by omega), if_pos (by omega), hex, hw, hwn]
  refine Ev.step (fun k => congrFun e1 k) (hwf.bind ?_)
  rw [s49_out] at h
  by_cases hwb : wordsM B = []
  · rw [if_pos hwb, List.append_nil] at h
    rw [hwb]
    simpa using h
  · rw [if_neg hwb] at h
    have : ((List.map bs (wordsM B)).length : Int) > 0 := by
      have := List.length_pos_iff.2 hwb
      simp; omega
    refine h.congr fun k => ?_
    rw [if_pos this, if_pos (by omega)]
theorem lines_l {S : List UInt8} (hS : S.length ≤ 20000) (T : List UInt8) : ∀ (A B : List UInt8) (out : List S49) (n : Int), S = A ++ B ++ T → 10 ∉ B → 0 ≤ n → n + T.length ≤ 20001 → (out.length : Int) ≤ n →
    Ev (fun k => ref05_Lines.l1 k (bs S) out n (A.length : Int) ((A ++ B).length : Int)) (out ++ (outM n (linesM (B ++ T))).map s49, 0) := by
  induction T with
  | nil =>
    intro A B out n hs hB h0 h1 ho
    have hsz : ((bs S).size : Int) = ((A ++ B).length : Int) := by rw [bs_size, hs]; simp
    refine Ev.step (f := fun k => ref05_Lines.j2 k (bs S) out n (A.length : Int) ((A ++ B).length : Int) true) (fun k => by rw [ref05_Lines.l1.eq_2, if_pos (by omega), if_pos hsz.symm]) ?_
    rw [List.append_nil, linesM_plain hB]
    refine lines_j hS out n A B [] hs h0 (by simp at h1; omega) ho ?_
    refine Ev.step (f := fun _ => some _) (fun k => ?_) (Ev.now _)
    rw [ref05_Lines.l1.eq_2, if_neg (by omega)]
  | cons c T ih =>
    intro A B out n hs hB h0 h1 ho
    simp only [List.length_cons] at h1
    have hsz : ((bs S).size : Int) = ((A ++ B).length : Int) + 1 + T.length := by rw [bs_size, hs]; simp; omega
    have hbt : bt (bs S) ((A ++ B).length : Int) = c.toNat := by rw [hs]; exact bt_bs rfl
    refine Ev.step (f := fun k => ref05_Lines.j2 k (bs S) out n (A.length : Int) ((A ++ B).length : Int) (c == 10)) (fun k => ?_) ?_
    · rw [ref05_Lines.l1.eq_2, if_pos (by omega), if_neg (by omega), if_pos (by omega), if_pos (by omega), hbt]
      congr 1
      exact u8_eq c 10
    by_cases h10 : c = 10
    · subst h10
      rw [show ((10 : UInt8) == 10) = true from rfl]
      refine lines_j hS out n A B (10 :: T) hs h0 (by omega) ho ?_
      rw [linesM_cut hB, outM_one n B (linesM T), List.map_append, ← List.append_assoc]
      have := ih (A ++ B ++ [10]) [] (out ++ (outM n [B]).map s49) (n + 1) (by rw [hs]; simp) (by simp) (by omega) (by omega) (by
        rw [s49_out]; split <;> simp <;> omega)
      have e3 : ((A ++ B ++ [10]).length : Int) = (((A ++ B).length + 1 : Nat) : Int) := by simp; omega
      rw [List.append_nil, e3, List.nil_append] at this
      exact this
    · rw [beq_eq_false_iff_ne.2 h10]
      have hw : wrap64 (((A ++ B).length : Int) + 1) = ((A ++ (B ++ [c])).length : Int) := by rw [w64_in (by unfold I64; rw [bs_size] at hsz; omega)]; simp; omega
      refine Ev.step (f := fun k => ref05_Lines.l1 k (bs S) out n (A.length : Int) ((A ++ (B ++ [c])).length : Int)) (fun k => by rw [ref05_Lines.j2.eq_2, if_neg (by simp), hw]) ?_
      have := ih A (B ++ [c]) out n (by rw [hs]; simp) (by simp only [List.mem_append, List.mem_singleton]; rintro (h | h); exact hB h; exact h10 h.symm) h0 (by omega) ho
      rw [show B ++ [c] ++ T = B ++ c :: T by simp] at this
      exact this
theorem lines_o {S : List UInt8} (hS : S.length ≤ 20000) (T : List UInt8) : ∀ (P : List UInt8), S = P ++ T →
    Ev (fun k => ref05_Lines.l0 k (bs S) (P.length : Int)) (if T.any oddM = true then ([], 5) else ((textM S).map s49, 0)) := by
  induction T with
  | nil =>
    intro P hs
    rw [if_neg (by simp)]
    have hsz : ((bs S).size : Int) = (P.length : Int) := by rw [bs_size, hs]; simp
    refine Ev.step (f := fun k => ref05_Lines.l1 k (bs S) [] 1 0 0) (fun k => by rw [ref05_Lines.l0.eq_2, if_neg (by omega)]) ?_
    have := lines_l hS S [] [] [] 1 rfl (by simp) (by omega) (by omega) (by simp)
    simpa [textM] using this
  | cons c T ih =>
    intro P hs
    have hsz : ((bs S).size : Int) = (P.length : Int) + 1 + T.length := by rw [bs_size, hs]; simp; omega
    have hbt : bt (bs S) (P.length : Int) = c.toNat := by rw [hs]; exact bt_bs rfl
    have hw : wrap64 ((P.length : Int) + 1) = ((P ++ [c]).length : Int) := by rw [w64_in (by unfold I64; rw [bs_size] at hsz; omega)]; simp
    have hn := ih (P ++ [c]) (by rw [hs]; simp)
    have st : ∀ k, ref05_Lines.l0 (k + 1) (bs S) (P.length : Int) = if oddM c = true then some ([], 5) else ref05_Lines.l0 k (bs S) ((P ++ [c]).length : Int) := by
      intro k
      rw [ref05_Lines.l0.eq_2, if_pos (by omega), if_pos (by omega), hbt, hw]
      by_cases h9 : c = 9
      · subst h9; rfl
      rw [if_neg (show ¬ (c.toNat : Int) = 9 from fun e => h9 ((bt_u8 c 9).1 e))]
      by_cases h10 : c = 10
      · subst h10; rfl
      rw [if_neg (show ¬ (c.toNat : Int) = 10 from fun e => h10 ((bt_u8 c 10).1 e))]
      unfold oddM
      rw [bne_iff_ne.2 h9, bne_iff_ne.2 h10]
      by_cases h32 : c.toNat < 32
      · rw [if_pos (by omega), if_pos (by simp [h32])]
      · rw [if_neg (by omega)]
        by_cases h126 : 126 < c.toNat
        · rw [if_pos (by omega), if_pos (by simp [h126])]
        · rw [if_neg (by omega), if_neg (by simp [h32, h126])]
    by_cases ho : oddM c = true
    · rw [if_pos (by simp [ho])]
      exact Ev.step (f := fun _ => some _) (fun k => by rw [st, if_pos ho]) (Ev.now _)
    · have e : (c :: T).any oddM = T.any oddM := by simp [ho]
      rw [e]
      exact Ev.step (fun k => by rw [st, if_neg ho]) hn
theorem rlines_f (S : List UInt8) : Ev (fun k => ref05_Lines.f k (bs S)) ((linesT S).1.map s49, (linesT S).2) := by
  unfold linesT ref05_Lines.f
  rw [bs_size]
  by_cases h : 20000 < S.length
  · simp only [if_pos h, if_pos (show (S.length : Int) > 20000 by omega)]
    exact Ev.now _
  · simp only [if_neg h, if_neg (show ¬ (S.length : Int) > 20000 by omega)]
    have := lines_o (S := S) (by omega) S [] rfl
    simp only [List.length_nil] at this
    split
    · rename_i h2; rw [if_pos h2] at this; exact this
    · rename_i h2; rw [if_neg h2] at this; exact this
end Go.Proofs.YtffdhekmnoajiaaDoor.M
