import Derived.Test.YtffdhekmnoajiaaDoorMStr
import Derived.Lib.FieldsP
import Derived.Lib.IndexBytes
import Derived.Lib.IndexMore
import Derived.Laws.RangeString
/- texts as lines of words: lists of bytes alone -/
set_option linter.unusedVariables false
set_option linter.unusedSimpArgs false
namespace Go.Proofs.YtffdhekmnoajiaaDoor.M
open Go.RowKit Go.Proofs.YtffdhekmnoajiaaDoorW.PrintWords
/-- the lines of a text -/
def linesM : List UInt8 → List (List UInt8)
  | [] => [[]]
  | c :: r => if c = 10 then [] :: linesM r else match linesM r with
    | [] => [[c]]
    | p :: ps => (c :: p) :: ps
/-- a line ahead of its mark -/
def cutM (l : List UInt8) : List UInt8 := l.takeWhile (fun c => c != 35)
def isB (c : UInt8) : Bool := c == 32 || c == 9
/-- the words of a line -/
def wordsC : List UInt8 → List UInt8 → List (List UInt8)
  | cur, [] => if cur = [] then [] else [cur]
  | cur, c :: r => if isB c = true then (if cur = [] then wordsC [] r else cur :: wordsC [] r) else wordsC (cur ++ [c]) r
def wordsM (l : List UInt8) : List (List UInt8) := wordsC [] (cutM l)
/-- the lines that have words, with their numbers -/
def outM : Int → List (List UInt8) → List (Int × List (List UInt8))
  | _, [] => []
  | k, p :: ps => if wordsM p = [] then outM (k + 1) ps else (k, wordsM p) :: outM (k + 1) ps
def oddM (c : UInt8) : Bool := c != 9 && c != 10 && (decide (c.toNat < 32) || decide (126 < c.toNat))
def textM (s : List UInt8) : List (Int × List (List UInt8)) := outM 1 (linesM s)
theorem linesM_ne (s : List UInt8) : linesM s ≠ [] := by
  cases s with
  | nil => simp [linesM]
  | cons c r => unfold linesM; split; simp; split <;> simp
theorem linesM_plain : ∀ {p : List UInt8}, 10 ∉ p → linesM p = [p]
  | [], _ => rfl
  | c :: r, h => by
    have hc : ¬ c = 10 := fun e => h (e ▸ List.mem_cons_self)
    have hr := linesM_plain (p := r) (fun hm => h (List.mem_cons_of_mem _ hm))
    unfold linesM
    rw [if_neg hc, hr]
theorem linesM_cut : ∀ {p r : List UInt8}, 10 ∉ p → linesM (p ++ 10 :: r) = p :: linesM r
  | [], r, _ => by simp [linesM]
  | c :: p, r, h => by
    have hc : ¬ c = 10 := fun e => h (e ▸ List.mem_cons_self)
    have hr := linesM_cut (p := p) (r := r) (fun hm => h (List.mem_cons_of_mem _ hm))
    rw [List.cons_append, linesM, if_neg hc, hr]
theorem linesM_odd {s : List UInt8} {P : UInt8 → Prop} (h : ∀ c ∈ s, P c) : ∀ p ∈ linesM s, ∀ c ∈ p, P c ∧ c ≠ 10 := by
  induction s with
  | nil => intro p hp; simp [linesM] at hp; subst hp; simp
  | cons c r ih =>
    intro p hp
    have ih' := ih (fun x hx => h x (List.mem_cons_of_mem _ hx))
    unfold linesM at hp
    split at hp
    · rcases List.mem_cons.1 hp with rfl | hp
      · simp
      · exact ih' p hp
    · rename_i hc
      split at hp
      · rename_i e; exact absurd e (linesM_ne r)
      · rename_i q qs e
        rcases List.mem_cons.1 hp with rfl | hp
        · intro x hx
          rcases List.mem_cons.1 hx with rfl | hx
          · exact ⟨h x List.mem_cons_self, hc⟩
          · exact ih' q (by rw [e]; exact List.mem_cons_self) x hx
        · exact ih' p (by rw [e]; exact List.mem_cons_of_mem _ hp)
/-- the first place of a byte -/
theorem index_cases (l : List UInt8) (c : UInt8) : (Lib.index l [c] = -1 ∧ c ∉ l) ∨ ∃ p r, l = p ++ c :: r ∧ c ∉ p ∧ Lib.index l [c] = p.length := by
  rw [Lib.index_one]
  induction l with
  | nil => exact .inl ⟨rfl, by simp⟩
  | cons b l ih =>
    unfold Lib.indexByte
    by_cases h : b = c
    · subst h
      exact .inr ⟨[], l, rfl, by simp, by simp⟩
    · have h1 : (b == c) = false := beq_eq_false_iff_ne.2 h
      rw [h1]
      rcases ih with ⟨e, hn⟩ | ⟨p, r, rfl, hp, e⟩
      · refine .inl ⟨by rw [e]; rfl, ?_⟩
        intro hm
        rcases List.mem_cons.1 hm with rfl | hm
        · exact h rfl
        · exact hn hm
      · refine .inr ⟨b :: p, r, rfl, ?_, ?_⟩
        · intro hm
          rcases List.mem_cons.1 hm with rfl | hm
          · exact h rfl
          · exact hp hm
        · rw [e]
          have : ((p.length : Int) == -1) = false := beq_eq_false_iff_ne.2 (by omega)
          rw [this]
          simp
theorem takeWhile_none {c : UInt8} : ∀ {l : List UInt8}, c ∉ l → l.takeWhile (fun x => x != c) = l
  | [], _ => rfl
  | b :: l, h => by
    have hb : (b != c) = true := bne_iff_ne.2 (fun e => h (e ▸ List.mem_cons_self))
    rw [List.takeWhile_cons, hb, if_pos rfl, takeWhile_none (fun hm => h (List.mem_cons_of_mem _ hm))]
theorem takeWhile_at {c : UInt8} : ∀ {p r : List UInt8}, c ∉ p → (p ++ c :: r).takeWhile (fun x => x != c) = p
  | [], r, _ => by simp
  | b :: p, r, h => by
    have hb : (b != c) = true := bne_iff_ne.2 (fun e => h (e ▸ List.mem_cons_self))
    rw [List.cons_append, List.takeWhile_cons, hb, if_pos rfl, takeWhile_at (fun hm => h (List.mem_cons_of_mem _ hm))]
theorem cut_fst (l : List UInt8) : (Lib.cut l [35]).1 = cutM l := by
  unfold Lib.cut cutM
  rcases index_cases l 35 with ⟨e, hn⟩ | ⟨p, r, rfl, hp, e⟩
  · rw [e, if_neg (by decide), takeWhile_none hn]
  · rw [e, if_pos (by omega), takeWhile_at hp]
    simp
theorem cutM_mem {l : List UInt8} {c : UInt8} (h : c ∈ cutM l) : c ∈ l := (List.takeWhile_prefix _).subset h
/-! ### strings.FieldsFunc at blanks, of bytes below 128 -/
def piecesOf (l : List UInt8) (acc : List (Nat × Nat)) : List (List UInt8) := acc.map fun x => (l.drop x.1).take (x.2 - x.1)
theorem spans_words (p : Nat → Bool) (l : List UInt8) (h128 : ∀ c ∈ l, c.toNat < 128) (hp : ∀ c ∈ l, p c.toNat = isB c) : ∀ (f pos : Nat) (st : Option Nat) (acc : List (Nat × Nat)), l.length ≤ pos + f → pos ≤ l.length → (∀ a, st = some a → a < pos) →
    piecesOf l (Lib.closeSpans (bs l) (Lib.spansFromP p (bs l) f pos st acc)) = piecesOf l acc ++ wordsC (match st with | some a => (l.drop a).take (pos - a) | none => []) (l.drop pos) := by
  intro f
  induction f with
  | zero =>
    intro pos st acc hf hpos hst
    have : pos = l.length := by omega
    subst this
    rw [List.drop_length]
    cases st with
    | none => simp [Lib.spansFromP, Lib.closeSpans, wordsC]
    | some a =>
      have ha := hst a rfl
      have hne : (l.drop a).take (l.length - a) ≠ [] := by
        intro e
        have := congrArg List.length e
        simp at this; omega
      simp only [Lib.spansFromP, Lib.closeSpans, wordsC, if_neg hne, bs_size]
      simp [piecesOf]
  | succ f ih =>
    intro pos st acc hf hpos hst
    by_cases hlt : pos < l.length
    · have hsz : pos < (bs l).size := by rw [bs_size]; exact hlt
      obtain ⟨c, hc⟩ : ∃ c, l[pos] = c := ⟨_, rfl⟩
      have hmem : c ∈ l := hc ▸ List.getElem_mem hlt
      have hget : (bs l)[pos]'hsz = c := by
        refine Eq.trans ?_ hc
        show l.toArray[pos]'(by simpa using hlt) = _
        exact List.getElem_toArray _
      have hq : l[pos]? = some c := (List.getElem?_eq_getElem hlt).trans (congrArg some hc)
      have hdec : Utf8.decode (bs l) pos = (c.toNat, 1) := by
        have := decode_ascii (bs l) pos hsz (by rw [hget]; exact h128 c hmem)
        rw [hget] at this; exact this
      have hdrop : l.drop pos = c :: l.drop (pos + 1) := by rw [← hc]; exact List.drop_eq_getElem_cons hlt
      rw [hdrop]
      unfold Lib.spansFromP
      rw [if_pos hsz, hdec, hp c hmem]
      simp only []
      have htk : ∀ a, a < pos → (l.drop a).take (pos + 1 - a) = (l.drop a).take (pos - a) ++ [c] := by
        intro a ha
        rw [show pos + 1 - a = (pos - a) + 1 by omega, List.take_add_one, List.getElem?_drop, show a + (pos - a) = pos by omega, hq]
        rfl
      cases hb : isB c with
      | true =>
        simp only [if_true]
        cases st with
        | none =>
          rw [ih (pos + 1) none acc (by omega) (by omega) (fun a e => by cases e), wordsC, if_pos hb, if_pos rfl]
        | some a =>
          have ha := hst a rfl
          have hne : (l.drop a).take (pos - a) ≠ [] := by
            intro e
            have := congrArg List.length e
            simp at this; omega
          rw [ih (pos + 1) none _ (by omega) (by omega) (fun a e => by cases e)]
          simp only [wordsC, if_pos hb, if_neg hne]
          simp [piecesOf]
      | false =>
        simp only [Bool.false_eq_true, if_false]
        cases st with
        | none =>
          rw [ih (pos + 1) (some pos) acc (by omega) (by omega) (fun a e => by cases e; omega), wordsC, if_neg (by rw [hb]; simp)]
          simp only [show pos + 1 - pos = 1 by omega, hdrop]
          rfl
        | some a =>
          have ha := hst a rfl
          rw [ih (pos + 1) (some a) acc (by omega) (by omega) (fun b e => by cases e; omega)]
          simp only [wordsC, if_neg (show ¬ isB c = true by rw [hb]; simp), htk a ha]
    · have : pos = l.length := by omega
      subst this
      rw [Lib.spansFromP_end p _ _ _ _ _ (by rw [bs_size]; omega), List.drop_length]
      cases st with
      | none => simp [Lib.closeSpans, wordsC]
      | some a =>
        have ha := hst a rfl
        have hne : (l.drop a).take (l.length - a) ≠ [] := by
          intro e
          have := congrArg List.length e
          simp at this; omega
        simp only [Lib.closeSpans, wordsC, if_neg hne, bs_size]
        simp [piecesOf]
theorem fields_words (p : Nat → Bool) (l : List UInt8) (h128 : ∀ c ∈ l, c.toNat < 128) (hp : ∀ c ∈ l, p c.toNat = isB c) : Lib.goFieldsP p (bs l) = (wordsC [] l).map bs := by
  have h := spans_words p l h128 hp l.length 0 none [] (by omega) (by omega) (fun a e => by cases e)
  simp only [List.drop_zero] at h
  unfold Lib.goFieldsP Lib.spansOfP
  rw [bs_size]
  have h2 := congrArg (List.map bs) h
  simp only [piecesOf, List.map_map, List.map_nil, List.nil_append] at h2
  rw [← h2]
  refine List.map_congr_left fun x _ => ?_
  rw [bs_extract]; rfl
end Go.Proofs.YtffdhekmnoajiaaDoor.M
