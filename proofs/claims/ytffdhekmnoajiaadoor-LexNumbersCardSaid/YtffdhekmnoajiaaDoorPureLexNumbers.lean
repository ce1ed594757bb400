/- LexNumbers: a line's number is one more than the ends of lines ahead of it. Condition: none beyond the law's own. -/
import Derived.Test.YtffdhekmnoajiaaDoorQx6
import Derived.Test.YtffdhekmnoajiaaDoorCAlive05
import Derived.Test.YtffdhekmnoajiaaDoorMWf
set_option linter.unusedVariables false
set_option linter.unusedSimpArgs false
namespace Go.Proofs.YtffdhekmnoajiaaDoor.Pure
open Go.RowKit Go.Proofs.YtffdhekmnoajiaaDoorW.PrintWords Go.Proofs.YtffdhekmnoajiaaDoorW.PrintLast Go.Proofs.YtffdhekmnoajiaaDoorW.PrintMore Go.Proofs.YtffdhekmnoajiaaDoor.Q Go.Proofs.YtffdhekmnoajiaaDoor.X Go.Proofs.YtffdhekmnoajiaaDoor.M
/-- the text of the gaps, and the numbers -/
def gapT : List Int → List UInt8
  | [] => []
  | g :: r => List.replicate (g % 3).toNat 10 ++ ([119, 10] ++ gapT r)
def gapN : Int → List Int → List Int
  | _, [] => []
  | n, g :: r => (n + g % 3) :: gapN (n + g % 3 + 1) r
theorem gapT_len : ∀ (l : List Int), (∀ x ∈ l, 0 ≤ x ∧ x ≤ 255) → (gapT l).length ≤ 4 * l.length
  | [], _ => by simp [gapT]
  | g :: r, h => by
    have := gapT_len r (fun x hx => h x (List.mem_cons_of_mem _ hx))
    have := h g List.mem_cons_self
    simp only [gapT, List.length_append, List.length_replicate, List.length_cons, List.length_nil]
    omega
theorem linesM_rep (m : Nat) (r : List UInt8) : linesM (List.replicate m 10 ++ r) = List.replicate m [] ++ linesM r := by
  induction m with
  | zero => simp
  | succ m ih => rw [List.replicate_succ, List.replicate_succ, List.cons_append, linesM, if_pos rfl, ih]; rfl
theorem outM_rep (m : Nat) (k : Int) (ps : List (List UInt8)) : outM k (List.replicate m [] ++ ps) = outM (k + m) ps := by
  induction m generalizing k with
  | zero => simp
  | succ m ih =>
    have e : wordsM [] = [] := rfl
    rw [List.replicate_succ, List.cons_append, outM, if_pos e, ih]
    congr 1
    simp; omega
theorem words_w : wordsM [119] = [[119]] := by decide +kernel
theorem gap_out : ∀ (l : List Int) (n : Int), (∀ x ∈ l, 0 ≤ x) → outM n (linesM (gapT l)) = (gapN n l).map fun k => (k, [[119]])
  | [], n, _ => rfl
  | g :: r, n, h => by
    have h0 := h g List.mem_cons_self
    have ih := gap_out r (n + g % 3 + 1) (fun x hx => h x (List.mem_cons_of_mem _ hx))
    have e1 : linesM ([119, 10] ++ gapT r) = [119] :: linesM (gapT r) := linesM_cut (p := [119]) (r := gapT r) (by decide)
    rw [gapT, linesM_rep, outM_rep, e1, outM_one, gapN]
    have e2 : ((g % 3).toNat : Int) = g % 3 := by omega
    rw [e2, ih]
    simp only [outM, words_w]
    rw [if_neg (by simp)]
    rfl
theorem gap_odd : ∀ (l : List Int), (gapT l).any oddM = false
  | [] => rfl
  | g :: r => by
    have ih := gap_odd r
    rw [gapT, List.any_append, List.any_append, ih]
    have e : (List.replicate (g % 3).toNat (10 : UInt8)).any oddM = false := by
      rw [List.any_eq_false]
      intro x hx
      rw [List.eq_of_mem_replicate hx]; decide
    rw [e]; rfl
theorem num_l2 {L : List T42} (hL : L.length ≤ 1000) (T : List T42) : ∀ (P : List T42), L = P ++ T → (∀ x ∈ T, x.f1.length = 1) →
    Ev (fun k => law05_LexNumbers.l2 k (L.map (·.f0)) L (L.length : Int) (P.length : Int)) true := by
  induction T with
  | nil =>
    intro P hP _
    have e : L.length = P.length := by rw [hP]; simp
    exact Ev.step (f := fun _ => some _) (fun k => by rw [law05_LexNumbers.l2.eq_2, if_neg (by omega)]) (Ev.now _)
  | cons x T ih =>
    intro P hP hx
    have hlen : L.length = P.length + 1 + T.length := by rw [hP]; simp; omega
    have hn := ih (P ++ [x]) (by rw [hP]; simp) (fun y hy => hx y (List.mem_cons_of_mem _ hy))
    have hw : wrap64 ((P.length : Int) + 1) = ((P ++ [x]).length : Int) := by rw [one64 P.length (by omega)]; simp
    have hr : rd (L.map (·.f0)) (P.length : Int) = x.f0 := by
      unfold rd
      rw [hP, List.map_append, List.map_cons]
      exact rdn_of (P := P.map (·.f0)) (i := P.length) _ rfl (by simp)
    refine Ev.step (fun k => ?_) hn
    rw [law05_LexNumbers.l2.eq_2, if_pos (by omega), if_pos (by omega), if_pos (by omega), if_pos (by rw [List.length_map]; omega), rd42 hP rfl, hr, if_pos rfl, if_pos (by rw [hx x List.mem_cons_self]; rfl), hw]
theorem num_end {l : List Int} (hl : l.length ≤ 200) (hw : ∀ x ∈ l, 0 ≤ x ∧ x ≤ 255) : Ev (fun k => (lex_Lines.f (bs (gapT l))).bind fun bt253 => (if bt253.2 = 0 then (law05_LexNumbers.j2 k (gapN 1 l) bt253.1 ((bt253.1.length : Int) != ((gapN 1 l).length : Int))) else (law05_LexNumbers.j2 k (gapN 1 l) bt253.1 true))) true := by
  have hlen := gapT_len l hw
  have e1 : linesT (gapT l) = ((gapN 1 l).map fun k => (k, [[119]]), 0) := by
    unfold linesT
    rw [if_neg (by omega), gap_odd, if_neg (by simp)]
    show (outM 1 (linesM (gapT l)), _) = _
    rw [gap_out l 1 (fun x hx => (hw x hx).1)]
  have e2 := llines_f (gapT l)
  rw [e1] at e2
  simp only [e2, Option.bind_some, if_true, List.length_map, bne_self_eq_false]
  have hg : ∀ (l : List Int) (n : Int), (gapN n l).length = l.length := by
    intro l
    induction l with
    | nil => intro n; rfl
    | cons g r ih => intro n; simp [gapN, ih]
  have e3 : gapN 1 l = (((gapN 1 l).map fun k => ((k, [[119]]) : Int × List (List UInt8))).map s42).map (·.f0) := by
    rw [List.map_map, List.map_map]
    exact (List.map_id _).symm
  refine Ev.step (f := fun k => law05_LexNumbers.l2 k (gapN 1 l) (((gapN 1 l).map fun k => ((k, [[119]]) : Int × List (List UInt8))).map s42) ((((gapN 1 l).map fun k => ((k, [[119]]) : Int × List (List UInt8))).map s42).length : Int) 0) (fun k => by rw [law05_LexNumbers.j2.eq_2, if_neg (by simp)]) ?_
  have := num_l2 (L := ((gapN 1 l).map fun k => ((k, [[119]]) : Int × List (List UInt8))).map s42) (by rw [List.length_map, List.length_map, hg]; omega) _ [] rfl (by
    intro x hx
    obtain ⟨y, hy, rfl⟩ := List.mem_map.1 hx
    obtain ⟨z, hz, rfl⟩ := List.mem_map.1 hy
    rfl)
  rw [← e3] at this
  exact this
theorem num_l {l : List Int} (hl : l.length ≤ 200) (hw : ∀ x ∈ l, 0 ≤ x ∧ x ≤ 255) {R : Bool} (H : Ev (fun k => (lex_Lines.f (bs (gapT l))).bind fun bt253 => (if bt253.2 = 0 then (law05_LexNumbers.j2 k (gapN 1 l) bt253.1 ((bt253.1.length : Int) != ((gapN 1 l).length : Int))) else (law05_LexNumbers.j2 k (gapN 1 l) bt253.1 true))) R)
    (T : List Int) : ∀ (P : List Int) (t : List UInt8) (w : List Int) (n : Int), l = P ++ T → gapT l = t ++ gapT T → gapN 1 l = w ++ gapN n T → w.length = P.length → 1 ≤ n → n ≤ 1 + 3 * P.length → t.length ≤ 4 * P.length →
    Ev (fun k => law05_LexNumbers.l0 k (bs t) w n l (l.length : Int) (P.length : Int)) R := by
  induction T with
  | nil =>
    intro P t w n hP ht hg hwl _ _ _
    have e : l.length = P.length := by rw [hP]; simp
    have e1 : gapT l = t := by rw [ht]; simp [gapT]
    have e2 : gapN 1 l = w := by rw [hg]; simp [gapN]
    rw [e1, e2] at H
    exact Ev.step (fun k => by rw [law05_LexNumbers.l0.eq_2, if_neg (by omega)]) H
  | cons g T ih =>
    intro P t w n hP ht hg hwl hn0 hn1 htl
    have hlen : l.length = P.length + 1 + T.length := by rw [hP]; simp; omega
    have hg0 := hw g (by rw [hP]; simp)
    have hr : rd l (P.length : Int) = g := by unfold rd; exact rdn_of (P := P) (i := P.length) _ hP rfl
    have hmod : Int.tmod g 3 = ((g % 3).toNat : Int) := by rw [Int.tmod_eq_emod_of_nonneg hg0.1]; omega
    obtain ⟨m, hm⟩ : ∃ m, (g % 3).toNat = m := ⟨_, rfl⟩
    have hm3 : m ≤ 2 := by omega
    have hgm : g % 3 = (m : Int) := by omega
    rw [hm] at hmod
    have ih' := ih (P ++ [g]) (t ++ (List.replicate m 10 ++ [119, 10])) (w ++ [n + m]) (n + m + 1) (by rw [hP]; simp) (by rw [ht, gapT, hm]; simp) (by rw [hg, gapN, hgm]; simp) (by simp; omega) (by omega) (by simp; omega) (by simp; omega)
    have hw1 : wrap64 ((P.length : Int) + 1) = ((P ++ [g]).length : Int) := by rw [one64 P.length (by omega)]; simp
    refine Ev.step (f := fun k => law05_LexNumbers.l1 k (bs t) w n l (l.length : Int) (P.length : Int) (m : Int) ((0 : Nat) : Int)) (fun k => by rw [law05_LexNumbers.l0.eq_2, if_pos (by omega), if_pos (by omega), if_pos (by omega), hr, hmod]; rfl) ?_
    -- the empty lines, then the word
    have inner : ∀ (d j : Nat), j + d = m → Ev (fun k => law05_LexNumbers.l1 k (bs (t ++ List.replicate j 10)) w (n + j) l (l.length : Int) (P.length : Int) (m : Int) (j : Int)) R := by
      intro d
      induction d with
      | zero =>
        intro j hj
        obtain rfl : j = m := by omega
        refine Ev.step (fun k => ?_) ih'
        rw [law05_LexNumbers.l1.eq_2, if_neg (by omega), if_pos (by rw [bs_size]; simp; omega), if_pos (by omega), show (⟨#[119, 10]⟩ : ByteArray) = bs [119, 10] from rfl, bs_append, hw1, show wrap64 (n + (j : Int) + 1) = n + j + 1 from w64_in (by unfold I64; omega)]
        simp
      | succ d ihd =>
        intro j hj
        have := ihd (j + 1) (by omega)
        refine Ev.step (fun k => ?_) this
        rw [law05_LexNumbers.l1.eq_2, if_pos (by omega), if_pos (by rw [bs_size]; simp; omega), show (⟨#[10]⟩ : ByteArray) = bs [10] from rfl, bs_append, show wrap64 (n + (j : Int) + 1) = n + ((j + 1 : Nat) : Int) from by rw [w64_in (by unfold I64; omega)]; omega, show ((j : Int) + 1) % 256 = ((j + 1 : Nat) : Int) by omega, List.append_assoc, ← List.replicate_succ']
    have := inner m 0 (by omega)
    simpa using this
theorem LexNumbers : law05_LexNumbers.Pure := by
  intro l h0 h1
  have hw : ∀ x ∈ l, 0 ≤ x ∧ x ≤ 255 := fun x hx => wf_u8 (h1 x hx)
  refine Ev.rounds ?_
  unfold law05_LexNumbers.f
  refine alive_f.bind ?_
  simp only [if_true]
  by_cases c : (l.length : Int) > 200
  · simp only [if_pos c]; exact Ev.now _
  simp only [if_neg c]
  have := num_l (l := l) (by omega) hw (num_end (by omega) hw) l [] [] [] 1 rfl rfl rfl rfl (by omega) (by omega) (by simp)
  exact this
end Go.Proofs.YtffdhekmnoajiaaDoor.Pure
