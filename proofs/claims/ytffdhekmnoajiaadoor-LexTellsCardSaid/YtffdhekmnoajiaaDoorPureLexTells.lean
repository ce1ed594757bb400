/- LexTells: the lines of any text, whether it is a name, the text of any few and short lines, and the place of any word, are the document's. Condition: none beyond the law's own. -/
import Derived.Test.YtffdhekmnoajiaaDoorQx3
import Derived.Test.YtffdhekmnoajiaaDoorCAlive05
set_option linter.unusedVariables false
set_option linter.unusedSimpArgs false
namespace Go.Proofs.YtffdhekmnoajiaaDoor.Pure
open Go.RowKit Go.Proofs.YtffdhekmnoajiaaDoorW.PrintWords Go.Proofs.YtffdhekmnoajiaaDoorW.PrintLast Go.Proofs.YtffdhekmnoajiaaDoorW.PrintMore Go.Proofs.YtffdhekmnoajiaaDoor.Q Go.Proofs.YtffdhekmnoajiaaDoor.X Go.Proofs.YtffdhekmnoajiaaDoor.M
theorem tells_j1 {s : List UInt8} {l : List T49} {ws : List ByteArray} (hs : s.length ≤ 30000) (hl : l.length ≤ 60) (hf : ∀ x ∈ l, FewL x) (hw : ws.length ≤ 60) : Ev (fun k => law05_LexTells.j0 k (bs s) l ws false) true := by
  have hlen : (linesT s).1.length ≤ 20001 := by
    unfold linesT
    split
    · simp
    · rename_i hsm
      split
      · simp
      · have h1 : ∀ (k : Int) (ps : List (List UInt8)), (outM k ps).length ≤ ps.length := by
          intro k ps
          induction ps generalizing k with
          | nil => simp [outM]
          | cons p ps ih =>
            unfold outM
            have := ih (k + 1)
            split <;> simp only [List.length_cons] <;> omega
        have h2 : ∀ (s : List UInt8), (linesM s).length ≤ s.length + 1 := by
          intro s
          induction s with
          | nil => simp [linesM]
          | cons c r ih =>
            unfold linesM
            split
            · simp only [List.length_cons]; omega
            · split
              · simp
              · rename_i e; rw [e] at ih; simp only [List.length_cons] at ih ⊢; omega
        have := h1 1 (linesM s)
        have := h2 s
        show (outM 1 (linesM s)).length ≤ _
        omega
  have hwl : ∀ x ∈ (linesT s).1.map s49, x.f1.length ≤ 9223372036854775807 := by
    intro x hx
    obtain ⟨y, hy, rfl⟩ := List.mem_map.1 hx
    have h3 : ∀ (k : Int) (ps : List (List UInt8)), (∀ p ∈ ps, p.length ≤ 20000) → ∀ y ∈ outM k ps, y.2.length ≤ 20001 := by
      intro k ps
      induction ps generalizing k with
      | nil => intro _ y hy; simp [outM] at hy
      | cons p ps ih =>
        intro hp y hy
        unfold outM at hy
        have ih' := ih (k + 1) (fun q hq => hp q (List.mem_cons_of_mem _ hq))
        split at hy
        · exact ih' y hy
        · rcases List.mem_cons.1 hy with rfl | hy
          · have h1 := wordsC_len (cutM p) []
            have h2 : (cutM p).length ≤ p.length := (List.takeWhile_prefix _).length_le
            have h3 := hp p List.mem_cons_self
            show (wordsC [] (cutM p)).length ≤ _
            omega
          · exact ih' y hy
    have h4 : ∀ (s : List UInt8), ∀ p ∈ linesM s, p.length ≤ s.length := by
      intro s
      induction s with
      | nil => intro p hp; simp [linesM] at hp; subst hp; simp
      | cons c r ih =>
        intro p hp
        unfold linesM at hp
        split at hp
        · rcases List.mem_cons.1 hp with rfl | hp
          · simp
          · have := ih p hp; simp only [List.length_cons]; omega
        · split at hp
          · rename_i e; exact absurd e (linesM_ne r)
          · rename_i q qs e
            rcases List.mem_cons.1 hp with rfl | hp
            · have := ih q (by rw [e]; exact List.mem_cons_self); simp only [List.length_cons]; omega
            · have := ih p (by rw [e]; exact List.mem_cons_of_mem _ hp); simp only [List.length_cons]; omega
    have hy2 : y.2.length ≤ 20001 := by
      unfold linesT at hy
      split at hy
      · simp at hy
      · rename_i hsm
        split at hy
        · simp at hy
        · exact h3 1 (linesM s) (fun p hp => by have := h4 s p hp; omega) y hy
    show (y.2.map bs).length ≤ _
    rw [List.length_map]; omega
  refine Ev.step (f := fun k => (ref05_Lines.f k (bs s)).bind fun bt180 => law05_LexTells.j1 k (bs s) l ws ((linesT s).1.map s42) (linesT s).2 bt180.1 bt180.2) (fun k => by rw [law05_LexTells.j0.eq_2, if_neg (by simp), llines_f]; rfl) ?_
  refine (rlines_f s).bind ?_
  have ho := ours_f (l := (linesT s).1.map s42) (by rw [List.length_map]; omega)
  have e1 : ((linesT s).1.map s42).map t49 = (linesT s).1.map s49 := by rw [List.map_map]; rfl
  rw [e1] at ho
  have hsame := same_f (l := (linesT s).1.map s49) (by rw [List.length_map]; omega) hwl
  have hn := rname_f (l := s) (by omega)
  have ht := theirs_f (l := l) (by omega)
  have hj := rjoin_f hl hf
  have hjf := joinF_few hl hf
  have hp := pick_f (bs s) (l := ws) (by omega)
  have hq := rpick_f (bs s) (l := ws) (by omega)
  refine Ev.step (f := fun k => (law05_Ours.f k ((linesT s).1.map s42)).bind fun t184 => (ref05_Same.f k t184 ((linesT s).1.map s49)).bind fun t187 => (if t187 = true then (ref05_Name.f k (bs s)).bind fun t189 => (if (nameM s == t189) = true then (law05_theirs.f k l).bind fun t190 => (lex_Join.f t190).bind fun t193 => (ref05_Join.f k l).bind fun t194 => (if t193.toList = t194.toList then (lex_Pick.f k (bs s) ws).bind fun t195 => (ref05_Pick.f k (bs s) ws).bind fun t196 => some (t195 == t196) else some false) else some false) else some false)) (fun k => ?_) ?_
  · rw [law05_LexTells.j1.eq_2]
    congr 1
    funext t184
    congr 1
    funext t187
    congr 1
    rw [if_pos rfl, lname_f]
    rfl
  refine ho.bind (hsame.bind ?_)
  simp only [if_true]
  refine hn.bind ?_
  simp only [beq_self_eq_true, if_true]
  refine ht.bind ?_
  rw [show lex_Join.f (l.map t42) = some (bs (joinTxt (l.map t42))) from hjf]
  simp only [Option.bind_some]
  refine hj.bind ?_
  simp only [if_true]
  refine hp.bind (hq.bind ?_)
  simp only [beq_self_eq_true]
  exact Ev.now _
theorem LexTells : law05_LexTells.Pure := by
  intro a0 l1 l2 h0 h1 _ h2 _
  obtain ⟨s, rfl⟩ := bs_eta a0
  rw [bs_size] at h0
  refine Ev.rounds ?_
  unfold law05_LexTells.f
  refine alive_f.bind ?_
  simp only [if_true, bs_size]
  obtain ⟨b, hb, hbt⟩ := few_f h1
  have yes : Ev (fun k => law05_LexTells.j0 k (bs s) l1 l2 true) true := Ev.step (f := fun _ => some _) (fun k => by rw [law05_LexTells.j0.eq_2, if_pos rfl]) (Ev.now _)
  have rest : s.length ≤ 30000 → Ev (fun k => (law05_few.f k l1).bind fun t174 => (if t174 = true then (law05_LexTells.j0 k (bs s) l1 l2 (decide ((l2.length : Int) > 60))) else (law05_LexTells.j0 k (bs s) l1 l2 true))) true := by
    intro hs
    refine hb.bind ?_
    cases b with
    | false => simpa using yes
    | true =>
      simp only [if_true]
      obtain ⟨h3, h4⟩ := hbt rfl
      by_cases h5 : (l2.length : Int) > 60
      · rw [decide_eq_true h5]; exact yes
      · rw [decide_eq_false h5]; exact tells_j1 hs h3 h4 (by omega)
  by_cases c1 : (s.length : Int) > 3000
  · simp only [if_pos c1]
    by_cases c2 : (s.length : Int) ≤ 20000
    · simp only [if_pos c2]; exact yes
    · simp only [if_neg c2]
      by_cases c3 : (s.length : Int) > 30000
      · simp only [if_pos c3]; exact yes
      · simp only [if_neg c3]; exact rest (by omega)
  · simp only [if_neg c1]
    by_cases c3 : (s.length : Int) > 30000
    · simp only [if_pos c3]; exact yes
    · simp only [if_neg c3]; exact rest (by omega)
end Go.Proofs.YtffdhekmnoajiaaDoor.Pure
