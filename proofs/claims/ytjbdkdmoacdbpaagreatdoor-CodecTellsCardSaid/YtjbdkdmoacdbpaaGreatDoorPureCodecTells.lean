/- Proved: for any cube of facts and any text: the text of the cube, and the cube of the text, are the document's, or there is none. No condition but what Go itself can hold. -/
import Derived.Test.YtjbdkdmoacdbpaaGreatDoorQx9
import Derived.Test.YtjbdkdmoacdbpaaGreatDoorR10p
set_option linter.unusedVariables false
set_option linter.unusedSimpArgs false
namespace Go.Proofs.YtjbdkdmoacdbpaaGreatDoor.Pure
open Go Go.RowKit Go.Proofs.YtjbdkdmoacdbpaaGreatDoor.Q Go.Proofs.YtjbdkdmoacdbpaaGreatDoor.M Go.Proofs.YtjbdkdmoacdbpaaGreatDoorW.PrintWords Go.Proofs.YtjbdkdmoacdbpaaGreatDoorW.PrintLast Go.Proofs.YtjbdkdmoacdbpaaGreatDoor.XC Go.Proofs.YtjbdkdmoacdbpaaGreatDoor.X
theorem CodecTells : law10_CodecTells.Pure := by
  intro l0 a1 hl0 hg0 ha1
  refine Ev.rounds (g := fun k => law10_CodecTells.f k l0 a1) ?_
  have yes : Ev (fun k => law10_CodecTells.j0 k l0 a1 true) true := Ev.step (f := fun _ => some true) (fun k => by rw [law10_CodecTells.j0.eq_2, if_pos rfl]) (Ev.now _)
  unfold law10_CodecTells.f
  rw [alive_f]
  simp only [Option.bind_some, if_true]
  obtain ⟨b, h1, h2⟩ := few_is hl0 hg0
  refine Ev.bind h1 ?_
  cases b with
  | false => simp only [Bool.false_eq_true, if_false]; exact yes
  | true =>
  simp only [if_true]
  by_cases hs : (a1.size : Int) > 6000
  · rw [decide_eq_true hs]; exact yes
  rw [decide_eq_false hs]
  have f0 := h2 rfl
  have hl := f0.len
  obtain ⟨s, rfl⟩ := bs_eta a1
  rw [bs_size] at hs
  have t0 := theirs_f (l := l0) (by omega)
  have hsh : ∀ x ∈ l0, M.Short x := fun x hx => by
    obtain ⟨a, b, c, d⟩ := f0.sz x hx
    obtain ⟨e, f⟩ := f0.ints x hx
    exact ⟨by omega, by omega, by omega, by omega, e, f⟩
  have rp := rprint10_f (l := l0) (by omega) hsh
  have rr := rparse_f10 (S := s) (by omega)
  have hp : codec_Print.f (l0.map tf) = some (bs (printR l0).1, (printR l0).2) := by
    rw [print_is f0.small]
    unfold printR
    split <;> rfl
  obtain ⟨out, e, pp, hpp⟩ := parse_is s (by omega)
  obtain ⟨ho, hr, he⟩ : out.length ≤ 2000 ∧ (goR s s [] true []).1 = out.map uf ∧ (goR s s [] true []).2 = e := by
    rcases hpp with ⟨rfl, hg, _, ht⟩ | ⟨rfl, rfl, hno⟩
    · have := goR_text hg
      rw [ht] at this
      rw [this]
      exact ⟨hg.few, rfl, rfl⟩
    · rcases goR_spec s s [] true [] (by simp) with ⟨_, hg, ht⟩ | h
      · exact absurd ht (hno _ hg)
      · rw [h]; exact ⟨by simp, rfl, rfl⟩
  refine Ev.step (fun k => by rw [law10_CodecTells.j0.eq_2, if_neg (by simp)]) ?_
  refine Ev.bind t0 ?_
  simp only [hp, Option.bind_some]
  refine Ev.bind rp ?_
  simp only [pp, Option.bind_some]
  refine Ev.bind rr ?_
  refine Ev.step (fun k => by rw [law10_CodecTells.j1.eq_2, if_pos rfl, if_pos rfl]) ?_
  refine Ev.bind (ours_f (l := out) (by omega)) ?_
  rw [hr, he]
  obtain ⟨r, hr1, hr2⟩ := same_is (out.map uf) (out.map uf) (by rw [List.length_map]; omega)
  obtain rfl : r = true := hr2.2 rfl
  refine Ev.bind hr1 ?_
  simp only [if_true, beq_self_eq_true]
  exact Ev.now _
end Go.Proofs.YtjbdkdmoacdbpaaGreatDoor.Pure
