/- Proved: for all facts and all two keys, the cube of the facts, how the keys stand, and whether the facts are a cube, is the document's, or its error. No condition but what Go itself can hold. -/
import Derived.Test.YtgheapbhakamaaaQx13
import Derived.Test.YtgheapbhakamaaaGC
import Derived.Test.YtgheapbhakamaaaGR
set_option linter.unusedVariables false
set_option linter.unusedSimpArgs false
namespace Go.Proofs.Ytgheapbhakamaaa.Pure
open Go Go.RowKit Go.Proofs.Ytgheapbhakamaaa.Q Go.Proofs.Ytgheapbhakamaaa.M Go.Proofs.YtgheapbhakamaaaW.PrintWords Go.Proofs.YtgheapbhakamaaaW.PrintLast
theorem FactTells : law09_FactTells.Pure := by
 intro l a0 a1 a2 a3 a4 b0 b1 b2 b3 b4 hl hg wa0 wa1 wa2 wa3 wa4 wb0 wb1 wb2 wb3 wb4
 refine Ev.rounds (g := fun k => law09_FactTells.f k l a0 a1 a2 a3 a4 b0 b1 b2 b3 b4) ?_
 have hI := ints hg
 have yes : ∀ {x0 : List S28}, Ev (fun k => law09_FactTells.j0 k x0 true a0 a1 a2 a3 a4 b0 b1 b2 b3 b4) true := fun {x0} => Ev.step (f := fun _ => some true) (fun k => by rw [law09_FactTells.j0.eq_2, if_pos rfl]) (Ev.now _)
 unfold law09_FactTells.f
 refine Ev.bind alive_f ?_
 simp only [if_true]
 obtain ⟨b, h1, h2⟩ := few_f hl
 refine Ev.bind h1 ?_
 cases b with
 | false => simp only [Bool.false_eq_true, if_false]; exact yes
 | true =>
  have hl := h2 rfl
  simp only [if_true]
  obtain ⟨c, h3, _⟩ := few_f (l := [(⟨(⟨a0, a1, a2, a3, a4⟩ : S24), 0⟩ : S28), (⟨(⟨b0, b1, b2, b3, b4⟩ : S24), 0⟩ : S28)]) (by simp)
  refine Ev.bind h3 ?_
  cases c with
  | false => simp only [Bool.not_false]; exact yes
  | true =>
   simp only [Bool.not_true]
   have t := theirs_f (l := l) (by omega)
   have o1 := of_f (l := l.map tf) (by rw [List.length_map]; omega) (ints_tf hI)
   have o2 := rof_f (l := l) (by omega) hI
   have hln : (ofS (l.map tf)).1.length < 1759218604441 := by
    have := len_ofS (l.map tf)
    rw [List.length_map] at this
    omega
   have o3 := ours_f hln
   have s := same_f (l := (ofS (l.map tf)).1.map uf) (by rw [List.length_map]; omega)
   have r1 := right_f (l := l.map tf) (by rw [List.length_map]; omega)
   have r2 := rright_f (l := l) (by omega)
   refine Ev.step (f := fun k => (law09_Theirs.f k l).bind fun t302 => ((fact_Of.f k t302).bind fun bt305 => ((ref09_Of.f k l).bind fun bt309 => (law09_FactTells.j1 k l bt305.1 bt305.2 bt309.1 bt309.2 a0 a1 a2 a3 a4 b0 b1 b2 b3 b4)))) (fun k => by rw [law09_FactTells.j0.eq_2, if_neg (by simp)]) ?_
   refine Ev.bind t (Ev.bind o1 (Ev.bind o2 ?_))
   refine Ev.step (fun k => by rw [law09_FactTells.j1.eq_2]) ?_
   refine Ev.bind o3 (Ev.bind s ?_)
   simp only [if_true]
   refine Ev.bind (cmp_ev ⟨a0, a1, a2, a3, a4⟩ ⟨b0, b1, b2, b3, b4⟩) (Ev.bind (rcmp_ev ⟨a0, a1, a2, a3, a4⟩ ⟨b0, b1, b2, b3, b4⟩) ?_)
   simp only [if_true]
   refine Ev.bind t (Ev.bind r1 (Ev.bind r2 ?_))
   simp only [beq_self_eq_true]
   exact Ev.now _
end Go.Proofs.Ytgheapbhakamaaa.Pure
