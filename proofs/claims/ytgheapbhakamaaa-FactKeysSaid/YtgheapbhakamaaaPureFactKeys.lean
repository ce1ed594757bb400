/- Proved: for all three keys, they stand in one order: the other way round the other way, each as itself, and through a third one. No condition but what Go itself can hold. -/
import Derived.Test.YtgheapbhakamaaaQx20
import Derived.Test.YtgheapbhakamaaaGC
set_option linter.unusedVariables false
set_option linter.unusedSimpArgs false
namespace Go.Proofs.Ytgheapbhakamaaa.Pure
open Go Go.RowKit Go.Proofs.Ytgheapbhakamaaa.Q Go.Proofs.Ytgheapbhakamaaa.M Go.Proofs.YtgheapbhakamaaaW.PrintWords Go.Proofs.YtgheapbhakamaaaW.PrintLast
theorem lex_small {α β : Type} {c1 : α → α → Int} {c2 : β → β → Int} (h1 : ∀ a b, -1 ≤ c1 a b ∧ c1 a b ≤ 1) (h2 : ∀ a b, -1 ≤ c2 a b ∧ c2 a b ≤ 1) : ∀ a b, -1 ≤ lexC c1 c2 a b ∧ lexC c1 c2 a b ≤ 1 := fun a b => by
 unfold lexC; split
 ·exact h2 _ _
 ·exact h1 _ _
theorem cmpB_small (a b : ByteArray) : -1 ≤ cmpB a b ∧ cmpB a b ≤ 1 := by
 rw [cmpB_val]; split
 ·omega
 ·split <;> omega
theorem cmpN_small (a b : Int) : -1 ≤ cmpN a b ∧ cmpN a b ≤ 1 := by
 unfold cmpN; split
 ·omega
 ·split <;> omega
theorem cmpK_small (a b : S40) : -1 ≤ cmpK a b ∧ cmpK a b ≤ 1 := lex_small cmpB_small (lex_small cmpB_small (lex_small cmpB_small (lex_small cmpB_small cmpN_small))) _ _
theorem FactKeys : law09_FactKeys.Pure := by
 intro a0 a1 a2 a3 a4 b0 b1 b2 b3 b4 c0 c1 c2 c3 c4 _ _ _ _ _ _ _ _ _ _ _ _ _ _ _
 refine Ev.rounds (g := fun k => law09_FactKeys.f k a0 a1 a2 a3 a4 b0 b1 b2 b3 b4 c0 c1 c2 c3 c4) ?_
 unfold law09_FactKeys.f
 refine Ev.bind alive_f ?_
 simp only [if_true]
 obtain ⟨b, h1, _⟩ := few_f (l := [(⟨(⟨a0, a1, a2, a3, a4⟩ : S24), 0⟩ : S28), (⟨(⟨b0, b1, b2, b3, b4⟩ : S24), 0⟩ : S28), (⟨(⟨c0, c1, c2, c3, c4⟩ : S24), 0⟩ : S28)]) (by simp)
 refine Ev.bind h1 ?_
 cases b with
 | false => simp only [Bool.false_eq_true, if_false]; exact Ev.now _
 | true =>
 simp only [if_true]
 have hs : (a0.toList == b0.toList && (a1.toList == b1.toList && (a2.toList == b2.toList && (a3.toList == b3.toList && (a4 == b4))))) = decide ((⟨a0, a1, a2, a3, a4⟩ : S40) = ⟨b0, b1, b2, b3, b4⟩) := by
  rw [Bool.eq_iff_iff]
  simp only [byte_eq, S40.mk.injEq, Bool.and_eq_true, decide_eq_true_eq, beq_iff_eq]
 have x1 := cmp_ev ⟨a0, a1, a2, a3, a4⟩ ⟨b0, b1, b2, b3, b4⟩
 have x2 := cmp_ev ⟨b0, b1, b2, b3, b4⟩ ⟨c0, c1, c2, c3, c4⟩
 have x3 := cmp_ev ⟨a0, a1, a2, a3, a4⟩ ⟨c0, c1, c2, c3, c4⟩
 have x4 := cmp_ev ⟨b0, b1, b2, b3, b4⟩ ⟨a0, a1, a2, a3, a4⟩
 generalize hA : (⟨a0, a1, a2, a3, a4⟩ : S40) = A at *
 generalize hB : (⟨b0, b1, b2, b3, b4⟩ : S40) = B at *
 generalize hC : (⟨c0, c1, c2, c3, c4⟩ : S40) = C at *
 have hA0 : a0 = A.f0 ∧ a1 = A.f1 ∧ a2 = A.f2 ∧ a3 = A.f3 ∧ a4 = A.f4 := by subst hA; exact ⟨rfl, rfl, rfl, rfl, rfl⟩
 have hB0 : b0 = B.f0 ∧ b1 = B.f1 ∧ b2 = B.f2 ∧ b3 = B.f3 ∧ b4 = B.f4 := by subst hB; exact ⟨rfl, rfl, rfl, rfl, rfl⟩
 have hC0 : c0 = C.f0 ∧ c1 = C.f1 ∧ c2 = C.f2 ∧ c3 = C.f3 ∧ c4 = C.f4 := by subst hC; exact ⟨rfl, rfl, rfl, rfl, rfl⟩
 obtain ⟨rfl, rfl, rfl, rfl, rfl⟩ := hA0
 obtain ⟨rfl, rfl, rfl, rfl, rfl⟩ := hB0
 obtain ⟨rfl, rfl, rfl, rfl, rfl⟩ := hC0
 refine Ev.bind x1 (Ev.bind x2 (Ev.bind x3 ?_))
 refine Ev.step (fun k => by rw [law09_FactKeys.j0.eq_2]) ?_
 refine Ev.bind x4 ?_
 have e1 := isK.swap A B
 have e2 := cmpK_small A B
 have e3 : cmpK A B = wrap64 (-cmpK B A) := by rw [w64_in (by unfold I64; omega)]; omega
 have e4 : ((cmpK A B == 0) == decide (A = B)) = true := by
  rw [beq_iff_eq, Bool.eq_iff_iff, beq_iff_eq, decide_eq_true_eq]; exact isK.zero
 have e5 : ¬ cmpK A B > 0 → ¬ cmpK B C > 0 → cmpK A C ≤ 0 := fun h1 h2 => isK.trans (a := A) (b := B) (d := C) (by omega) (by omega)
 have e6 : ¬ cmpK A B ≥ 0 → ¬ cmpK B C ≥ 0 → cmpK A C < 0 := fun h1 h2 => cmpK_lt_trans (a := A) (b := B) (c := C) (by omega) (by omega)
 rw [hs] 
 simp only [← e3, e4, if_true]
 refine Ev.congr (f := fun _ => some true) (fun k => ?_) (Ev.now _)
 repeat' split
 all_goals first | rfl | (simp; omega) | (exfalso; omega) | (simp; exact e6 ‹_› ‹_›) | (exfalso; have := e5 ‹_› ‹_›; omega)
end Go.Proofs.Ytgheapbhakamaaa.Pure
