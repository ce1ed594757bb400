/- Proved: for all int64 amounts and texts of at most 300 bytes, what is added is taken away again, in either order; amounts come back from their texts, and texts from their amounts. No condition but what Go itself can hold. -/
import Derived.Test.YtpfhoenjndmoaaaDoorQx6
import Derived.Test.YtpfhoenjndmoaaaDoorCAlive01
set_option linter.unusedVariables false
set_option linter.unusedSimpArgs false
namespace Go.Proofs.YtpfhoenjndmoaaaDoor.Pure
open Go.RowKit Go.Proofs.YtpfhoenjndmoaaaDoor.Q Go.Proofs.YtpfhoenjndmoaaaDoor.M Go.Proofs.YtpfhoenjndmoaaaDoorW.PrintWords Go.Proofs.YtpfhoenjndmoaaaDoorW.PrintLast
theorem itoa_short {a : Int} (ha : I64 a) : (Lib.itoa a).length ≤ 281474976710656 := by
  have := Lib.itoa_length_le a ha.1 ha.2; omega
theorem back2 {l : List UInt8} (hl : l.length ≤ 300) : Ev (fun k => law01_CentBack.j2 k (bs l) false) true := by
  refine Ev.step (f := fun k => _) (fun k => by rw [law01_CentBack.j2.eq_2, if_neg (by decide)]) ?_
  refine Ev.bind (evk (cparse_f (by omega))) ?_
  by_cases c : (pS l).2 = 0
  · simp only [if_pos c]
    refine Ev.bind (evk (cprint_f (pS_i64 l))) ?_
    rw [itoa_pS (show pS l = ((pS l).1, 0) by rw [← c])]
    simp only [beq_self_eq_true]; exact Ev.now _
  · simp only [if_neg c]; exact Ev.now _
theorem back1 {a : Int} (ha : I64 a) {l : List UInt8} (hl : l.length ≤ 300) : Ev (fun k => law01_CentBack.j1 k a (bs l)) true := by
  refine Ev.step (f := fun k => _) (fun k => by rw [law01_CentBack.j1.eq_2]) ?_
  refine Ev.bind (evk (cprint_f ha)) (Ev.bind (evk (cparse_f (itoa_short ha))) ?_)
  rw [pS_itoa ha]
  simp only [if_true]
  exact back2 hl
theorem CentBack : law01_CentBack.Pure := by
  intro a b s wa wb hs
  have ha := wf_i64 wa
  have hb := wf_i64 wb
  obtain ⟨l, rfl⟩ := bs_eta s
  rw [bs_size] at hs
  refine Ev.rounds (g := fun k => law01_CentBack.f k a b (bs l)) ?_
  unfold law01_CentBack.f
  refine Ev.bind alive_f ?_
  simp only [if_true]
  by_cases c0 : ((bs l).size : Int) > 300
  · simp only [if_pos c0]; exact Ev.now _
  simp only [if_neg c0]
  rw [bs_size] at c0
  refine Ev.bind (evk (cadd_f ha hb)) (Ev.bind (evk (cadd_f hb ha)) ?_)
  rw [show addS b a = addS a b by unfold addS; rw [show b + a = a + b by omega]]
  simp only [if_true, bne_self_eq_false]
  refine Ev.step (f := fun k => _) (fun k => by rw [law01_CentBack.j0.eq_2, if_neg (by decide)]) ?_
  by_cases c : I64 (a + b)
  · rw [show addS a b = (a + b, 0) by unfold addS; rw [if_pos c]]
    simp only [if_true]
    refine Ev.bind (evk (csub_f c hb)) ?_
    rw [show subS (a + b) b = (a, 0) by unfold subS; rw [show a + b - b = a by omega, if_pos ha]]
    simp only [if_true]
    exact back1 ha (by omega)
  · rw [show addS a b = (0, 2) by unfold addS; rw [if_neg c]]
    simp only [show ¬ (2 : Int) = 0 by decide, if_false]
    exact back1 ha (by omega)
end Go.Proofs.YtpfhoenjndmoaaaDoor.Pure
