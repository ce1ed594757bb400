/- Proved: for all int64 a, b, c, d products stand in one order: the other way round the other way, each as itself, and no higher with one more on the right. No condition. -/
import Derived.Test.YtgmajadoklnlnaaQx11
import Derived.Test.YtgmajadoklnlnaaCWide2
set_option linter.unusedVariables false
set_option linter.unusedSimpArgs false
namespace Go.Proofs.Ytgmajadoklnlnaa.Pure
open Go.RowKit Go.Proofs.Ytgmajadoklnlnaa.Q Go.Proofs.Ytgmajadoklnlnaa.M Go.Proofs.YtgmajadoklnlnaaW.PrintWords Go.Proofs.YtgmajadoklnlnaaW.PrintLast

theorem cmpI_swap (x y : Int) : cmpI x y = wrap64 (-(cmpI y x)) := by
  unfold cmpI
  by_cases c1 : x < y
  · rw [if_pos c1, if_neg (by omega), if_pos c1]; unfold wrap64; omega
  · rw [if_neg c1]
    by_cases c2 : y < x
    · rw [if_pos c2, if_pos c2]; unfold wrap64; omega
    · rw [if_neg c2, if_neg c2, if_neg c1]; unfold wrap64; omega
theorem WideOrder : comptrollerlaw02_WideOrder.Pure := by
  intro a b c d wa wb wc wd
  have ha := wf_i64 wa
  have hb := wf_i64 wb
  have hc := wf_i64 wc
  have hd := wf_i64 wd
  refine Ev.rounds (g := fun k => comptrollerlaw02_WideOrder.f k a b c d) ?_
  unfold comptrollerlaw02_WideOrder.f
  refine Ev.bind alive_f ?_
  simp only [if_true]
  refine Ev.bind (cmp_f ha hb hc hd) ?_
  refine Ev.bind (cmp_f hc hd ha hb) ?_
  simp only [if_pos (cmpI_swap (a * b) (c * d))]
  refine Ev.bind (cmp_f ha hb hb ha) ?_
  have e0 : cmpI (a * b) (b * a) = 0 := by rw [Int.mul_comm b a]; unfold cmpI; rw [if_neg (by omega), if_neg (by omega)]
  simp only [if_pos e0]
  refine Ev.bind (cmp_f hb ha hd hc) ?_
  rw [Int.mul_comm b a, Int.mul_comm d c]
  simp only [bne_self_eq_false]
  by_cases c1 : d = 9223372036854775807
  · refine Ev.step (f := fun _ => some true) (fun k => ?_) (Ev.now _)
    rw [comptrollerlaw02_WideOrder.j0.eq_2, if_neg (by simp), if_pos c1]
  · by_cases c2 : c < 0
    · refine Ev.step (f := fun _ => some true) (fun k => ?_) (Ev.now _)
      rw [comptrollerlaw02_WideOrder.j0.eq_2, if_neg (by simp), if_neg c1, if_pos c2]
    · have hd1 : I64 (d + 1) := by unfold I64 at *; omega
      refine Ev.step (f := fun k => (wide_Cmp.f k a b c (d + 1)).bind fun t => some (decide (t ≤ cmpI (a * b) (c * d)))) (fun k => ?_) ?_
      · rw [comptrollerlaw02_WideOrder.j0.eq_2, if_neg (by simp), if_neg c1, if_neg c2, w64_in hd1]
      · refine Ev.bind (cmp_f ha hb hc hd1) ?_
        have e1 : c * (d + 1) = c * d + c := by rw [Int.mul_add, Int.mul_one]
        rw [e1]
        have : cmpI (a * b) (c * d + c) ≤ cmpI (a * b) (c * d) := by
          unfold cmpI; repeat' split
          all_goals omega
        rw [decide_eq_true this]
        exact Ev.now _
end Go.Proofs.Ytgmajadoklnlnaa.Pure
