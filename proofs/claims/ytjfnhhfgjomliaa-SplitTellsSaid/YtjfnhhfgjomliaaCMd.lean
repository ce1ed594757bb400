import Derived.Test.YtjfnhhfgjomliaaQx6
import Derived.Test.YtjfnhhfgjomliaaCWide
import Derived.Test.YtjfnhhfgjomliaaMWide2
/- what MulDiv tells -/
set_option linter.unusedVariables false
set_option linter.unusedSimpArgs false
namespace Go.Proofs.Ytjfnhhfgjomliaa.M
open Go.RowKit Go.Proofs.YtjfnhhfgjomliaaW.PrintWords Go.Proofs.YtjfnhhfgjomliaaW.PrintLast Go.Proofs.YtjfnhhfgjomliaaW.PrintMore Go.Proofs.Ytjfnhhfgjomliaa.Q

theorem signed_f {n : Bool} {q : Int} (h0 : 0 ≤ q) (h1 : q ≤ 18446744073709551615) : Ev (fun k => wide_signed.f k n q) (fit (sg n q)) := by
  unfold wide_signed.f fit sg
  cases n with
  | true =>
    simp only [if_true]
    by_cases c : q ≤ 9223372036854775808
    · rw [decide_eq_true c, if_pos (by omega)]
      refine Ev.step (f := fun _ => some _) (fun k => ?_) (Ev.now _)
      rw [wide_signed.j0.eq_2, if_pos rfl]
      refine congrArg some (Prod.ext ?_ rfl)
      show wrap64 (-(wrap64 q)) = -q
      unfold wrap64; omega
    · rw [decide_eq_false c, if_neg (by omega)]
      refine Ev.step (f := fun _ => some _) (fun k => ?_) (Ev.now _)
      rw [wide_signed.j0.eq_2, if_neg (by simp), if_pos rfl]
  | false =>
    simp only [if_neg (show ¬ (false = true) by simp)]
    refine Ev.step (f := fun _ => some _) (fun k => ?_) (Ev.now _)
    rw [wide_signed.j0.eq_2, if_neg (by simp), if_neg (by simp)]
    by_cases c : q < 9223372036854775808
    · rw [if_pos c, if_pos (by omega), w64_in (by unfold I64; omega)]
    · rw [if_neg c, if_neg (by omega)]
theorem muldiv_f {a b c : Int} (ha : I64 a) (hb : I64 b) (hc : I64 c) : Ev (fun k => wide_MulDiv.f k a b c) (mulDiv a b c) := by
  unfold wide_MulDiv.f mulDiv
  by_cases hc0 : c = 0
  · simp only [if_pos hc0]; exact Ev.now _
  · simp only [if_neg hc0]
    rw [times_f ha hb]
    simp only [Option.bind_some]
    have ⟨hP0, hP1⟩ := prod_bd ha hb
    have hb0 := ab_pos hc0
    have hb1 := ab_le hc
    refine Ev.bind (by_f hP0 hP1 hc hc0) ?_
    generalize hP : ab a * ab b = P at *
    generalize hn : decide (a * b < 0) = n
    have q0 : 0 ≤ P / ab c := Int.ediv_nonneg hP0 (by omega)
    have r0 := Int.emod_nonneg P (show ab c ≠ 0 by omega)
    have r1 := Int.emod_lt_of_pos P hb0
    have hbad : 9223372036854775808 < P / ab c → fit (sg (ngs a b c) (rnd P (ab c))) = (0, 2) := by
      intro h
      unfold fit sg rnd
      split <;> (rw [if_neg]; split <;> omega)
    by_cases hq : P / ab c < 18446744073709551616
    · simp only [if_pos hq, if_true]
      by_cases hq2 : 9223372036854775808 < P / ab c
      · rw [decide_eq_true (show P / ab c > 9223372036854775808 from hq2), hbad hq2]
        refine Ev.step (f := fun _ => some _) (fun k => ?_) (Ev.now _)
        rw [wide_MulDiv.j0.eq_2, if_pos rfl]
      · rw [decide_eq_false (show ¬ P / ab c > 9223372036854775808 from hq2)]
        have hz : ∀ q, q = rnd P (ab c) → fit (sg (n != (decide (c < 0))) q) = fit (sg (ngs a b c) (rnd P (ab c))) := by
          intro q e
          rw [← e, ← hn, sg_eq]
          intro h; rw [hP] at h; rw [e, h]; exact rnd_zero hb0
        by_cases hr : ab c - P % ab c ≤ P % ab c
        · have er : P / ab c + 1 = rnd P (ab c) := by unfold rnd; rw [if_pos hr]
          rw [← hz _ er]
          refine Ev.step (f := fun k => (wide_signed.f k (n != (decide (c < 0))) (P / ab c + 1)).bind fun bt => some (bt.1, bt.2)) (fun k => ?_) ?_
          · rw [wide_MulDiv.j0.eq_2, if_neg (by simp), size_f hc]
            simp only [Option.bind_some]
            rw [IntWalk.u64_in (ab c - P % ab c) ⟨by omega, by omega⟩, if_pos (show P % ab c ≥ ab c - P % ab c by omega), IntWalk.u64_in (P / ab c + 1) ⟨by omega, by omega⟩]
          · exact Ev.bind (signed_f (by omega) (by omega)) (Ev.now _)
        · have er : P / ab c = rnd P (ab c) := by unfold rnd; rw [if_neg hr]
          rw [← hz _ er]
          refine Ev.step (f := fun k => (wide_signed.f k (n != (decide (c < 0))) (P / ab c)).bind fun bt => some (bt.1, bt.2)) (fun k => ?_) ?_
          · rw [wide_MulDiv.j0.eq_2, if_neg (by simp), size_f hc]
            simp only [Option.bind_some]
            rw [IntWalk.u64_in (ab c - P % ab c) ⟨by omega, by omega⟩, if_neg (show ¬ P % ab c ≥ ab c - P % ab c by omega)]
          · exact Ev.bind (signed_f (by omega) (by omega)) (Ev.now _)
    · simp only [if_neg hq]
      rw [hbad (by omega)]
      simp only [Bool.false_eq_true, if_false]
      refine Ev.step (f := fun _ => some _) (fun k => ?_) (Ev.now _)
      rw [wide_MulDiv.j0.eq_2, if_pos rfl]

end Go.Proofs.Ytjfnhhfgjomliaa.M
