/- Proved: at the rate 1 an amount is itself; at a whole rate it is so many times; there is nothing of nothing. For all int64 amounts and uint16 numbers. No condition. -/
import Derived.Test.YthidfomkgclkcaaDoorQx11
import Derived.Test.YthidfomkgclkcaaDoorGC
set_option linter.unusedVariables false
set_option linter.unusedSimpArgs false
namespace Go.Proofs.YthidfomkgclkcaaDoor.Pure
open Go.RowKit Go.Proofs.YthidfomkgclkcaaDoor.Q Go.Proofs.YthidfomkgclkcaaDoor.M Go.Proofs.YthidfomkgclkcaaDoorW.PrintWords Go.Proofs.YthidfomkgclkcaaDoorW.PrintLast
theorem right_one {k : Int} (h : in9 k) : rightS k 1 = true := by
  refine rightS_iff.2 ⟨h, ⟨by omega, by omega⟩, ?_⟩
  simp
theorem muldiv_one {a k : Int} (hk : 1 ≤ k) (hp : I64 (a * k)) : mulDiv a k 1 = (a * k, 0) := by
  have e3 : ab 1 = 1 := by unfold ab; rw [if_neg (by omega)]
  unfold mulDiv
  rw [if_neg (by omega), e3]
  have er : ∀ P : Int, rnd P 1 = P := by intro P; unfold rnd; rw [if_neg (by omega)]; omega
  rw [er, ab_mul_ab]
  have es : sg (ngs a k 1) (ab (a * k)) = a * k := by
    by_cases h : a * k = 0
    · rw [h, show ab 0 = 0 from rfl]; unfold sg; split <;> rfl
    · have := mul_neg_iff h
      have e : ngs a k 1 = decide (a < 0) := by
        unfold ngs; rw [decide_eq_false (show ¬ k < 0 by omega), decide_eq_false (show ¬ (1 : Int) < 0 by omega)]; simp
      rw [e]
      unfold sg ab
      by_cases c : a < 0
      · have : a * k < 0 := by rw [this]; simp [c]; omega
        rw [if_pos (by simpa using c), if_pos this]; omega
      · have : ¬ a * k < 0 := by rw [this]; simp [c]; omega
        rw [if_neg (by simpa using c), if_neg this]
  rw [es]
  unfold fit; exact if_pos hp
theorem RateApplies : law03_RateApplies.Pure := by
  intro a n wa wn
  have ha := wf_i64 wa
  have hn := wf_u16 wn
  refine Ev.rounds (g := fun k => law03_RateApplies.f k a n) ?_
  unfold law03_RateApplies.f
  refine Ev.bind alive_f ?_
  simp only [if_true]
  have ek : wrap64 (wrap64 n + 1) = n + 1 := by rw [w64_in (show I64 n by unfold I64; omega), w64_in (by unfold I64; omega)]
  rw [ek]
  have i1 : I64 1 := ⟨by decide, by decide⟩
  have ik : I64 (n + 1) := by unfold I64; omega
  have hm : -1000002 ≤ Int.tmod a 1000003 ∧ Int.tmod a 1000003 ≤ 1000002 := by
    have h1 := Int.tmod_lt_of_pos a (show (0 : Int) < 1000003 by decide)
    have h2 := Int.lt_tmod_of_pos a (show (0 : Int) < 1000003 by decide)
    omega
  generalize Int.tmod a 1000003 = m at *
  have im : I64 m := by unfold I64; omega
  have ip : I64 (m * (n + 1)) := by
    have h1 : ab (m * (n + 1)) ≤ 1000002 * 65536 := by
      rw [← ab_mul_ab]
      exact mul_le_mul' (by unfold ab; split <;> omega) (by unfold ab; split <;> omega) (ab_nonneg m) (by omega)
    unfold ab at h1; unfold I64; split at h1 <;> omega
  refine Ev.bind (apply_fS i1 i1 ha) (Ev.bind (apply_fS ik i1 im) (Ev.bind (apply_fS ik i1 ⟨by decide, by decide⟩) ?_))
  have r1 := right_one (k := 1) ⟨by omega, by omega⟩
  have rk := right_one (k := n + 1) ⟨by omega, by omega⟩
  unfold applyS
  rw [if_pos r1, if_pos rk, if_pos rk, muldiv_one (by omega) (by rw [Int.mul_one]; exact ha), muldiv_one (by omega) ip, muldiv_one (by omega) (by rw [Int.zero_mul]; exact ⟨by decide, by decide⟩)]
  simp only [Int.mul_one, Int.zero_mul, if_true, w64_in ip, beq_self_eq_true]
  exact Ev.now _
end Go.Proofs.YthidfomkgclkcaaDoor.Pure
