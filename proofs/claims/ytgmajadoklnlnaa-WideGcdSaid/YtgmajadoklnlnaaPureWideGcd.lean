/- Proved: for all int64 a, b the law WideGcd returns true (both can be divided by what Gcd tells, and their quotients have none but 1). No condition. -/
import Derived.Test.YtgmajadoklnlnaaQx10
import Derived.Test.YtgmajadoklnlnaaCWide2
set_option linter.unusedVariables false
set_option linter.unusedSimpArgs false
namespace Go.Proofs.Ytgmajadoklnlnaa.Pure
open Go.RowKit Go.Proofs.Ytgmajadoklnlnaa.Q Go.Proofs.Ytgmajadoklnlnaa.M Go.Proofs.YtgmajadoklnlnaaW.PrintWords Go.Proofs.YtgmajadoklnlnaaW.PrintLast

theorem tdiv_gcd {a b : Int} (h : (Int.gcd a b : Int) ≠ 0) : Int.gcd (a.tdiv (Int.gcd a b)) (b.tdiv (Int.gcd a b)) = 1 := by
  have h1 : (Int.gcd a b : Int) ∣ a := Int.gcd_dvd_left ..
  have h2 : (Int.gcd a b : Int) ∣ b := Int.gcd_dvd_right ..
  rw [Int.tdiv_eq_ediv_of_dvd h1, Int.tdiv_eq_ediv_of_dvd h2]
  exact Int.gcd_ediv_gcd_ediv_gcd (by omega)
theorem tdiv_i64 {a g : Int} (ha : I64 a) (hg : 1 ≤ g) : I64 (a.tdiv g) := by
  have h := Int.natAbs_tdiv_le_natAbs a g
  unfold I64 at *
  by_cases c : 0 ≤ a
  · have := Int.tdiv_nonneg c (show 0 ≤ g by omega); omega
  · have := Int.tdiv_nonneg (show 0 ≤ -a by omega) (show 0 ≤ g by omega)
    rw [Int.neg_tdiv] at this; omega
theorem WideGcd : comptrollerlaw02_WideGcd.Pure := by
  intro a b wa wb
  have ha := wf_i64 wa
  have hb := wf_i64 wb
  refine Ev.rounds (g := fun k => comptrollerlaw02_WideGcd.f k a b) ?_
  unfold comptrollerlaw02_WideGcd.f
  refine Ev.bind alive_f ?_
  simp only [if_true]
  refine Ev.bind (gcd_f ha hb) ?_
  by_cases h0 : ((Int.gcd a b : Nat) : Int) = 0
  · simp only [if_pos h0]
    have hz : a = 0 ∧ b = 0 := Int.gcd_eq_zero_iff.1 (by omega)
    refine Ev.step (f := fun _ => some true) (fun k => ?_) (Ev.now _)
    rw [comptrollerlaw02_WideGcd.j0.eq_2, if_pos rfl, if_pos h0, if_pos hz.1, hz.2]; rfl
  · simp only [if_neg h0]
    have hA : Ev (fun k => comptrollerlaw02_WideGcd.j0 k a b ((Int.gcd a b : Nat) : Int) true) true := by
      refine Ev.step (f := fun _ => some true) (fun k => ?_) (Ev.now _)
      rw [comptrollerlaw02_WideGcd.j0.eq_2, if_pos rfl, if_neg h0]
    by_cases c1 : a = -9223372036854775808
    · simp only [if_pos c1]; exact hA
    · simp only [if_neg c1]
      by_cases c2 : b = -9223372036854775808
      · simp only [c2, BEq.rfl] at hA ⊢; exact hA
      · have e : (b == -9223372036854775808) = false := by simpa using c2
        simp only [e]
        have hg1 : 1 ≤ ((Int.gcd a b : Nat) : Int) := by omega
        have hg2 : ((Int.gcd a b : Nat) : Int) ≤ 9223372036854775807 := by
          by_cases ha0 : a = 0
          · subst ha0; rw [Int.gcd_zero_left]; unfold I64 at hb; omega
          · have := Nat.le_of_dvd (by omega) (Int.gcd_dvd_natAbs_left a b); unfold I64 at ha; omega
        have hw : wrap64 ((Int.gcd a b : Nat) : Int) = ((Int.gcd a b : Nat) : Int) := w64_in (by unfold I64; omega)
        have h1 : ((Int.gcd a b : Nat) : Int) ∣ a := Int.gcd_dvd_left ..
        have h2 : ((Int.gcd a b : Nat) : Int) ∣ b := Int.gcd_dvd_right ..
        have hna : I64 (-a) := by unfold I64 at *; omega
        have ht := tdiv_gcd h0
        have i1 := tdiv_i64 ha hg1
        have i2 := tdiv_i64 hb hg1
        have g1 := gcd_f i1 i2
        have g2 := gcd_f hb ha
        have g3 := gcd_f hna hb
        rw [ht] at g1
        rw [Int.gcd_comm] at g2
        rw [Int.neg_gcd] at g3
        generalize hG : ((Int.gcd a b : Nat) : Int) = g at *
        refine Ev.step (f := fun k => (wide_Gcd.f k (a.tdiv g) (b.tdiv g)).bind fun t => if t = 1 then (wide_Gcd.f k b a).bind fun t => if t = g then (wide_Gcd.f k (-a) b).bind fun t => some (t == g) else some false else some false) (fun k => ?_) ?_
        · rw [comptrollerlaw02_WideGcd.j0.eq_2, if_neg (by simp), hw, if_neg h0, if_pos (Int.tmod_eq_zero_of_dvd h1), if_pos (Int.tmod_eq_zero_of_dvd h2), w64_in i1, w64_in i2, w64_in hna]
        · refine Ev.bind g1 ?_
          simp only [show ((1 : Nat) : Int) = 1 from rfl, if_true]
          refine Ev.bind g2 ?_
          simp only [if_true]
          refine Ev.bind g3 ?_
          simp only [BEq.rfl]; exact Ev.now _
end Go.Proofs.Ytgmajadoklnlnaa.Pure
