/- Proved: for all int64 a, b, c the other sign of one of three gives the other sign, and two numbers that are multiplied go in either order. No condition. -/
import Derived.Test.YtgmajadoklnlnaaQx7
import Derived.Test.YtgmajadoklnlnaaCWide2
set_option linter.unusedVariables false
set_option linter.unusedSimpArgs false
namespace Go.Proofs.Ytgmajadoklnlnaa.Pure
open Go.RowKit Go.Proofs.Ytgmajadoklnlnaa.Q Go.Proofs.Ytgmajadoklnlnaa.M Go.Proofs.YtgmajadoklnlnaaW.PrintWords Go.Proofs.YtgmajadoklnlnaaW.PrintLast

theorem near_zero {a b c v : Int} (hc : c ≠ 0) (h : Near (a * b) v c) (ha : a * b = 0) : v = 0 := by rw [ha] at h; exact Near.zero hc h
/-- the same with another sign: the quotient has the other sign -/
theorem turn {a b c v a' b' c' : Int} (hc : c ≠ 0) (hc' : c' ≠ 0) (h : Near (a * b) v c) (hs : (a' * b' = -(a * b) ∧ c' = c) ∨ (a' * b' = a * b ∧ c' = -c)) : mulDiv a' b' c' = fit (-v) := by
  rcases hs with ⟨h1, rfl⟩ | ⟨h1, rfl⟩
  · by_cases h0 : a * b = 0
    · have hv := near_zero hc h h0
      refine mulDiv_of hc ?_
      rw [h1, h0, hv]; exact Near.of_eq hc (by simp)
    · refine mulDiv_of hc ?_
      rw [h1]; exact h.neg h0
  · refine mulDiv_of hc' ?_
    rw [h1]; exact h.negc
theorem WideSigns : comptrollerlaw02_WideSigns.Pure := by
  intro a b c wa wb wc
  have ha := wf_i64 wa
  have hb := wf_i64 wb
  have hc := wf_i64 wc
  refine Ev.rounds (g := fun k => comptrollerlaw02_WideSigns.f k a b c) ?_
  unfold comptrollerlaw02_WideSigns.f
  refine Ev.bind alive_f ?_
  simp only [if_true]
  have hA : Ev (fun k => comptrollerlaw02_WideSigns.j0 k true a b c) true := by
    refine Ev.step (f := fun _ => some true) (fun k => ?_) (Ev.now _)
    rw [comptrollerlaw02_WideSigns.j0.eq_2, if_pos rfl]
  by_cases c1 : a = -9223372036854775808
  · simp only [if_pos c1]; exact hA
  simp only [if_neg c1]
  by_cases c2 : b = -9223372036854775808
  · simp only [if_pos c2]; exact hA
  simp only [if_neg c2]
  by_cases c3 : c = -9223372036854775808
  · simp only [if_pos c3]; exact hA
  simp only [if_neg c3]
  by_cases c4 : c = 0
  · simp only [c4, BEq.rfl] at hA ⊢; exact hA
  rw [show (c == 0) = false by simpa using c4]
  have na : I64 (-a) := by unfold I64 at *; omega
  have nb : I64 (-b) := by unfold I64 at *; omega
  have nc : I64 (-c) := by unfold I64 at *; omega
  have nc0 : -c ≠ 0 := by omega
  obtain ⟨v, hv, hn⟩ := mulDiv_near (a := a) (b := b) c4
  have hv2 : mulDiv b a c = fit v := mulDiv_of c4 (by rw [Int.mul_comm]; exact hn)
  have t1 : mulDiv (-a) b c = fit (-v) := turn c4 c4 hn (.inl ⟨Int.neg_mul .., rfl⟩)
  have t2 : mulDiv a (-b) c = fit (-v) := turn c4 c4 hn (.inl ⟨Int.mul_neg .., rfl⟩)
  have t3 : mulDiv a b (-c) = fit (-v) := turn c4 nc0 hn (.inr ⟨rfl, rfl⟩)
  have m1 := muldiv_f na hb hc
  have m2 := muldiv_f ha nb hc
  have m3 := muldiv_f ha hb nc
  rw [t1] at m1
  rw [t2] at m2
  rw [t3] at m3
  refine Ev.step (f := fun k => (wide_MulDiv.f k a b c).bind fun bt => (wide_MulDiv.f k b a c).bind fun bt2 => if bt.1 = bt2.1 then comptrollerlaw02_WideSigns.j1 k bt.1 bt.2 (bt.2 != bt2.2) a b c else comptrollerlaw02_WideSigns.j1 k bt.1 bt.2 true a b c) (fun k => ?_) ?_
  · rw [comptrollerlaw02_WideSigns.j0.eq_2, if_neg (by simp)]
  refine Ev.bind (muldiv_f ha hb hc) ?_
  refine Ev.bind (muldiv_f hb ha hc) ?_
  rw [hv, hv2]
  simp only [if_true, bne_self_eq_false]
  obtain ⟨L, hL⟩ : ∃ L : List S23, L = [(⟨-a, b, c⟩ : S23), (⟨a, -b, c⟩ : S23), (⟨a, b, -c⟩ : S23)] := ⟨_, rfl⟩
  have hlen : ((L.length : Nat) : Int) = 3 := by rw [hL]; rfl
  -- one round: what is told of the turned three
  have round : ∀ (i : Int) (p : S23), 0 ≤ i → i < 3 → rd_T23 L i = p → Ev (fun k => wide_MulDiv.f k p.f0 p.f1 p.f2) (fit (-v)) →
      Ev (fun k => comptrollerlaw02_WideSigns.l0 k (fit v).1 (fit v).2 L 3 (i + 1)) true → Ev (fun k => comptrollerlaw02_WideSigns.l0 k (fit v).1 (fit v).2 L 3 i) true := by
    intro i p h0 h1 hp hm hnext
    have hbody : Ev (fun k => (wide_MulDiv.f k p.f0 p.f1 p.f2).bind fun bt => some bt) (fit (-v)) := Ev.bind hm (Ev.now _)
    obtain ⟨K, hK⟩ := hm
    obtain ⟨K2, hK2⟩ := hnext
    refine ⟨max K K2 + 1, fun k hk => ?_⟩
    obtain ⟨k, rfl⟩ : ∃ m, k = m + 1 := ⟨k - 1, by omega⟩
    have e1 : wide_MulDiv.f k p.f0 p.f1 p.f2 = some (fit (-v)) := hK k (by omega)
    have e2 : comptrollerlaw02_WideSigns.l0 k (fit v).1 (fit v).2 L 3 (i + 1) = some true := hK2 k (by omega)
    show comptrollerlaw02_WideSigns.l0 (k + 1) (fit v).1 (fit v).2 L 3 i = some true
    rw [comptrollerlaw02_WideSigns.l0.eq_2, if_pos (by omega), if_pos h0, if_pos (by omega), hp, e1]
    simp only [Option.bind_some]
    rw [w64_in (n := i + 1) (by unfold I64; omega), e2]
    by_cases i1 : I64 v <;> by_cases i2 : I64 (-v)
    · simp only [fit_in i1, fit_in i2, w64_in i2, if_true, BEq.rfl, bne_self_eq_false, Bool.false_eq_true, if_false]
    · have hv3 : v = -9223372036854775808 := by unfold I64 at *; omega
      simp only [fit_in i1, fit_out i2, hv3]; rfl
    · have hv3 : -v = -9223372036854775808 := by unfold I64 at *; omega
      simp only [fit_out i1, fit_in i2, hv3]; rfl
    · simp only [fit_out i1, fit_out i2]; rfl
  refine Ev.step (f := fun k => comptrollerlaw02_WideSigns.l0 k (fit v).1 (fit v).2 L 3 0) (fun k => ?_) ?_
  · rw [comptrollerlaw02_WideSigns.j1.eq_2, if_neg (by simp), w64_in na, w64_in nb, w64_in nc, ← hL]
    simp only [Option.bind_some, hlen]
  · refine round 0 ⟨-a, b, c⟩ (by omega) (by omega) (by rw [hL]; rfl) m1 ?_
    refine round 1 ⟨a, -b, c⟩ (by omega) (by omega) (by rw [hL]; rfl) m2 ?_
    refine round 2 ⟨a, b, -c⟩ (by omega) (by omega) (by rw [hL]; rfl) m3 ?_
    refine Ev.step (f := fun _ => some true) (fun k => ?_) (Ev.now _)
    rw [comptrollerlaw02_WideSigns.l0.eq_2, if_neg (by omega)]
end Go.Proofs.Ytgmajadoklnlnaa.Pure
