/- Proved: texts of unlike int64 amounts are unlike; a text has as many digits as the amount. No condition but what Go itself can hold. -/
import Derived.Test.YtpfhoenjndmoaaaDoorQx4
import Derived.Test.YtpfhoenjndmoaaaDoorCAlive01
set_option linter.unusedVariables false
set_option linter.unusedSimpArgs false
namespace Go.Proofs.YtpfhoenjndmoaaaDoor.Pure
open Go.RowKit Go.Proofs.YtpfhoenjndmoaaaDoor.Q Go.Proofs.YtpfhoenjndmoaaaDoor.M Go.Proofs.YtpfhoenjndmoaaaDoorW.PrintWords Go.Proofs.YtpfhoenjndmoaaaDoorW.PrintLast
theorem end_p (a : Int) (s : List UInt8) (d : Int) (h1 : 1 ≤ d) (h2 : d ≤ 1000) : Ev (fun k => law01_CentPrints.l0 k a (bs s) d 0) ((s.length : Int) == d + (if a < 0 then 1 else 0)) := by
  refine Ev.step (f := fun _ => some _) (fun k => ?_) (Ev.now _)
  rw [law01_CentPrints.l0.eq_2, if_pos rfl, if_neg (by omega), w64_in (by unfold I64; omega), bs_size]
  by_cases c : a < 0
  · simp only [if_pos c]
  · simp only [if_neg c, Int.add_zero]
theorem l0_p (a : Int) (s : List UInt8) (u : Nat) : ∀ (x d : Int), x.natAbs = u → I64 x → 0 ≤ d → d + Lib.nDigits u ≤ 1000 → x ≠ 0 →
    Ev (fun k => law01_CentPrints.l0 k a (bs s) d x) ((s.length : Int) == d + Lib.nDigits u + (if a < 0 then 1 else 0)) := by
  induction u using Nat.strongRecOn with
  | _ u ih =>
    intro x d hu hx h0 hd hn
    rcases tq10 x with ⟨hs0, e1, e2⟩ | ⟨hs0, e1, e2⟩
    all_goals
      have hq : I64 (Int.tdiv x 10) := by unfold I64 at *; omega
      have hqa : (Int.tdiv x 10).natAbs = u / 10 := by omega
      have hp := Lib.nDigits_pos u
      refine Ev.step (f := fun k => law01_CentPrints.l0 k a (bs s) (d + 1) (Int.tdiv x 10)) (fun k => by rw [law01_CentPrints.l0.eq_2, if_neg hn, w64_in hq, w64_in (show I64 (d + 1) by unfold I64; omega)]) ?_
      by_cases c : u < 10
      · rw [show Int.tdiv x 10 = 0 by omega, Lib.nDigits_small c]
        exact end_p a s (d + 1) (by omega) (by omega)
      · rw [Lib.nDigits_big c] at hd ⊢
        have := ih (u / 10) (by omega) (Int.tdiv x 10) (d + 1) hqa hq (by omega) (by omega) (by omega)
        rw [show d + ((Lib.nDigits (u / 10) + 1 : Nat) : Int) = d + 1 + (Lib.nDigits (u / 10) : Int) by omega]
        exact this
theorem CentPrints : law01_CentPrints.Pure := by
  intro a b wa wb
  have ha := wf_i64 wa
  have hb := wf_i64 wb
  refine Ev.rounds (g := fun k => law01_CentPrints.f k a b) ?_
  unfold law01_CentPrints.f
  refine Ev.bind alive_f ?_
  simp only [if_true]
  refine Ev.bind (evk (cprint_f ha)) (Ev.bind (evk (cprint_f hb)) ?_)
  have e : (Lib.itoa a == Lib.itoa b) = (a == b) := by
    rw [Bool.eq_iff_iff, beq_iff_eq, beq_iff_eq]
    exact ⟨fun h => itoa_inj ha hb h, fun h => by rw [h]⟩
  have e2 : (Lib.itoa a == ([] : List UInt8)) = false := by rw [beq_eq_false_iff_ne]; exact itoa_ne a
  simp only [bs_toList, e, bne_self_eq_false, e2, Bool.false_eq_true, if_false]
  refine Ev.step (f := fun k => law01_CentPrints.l0 k a (bs (Lib.itoa a)) 0 a) (fun k => by rw [law01_CentPrints.j0.eq_2, if_neg (by decide)]) ?_
  have hn := nDigits_le a.natAbs (by unfold I64 at ha; omega)
  by_cases c : a = 0
  · subst c
    have := end_p 0 (Lib.itoa 0) 1 (by omega) (by omega)
    have e3 : Lib.itoa 0 = [48] := by unfold Lib.itoa; rw [if_neg (by omega), show (0 : Int).toNat = 0 from rfl, dec_small (by omega)]; rfl
    rw [e3] at this ⊢
    refine Ev.step (fun k => ?_) this
    rw [law01_CentPrints.l0.eq_2, if_pos rfl, if_pos rfl, show wrap64 (0 + 1) = 1 by decide +kernel, show wrap64 (Int.tdiv 0 10) = 0 by decide +kernel]
  · have := l0_p a (Lib.itoa a) a.natAbs a 0 rfl ha (by omega) (by omega) c
    have hl : ((Lib.itoa a).length : Int) = 0 + Lib.nDigits a.natAbs + (if a < 0 then 1 else 0) := by
      unfold Lib.itoa
      by_cases c2 : a < 0
      · rw [if_pos c2, if_pos c2, List.length_cons, Lib.decDigits_length]; omega
      · rw [if_neg c2, if_neg c2, Lib.decDigits_length, show a.toNat = a.natAbs by omega]; omega
    rw [hl, beq_self_eq_true] at this
    exact this
end Go.Proofs.YtpfhoenjndmoaaaDoor.Pure
