import Derived.Test.YtjfnhhfgjomliaaQx6
import Derived.Test.YtjfnhhfgjomliaaCMd
import Derived.Test.YtjfnhhfgjomliaaCBy
/- what split's Share tells, and the few calls that each law makes first -/
set_option linter.unusedVariables false
set_option linter.unusedSimpArgs false
namespace Go.Proofs.Ytjfnhhfgjomliaa.M
open Go.RowKit Go.Proofs.YtjfnhhfgjomliaaW.PrintWords Go.Proofs.YtjfnhhfgjomliaaW.PrintLast Go.Proofs.YtjfnhhfgjomliaaW.PrintMore Go.Proofs.Ytjfnhhfgjomliaa.Q

theorem alive_f : Ev (fun k => law04_alive.f k) true := Ev.of law04_alive.mono (k := 300) (by decide +kernel)
def shrS (a p : Int) : Int := if a < 0 then -rnd (ab a * p) 10000 else rnd (ab a * p) 10000
set_option maxRecDepth 4000 in
theorem shr_md {a p : Int} (ha : I64 a) (h0 : 0 ≤ p) (h1 : p ≤ 10000) : mulDiv a p 10000 = (shrS a p, 0) ∧ I64 (shrS a p) := by
  have hA := ab_le ha
  have hA0 := ab_nonneg a
  have hp : ab p = p := by unfold ab; rw [if_neg (by omega)]
  have x0 : 0 ≤ ab a * p := Int.mul_nonneg hA0 h0
  have x1 : ab a * p ≤ ab a * 10000 := Int.mul_le_mul_of_nonneg_left h1 hA0
  have hr : 0 ≤ rnd (ab a * p) 10000 ∧ rnd (ab a * p) 10000 ≤ ab a := by
    generalize ab a * p = x at *
    unfold rnd; split <;> omega
  have hng : ngs a p 10000 = decide (a < 0) := by
    unfold ngs; rw [decide_eq_false (show ¬ p < 0 by omega)]; simp
  have hI : I64 (shrS a p) := by
    unfold shrS I64; unfold I64 at ha
    by_cases c : a < 0
    · rw [if_pos c]; omega
    · rw [if_neg c]; have : ab a = a := by unfold ab; rw [if_neg c]
      omega
  refine ⟨?_, hI⟩
  unfold mulDiv
  rw [if_neg (by omega), hng, show ab 10000 = 10000 from rfl, hp]
  have e : sg (decide (a < 0)) (rnd (ab a * p) 10000) = shrS a p := by
    unfold sg shrS; by_cases c : a < 0 <;> simp [c]
  rw [e]; unfold fit; unfold I64 at hI; rw [if_pos hI]
theorem share_f {a p : Int} (ha : I64 a) (h0 : 0 ≤ p) (h1 : p ≤ 10000) : Ev (fun k => split_Share.f k a p) (shrS a p, wrap64 (a - shrS a p), 0) := by
  have hm := shr_md ha h0 h1
  unfold split_Share.f
  simp only [if_neg (show ¬ p < 0 by omega), decide_eq_false (show ¬ p > 10000 by omega)]
  refine Ev.step (fun k => ?_) (Ev.bind (f := fun k t => if t.2 = 0 then (some (t.1, wrap64 (a - t.1), 0)) else (some (0, 0, t.2))) (muldiv_f ha (show I64 p by unfold I64; omega) (show I64 10000 by unfold I64; omega)) ?_)
  · rw [split_Share.j0.eq_2, if_neg (by decide)]
  · rw [hm.1]; exact Ev.now _
theorem share_bad {a p : Int} (h : p < 0 ∨ 10000 < p) : Ev (fun k => split_Share.f k a p) (0, 0, 1) := by
  unfold split_Share.f
  refine Ev.step (f := fun _ => some _) (fun k => ?_) (Ev.now _)
  by_cases c : p < 0
  · simp only [if_pos c]; rw [split_Share.j0.eq_2, if_pos rfl]
  · simp only [if_neg c, decide_eq_true (show p > 10000 by omega)]; rw [split_Share.j0.eq_2, if_pos rfl]
theorem samel_f {L M : List Int} (hl : L.length = M.length) (hn : L.length ≤ 1000) (d : Nat) : ∀ i : Nat, i + d = L.length → (∀ m, i ≤ m → m < L.length → L.getD m 0 = M.getD m 0) → Ev (fun k => ref04_Same.l0 k L M (i : Int)) true := by
  induction d with
  | zero =>
    intro i hi _
    refine Ev.step (f := fun _ => some _) (fun k => ?_) (Ev.now _)
    rw [ref04_Same.l0.eq_2, if_neg (by omega)]
  | succ d ih =>
    intro i hi h
    refine Ev.step (fun k => ?_) (ih (i + 1) (by omega) (fun m h1 h2 => h m (by omega) h2))
    have e : rd L (i : Int) = rd M (i : Int) := by unfold rd; rw [Int.toNat_natCast]; exact h i (Nat.le_refl _) (by omega)
    rw [ref04_Same.l0.eq_2, if_pos (by omega), if_pos (by omega), if_pos (by omega), if_pos e, w_one i (by omega)]
theorem same_f {L M : List Int} (hl : L.length = M.length) (hn : L.length ≤ 1000) (h : ∀ m, m < L.length → L.getD m 0 = M.getD m 0) : Ev (fun k => ref04_Same.f k L M) true := by
  unfold ref04_Same.f
  simp only [if_pos (show (L.length : Int) = (M.length : Int) by omega)]
  exact samel_f hl hn L.length 0 (by omega) (fun m _ hm => h m hm)
end Go.Proofs.Ytjfnhhfgjomliaa.M
