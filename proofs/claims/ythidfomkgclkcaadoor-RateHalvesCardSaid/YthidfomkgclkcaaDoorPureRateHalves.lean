/- Proved: shares of halves go on as long as there are parts: of sixteenths there are whole parts, of more there are none. For every number of halves. No condition. -/
import Derived.Test.YthidfomkgclkcaaDoorQx12
import Derived.Test.YthidfomkgclkcaaDoorGC
set_option linter.unusedVariables false
set_option linter.unusedSimpArgs false
namespace Go.Proofs.YthidfomkgclkcaaDoor.Pure
open Go.RowKit Go.Proofs.YthidfomkgclkcaaDoor.Q Go.Proofs.YthidfomkgclkcaaDoor.M Go.Proofs.YthidfomkgclkcaaDoorW.PrintWords Go.Proofs.YthidfomkgclkcaaDoorW.PrintLast
theorem halves : ∀ n : Fin 20, (n.val > 4 → chainS (List.replicate n.val 5000) = (0, 12)) ∧ (n.val ≤ 4 → chainS (List.replicate n.val 5000) = (shr .i64 10000 (n.val : Int), 0)) := by decide +kernel
theorem end_h (n : Nat) (h : n < 20) : Ev (fun k => law03_RateHalves.l0 k (n : Int) (List.replicate n 5000) (n : Int) (n : Int)) true := by
  refine Ev.step (f := fun k => _) (fun k => by rw [law03_RateHalves.l0.eq_2, if_neg (by omega)]) ?_
  refine Ev.bind (chain_fS (by simp; omega)) ?_
  obtain ⟨h1, h2⟩ := halves ⟨n, h⟩
  by_cases c : (n : Int) > 4
  · simp only [if_pos c]
    rw [h1 (by show n > 4; omega)]
    simp only [if_true, beq_self_eq_true]; exact Ev.now _
  · simp only [if_neg c]
    rw [h2 (by show n ≤ 4; omega)]
    simp only [if_true, beq_self_eq_true, if_pos (show (0 : Int) ≤ (n : Int) by omega)]; exact Ev.now _
theorem loop_h (n : Nat) (h : n < 20) (d : Nat) : ∀ j, j + d = n → Ev (fun k => law03_RateHalves.l0 k (n : Int) (List.replicate j 5000) (n : Int) (j : Int)) true := by
  induction d with
  | zero => intro j hj; obtain rfl : j = n := by omega
            exact end_h j h
  | succ d ih =>
    intro j hj
    have := ih (j + 1) (by omega)
    refine Ev.step (fun k => ?_) this
    rw [law03_RateHalves.l0.eq_2, if_pos (by omega), if_pos (by simp; omega), w64_in (by unfold I64; omega), ← List.replicate_succ']
    rfl
theorem RateHalves : law03_RateHalves.Pure := by
  intro a wa
  have ha := wf_u8 wa
  refine Ev.rounds (g := fun k => law03_RateHalves.f k a) ?_
  unfold law03_RateHalves.f
  refine Ev.bind alive_f ?_
  simp only [if_true]
  have e : Int.tmod (wrap64 a) 20 = ((a % 20).toNat : Int) := by
    rw [w64_in (show I64 a by unfold I64; omega), Int.tmod_eq_emod_of_nonneg (by omega)]; omega
  rw [e]
  exact loop_h (a % 20).toNat (by omega) (a % 20).toNat 0 (by omega)
end Go.Proofs.YthidfomkgclkcaaDoor.Pure
