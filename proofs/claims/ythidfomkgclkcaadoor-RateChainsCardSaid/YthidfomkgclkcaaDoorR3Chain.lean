import Derived.Test.YthidfomkgclkcaaDoorQx6
import Derived.Test.YthidfomkgclkcaaDoorGC
/- what the reference's Chain tells -/
set_option linter.unusedVariables false
set_option linter.unusedSimpArgs false
namespace Go.Proofs.YthidfomkgclkcaaDoor.M
open Go.RowKit Go.Proofs.YthidfomkgclkcaaDoorW.PrintWords Go.Proofs.YthidfomkgclkcaaDoorW.PrintLast Go.Proofs.YthidfomkgclkcaaDoorW.PrintMore Go.Proofs.YthidfomkgclkcaaDoor.Q
theorem rchain1_f (T : List Int) : ∀ (P : List Int) (n i : Int), (∀ p ∈ T, 0 ≤ p ∧ p ≤ 10000) → (0 ≤ n ∧ n ≤ 10000) → i = P.length → P.length + T.length ≤ 1000000000 →
    Ev (fun k => ref03_Chain.l1 k (P ++ T) n i) (chainF n T) := by
  induction T with
  | nil =>
    intro P n i _ hn hi hl
    refine Ev.step (f := fun _ => some _) (fun k => ?_) (Ev.now _)
    rw [ref03_Chain.l1.eq_2, if_neg (by simp; omega)]; rfl
  | cons p T ih =>
    intro P n i hT hn hi hl
    have hp := hT p List.mem_cons_self
    have rr : rd (P ++ p :: T) i = p := by subst hi; unfold rd; rw [Int.toNat_natCast]; exact rd_int rfl rfl
    have hlen : ((P ++ p :: T).length : Int) = P.length + 1 + T.length := by simp; omega
    simp only [List.length_cons] at hl
    have hs := step4 hn hp
    have ht := ih (P ++ [p]) (n * p / 10000) (i + 1) (fun y hy => hT y (List.mem_cons_of_mem _ hy)) ⟨Int.ediv_nonneg hs.1 (by omega), by omega⟩ (by simp; omega) (by simp; omega)
    rw [show P ++ [p] ++ T = P ++ p :: T by simp] at ht
    have hw : wrap64 (n * p) = n * p := w64_in (by unfold I64; omega)
    rw [show chainF n (p :: T) = if n * p % 10000 = 0 then chainF (n * p / 10000) T else (0, 12) from rfl]
    by_cases c : n * p % 10000 = 0
    · rw [if_pos c]
      refine Ev.step (fun k => ?_) ht
      rw [ref03_Chain.l1.eq_2, if_pos (by omega), if_pos (by omega), rr, hw, Int.tmod_eq_emod_of_nonneg hs.1, Int.tdiv_eq_ediv_of_nonneg hs.1, if_pos c, w64_in (show I64 (i + 1) by unfold I64; omega), w64_in (show I64 (n * p / 10000) by unfold I64; omega)]
    · rw [if_neg c]
      refine Ev.step (f := fun _ => some _) (fun k => ?_) (Ev.now _)
      rw [ref03_Chain.l1.eq_2, if_pos (by omega), if_pos (by omega), rr, hw, Int.tmod_eq_emod_of_nonneg hs.1, if_neg c]
theorem rchain0_f (X : List Int) (hX : X.length ≤ 1000000000) (T : List Int) : ∀ (P : List Int) (i : Int), X = P ++ T → P.all okP4 = true → i = P.length →
    Ev (fun k => ref03_Chain.l0 k X i) (chainS X) := by
  induction T with
  | nil =>
    intro P i hx hP hi
    rw [List.append_nil] at hx
    subst hx
    have := rchain1_f X [] 10000 0 (fun p hp => okP4_iff.1 (List.all_eq_true.1 hP p hp)) (by omega) rfl (by simpa using hX)
    unfold chainS
    rw [if_pos hP]
    refine Ev.step (fun k => ?_) this
    rw [ref03_Chain.l0.eq_2, if_neg (by omega)]; rfl
  | cons p T ih =>
    intro P i hx hP hi
    have rr : rd X i = p := by rw [hx, hi]; unfold rd; rw [Int.toNat_natCast]; exact rd_int rfl rfl
    have hlen : (X.length : Int) = P.length + 1 + T.length := by rw [hx]; simp; omega
    have bad : okP4 p = false → chainS X = (0, 1) := fun h => by
      unfold chainS; rw [if_neg (by rw [hx]; simp [h])]
    by_cases c1 : p < 0
    · rw [bad (by unfold okP4; simp; omega)]
      refine Ev.step (f := fun _ => some _) (fun k => ?_) (Ev.now _)
      rw [ref03_Chain.l0.eq_2, if_pos (by omega), if_pos (by omega), rr, if_pos c1]
    · by_cases c2 : p > 10000
      · rw [bad (by unfold okP4; simp; omega)]
        refine Ev.step (f := fun _ => some _) (fun k => ?_) (Ev.now _)
        rw [ref03_Chain.l0.eq_2, if_pos (by omega), if_pos (by omega), rr, if_neg c1, if_pos c2]
      · refine Ev.step (fun k => ?_) (ih (P ++ [p]) (i + 1) (by rw [hx]; simp) (by rw [List.all_append, hP]; simp [okP4]; omega) (by simp; omega))
        rw [ref03_Chain.l0.eq_2, if_pos (by omega), if_pos (by omega), rr, if_neg c1, if_neg c2, w64_in (by unfold I64; omega)]
theorem rchain_fS {l : List Int} (hl : l.length ≤ 1000000000) : Ev (fun k => ref03_Chain.f k l) (chainS l) := by
  unfold ref03_Chain.f
  exact rchain0_f l hl l [] 0 rfl rfl rfl
end Go.Proofs.YthidfomkgclkcaaDoor.M
