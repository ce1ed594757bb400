/- Proved: a chain is no more than each of its shares, Whole in it counts nothing, and it is that of the chains of its parts, where all are exact (lists of at most 200 ints, as the law asks). No condition but what Go itself can hold. -/
import Derived.Test.YthidfomkgclkcaaDoorQx9
import Derived.Test.YthidfomkgclkcaaDoorGC
set_option linter.unusedVariables false
set_option linter.unusedSimpArgs false
namespace Go.Proofs.YthidfomkgclkcaaDoor.Pure
open Go.RowKit Go.Proofs.YthidfomkgclkcaaDoor.Q Go.Proofs.YthidfomkgclkcaaDoor.M Go.Proofs.YthidfomkgclkcaaDoorW.PrintWords Go.Proofs.YthidfomkgclkcaaDoorW.PrintLast
theorem chainS_more (l : List Int) (k : Nat) : chainS (l.take k ++ [10000] ++ l.drop k) = chainS l := by
  have ha : (l.take k ++ [10000] ++ l.drop k).all okP4 = l.all okP4 := by
    have h1 : l.all okP4 = ((l.take k).all okP4 && (l.drop k).all okP4) := by rw [← List.all_append, List.take_append_drop]
    rw [List.all_append, List.all_append, h1, show [(10000 : Int)].all okP4 = true by decide, Bool.and_true]
  unfold chainS
  rw [ha]
  by_cases c : l.all okP4 = true
  · rw [if_pos c, if_pos c]
    rw [List.append_assoc, chainF_app]
    conv => rhs; rw [← List.take_append_drop k l, chainF_app]
    rw [show [(10000 : Int)] ++ l.drop k = 10000 :: l.drop k from rfl, chainF_whole]
  · rw [if_neg c, if_neg c]
theorem chainS_ok {l : List Int} {m : Int} (h : chainS l = (m, 0)) : l.all okP4 = true ∧ chainF 10000 l = (m, 0) := by
  unfold chainS at h
  by_cases c : l.all okP4 = true
  · rw [if_pos c] at h; exact ⟨c, h⟩
  · rw [if_neg c] at h; cases h
theorem chainS_bad {l : List Int} (h : (chainS l).2 ≠ 0) : (chainS l).1 = 0 := by
  unfold chainS at h ⊢
  by_cases c : l.all okP4 = true
  · rw [if_pos c] at h ⊢; rw [chainF_bad l _ h]
  · rw [if_neg c]
theorem end_p {l : List Int} (hl : l.length ≤ 200) {m : Int} (h : chainS l = (m, 0)) (k : Nat) (hk : k ≤ l.length) {X : List Int} {b i : Int} (hbi : ¬ i < b) :
    Ev (fun q => law03_RateParts.l0 q l m (k : Int) X b i) true := by
  obtain ⟨hall, hc⟩ := chainS_ok h
  have hp : ∀ p ∈ l, 0 ≤ p ∧ p ≤ 10000 := fun p hp => okP4_iff.1 (List.all_eq_true.1 hall p hp)
  refine Ev.step (f := fun q => _) (fun q => by rw [law03_RateParts.l0.eq_2, if_neg hbi, if_pos (by omega), if_pos (by omega), Int.toNat_natCast]) ?_
  refine Ev.bind (chain_fS (by rw [List.length_take]; omega)) (Ev.bind (chain_fS (by rw [List.length_drop]; omega)) ?_)
  have t1 : (l.take k).all okP4 = true := List.all_eq_true.2 fun x hx => okP4_iff.2 (hp x (List.mem_of_mem_take hx))
  have t2 : (l.drop k).all okP4 = true := List.all_eq_true.2 fun x hx => okP4_iff.2 (hp x (List.mem_of_mem_drop hx))
  have hs : chainF 10000 l = if (chainF 10000 (l.take k)).2 = 0 then chainF (chainF 10000 (l.take k)).1 (l.drop k) else (0, 12) := by
    rw [← chainF_app, List.take_append_drop]
  have e1 : chainS (l.take k) = chainF 10000 (l.take k) := by unfold chainS; rw [if_pos t1]
  have e2 : chainS (l.drop k) = chainF 10000 (l.drop k) := by unfold chainS; rw [if_pos t2]
  rw [e1, e2]
  by_cases c1 : (chainF 10000 (l.take k)).2 = 0
  · rw [if_pos c1] at hs
    simp only [if_pos c1]
    obtain ⟨a, ea⟩ : ∃ a, chainF 10000 (l.take k) = (a, 0) := ⟨(chainF 10000 (l.take k)).1, by rw [← c1]⟩
    rw [ea] at hs ⊢
    by_cases c2 : (chainF 10000 (l.drop k)).2 = 0
    · simp only [if_pos c2]
      obtain ⟨b2, eb⟩ : ∃ a, chainF 10000 (l.drop k) = (a, 0) := ⟨(chainF 10000 (l.drop k)).1, by rw [← c2]⟩
      rw [eb]
      refine Ev.bind (chain_fS (by simp)) ?_
      obtain ⟨a1, a2, _⟩ := chainF_le _ _ _ (by omega) (fun p hq => hp p (List.mem_of_mem_take hq)) ea
      obtain ⟨b1, b3, _⟩ := chainF_le _ _ _ (by omega) (fun p hq => hp p (List.mem_of_mem_drop hq)) eb
      have sc := chainF_scale _ _ _ _ _ (hs.symm.trans hc) eb
      have : chainS [a, b2] = (m, 0) := by
        unfold chainS
        rw [if_pos (by simp [okP4]; omega)]
        show (if 10000 * a % 10000 = 0 then chainF (10000 * a / 10000) [b2] else (0, 12)) = _
        rw [if_pos (by omega), show 10000 * a / 10000 = a by omega]
        show (if a * b2 % 10000 = 0 then (a * b2 / 10000, 0) else (0, 12)) = _
        rw [sc, if_pos (by omega), show 10000 * m / 10000 = m by omega]
      rw [this]
      simp only [if_true, beq_self_eq_true]; exact Ev.now _
    · simp only [if_neg c2]
      rw [chainF_bad _ _ c2]; exact Ev.now _
  · rw [if_neg c1, hc] at hs; cases hs
theorem loop_p {l : List Int} (hl : l.length ≤ 200) {m : Int} (h : chainS l = (m, 0)) (k : Nat) (hk : k ≤ l.length) (T : List Int) : ∀ P : List Int, l = P ++ T → 
    Ev (fun q => law03_RateParts.l0 q l m (k : Int) l (l.length : Int) (P.length : Int)) true := by
  induction T with
  | nil => intro P hP; exact end_p hl h k hk (by rw [hP]; simp)
  | cons p T ih =>
    intro P hP
    have rr : rd l (P.length : Int) = p := by rw [hP]; unfold rd; rw [Int.toNat_natCast]; exact rd_int rfl rfl
    have hlen : (l.length : Int) = P.length + 1 + T.length := by rw [hP]; simp; omega
    obtain ⟨hall, hc⟩ := chainS_ok h
    have hp : ∀ p ∈ l, 0 ≤ p ∧ p ≤ 10000 := fun p hp => okP4_iff.1 (List.all_eq_true.1 hall p hp)
    obtain ⟨_, _, hle⟩ := chainF_le _ _ _ (by omega) hp hc
    have := hle p (by rw [hP]; simp)
    refine Ev.step (fun q => ?_) (ih (P ++ [p]) (by rw [hP]; simp))
    rw [law03_RateParts.l0.eq_2, if_pos (by omega), if_pos (by omega), if_pos (by omega), rr, if_neg (by omega), w64_in (by unfold I64; omega)]
    simp
theorem RateParts : law03_RateParts.Pure := by
  intro l a _ _ wa
  have ha := wf_u8 wa
  refine Ev.rounds (g := fun k => law03_RateParts.f k l a) ?_
  unfold law03_RateParts.f
  refine Ev.bind alive_f ?_
  simp only [if_true]
  by_cases c0 : (l.length : Int) > 200
  · simp only [if_pos c0]; exact Ev.now _
  simp only [if_neg c0]
  refine Ev.bind (chain_fS (by omega)) ?_
  have e1 : wrap64 ((l.length : Int) + 1) = l.length + 1 := w64_in (by unfold I64; omega)
  have e2 : wrap64 a = a := w64_in (by unfold I64; omega)
  obtain ⟨k, hk⟩ : ∃ k : Nat, Int.tmod a ((l.length : Int) + 1) = k := ⟨(Int.tmod a ((l.length : Int) + 1)).toNat, by
    rw [Int.tmod_eq_emod_of_nonneg (by omega)]; have := Int.emod_nonneg a (show (l.length : Int) + 1 ≠ 0 by omega); omega⟩
  have hk2 : k ≤ l.length := by
    rw [Int.tmod_eq_emod_of_nonneg (by omega)] at hk
    have := Int.emod_lt_of_pos a (show 0 < (l.length : Int) + 1 by omega)
    omega
  rw [e1, e2, hk]
  have t1 : (l.take k).length = k := by rw [List.length_take]; omega
  have t2 : (l.drop k).length = l.length - k := List.length_drop
  simp only [if_neg (show ¬ (l.length : Int) + 1 = 0 by omega), if_pos (show (0 : Int) ≤ (k : Int) by omega), if_pos (show (k : Int) ≤ (l.length : Int) by omega), Int.toNat_natCast, List.length_nil, Nat.zero_add, t1, List.nil_append, Option.bind_some,
    if_pos (show k < 17592186044416 by omega), List.length_cons, if_pos (show k + 1 < 17592186044416 by omega), List.length_append, t2, if_pos (show k + 1 + (l.length - k) < 17592186044416 by omega)]
  refine Ev.bind (chain_fS (by simp; omega)) ?_
  rw [chainS_more]
  simp only [if_true, bne_self_eq_false]
  refine Ev.step (f := fun q => _) (fun q => by rw [law03_RateParts.j0.eq_2, if_neg (by decide)]) ?_
  by_cases c : (chainS l).2 = 0
  · simp only [if_pos c]
    exact loop_p (by omega) (show chainS l = ((chainS l).1, 0) by rw [← c]) k hk2 l [] rfl
  · simp only [if_neg c, chainS_bad c, beq_self_eq_true]; exact Ev.now _
end Go.Proofs.YthidfomkgclkcaaDoor.Pure
