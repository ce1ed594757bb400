/- Proved: for all int64 amounts and up to 100 weights that are all the same, the parts differ by one at most and rise nowhere. No condition. -/
import Derived.Test.YtjfnhhfgjomliaaQx14
import Derived.Test.YtjfnhhfgjomliaaCByl
set_option linter.unusedVariables false
set_option linter.unusedSimpArgs false
namespace Go.Proofs.Ytjfnhhfgjomliaa.Pure
open Go.RowKit Go.Proofs.Ytjfnhhfgjomliaa.Q Go.Proofs.Ytjfnhhfgjomliaa.M Go.Proofs.YtjfnhhfgjomliaaW.PrintWords Go.Proofs.YtjfnhhfgjomliaaW.PrintLast

theorem even_l0 {a : Int} {n : Nat} {r : Bool} (hn : n ≤ 100) (hr : Ev (fun k => comptrollerlaw04_SplitEven.l0 k a (n : Int) (List.replicate n 7) 0 0) r) (d : Nat) :
    ∀ i : Nat, i + d = n → Ev (fun k => comptrollerlaw04_SplitEven.l0 k a (n : Int) (List.replicate i 7 ++ List.replicate d 0) (n : Int) (i : Int)) r := by
  induction d with
  | zero =>
    intro i hi
    have hi : i = n := by omega
    subst hi
    refine Ev.congr (fun k => ?_) hr
    cases k with
    | zero => rw [comptrollerlaw04_SplitEven.l0.eq_1, comptrollerlaw04_SplitEven.l0.eq_1]
    | succ k => rw [comptrollerlaw04_SplitEven.l0.eq_2, comptrollerlaw04_SplitEven.l0.eq_2, if_neg (by omega), if_neg (by omega)]; simp
  | succ d ih =>
    intro i hi
    refine Ev.step (fun k => ?_) (ih (i + 1) (by omega))
    have e : (List.replicate i (7 : Int) ++ List.replicate (d + 1) 0).set i 7 = List.replicate (i + 1) 7 ++ List.replicate d 0 := by
      rw [List.set_append_right _ _ (by simp), List.length_replicate, Nat.sub_self, List.replicate_succ, List.set_cons_zero, List.replicate_succ', List.append_assoc]; rfl
    have hlen : ((List.replicate i (7 : Int) ++ List.replicate (d + 1) 0).length : Int) = n := by simp; omega
    rw [comptrollerlaw04_SplitEven.l0.eq_2, hlen, if_pos (by omega), if_pos (by omega), if_pos (by omega), Int.toNat_natCast, e, w_one i (by omega)]
theorem even_l1 {a : Int} {L : List Int} {n : Nat} (hL : L.length = n) (hn : n ≤ 100) (hI : ∀ m, m < n → I64 (L.getD m 0))
    (h : ∀ i j, i ≤ j → j < n → (0 ≤ a → L.getD j 0 ≤ L.getD i 0 ∧ L.getD i 0 ≤ L.getD j 0 + 1) ∧ (a < 0 → L.getD i 0 ≤ L.getD j 0 ∧ L.getD j 0 ≤ L.getD i 0 + 1)) (d : Nat) :
    ∀ i : Nat, 1 ≤ i → i + d = n → Ev (fun k => comptrollerlaw04_SplitEven.l1 k a (n : Int) L (i : Int)) true := by
  induction d with
  | zero =>
    intro i h1 hi
    refine Ev.step (f := fun _ => some _) (fun k => ?_) (Ev.now _)
    rw [comptrollerlaw04_SplitEven.l1.eq_2, if_neg (by omega)]
  | succ d ih =>
    intro i h1 hi
    refine Ev.step (fun k => ?_) (ih (i + 1) (by omega) (by omega))
    have e0 : rd L 0 = L.getD 0 0 := rfl
    have e1 : rd L (i : Int) = L.getD i 0 := by unfold rd; rw [Int.toNat_natCast]
    have e2 : rd L ((i - 1 : Nat) : Int) = L.getD (i - 1) 0 := by unfold rd; rw [Int.toNat_natCast]
    have g1 := h (i - 1) i (by omega) (by omega)
    have g2 := h 0 i (by omega) (by omega)
    have i0 := hI 0 (by omega)
    have i1 := hI i (by omega)
    have i2 := hI (i - 1) (by omega)
    rw [comptrollerlaw04_SplitEven.l1.eq_2, w_pred i (by omega) (by omega), e0, e1, e2, hL, if_pos (show (i : Int) < n by omega), if_pos (by omega), if_pos (by omega), if_pos (by omega), if_pos (show (i : Int) < n by omega), w_one i (by omega)]
    generalize L.getD 0 0 = x at *
    generalize L.getD i 0 = y at *
    generalize L.getD (i - 1) 0 = z at *
    have f1 : wrap64 (z - y) = z - y := by
      rcases Int.lt_or_le a 0 with c | c
      · have := g1.2 c; exact w64_in (by unfold I64; omega)
      · have := g1.1 c; exact w64_in (by unfold I64; omega)
    have f2 : wrap64 (x - y) = x - y := by
      rcases Int.lt_or_le a 0 with c | c
      · have := g2.2 c; exact w64_in (by unfold I64; omega)
      · have := g2.1 c; exact w64_in (by unfold I64; omega)
    rw [f1, f2]
    by_cases c : a ≥ 0
    · have := g1.1 c
      have := g2.1 c
      rw [if_pos c, if_neg (by omega), if_pos (by omega), if_neg (by omega), if_neg (by omega)]
    · have := g1.2 (by omega)
      have := g2.2 (by omega)
      rw [if_neg c, if_pos (by omega), if_neg (by omega), if_pos (by omega), if_neg (by omega)]
theorem SplitEven : comptrollerlaw04_SplitEven.Pure := by
  intro a c wa wc
  have ha := wf_i64 wa
  have hc : 0 ≤ c ∧ c ≤ 255 := by
    have := wc; simp [Lit.wf, IntKind.min, IntKind.max, IntKind.bits, IntKind.signed] at this; omega
  refine Ev.rounds (g := fun k => comptrollerlaw04_SplitEven.f k a c) ?_
  unfold comptrollerlaw04_SplitEven.f
  refine Ev.bind alive_f ?_
  simp only [if_true]
  have e1 : wrap64 c = c := w64_in (by unfold I64; omega)
  have e2 : Int.tmod c 100 = c % 100 := Int.tmod_eq_emod_of_nonneg hc.1
  obtain ⟨n, hn⟩ : ∃ n : Nat, (n : Int) = c % 100 + 1 := ⟨(c % 100 + 1).toNat, by omega⟩
  have e3 : wrap64 (c % 100 + 1) = (n : Int) := by rw [w64_in (by unfold I64; omega), hn]
  have hn1 : 1 ≤ n ∧ n ≤ 100 := by omega
  simp only [e1, e2, e3, Option.bind_some, Int.toNat_natCast, List.length_replicate, if_pos (show (0 : Int) ≤ (n : Int) by omega), if_pos (show n ≤ 35184372088832 by omega)]
  obtain ⟨l, hl⟩ : ∃ l : List Int, l = List.replicate n 7 := ⟨_, rfl⟩
  have hlen : l.length = n := by rw [hl]; simp
  have hw : ∀ i, i < n → wN l i = 7 := by
    intro i hi
    unfold wN; rw [hl, List.getD_eq_getElem?_getD, List.getElem?_replicate, if_pos hi]; rfl
  have htot : tot (wN l) l.length = n * 7 := by
    rw [hlen, tot_congr (g := fun _ => 7) n (fun i hi => hw i hi), tot_const]
  have hmem : ∀ x ∈ l, x = 7 := by intro x hx; rw [hl] at hx; exact (List.mem_replicate.1 hx).2
  have herr : byErr l = 0 := byErr_ok (by omega) (fun x hx => by have := hmem x hx; omega) (by omega) (by omega)
  obtain ⟨L, hE, _, hok⟩ := by_split ha (l := l) (fun x hx => by have := hmem x hx; unfold I64; omega)
  rw [herr] at hE
  obtain ⟨S, left, δ, h1, h2, h3, h4, h5, h6, h7, h8, h9, h10, h11⟩ := byok_val (hok herr)
  rw [hlen] at h5 h6 h7 h8 h9 h10 h11
  have hA := ab_le ha
  have hcs := ab_cases a
  have main : Ev (fun k => comptrollerlaw04_SplitEven.l1 k a (n : Int) L (1 : Int)) true := by
    refine even_l1 h6 hn1.2 ?_ ?_ (n - 1) 1 (by omega) (by omega)
    · intro m hm
      have := h7 m hm
      have := h9 m hm
      have := h10 m hm
      unfold I64 at *
      by_cases c : a < 0
      · rw [if_pos c] at *; split at * <;> omega
      · rw [if_neg c] at *; split at * <;> omega
    · intro i j hij hj
      have v1 := h7 i (by omega)
      have v2 := h7 j hj
      rw [hw i (by omega)] at v1
      rw [hw j hj] at v2
      have ho : δ j = true → δ i = true := by
        intro hd
        apply Classical.byContradiction
        intro hne
        have := h5.ord j i hj (by omega) hd (by simpa using hne)
        simp only [hw i (by omega), hw j hj] at this
        omega
      rw [v1, v2]
      clear v1 v2 h5 h7 h8 h9 h10 h11
      generalize ab a * 7 / S = q
      have e7 : (if δ j = true then (1 : Int) else 0) ≤ (if δ i = true then (1 : Int) else 0) ∧ 0 ≤ (if δ j = true then (1 : Int) else 0) ∧ (if δ i = true then (1 : Int) else 0) ≤ 1 := by
        by_cases d1 : δ j = true
        · rw [if_pos d1, if_pos (ho d1)]; omega
        · rw [if_neg d1]; split <;> omega
      generalize (if δ j = true then (1 : Int) else 0) = x at *
      generalize (if δ i = true then (1 : Int) else 0) = y at *
      constructor
      · intro c
        simp only [if_neg (show ¬ a < 0 by omega)]
        omega
      · intro c
        simp only [if_pos c]
        omega
  have h2 : Ev (fun k => comptrollerlaw04_SplitEven.l0 k a (n : Int) l 0 0) true := by
    refine Ev.step (fun k => ?_) (Ev.bind (f := fun k t => if t.2 = 0 then (comptrollerlaw04_SplitEven.j1 k a (n : Int) t.1 ((t.1.length : Int) != (n : Int))) else (comptrollerlaw04_SplitEven.j1 k a (n : Int) t.1 true)) hE ?_)
    · rw [comptrollerlaw04_SplitEven.l0.eq_2, if_neg (by omega)]
    · simp only [if_true, h6]
      refine Ev.step (fun k => ?_) main
      rw [comptrollerlaw04_SplitEven.j1.eq_2, if_neg (by simp)]
  rw [hl] at h2
  exact even_l0 hn1.2 h2 n 0 (by omega)
end Go.Proofs.Ytjfnhhfgjomliaa.Pure
