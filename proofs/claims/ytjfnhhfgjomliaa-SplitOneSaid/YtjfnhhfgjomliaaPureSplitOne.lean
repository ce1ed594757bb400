/- Proved: for all int64 amounts, one weight of 3 among so many of 0 has all, the others have nothing. No condition. -/
import Derived.Test.YtjfnhhfgjomliaaQx15
import Derived.Test.YtjfnhhfgjomliaaCByl
set_option linter.unusedVariables false
set_option linter.unusedSimpArgs false
namespace Go.Proofs.Ytjfnhhfgjomliaa.Pure
open Go.RowKit Go.Proofs.Ytjfnhhfgjomliaa.Q Go.Proofs.Ytjfnhhfgjomliaa.M Go.Proofs.YtjfnhhfgjomliaaW.PrintWords Go.Proofs.YtjfnhhfgjomliaaW.PrintLast

theorem one_l0 {a b : Int} {L : List Int} {n j : Nat} (hL : L.length = n) (hn : n ≤ 50) (hj : j < n) (hb : Int.tmod (wrap64 b) (n : Int) = (j : Int)) (hv : ∀ m, m < n → L.getD m 0 = if m = j then a else 0) (d : Nat) :
    ∀ i : Nat, i + d = n → Ev (fun k => comptrollerlaw04_SplitOne.l0 k a b (n : Int) L (n : Int) (i : Int)) true := by
  induction d with
  | zero =>
    intro i hi
    refine Ev.step (f := fun _ => some _) (fun k => ?_) (Ev.now _)
    rw [comptrollerlaw04_SplitOne.l0.eq_2, if_neg (by omega)]
  | succ d ih =>
    intro i hi
    have e : rd L (i : Int) = if i = j then a else 0 := by unfold rd; rw [Int.toNat_natCast]; exact hv i (by omega)
    refine Ev.step (fun k => ?_) (ih (i + 1) (by omega))
    rw [comptrollerlaw04_SplitOne.l0.eq_2, if_pos (by omega), if_pos (by omega), if_pos (by omega), if_neg (by omega), hb, e]
    by_cases c : i = j
    · rw [if_pos (by omega), if_pos c, if_pos rfl, w_one i (by omega)]
    · rw [if_neg (by omega), if_neg c, if_pos rfl, w_one i (by omega)]
theorem SplitOne : comptrollerlaw04_SplitOne.Pure := by
  intro a b c wa wb wc
  have ha := wf_i64 wa
  have hb : 0 ≤ b ∧ b ≤ 255 := by
    have := wb; simp [Lit.wf, IntKind.min, IntKind.max, IntKind.bits, IntKind.signed] at this; omega
  have hc : 0 ≤ c ∧ c ≤ 255 := by
    have := wc; simp [Lit.wf, IntKind.min, IntKind.max, IntKind.bits, IntKind.signed] at this; omega
  refine Ev.rounds (g := fun k => comptrollerlaw04_SplitOne.f k a b c) ?_
  unfold comptrollerlaw04_SplitOne.f
  refine Ev.bind alive_f ?_
  simp only [if_true]
  have e0 : wrap64 b = b := w64_in (by unfold I64; omega)
  have e1 : wrap64 c = c := w64_in (by unfold I64; omega)
  have e2 : Int.tmod c 50 = c % 50 := Int.tmod_eq_emod_of_nonneg hc.1
  obtain ⟨n, hn⟩ : ∃ n : Nat, (n : Int) = c % 50 + 1 := ⟨(c % 50 + 1).toNat, by omega⟩
  have e3 : wrap64 (c % 50 + 1) = (n : Int) := by rw [w64_in (by unfold I64; omega), hn]
  have hn1 : 1 ≤ n ∧ n ≤ 50 := by omega
  have e4 : Int.tmod b n = b % n := Int.tmod_eq_emod_of_nonneg hb.1
  obtain ⟨j, hj⟩ : ∃ j : Nat, (j : Int) = b % (n : Int) := ⟨(b % n).toNat, by have := Int.emod_nonneg b (show (n : Int) ≠ 0 by omega); omega⟩
  have hjn : j < n := by have := Int.emod_lt_of_pos b (show (0 : Int) < n by omega); omega
  have e5 : Int.tmod (wrap64 b) (n : Int) = (j : Int) := by rw [e0, e4, hj]
  simp only [e1, e2, e3, e5]
  simp only [Option.bind_some, Int.toNat_natCast, List.length_replicate, if_pos (show (0 : Int) ≤ (n : Int) by omega), if_pos (show n ≤ 35184372088832 by omega), if_neg (show ¬ (n : Int) = 0 by omega), if_pos (show (0 : Int) ≤ (j : Int) by omega), if_pos (show (j : Int) < (n : Int) by omega)]
  obtain ⟨l, hl⟩ : ∃ l : List Int, l = (List.replicate n 0).set j 3 := ⟨_, rfl⟩
  have hlen : l.length = n := by rw [hl]; simp
  have hw : ∀ i, i < n → wN l i = if i = j then 3 else 0 := by
    intro i hi
    unfold wN; rw [hl, List.getD_eq_getElem?_getD, List.getElem?_set]
    by_cases c : j = i
    · rw [if_pos c, if_pos (by simp; omega), if_pos c.symm]; rfl
    · rw [if_neg c, if_neg (fun h => c h.symm), List.getElem?_replicate, if_pos hi]; rfl
  have htot : tot (wN l) l.length = 3 := by
    rw [hlen, tot_congr (g := fun i => if i = j then 3 else 0) n (fun i hi => hw i hi), tot_single 3 j n hjn]
  have hmem : ∀ x ∈ l, x = 0 ∨ x = 3 := by
    intro x hx
    obtain ⟨i, hi, rfl⟩ := List.mem_iff_getElem.1 hx
    have : wN l i = l[i] := by unfold wN; rw [List.getD_eq_getElem?_getD, List.getElem?_eq_getElem hi]; rfl
    rw [← this, hw i (by omega)]; split <;> simp
  have herr : byErr l = 0 := byErr_ok (by omega) (fun x hx => by have := hmem x hx; omega) (by omega) (by omega)
  obtain ⟨L, hE, _, hok⟩ := by_split ha (l := l) (fun x hx => by have := hmem x hx; unfold I64; omega)
  rw [herr] at hE
  obtain ⟨S, left, δ, h1, h2, h3, h4, h5, h6, h7, h8, h9, h10, h11⟩ := byok_val (hok herr)
  have hS : S = 3 := by omega
  subst hS
  rw [hlen] at h6 h7 h8 h9 h10 h11
  rw [← hl]
  refine Ev.bind hE ?_
  simp only [if_true, h6]
  have hval : ∀ m, m < n → L.getD m 0 = if m = j then a else 0 := by
    intro m hm
    have hz : ab a * wN l m % 3 = 0 := by rw [hw m hm]; split <;> omega
    have hd := h11 m hm hz
    have hcs := ab_cases a
    rw [h7 m hm, hd, hw m hm]
    simp only [Bool.false_eq_true, if_false]
    by_cases c : m = j
    · rw [if_pos c, if_pos c]; split <;> omega
    · rw [if_neg c, if_neg c]; split <;> omega
  have hb0 : (((n : Int)) != (n : Int)) = false := by simp
  rw [hb0]
  refine Ev.step (fun k => ?_) (one_l0 (b := b) h6 hn1.2 hjn e5 hval n 0 (by omega))
  rw [comptrollerlaw04_SplitOne.j0.eq_2, if_neg (by simp), h6]; rfl
end Go.Proofs.Ytjfnhhfgjomliaa.Pure
