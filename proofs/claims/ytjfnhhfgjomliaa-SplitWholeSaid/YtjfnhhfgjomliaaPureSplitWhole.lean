/- Proved: for all int64 amounts and lists of int64 weights, all parts together are the amount, none has another sign, none is as far as one from its fraction, what has no weight has nothing. No condition but what Go itself can hold. -/
import Derived.Test.YtjfnhhfgjomliaaQx11
import Derived.Test.YtjfnhhfgjomliaaCByl
import Derived.Test.YtjfnhhfgjomliaaR2Cmp
set_option linter.unusedVariables false
set_option linter.unusedSimpArgs false
namespace Go.Proofs.Ytjfnhhfgjomliaa.Pure
open Go.RowKit Go.Proofs.Ytjfnhhfgjomliaa.Q Go.Proofs.Ytjfnhhfgjomliaa.M Go.Proofs.YtjfnhhfgjomliaaW.PrintWords Go.Proofs.YtjfnhhfgjomliaaW.PrintLast

theorem whole_l0 {a S : Int} {l L : List Int} {r : Bool} (hl : l.length ≤ 100) (hLl : L.length = l.length) (hS : tot (wN l) l.length = S) (hSI : I64 S) (hw : ∀ m, m < l.length → 0 ≤ wN l m)
    (hr : Ev (fun k => comptrollerlaw04_SplitWhole.l1 k a l S 0 L (l.length : Int) 0) r) (d : Nat) :
    ∀ i : Nat, i + d = l.length → Ev (fun k => comptrollerlaw04_SplitWhole.l0 k a l L (tot (wN l) i) 0 l (l.length : Int) (i : Int)) r := by
  induction d with
  | zero =>
    intro i hi
    have hi : i = l.length := by omega
    subst hi
    refine Ev.step (fun k => ?_) hr
    rw [comptrollerlaw04_SplitWhole.l0.eq_2, if_neg (by omega), if_pos (by omega), hS, hLl]
  | succ d ih =>
    intro i hi
    have e : rd l (i : Int) = wN l i := by unfold rd wN; rw [Int.toNat_natCast]
    have h1 := tot_nonneg i (fun j hj => hw j (by omega))
    have h2 : tot (wN l) (i + 1) ≤ tot (wN l) l.length := by
      have : ∀ n m, n ≤ m → m ≤ l.length → tot (wN l) n ≤ tot (wN l) m := by
        intro n m hnm
        induction m with
        | zero => intro _; have : n = 0 := by omega
                  subst this; exact Int.le_refl _
        | succ m ih =>
          intro hm
          by_cases c : n = m + 1
          · subst c; exact Int.le_refl _
          · have := ih (by omega) (by omega)
            have := hw m (by omega)
            simp only [tot]; omega
      exact this _ _ (by omega) (Nat.le_refl _)
    have hwi := hw i (by omega)
    have e2 : wrap64 (tot (wN l) i + wN l i) = tot (wN l) (i + 1) := by
      rw [tot] at h2 ⊢; exact w64_in (by unfold I64 at *; omega)
    refine Ev.step (fun k => ?_) (ih (i + 1) (by omega))
    rw [comptrollerlaw04_SplitWhole.l0.eq_2, if_pos (by omega), if_pos (by omega), if_pos (by omega), e, e2, w_one i (by omega)]
theorem whole_l1 {a S : Int} {l L : List Int} (ha : I64 a) (hSI : I64 S) (hl : l.length ≤ 100) (hLl : L.length = l.length) (hw : ∀ m, m < l.length → 0 ≤ wN l m ∧ wN l m ≤ S) (hI : ∀ m, m < l.length → I64 (wN L m))
    (hs : ∀ m, m < l.length → (a < 0 → wN L m ≤ 0) ∧ (¬ a < 0 → 0 ≤ wN L m)) (hz : ∀ m, m < l.length → wN l m = 0 → wN L m = 0)
    (hlo : ∀ m, m < l.length → (wN L m - 1) * S < a * wN l m) (hhi : ∀ m, m < l.length → a * wN l m < (wN L m + 1) * S)
    (hT : wrap64 (tot (wN L) l.length) = a) (d : Nat) :
    ∀ i : Nat, i + d = l.length → Ev (fun k => comptrollerlaw04_SplitWhole.l1 k a l S (wrap64 (tot (wN L) i)) L (l.length : Int) (i : Int)) true := by
  induction d with
  | zero =>
    intro i hi
    have hi : i = l.length := by omega
    subst hi
    refine Ev.step (f := fun _ => some _) (fun k => ?_) (Ev.now _)
    rw [comptrollerlaw04_SplitWhole.l1.eq_2, if_neg (by omega), hT]; simp
  | succ d ih =>
    intro i hi
    have e : rd L (i : Int) = wN L i := by unfold rd wN; rw [Int.toNat_natCast]
    have e1 : rd l (i : Int) = wN l i := by unfold rd wN; rw [Int.toNat_natCast]
    have e2 : wrap64 (wrap64 (tot (wN L) i) + wN L i) = wrap64 (tot (wN L) (i + 1)) := by
      rw [tot]; unfold wrap64; omega
    have him : i < l.length := by omega
    have hsi := hs i him
    have hzi := hz i him
    have hj : Ev (fun k => comptrollerlaw04_SplitWhole.j2 k a l S (wrap64 (tot (wN L) (i + 1))) (i : Int) (wN L i) L (l.length : Int) (i : Int) false) true := by
      have hn := ih (i + 1) (by omega)
      by_cases c1 : wN L i > -4611686018427387904
      · by_cases c2 : wN L i < 4611686018427387904
        · have w1 : wrap64 (wN L i - 1) = wN L i - 1 := w64_in (by unfold I64; omega)
          have w2 : wrap64 (wN L i + 1) = wN L i + 1 := w64_in (by unfold I64; omega)
          have hwi : I64 (wN l i) := by have := hw i him; unfold I64 at *; omega
          have k1 := rcmp_f (a := wN L i - 1) (b := S) (c := a) (d := wN l i) (by unfold I64; omega) hSI ha hwi
          have k2 := rcmp_f (a := wN L i + 1) (b := S) (c := a) (d := wN l i) (by unfold I64; omega) hSI ha hwi
          have v1 : cmpI ((wN L i - 1) * S) (a * wN l i) = -1 := by unfold cmpI; rw [if_pos (hlo i him)]
          have v2 : cmpI ((wN L i + 1) * S) (a * wN l i) = 1 := by
            have := hhi i him
            unfold cmpI; rw [if_neg (by omega), if_pos this]
          rw [v1] at k1; rw [v2] at k2
          refine Ev.step (fun k => ?_) (Ev.bind (f := fun k t => if t ≥ 0 then (some false) else ((comptrollerref02_Cmp.f k (wN L i + 1) S a (wN l i)).bind fun t347 => (if t347 ≤ 0 then (some false) else (comptrollerlaw04_SplitWhole.l1 k a l S (wrap64 (tot (wN L) (i + 1))) L (l.length : Int) ((i + 1 : Nat) : Int))))) k1 ?_)
          · rw [comptrollerlaw04_SplitWhole.j2.eq_2, if_neg (by decide), if_pos c1, if_pos c2, if_pos (by omega), if_pos (by omega), w1, w2, e1, w_one i (by omega)]
          · simp only [if_neg (show ¬ ((-1 : Int) ≥ 0) by omega)]
            refine Ev.bind (f := fun k t347 => if t347 ≤ 0 then (some false) else (comptrollerlaw04_SplitWhole.l1 k a l S (wrap64 (tot (wN L) (i + 1))) L (l.length : Int) ((i + 1 : Nat) : Int))) k2 ?_
            simp only [if_neg (show ¬ ((1 : Int) ≤ 0) by omega)]
            exact hn
        · refine Ev.step (fun k => ?_) hn
          rw [comptrollerlaw04_SplitWhole.j2.eq_2, if_neg (by decide), if_pos c1, if_neg c2, w_one i (by omega)]
      · refine Ev.step (fun k => ?_) hn
        rw [comptrollerlaw04_SplitWhole.j2.eq_2, if_neg (by decide), if_neg c1, w_one i (by omega)]
    refine Ev.step (fun k => ?_) hj
    rw [comptrollerlaw04_SplitWhole.l1.eq_2, if_pos (by omega), if_pos (by omega), if_pos (by omega), e, e1, e2]
    have hb : ∀ X : Option Bool, (if (i : Int) < (l.length : Int) then (if wN l i = 0 then (comptrollerlaw04_SplitWhole.j2 k a l S (wrap64 (tot (wN L) (i + 1))) (i : Int) (wN L i) L (l.length : Int) (i : Int) (wN L i != 0)) else (comptrollerlaw04_SplitWhole.j2 k a l S (wrap64 (tot (wN L) (i + 1))) (i : Int) (wN L i) L (l.length : Int) (i : Int) false)) else X) = comptrollerlaw04_SplitWhole.j2 k a l S (wrap64 (tot (wN L) (i + 1))) (i : Int) (wN L i) L (l.length : Int) (i : Int) false := by
      intro X
      rw [if_pos (by omega)]
      by_cases c : wN l i = 0
      · rw [if_pos c, hzi c]; rfl
      · rw [if_neg c]
    by_cases c1 : wN L i > 0
    · have ca : ¬ a < 0 := fun h => by have := hsi.1 h; omega
      rw [if_pos c1, if_neg ca, if_neg (by omega), hb]
    · rw [if_neg c1]
      by_cases c2 : wN L i < 0
      · have ca : ¬ a > 0 := fun h => by have := hsi.2 (by omega); omega
        rw [if_pos c2, if_neg ca, hb]
      · rw [if_neg c2, hb]
theorem SplitWhole : comptrollerlaw04_SplitWhole.Pure := by
  intro a l wa hlen0 hmem0
  have ha := wf_i64 wa
  have hmem : ∀ x ∈ l, I64 x := fun x hx => wf_i64 (hmem0 x hx)
  refine Ev.rounds (g := fun k => comptrollerlaw04_SplitWhole.f k a l) ?_
  unfold comptrollerlaw04_SplitWhole.f
  refine Ev.bind alive_f ?_
  simp only [if_true]
  by_cases c0 : (l.length : Int) > 200
  · simp only [if_pos c0]; exact Ev.now _
  simp only [if_neg c0]
  obtain ⟨L, hE, hno, hok⟩ := by_split ha hmem
  refine Ev.bind hE ?_
  by_cases herr : byErr l = 0
  · simp only [if_pos herr]
    obtain ⟨S, left, δ, h1, h2, h3, h4, h5, h6, h7, h8, h9, h10, h11⟩ := byok_val (hok herr)
    have hl100 : l.length ≤ 100 := by
      rcases Nat.lt_or_ge 100 l.length with c | c
      · exfalso; unfold byErr at herr; rw [if_pos c] at herr; exact absurd herr (by decide)
      · exact c
    have hA := ab_le ha
    have hcs := ab_cases a
    have hv : ∀ m, m < l.length → wN L m = if a < 0 then -(ab a * wN l m / S + if δ m = true then 1 else 0) else ab a * wN l m / S + if δ m = true then 1 else 0 := h7
    -- a part lies within one of its fraction
    have near : ∀ m, m < l.length → (ab a * wN l m / S + (if δ m = true then 1 else 0) - 1) * S < ab a * wN l m ∧ ab a * wN l m < (ab a * wN l m / S + (if δ m = true then 1 else 0) + 1) * S := by
      intro m hm
      have e := Int.mul_ediv_add_emod (ab a * wN l m) S
      have hr := rest_bd (A := ab a) h1 (wN l m)
      have hz := h11 m hm
      generalize ab a * wN l m / S = q at *
      generalize ab a * wN l m % S = t at *
      have e3 : S * q = q * S := Int.mul_comm S q
      rw [Int.sub_mul, Int.add_mul, Int.add_mul, Int.add_mul, Int.one_mul]
      by_cases d : δ m = true
      · have : t ≠ 0 := fun h => by have := hz h; rw [d] at this; exact absurd this (by decide)
        rw [if_pos d]; omega
      · rw [if_neg d]; omega
    have hI : ∀ m, m < l.length → I64 (wN L m) := by
      intro m hm
      have g1 := h9 m hm
      have g2 := h10 m hm
      have g3 : (0 : Int) ≤ if δ m = true then 1 else 0 := by split <;> omega
      rw [hv m hm]
      unfold I64 at *
      generalize (if δ m = true then (1 : Int) else 0) = x at *
      generalize ab a * wN l m / S = q at *
      clear h7 hv near h9 h10 h11 h5
      by_cases c : a < 0
      · rw [if_pos c]; omega
      · rw [if_neg c]; omega
    have hT : tot (wN L) l.length = a := by
      have t1 : tot (fun m => ab a * wN l m / S + if δ m = true then 1 else 0) l.length = ab a := by
        rw [tot_add (fun m => ab a * wN l m / S) (fun m => if δ m = true then 1 else 0), tot_cnt, h5.cnt, h4]; omega
      by_cases c : a < 0
      · rw [tot_congr (g := fun m => (-1) * (ab a * wN l m / S + if δ m = true then 1 else 0)) l.length (fun m hm => by rw [hv m hm, if_pos c]; omega), tot_mul, t1]; omega
      · rw [tot_congr (g := fun m => ab a * wN l m / S + if δ m = true then 1 else 0) l.length (fun m hm => by rw [hv m hm, if_neg c]), t1]; omega
    have hab : ∀ x, a < 0 → a * x = -(ab a * x) := by
      intro x c; rw [show ab a = -a by omega, Int.neg_mul]; omega
    have hab2 : ∀ x, ¬ a < 0 → a * x = ab a * x := by
      intro x c; rw [show ab a = a by omega]
    have base : Ev (fun k => comptrollerlaw04_SplitWhole.l1 k a l S 0 L (l.length : Int) 0) true := by
      have := whole_l1 (a := a) (S := S) (l := l) (L := L) ha h3 hl100 h6 h8 hI (fun m hm => ?_) (fun m hm hz => ?_) (fun m hm => ?_) (fun m hm => ?_) (by rw [hT]; exact w64_in ha) l.length 0 (by omega)
      · rw [show wrap64 (tot (wN L) 0) = 0 from by unfold tot wrap64; omega] at this; exact this
      · have g2 := h10 m hm
        have g3 : (0 : Int) ≤ if δ m = true then 1 else 0 := by split <;> omega
        rw [hv m hm]
        constructor
        · intro c; rw [if_pos c]; omega
        · intro c; rw [if_neg c]; omega
      · have : δ m = false := h11 m hm (by rw [hz]; simp)
        rw [hv m hm, hz, this]; simp
      · have := near m hm
        rw [hv m hm]
        by_cases c : a < 0
        · rw [if_pos c, hab _ c, show ∀ y : Int, (-y - 1) = -(y + 1) by intro y; omega, Int.neg_mul]; omega
        · rw [if_neg c, hab2 _ c]; exact this.1
      · have := near m hm
        rw [hv m hm]
        by_cases c : a < 0
        · rw [if_pos c, hab _ c, show ∀ y : Int, (-y + 1) = -(y - 1) by intro y; omega, Int.neg_mul]; omega
        · rw [if_neg c, hab2 _ c]; exact this.2
    exact whole_l0 hl100 h6 h2 h3 (fun m hm => (h8 m hm).1) base l.length 0 (by omega)
  · simp only [if_neg herr]
    rw [hno herr]
    exact Ev.now _
end Go.Proofs.Ytjfnhhfgjomliaa.Pure
