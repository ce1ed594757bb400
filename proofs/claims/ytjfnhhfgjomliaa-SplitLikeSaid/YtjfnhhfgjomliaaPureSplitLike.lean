/- Proved: for all int64 amounts, lists of int16 weights and factors, weights that are all times a number make the same parts, and weights that are the same have parts that differ by one at most, the first ones more. No condition but what Go itself can hold. -/
import Derived.Test.YtjfnhhfgjomliaaQx12
import Derived.Test.YtjfnhhfgjomliaaCByl
set_option linter.unusedVariables false
set_option linter.unusedSimpArgs false
namespace Go.Proofs.Ytjfnhhfgjomliaa.Pure
open Go.RowKit Go.Proofs.Ytjfnhhfgjomliaa.Q Go.Proofs.Ytjfnhhfgjomliaa.M Go.Proofs.YtjfnhhfgjomliaaW.PrintWords Go.Proofs.YtjfnhhfgjomliaaW.PrintLast

def oneF (x : Int) : Int := Go.bits .and .i64 (wrap64 x) 1023
theorem oneF_bd (x : Int) : 0 ≤ oneF x ∧ oneF x ≤ 1023 := by
  have e : oneF x = (BitVec.ofInt 64 (wrap64 x) &&& BitVec.ofInt 64 1023).toInt := wrap_toInt _
  have h : (BitVec.ofInt 64 (wrap64 x) &&& BitVec.ofInt 64 1023).toNat ≤ 1023 := by
    rw [BitVec.toNat_and]; exact Nat.and_le_right
  rw [e, BitVec.toInt_eq_toNat_cond]
  split <;> omega
theorem like_l0 {a b c : Int} {l : List Int} {r : Bool} (hb : wrap64 (wrap64 b + 1) = c) (hc : 1 ≤ c ∧ c ≤ 256) (hl : l.length ≤ 200) (hr : Ev (fun k => comptrollerlaw04_SplitLike.l0 k a b (l.map oneF) (l.map (fun x => oneF x * c)) [] 0 0) r) (T : List Int) :
    ∀ (P : List Int) (i : Nat), l = P ++ T → P.length = i → Ev (fun k => comptrollerlaw04_SplitLike.l0 k a b (P.map oneF) (P.map (fun x => oneF x * c)) l (l.length : Int) (i : Int)) r := by
  induction T with
  | nil =>
    intro P i e hi
    have hP : P = l := by rw [e]; simp
    subst hP
    refine Ev.congr (fun k => ?_) hr
    cases k with
    | zero => rw [comptrollerlaw04_SplitLike.l0.eq_1, comptrollerlaw04_SplitLike.l0.eq_1]
    | succ k => rw [comptrollerlaw04_SplitLike.l0.eq_2, comptrollerlaw04_SplitLike.l0.eq_2, if_neg (by omega), if_neg (by omega)]
  | cons x T ih =>
    intro P i e hi
    have hlen : l.length = i + 1 + T.length := by rw [e]; simp; omega
    have r1 : rd l (i : Int) = x := by unfold rd; rw [Int.toNat_natCast]; exact rd_int e hi
    have hx := oneF_bd x
    have hm : 0 ≤ oneF x * c ∧ oneF x * c ≤ 1023 * 256 := ⟨Int.mul_nonneg hx.1 (by omega), Int.mul_le_mul hx.2 hc.2 (by omega) (by omega)⟩
    have e2 : wrap64 (oneF x * c) = oneF x * c := w64_in (by unfold I64; omega)
    have := ih (P ++ [x]) (i + 1) (by rw [e]; simp) (by simp; omega)
    refine Ev.step (fun k => ?_) this
    rw [comptrollerlaw04_SplitLike.l0.eq_2, if_pos (by omega), if_pos (by omega), if_pos (by omega), if_pos (by rw [List.length_map]; omega), if_pos (by rw [List.length_map]; omega), r1, hb, show Go.bits .and .i64 (wrap64 x) 1023 = oneF x from rfl, e2, w_one i (by omega), List.map_append, List.map_append]
    rfl
theorem like_l2 {a : Int} {o L : List Int} {n i : Nat} {r : Bool} (ho : o.length = n) (hL : L.length = n) (hn : n ≤ 200) (hi : i < n) (hI : ∀ m, m < n → -9223372036854775808 < wN L m ∧ wN L m < 9223372036854775807 ∨ True)
    (h : ∀ k, k < i → wN o i = wN o k → wN L i = wN L k ∨ (0 < a → wN L i = wrap64 (wN L k - 1)) ∧ (a < 0 → wN L i = wrap64 (wN L k + 1)))
    (hr : Ev (fun k => comptrollerlaw04_SplitLike.l1 k a o L (n : Int) ((i + 1 : Nat) : Int)) r) (d : Nat) :
    ∀ j : Nat, j + d = i → Ev (fun k => comptrollerlaw04_SplitLike.l2 k a o L (i : Int) (n : Int) (i : Int) (i : Int) (j : Int)) r := by
  induction d with
  | zero =>
    intro j hj
    refine Ev.step (fun k => ?_) hr
    rw [comptrollerlaw04_SplitLike.l2.eq_2, if_neg (by omega), w_one i (by omega)]
  | succ d ih =>
    intro j hj
    have e1 : ∀ (K : List Int) (m : Nat), rd K (m : Int) = wN K m := fun K m => by unfold rd wN; rw [Int.toNat_natCast]
    refine Ev.step (fun k => ?_) (ih (j + 1) (by omega))
    rw [comptrollerlaw04_SplitLike.l2.eq_2, if_pos (by omega), if_pos (by omega), if_pos (by omega), if_pos (by omega), if_pos (by omega), e1 o i, e1 o j, e1 L i, e1 L j, w_one j (by omega), if_pos (show (i : Int) < (L.length : Int) by omega), if_pos (show (j : Int) < (L.length : Int) by omega)]
    by_cases c1 : wN o i = wN o j
    · rw [if_pos c1]
      by_cases c2 : wN L i = wN L j
      · rw [if_pos c2]
      · rw [if_neg c2]
        have hh := h j (by omega) c1
        have hh : (0 < a → wN L i = wrap64 (wN L j - 1)) ∧ (a < 0 → wN L i = wrap64 (wN L j + 1)) := by
          rcases hh with h | h
          · exact absurd h c2
          · exact h
        by_cases c3 : a > 0
        · rw [if_pos c3, if_pos (hh.1 c3), if_neg (by omega)]
        · rw [if_neg c3]
          by_cases c4 : a < 0
          · rw [if_pos c4, if_pos (hh.2 c4)]
          · rw [if_neg c4]
    · rw [if_neg c1]
theorem like_l1 {a : Int} {o L : List Int} {n : Nat} (ho : o.length = n) (hL : L.length = n) (hn : n ≤ 200)
    (h : ∀ i k, i < n → k < i → wN o i = wN o k → wN L i = wN L k ∨ (0 < a → wN L i = wrap64 (wN L k - 1)) ∧ (a < 0 → wN L i = wrap64 (wN L k + 1))) (d : Nat) :
    ∀ i : Nat, i + d = n → Ev (fun k => comptrollerlaw04_SplitLike.l1 k a o L (n : Int) (i : Int)) true := by
  induction d with
  | zero =>
    intro i hi
    refine Ev.step (f := fun _ => some _) (fun k => ?_) (Ev.now _)
    rw [comptrollerlaw04_SplitLike.l1.eq_2, if_neg (by omega)]
  | succ d ih =>
    intro i hi
    refine Ev.step (fun k => ?_) (like_l2 ho hL hn (show i < n by omega) (fun _ _ => .inr trivial) (fun k hk => h i k (by omega) hk) (ih (i + 1) (by omega)) i 0 (by omega))
    rw [comptrollerlaw04_SplitLike.l1.eq_2, if_pos (by omega)]; rfl
theorem getD_map {f : Int → Int} {l : List Int} {m : Nat} (hm : m < l.length) : (l.map f).getD m 0 = f (l.getD m 0) := by
  rw [List.getD_eq_getElem?_getD, List.getD_eq_getElem?_getD, List.getElem?_map, List.getElem?_eq_getElem hm]; rfl
theorem SplitLike : comptrollerlaw04_SplitLike.Pure := by
  intro a l b wa hlen0 _ wb
  have ha := wf_i64 wa
  have hb : 0 ≤ b ∧ b ≤ 255 := by
    have := wb; simp [Lit.wf, IntKind.min, IntKind.max, IntKind.bits, IntKind.signed] at this; omega
  refine Ev.rounds (g := fun k => comptrollerlaw04_SplitLike.f k a l b) ?_
  unfold comptrollerlaw04_SplitLike.f
  refine Ev.bind alive_f ?_
  simp only [if_true]
  by_cases c0 : (l.length : Int) > 200
  · simp only [if_pos c0]; exact Ev.now _
  simp only [if_neg c0]
  obtain ⟨c, hc⟩ : ∃ c, c = b + 1 := ⟨_, rfl⟩
  have hcb : wrap64 (wrap64 b + 1) = c := by rw [w64_in (show I64 b by unfold I64; omega), w64_in (by unfold I64; omega), hc]
  have hc1 : 1 ≤ c ∧ c ≤ 256 := by omega
  obtain ⟨o, ho⟩ : ∃ o, o = l.map oneF := ⟨_, rfl⟩
  obtain ⟨q, hq⟩ : ∃ q, q = l.map (fun x => oneF x * c) := ⟨_, rfl⟩
  have hol : o.length = l.length := by rw [ho, List.length_map]
  have hql : q.length = l.length := by rw [hq, List.length_map]
  have hwo : ∀ m, m < l.length → wN q m = c * wN o m := by
    intro m hm
    unfold wN
    rw [ho, hq, getD_map hm, getD_map hm, Int.mul_comm]
  have ho0 : ∀ x ∈ o, 0 ≤ x ∧ x ≤ 1023 := by
    intro x hx; rw [ho] at hx; obtain ⟨y, _, rfl⟩ := List.mem_map.1 hx; exact oneF_bd y
  have hq0 : ∀ x ∈ q, 0 ≤ x ∧ x ≤ 261888 := by
    intro x hx; rw [hq] at hx; obtain ⟨y, _, rfl⟩ := List.mem_map.1 hx
    have := oneF_bd y
    exact ⟨Int.mul_nonneg this.1 (by omega), Int.le_trans (Int.mul_le_mul this.2 hc1.2 (by omega) (by omega)) (by omega)⟩
  have hwN : ∀ m, m < l.length → 0 ≤ wN o m ∧ wN o m ≤ 1023 := by
    intro m hm
    have : wN o m = o[m]'(by omega) := by unfold wN; rw [List.getD_eq_getElem?_getD, List.getElem?_eq_getElem (by omega)]; rfl
    rw [this]; exact ho0 _ (List.getElem_mem _)
  have hT1 : tot (wN q) l.length = c * tot (wN o) l.length := by
    rw [tot_congr l.length hwo, tot_mul]
  have hT2 : 0 ≤ tot (wN o) l.length ∧ tot (wN o) l.length ≤ 204600 := by
    have h1 := tot_nonneg (f := wN o) l.length (fun i hi => (hwN i hi).1)
    have h2 := tot_le (f := wN o) (g := fun _ => 1023) l.length (fun i hi => (hwN i hi).2)
    rw [tot_const] at h2; omega
  have hT3 : 0 ≤ c * tot (wN o) l.length ∧ c * tot (wN o) l.length ≤ 256 * 204600 := ⟨Int.mul_nonneg (by omega) hT2.1, Int.mul_le_mul hc1.2 hT2.2 hT2.1 (by omega)⟩
  have hz : c * tot (wN o) l.length = 0 ↔ tot (wN o) l.length = 0 := by
    constructor
    · intro h; rcases Int.mul_eq_zero.1 h with h | h
      · omega
      · exact h
    · intro h; rw [h, Int.mul_zero]
  have hso := sumS_fits o 0 (fun x hx => (ho0 x hx).1) (by omega) (by rw [hol]; omega)
  have hsq := sumS_fits q 0 (fun x hx => (hq0 x hx).1) (by omega) (by rw [hql, hT1]; omega)
  have herr : byErr q = byErr o := by
    unfold byErr
    rw [hso, hsq, hol, hql, hT1]
    rw [if_neg (show ¬ ∃ w ∈ o, w < 0 by rintro ⟨w, hw, h⟩; have := ho0 w hw; omega), if_neg (show ¬ ∃ w ∈ q, w < 0 by rintro ⟨w, hw, h⟩; have := hq0 w hw; omega)]
    simp only [if_true, Int.zero_add]
    by_cases d : tot (wN o) l.length = 0
    · rw [if_pos d, if_pos (hz.2 d)]
    · rw [if_neg d, if_neg (fun h => d (hz.1 h))]
  obtain ⟨L, hE, hno, hok⟩ := by_split ha (l := o) (fun x hx => by have := ho0 x hx; unfold I64; omega)
  obtain ⟨M, hF, hno2, hok2⟩ := by_split ha (l := q) (fun x hx => by have := hq0 x hx; unfold I64; omega)
  have key : L = M ∧ (L.length = 0 ∨ L.length = l.length ∧ ∀ i k, i < l.length → k < i → wN o i = wN o k → wN L i = wN L k ∨ (0 < a → wN L i = wrap64 (wN L k - 1)) ∧ (a < 0 → wN L i = wrap64 (wN L k + 1))) := by
    by_cases d : byErr o = 0
    · obtain ⟨S, left, δ, h1, h2, h3, h4, h5, h6, h7, h8, h9, h10, h11⟩ := byok_val (hok d)
      obtain ⟨S', left', δ', g1, g2, g3, g4, g5, g6, g7, g8, g9, g10, g11⟩ := byok_val (hok2 (by rw [herr, d]))
      rw [hol] at h2 h4 h5 h6 h7 h8 h9 h10 h11
      rw [hql] at g2 g4 g5 g6 g7 g8 g9 g10 g11
      have hSS : S' = c * S := by rw [← g2, hT1, h2]
      have hdiv : ∀ m, m < l.length → ab a * wN q m / S' = ab a * wN o m / S := by
        intro m hm
        rw [hwo m hm, hSS, show ab a * (c * wN o m) = c * (ab a * wN o m) by rw [← Int.mul_assoc, Int.mul_comm (ab a) c, Int.mul_assoc]]
        exact Int.mul_ediv_mul_of_pos _ _ (by omega)
      have hmod : ∀ m, m < l.length → ab a * wN q m % S' = c * (ab a * wN o m % S) := by
        intro m hm
        rw [hwo m hm, hSS, show ab a * (c * wN o m) = c * (ab a * wN o m) by rw [← Int.mul_assoc, Int.mul_comm (ab a) c, Int.mul_assoc]]
        exact Int.mul_emod_mul_of_pos _ _ (by omega)
      have hll : left' = left := by
        have : tot (fun i => ab a * wN q i / S') l.length = tot (fun i => ab a * wN o i / S) l.length := tot_congr l.length hdiv
        rw [this] at g4; omega
      have hDl : Dl (fun i => ab a * wN o i % S) l.length left δ' := by
        constructor
        · rw [g5.cnt, hll]
        · intro i j hi hj d1 d2
          have := g5.ord i j hi hj d1 d2
          simp only [hmod i hi, hmod j hj] at this
          rcases this with h | ⟨h, h'⟩
          · exact .inl (Int.lt_of_mul_lt_mul_left h (by omega))
          · exact .inr ⟨Int.eq_of_mul_eq_mul_left (by omega) h, h'⟩
      have hδ := h5.unique hDl
      have hLM : L = M := by
        refine List.ext_getElem (by omega) (fun m hm1 hm2 => ?_)
        have v1 := h7 m (by omega)
        have v2 := g7 m (by omega)
        rw [hdiv m (by omega), ← hδ m (by omega), ← v1] at v2
        rw [List.getD_eq_getElem?_getD, List.getD_eq_getElem?_getD, List.getElem?_eq_getElem hm1, List.getElem?_eq_getElem hm2] at v2
        exact v2.symm
      refine ⟨hLM, .inr ⟨h6, fun i k hi hk hw => ?_⟩⟩
      have v1 : wN L i = _ := h7 i hi
      have v2 : wN L k = _ := h7 k (by omega)
      rw [hw] at v1
      have hoo : δ i = true → δ k = true := by
        intro hd
        apply Classical.byContradiction
        intro hne
        have := h5.ord i k hi (by omega) hd (by simpa using hne)
        simp only [hw] at this
        omega
      have b1 := h9 i hi
      have b2 := h9 k (by omega)
      have b3 := h10 k (by omega)
      rw [hw] at b1
      have hA := ab_le ha
      have hcs := ab_cases a
      rw [v1, v2]
      unfold I64 at ha
      clear hok hok2 hE hF h5 h7 h8 h9 h10 h11 g5 g7 g8 g9 g10 g11 hDl hδ hdiv hmod hno hno2 v1 v2 hw hwo hwN ho0 hq0 hso hsq
      generalize ab a * wN o k / S = x at *
      by_cases d1 : δ i = true
      · have d2 := hoo d1
        left; rw [if_pos d1, if_pos d2]
      · by_cases d2 : δ k = true
        · right
          rw [if_neg d1, if_pos d2]
          rw [if_pos d2] at b2
          constructor
          · intro ha0
            rw [if_neg (by omega), if_neg (by omega)]; unfold wrap64; omega
          · intro ha0
            rw [if_pos ha0, if_pos ha0]; unfold wrap64; omega
        · left; rw [if_neg d1, if_neg d2]
    · have h1 := hno d
      have h2 := hno2 (by rw [herr]; exact d)
      exact ⟨by rw [h1, h2], .inl (by rw [h1]; rfl)⟩
  obtain ⟨hLM, hshape⟩ := key
  have hLlen : L.length ≤ 200 := by rcases hshape with h | ⟨h, _⟩ <;> omega
  have hloop : Ev (fun k => comptrollerlaw04_SplitLike.l1 k a o L (L.length : Int) 0) true := by
    rcases hshape with h | ⟨h, hh⟩
    · refine Ev.step (f := fun _ => some _) (fun k => ?_) (Ev.now _)
      rw [comptrollerlaw04_SplitLike.l1.eq_2, if_neg (by omega)]
    · rw [h]; exact like_l1 hol h (by omega) hh l.length 0 (by omega)
  have hj1 : Ev (fun k => comptrollerlaw04_SplitLike.j1 k a o L false) true := by
    refine Ev.step (fun k => ?_) hloop
    rw [comptrollerlaw04_SplitLike.j1.eq_2, if_neg (by decide)]
  have hend : Ev (fun k => comptrollerlaw04_SplitLike.l0 k a b o q [] 0 0) true := by
    rw [herr] at hF
    refine Ev.step (fun k => ?_) (Ev.bind (f := fun k t => (split_By.f k a q).bind fun u => if t.2 = u.2 then ((comptrollerref04_Same.f k t.1 u.1).bind fun s => (comptrollerlaw04_SplitLike.j1 k a o t.1 (!s))) else (comptrollerlaw04_SplitLike.j1 k a o t.1 true)) hE (Ev.bind (f := fun k u => if byErr o = u.2 then ((comptrollerref04_Same.f k L u.1).bind fun s => (comptrollerlaw04_SplitLike.j1 k a o L (!s))) else (comptrollerlaw04_SplitLike.j1 k a o L true)) hF ?_))
    · rw [comptrollerlaw04_SplitLike.l0.eq_2, if_neg (by omega)]
    · simp only [if_true]
      rw [← hLM]
      exact Ev.bind (f := fun k s => comptrollerlaw04_SplitLike.j1 k a o L (!s)) (same_f rfl (by omega) (fun _ _ => rfl)) hj1
  rw [ho, hq] at hend
  exact like_l0 hcb hc1 (by omega) hend l [] 0 rfl rfl
end Go.Proofs.Ytjfnhhfgjomliaa.Pure
