import Derived.Test.YtjfnhhfgjomliaaQx5
import Derived.Test.YtjfnhhfgjomliaaQx4
import Derived.Test.YtjfnhhfgjomliaaCSortSplit
/- the merge in place, and the whole stable sort -/
set_option linter.unusedVariables false
set_option linter.unusedSimpArgs false
namespace Go.Proofs.Ytjfnhhfgjomliaa.M
open Go.RowKit Go.Proofs.YtjfnhhfgjomliaaW.PrintWords Go.Proofs.YtjfnhhfgjomliaaW.PrintLast Go.Proofs.YtjfnhhfgjomliaaW.PrintMore Go.Proofs.Ytjfnhhfgjomliaa.Q

/-! ### one element into the row behind it -/
theorem sym_l1 {T : List S52} {x : S52} (D : List S52) : ∀ (Q : List S52) (i j : Nat), Q.length = j → i = j + 1 + D.length → i + T.length ≤ 1099511627776 →
    Ev (fun k => split_part_49.l1 k (Q ++ x :: (D ++ T)) (i : Int) (j : Int)) (Q ++ D ++ x :: T) := by
  induction D with
  | nil =>
    intro Q i j hQ hi hL
    have e : Q ++ [] ++ x :: T = Q ++ x :: ([] ++ T) := by simp
    rw [e]
    refine Ev.step (f := fun _ => some _) (fun k => ?_) (Ev.now _)
    rw [split_part_49.l1.eq_2, w_pred i (by omega) (by omega), if_neg (by simp at hi; omega)]
  | cons y D ih =>
    intro Q i j hQ hi hL
    simp only [List.length_cons] at hi
    generalize hLL : Q ++ x :: (y :: D ++ T) = L
    have e1 : L = Q ++ x :: (y :: (D ++ T)) := by rw [← hLL]; simp
    have e2 : L = (Q ++ [x]) ++ y :: (D ++ T) := by rw [← hLL]; simp
    have hlen : L.length = Q.length + 2 + D.length + T.length := by rw [← hLL]; simp; omega
    have r1 : rd_T52 L (j : Int) = x := rd_at e1 hQ
    have r2 : rd_T52 L ((j + 1 : Nat) : Int) = y := rd_at e2 (by simp; omega)
    have e3 : (L.set j y).set (j + 1) x = (Q ++ [y]) ++ x :: (D ++ T) := by
      rw [e1, set_mid hQ, show Q ++ y :: y :: (D ++ T) = (Q ++ [y]) ++ y :: (D ++ T) by simp, set_mid (by simp; omega)]
    have := ih (Q ++ [y]) i (j + 1) (by simp; omega) (by omega) hL
    have e4 : Q ++ y :: D ++ x :: T = Q ++ [y] ++ D ++ x :: T := by simp
    rw [e4]
    refine Ev.step (fun k => ?_) this
    rw [split_part_49.l1.eq_2, w_pred i (by omega) (by omega), if_pos (by omega), w_one j (by omega), if_pos (by omega), if_pos (by omega), if_pos (by omega), if_pos (by omega), r1, r2, Int.toNat_natCast, Int.toNat_natCast, ← e3]
theorem sym_l0 {P S : List S52} {x : S52} {a : Nat} (hP : P.length = a) (d : Nat) : ∀ (B1 Bm B2 : List S52) (i j : Nat), Bm.length ≤ d → Srt lt Bm → a + 1 + B1.length = i → i + Bm.length = j → j + B2.length + S.length ≤ 1099511627776 →
    (∀ y ∈ B1, lt y x = true) → (∀ y ∈ B2, le lt x y) →
    ∃ C1 C2, C1 ++ C2 = B1 ++ Bm ++ B2 ∧ (∀ y ∈ C1, lt y x = true) ∧ (∀ y ∈ C2, le lt x y) ∧
      Ev (fun k => split_part_49.l0 k (P ++ x :: (B1 ++ Bm ++ B2 ++ S)) (a : Int) (i : Int) (j : Int)) (P ++ C1 ++ x :: (C2 ++ S)) := by
  induction d with
  | zero =>
    intro B1 Bm B2 i j hd hs hi hj hL h1 h2
    obtain rfl := List.eq_nil_of_length_eq_zero (Nat.le_zero.1 hd)
    refine ⟨B1, B2, by simp, h1, h2, ?_⟩
    have := sym_l1 (T := B2 ++ S) (x := x) B1 P i a hP (by omega) (by simp at hj ⊢; omega)
    have e : P ++ x :: (B1 ++ [] ++ B2 ++ S) = P ++ x :: (B1 ++ (B2 ++ S)) := by simp
    rw [e]
    refine Ev.step (fun k => ?_) this
    rw [split_part_49.l0.eq_2, if_neg (by simp at hj; omega)]
  | succ d ih =>
    intro B1 Bm B2 i j hd hs hi hj hL h1 h2
    by_cases c0 : i < j
    · obtain ⟨U, y, V, hUV, hU⟩ : ∃ U y V, Bm = U ++ y :: V ∧ U.length = (i + j) / 2 - i := by
        refine ⟨Bm.take ((i + j) / 2 - i), Bm[(i + j) / 2 - i]'(by omega), Bm.drop ((i + j) / 2 - i + 1), ?_, by simp; omega⟩
        rw [List.getElem_cons_drop, List.take_append_drop]
      subst hUV
      simp only [List.length_append, List.length_cons] at hj hd
      obtain ⟨s1, s2, s3⟩ := List.pairwise_append.1 hs
      obtain ⟨s4, s5⟩ := List.pairwise_cons.1 s2
      generalize hLL : P ++ x :: (B1 ++ (U ++ y :: V) ++ B2 ++ S) = L
      have e1 : L = P ++ x :: (B1 ++ (U ++ y :: V) ++ B2 ++ S) := hLL.symm
      have e2 : L = (P ++ x :: (B1 ++ U)) ++ y :: (V ++ B2 ++ S) := by rw [← hLL]; simp
      have hlen : L.length = a + 1 + B1.length + U.length + 1 + V.length + B2.length + S.length := by rw [← hLL]; simp; omega
      have r1 : rd_T52 L (a : Int) = x := rd_at e1 hP
      have r2 : rd_T52 L (((i + j) / 2 : Nat) : Int) = y := rd_at e2 (by simp; omega)
      obtain ⟨t, ht, hlt⟩ := cmp_lt y x
      by_cases c : lt y x = true
      · obtain ⟨C1, C2, hC, hC1, hC2, hr⟩ := ih (B1 ++ U ++ [y]) V B2 ((i + j) / 2 + 1) j (by omega) s5 (by simp; omega) (by omega) hL (by
          intro z hz
          simp only [List.mem_append, List.mem_singleton] at hz
          rcases hz with (hz | hz) | hz
          · exact h1 z hz
          · exact swo.le_lt (s3 z hz y List.mem_cons_self) c
          · rw [hz]; exact c) h2
        refine ⟨C1, C2, by rw [hC]; simp, hC1, hC2, ?_⟩
        have e4 : P ++ x :: (B1 ++ U ++ [y] ++ V ++ B2 ++ S) = L := by rw [← hLL]; simp
        rw [e4] at hr
        refine Ev.step (fun k => ?_) hr
        rw [split_part_49.l0.eq_2, if_pos (by omega), w_half i j (by omega), if_pos (by omega), if_pos (by omega), if_pos (by omega), if_pos (by omega), r1, r2, ht]
        simp only [Option.bind_some]
        rw [if_pos (by rw [c] at hlt; simpa using hlt), w_one _ (by omega)]
      · have c' : lt y x = false := by simpa using c
        obtain ⟨C1, C2, hC, hC1, hC2, hr⟩ := ih B1 U (y :: V ++ B2) i ((i + j) / 2) (by omega) s1 hi (by omega) (by simp; omega) h1 (by
          intro z hz
          simp only [List.cons_append, List.mem_cons, List.mem_append] at hz
          rcases hz with hz | hz | hz
          · rw [hz]; exact c'
          · exact swo.trans c' (s4 z hz)
          · exact h2 z hz)
        refine ⟨C1, C2, by rw [hC]; simp, hC1, hC2, ?_⟩
        have e4 : P ++ x :: (B1 ++ U ++ (y :: V ++ B2) ++ S) = L := by rw [← hLL]; simp
        rw [e4] at hr
        refine Ev.step (fun k => ?_) hr
        rw [split_part_49.l0.eq_2, if_pos (by omega), w_half i j (by omega), if_pos (by omega), if_pos (by omega), if_pos (by omega), if_pos (by omega), r1, r2, ht]
        simp only [Option.bind_some]
        rw [if_neg (by rw [c'] at hlt; simpa using hlt)]
    · exact ih B1 Bm B2 i j (by omega) hs hi hj hL h1 h2

/-! ### one element into the row ahead of it -/
theorem sym_l3 {T : List S52} {x : S52} (n : Nat) : ∀ (Q D : List S52) (T : List S52) (i j : Nat), D.length = n → Q.length = i → j = i + D.length → j + 1 + T.length ≤ 1099511627776 →
    Ev (fun k => split_part_49.l3 k (Q ++ D ++ x :: T) (i : Int) (j : Int)) (Q ++ x :: (D ++ T)) := by
  induction n with
  | zero =>
    intro Q D T i j hD hQ hj hL
    obtain rfl := List.eq_nil_of_length_eq_zero hD
    have e : Q ++ [] ++ x :: T = Q ++ x :: ([] ++ T) := by simp
    rw [e]
    refine Ev.step (f := fun _ => some _) (fun k => ?_) (Ev.now _)
    rw [split_part_49.l3.eq_2, if_neg (by simp at hj; omega)]
  | succ n ih =>
    intro Q D T i j hD hQ hj hL
    obtain ⟨D, y, rfl⟩ : ∃ D' y, D = D' ++ [y] := by
      rcases List.eq_nil_or_concat D with h | ⟨A, y, h⟩
      · subst h; simp at hD
      · exact ⟨A, y, by simpa using h⟩
    simp only [List.length_append, List.length_cons, List.length_nil] at hD hj
    generalize hLL : Q ++ (D ++ [y]) ++ x :: T = L
    have e1 : L = (Q ++ D ++ [y]) ++ x :: T := by rw [← hLL]; simp
    have e2 : L = (Q ++ D) ++ y :: (x :: T) := by rw [← hLL]; simp
    have hlen : L.length = Q.length + D.length + 2 + T.length := by rw [← hLL]; simp; omega
    have r1 : rd_T52 L (j : Int) = x := rd_at e1 (by simp; omega)
    have r2 : rd_T52 L ((j - 1 : Nat) : Int) = y := rd_at e2 (by simp; omega)
    have e3 : (L.set j y).set (j - 1) x = Q ++ D ++ x :: (y :: T) := by
      rw [e1, set_mid (by simp; omega), show Q ++ D ++ [y] ++ y :: T = (Q ++ D) ++ y :: (y :: T) by simp, set_mid (by simp; omega)]
    have := ih Q D (y :: T) i (j - 1) (by omega) hQ (by omega) (by simp; omega)
    have e4 : Q ++ x :: (D ++ [y] ++ T) = Q ++ x :: (D ++ y :: T) := by simp
    rw [e4]
    refine Ev.step (fun k => ?_) this
    rw [split_part_49.l3.eq_2, if_pos (by omega), w_pred j (by omega) (by omega), if_pos (by omega), if_pos (by omega), if_pos (by omega), if_pos (by omega), r1, r2, Int.toNat_natCast, Int.toNat_natCast, ← e3]
theorem sym_l2 {P S : List S52} {x : S52} {a m : Nat} (hP : P.length = a) (d : Nat) : ∀ (A1 Am A2 : List S52) (i j : Nat), Am.length ≤ d → Srt lt Am → a + A1.length = i → i + Am.length = j → j + A2.length = m → m + 1 + S.length ≤ 1099511627776 →
    (∀ y ∈ A1, le lt y x) → (∀ y ∈ A2, lt x y = true) →
    ∃ C1 C2, C1 ++ C2 = A1 ++ Am ++ A2 ∧ (∀ y ∈ C1, le lt y x) ∧ (∀ y ∈ C2, lt x y = true) ∧
      Ev (fun k => split_part_49.l2 k (P ++ (A1 ++ Am ++ A2) ++ x :: S) (m : Int) (i : Int) (j : Int)) (P ++ C1 ++ x :: (C2 ++ S)) := by
  induction d with
  | zero =>
    intro A1 Am A2 i j hd hs hi hj hm hL h1 h2
    obtain rfl := List.eq_nil_of_length_eq_zero (Nat.le_zero.1 hd)
    refine ⟨A1, A2, by simp, h1, h2, ?_⟩
    have := sym_l3 (T := S) (x := x) A2.length (P ++ A1) A2 S i m rfl (by simp; omega) (by simp at hj; omega) hL
    have e : P ++ (A1 ++ [] ++ A2) ++ x :: S = P ++ A1 ++ A2 ++ x :: S := by simp
    rw [e]
    refine Ev.step (fun k => ?_) this
    rw [split_part_49.l2.eq_2, if_neg (by simp at hj; omega)]
  | succ d ih =>
    intro A1 Am A2 i j hd hs hi hj hm hL h1 h2
    by_cases c0 : i < j
    · obtain ⟨U, y, V, hUV, hU⟩ : ∃ U y V, Am = U ++ y :: V ∧ U.length = (i + j) / 2 - i := by
        refine ⟨Am.take ((i + j) / 2 - i), Am[(i + j) / 2 - i]'(by omega), Am.drop ((i + j) / 2 - i + 1), ?_, by simp; omega⟩
        rw [List.getElem_cons_drop, List.take_append_drop]
      subst hUV
      simp only [List.length_append, List.length_cons] at hj hd
      obtain ⟨s1, s2, s3⟩ := List.pairwise_append.1 hs
      obtain ⟨s4, s5⟩ := List.pairwise_cons.1 s2
      generalize hLL : P ++ (A1 ++ (U ++ y :: V) ++ A2) ++ x :: S = L
      have e1 : L = P ++ (A1 ++ (U ++ y :: V) ++ A2) ++ x :: S := hLL.symm
      have e2 : L = (P ++ A1 ++ U) ++ y :: (V ++ A2 ++ x :: S) := by rw [← hLL]; simp
      have hlen : L.length = a + A1.length + U.length + 1 + V.length + A2.length + 1 + S.length := by rw [← hLL]; simp; omega
      have r1 : rd_T52 L (m : Int) = x := rd_at e1 (by simp; omega)
      have r2 : rd_T52 L (((i + j) / 2 : Nat) : Int) = y := rd_at e2 (by simp; omega)
      obtain ⟨t, ht, hlt⟩ := cmp_lt x y
      by_cases c : lt x y = true
      · obtain ⟨C1, C2, hC, hC1, hC2, hr⟩ := ih A1 U (y :: V ++ A2) i ((i + j) / 2) (by omega) s1 hi (by omega) (by simp; omega) hL h1 (by
          intro z hz
          simp only [List.cons_append, List.mem_cons, List.mem_append] at hz
          rcases hz with hz | hz | hz
          · rw [hz]; exact c
          · exact swo.lt_le c (s4 z hz)
          · exact h2 z hz)
        refine ⟨C1, C2, by rw [hC]; simp, hC1, hC2, ?_⟩
        have e4 : P ++ (A1 ++ U ++ (y :: V ++ A2)) ++ x :: S = L := by rw [← hLL]; simp
        rw [e4] at hr
        refine Ev.step (fun k => ?_) hr
        rw [split_part_49.l2.eq_2, if_pos (by omega), w_half i j (by omega), if_pos (by omega), if_pos (by omega), if_pos (by omega), if_pos (by omega), r1, r2, ht]
        simp only [Option.bind_some]
        rw [if_pos (by rw [c] at hlt; simpa using hlt)]
      · have c' : lt x y = false := by simpa using c
        obtain ⟨C1, C2, hC, hC1, hC2, hr⟩ := ih (A1 ++ U ++ [y]) V A2 ((i + j) / 2 + 1) j (by omega) s5 (by simp; omega) (by omega) hm hL (by
          intro z hz
          simp only [List.mem_append, List.mem_singleton] at hz
          rcases hz with (hz | hz) | hz
          · exact h1 z hz
          · exact swo.trans (s3 z hz y List.mem_cons_self) c'
          · rw [hz]; exact c') h2
        refine ⟨C1, C2, by rw [hC]; simp, hC1, hC2, ?_⟩
        have e4 : P ++ (A1 ++ U ++ [y] ++ V ++ A2) ++ x :: S = L := by rw [← hLL]; simp
        rw [e4] at hr
        refine Ev.step (fun k => ?_) hr
        rw [split_part_49.l2.eq_2, if_pos (by omega), w_half i j (by omega), if_pos (by omega), if_pos (by omega), if_pos (by omega), if_pos (by omega), r1, r2, ht]
        simp only [Option.bind_some]
        rw [if_neg (by rw [c'] at hlt; simpa using hlt), w_one _ (by omega)]
    · exact ih A1 Am A2 i j (by omega) hs hi hj hm hL h1 h2

/-! ### the cut of both rows -/
theorem sym_l4 {L : List S52} {a m b mid p s0 r0 : Nat} (hL : L.length ≤ 1099511627776) (hr0 : r0 ≤ L.length) (hp : p < L.length + s0) (hps : r0 ≤ p + 1)
    (mono : ∀ c c', s0 ≤ c' → c' ≤ c → c < r0 → lt (L.getD (p - c) z52) (L.getD c z52) = false → lt (L.getD (p - c') z52) (L.getD c' z52) = false) (d : Nat) : ∀ (s r : Nat), r - s ≤ d → s0 ≤ s → s ≤ r → r ≤ r0 →
    (∀ c, s0 ≤ c → c < s → lt (L.getD (p - c) z52) (L.getD c z52) = false) → (∀ c, r ≤ c → c < r0 → lt (L.getD (p - c) z52) (L.getD c z52) = true) →
    ∃ t, s0 ≤ t ∧ t ≤ r0 ∧ (∀ c, s0 ≤ c → c < t → lt (L.getD (p - c) z52) (L.getD c z52) = false) ∧ (∀ c, t ≤ c → c < r0 → lt (L.getD (p - c) z52) (L.getD c z52) = true) ∧
      ∀ n z, Ev (fun k => if (t : Int) < (m : Int) then split_part_49.j6 k L (a : Int) (m : Int) (b : Int) (mid : Int) (t : Int) (wrap64 (n - (t : Int))) (decide ((m : Int) < wrap64 (n - (t : Int)))) else split_part_49.j6 k L (a : Int) (m : Int) (b : Int) (mid : Int) (t : Int) (wrap64 (n - (t : Int))) false) z →
        Ev (fun k => split_part_49.l4 k L (a : Int) (m : Int) (b : Int) (mid : Int) n (s : Int) (r : Int) (p : Int)) z := by
  induction d with
  | zero =>
    intro s r hd h1 h2 h3 hA hB
    obtain rfl : s = r := by omega
    refine ⟨s, h1, h3, hA, hB, fun n z hz => ?_⟩
    refine Ev.step (fun k => ?_) hz
    rw [split_part_49.l4.eq_2, if_neg (by omega)]
  | succ d ih =>
    intro s r hd h1 h2 h3 hA hB
    by_cases c0 : s < r
    · have r1 : rd_T52 L (((s + r) / 2 : Nat) : Int) = L.getD ((s + r) / 2) z52 := by unfold rd_T52; rw [Int.toNat_natCast]
      have r2 : rd_T52 L ((p - (s + r) / 2 : Nat) : Int) = L.getD (p - (s + r) / 2) z52 := by unfold rd_T52; rw [Int.toNat_natCast]
      obtain ⟨t, ht, hlt⟩ := cmp_lt (L.getD (p - (s + r) / 2) z52) (L.getD ((s + r) / 2) z52)
      by_cases c : lt (L.getD (p - (s + r) / 2) z52) (L.getD ((s + r) / 2) z52) = true
      · obtain ⟨u, h4, h5, h6, h7, hz0⟩ := ih s ((s + r) / 2) (by omega) h1 (by omega) (by omega) hA (by
          intro q hq1 hq2
          by_cases hq3 : r ≤ q
          · exact hB q hq3 hq2
          · cases e : lt (L.getD (p - q) z52) (L.getD q z52) with
            | true => rfl
            | false => have := mono q ((s + r) / 2) (by omega) hq1 hq2 e; rw [this] at c; cases c)
        refine ⟨u, h4, h5, h6, h7, fun n z hz => ?_⟩
        refine Ev.step (fun k => ?_) (hz0 n z hz)
        rw [split_part_49.l4.eq_2, if_pos (by omega), w_half s r (by omega), w_sub p ((s + r) / 2) (by omega) (by omega), if_pos (by omega), if_pos (by omega), if_pos (by omega), if_pos (by omega), r1, r2, ht]
        simp only [Option.bind_some]
        rw [if_pos (by rw [c] at hlt; simpa using hlt)]
      · have c' : lt (L.getD (p - (s + r) / 2) z52) (L.getD ((s + r) / 2) z52) = false := by simpa using c
        obtain ⟨u, h4, h5, h6, h7, hz0⟩ := ih ((s + r) / 2 + 1) r (by omega) (by omega) (by omega) h3 (by
          intro q hq1 hq2
          exact mono ((s + r) / 2) q hq1 (by omega) (by omega) c') hB
        refine ⟨u, h4, h5, h6, h7, fun n z hz => ?_⟩
        refine Ev.step (fun k => ?_) (hz0 n z hz)
        rw [split_part_49.l4.eq_2, if_pos (by omega), w_half s r (by omega), w_sub p ((s + r) / 2) (by omega) (by omega), if_pos (by omega), if_pos (by omega), if_pos (by omega), if_pos (by omega), r1, r2, ht]
        simp only [Option.bind_some]
        rw [if_neg (by rw [c'] at hlt; simpa using hlt), w_one _ (by omega)]
    · exact ih s r (by omega) h1 h2 h3 hA hB
theorem srt_at {A : List S52} (hs : Srt lt A) {i j : Nat} (hij : i ≤ j) (hj : j < A.length) : le lt (A[i]'(by omega)) (A[j]'hj) := by
  by_cases e : i = j
  · subst e; exact swo.irrefl _
  · exact List.pairwise_iff_getElem.1 hs i j (by omega) hj (by omega)
set_option maxHeartbeats 4000000 in
theorem sym_f (d : Nat) : ∀ (P A B S : List S52) (a m b : Nat), A.length + B.length ≤ d → 1 ≤ A.length → 1 ≤ B.length → Srt lt A → Srt lt B → P.length = a → a + A.length = m → m + B.length = b → b + S.length ≤ 1099511627776 →
    ∃ M, St lt (A ++ B) M ∧ M.length = A.length + B.length ∧ Ev (fun k => split_part_49.f k (P ++ A ++ B ++ S) (a : Int) (m : Int) (b : Int)) (P ++ M ++ S) := by
  induction d with
  | zero => intro P A B S a m b hd h1; omega
  | succ d ih =>
    intro P A B S a m b hd hA1 hB1 hA hB hP hm hb hL
    by_cases c1 : A.length = 1
    · obtain ⟨x, rfl⟩ : ∃ x, A = [x] := List.length_eq_one_iff.1 c1
      obtain ⟨C1, C2, hC, hC1, hC2, hr⟩ := sym_l0 (S := S) (x := x) hP B.length [] B [] m b (Nat.le_refl _) hB (by simp at hm ⊢; omega) hb (by simp; omega) (by simp) (by simp)
      have hC : C1 ++ C2 = B := by simpa using hC
      refine ⟨C1 ++ x :: C2, ?_, ?_, ?_⟩
      · have := St.insertL swo (B1 := C1) (B2 := C2) (x := x) (by rw [hC]; exact hB) hC1 hC2
        rw [hC] at this; exact this
      · rw [← hC]; simp; omega
      · have e : P ++ [x] ++ B ++ S = P ++ x :: ([] ++ B ++ [] ++ S) := by simp
        have e2 : P ++ (C1 ++ x :: C2) ++ S = P ++ C1 ++ x :: (C2 ++ S) := by simp
        rw [e, e2]
        refine Ev.step (fun k => ?_) hr
        rw [split_part_49.f.eq_2, w_sub m a (by omega) (by omega), if_pos (by omega)]
    · by_cases c2 : B.length = 1
      · obtain ⟨x, rfl⟩ : ∃ x, B = [x] := List.length_eq_one_iff.1 c2
        obtain ⟨C1, C2, hC, hC1, hC2, hr⟩ := sym_l2 (S := S) (x := x) (m := m) hP A.length [] A [] a m (Nat.le_refl _) hA (by simp) (by omega) (by simp) (by simp at hb; omega) (by simp) (by simp)
        have hC : C1 ++ C2 = A := by simpa using hC
        refine ⟨C1 ++ x :: C2, ?_, ?_, ?_⟩
        · have := St.insert swo (B1 := C1) (B2 := C2) (x := x) (by rw [hC]; exact hA) hC1 hC2
          rw [hC] at this; exact this
        · rw [← hC]; simp; omega
        · have e : P ++ A ++ [x] ++ S = P ++ ([] ++ A ++ []) ++ x :: S := by simp
          have e2 : P ++ (C1 ++ x :: C2) ++ S = P ++ C1 ++ x :: (C2 ++ S) := by simp
          rw [e, e2]
          refine Ev.step (fun k => ?_) hr
          rw [split_part_49.f.eq_2, w_sub m a (by omega) (by omega), if_neg (by omega), w_sub b m (by omega) (by omega), if_pos (by simp at hb; omega)]
      · -- both have two or more
        generalize hLL : P ++ A ++ B ++ S = L
        have hlen : L.length = b + S.length := by rw [← hLL]; simp; omega
        have atA : ∀ t (ht : t < A.length), L.getD (a + t) z52 = A[t] := by
          intro t ht
          rw [← hLL, List.getD_eq_getElem?_getD, List.append_assoc, List.append_assoc, List.getElem?_append_right (by omega), List.getElem?_append_left (by omega), List.getElem?_eq_getElem (by omega)]
          simp only [Option.getD_some]; congr 1; omega
        have atB : ∀ t (ht : t < B.length), L.getD (m + t) z52 = B[t] := by
          intro t ht
          rw [← hLL, List.getD_eq_getElem?_getD, List.append_assoc, List.getElem?_append_right (by simp; omega), List.getElem?_append_left (by simp; omega), List.getElem?_eq_getElem (by simp; omega)]
          simp only [Option.getD_some]; congr 1; simp; omega
        have leA : ∀ i j, a ≤ i → i ≤ j → j < m → le lt (L.getD i z52) (L.getD j z52) := by
          intro i j h1 h2 h3
          rw [show i = a + (i - a) by omega, show j = a + (j - a) by omega, atA _ (by omega), atA _ (by omega)]
          exact srt_at hA (by omega) (by omega)
        have leB : ∀ i j, m ≤ i → i ≤ j → j < b → le lt (L.getD i z52) (L.getD j z52) := by
          intro i j h1 h2 h3
          rw [show i = m + (i - m) by omega, show j = m + (j - m) by omega, atB _ (by omega), atB _ (by omega)]
          exact srt_at hB (by omega) (by omega)
        obtain ⟨mid, hmid⟩ : ∃ mid, mid = (a + b) / 2 := ⟨_, rfl⟩
        obtain ⟨s0, r0, hs0, hr0, hcall⟩ : ∃ s0 r0 : Nat, (s0 = if mid < m then mid + m - b else a) ∧ (r0 = if mid < m then mid else m) ∧
            ∀ z, Ev (fun k => split_part_49.l4 k L (a : Int) (m : Int) (b : Int) (mid : Int) ((mid + m : Nat) : Int) (s0 : Int) (r0 : Int) ((mid + m - 1 : Nat) : Int)) z → Ev (fun k => split_part_49.f k L (a : Int) (m : Int) (b : Int)) z := by
          refine ⟨_, _, rfl, rfl, fun z hz => ?_⟩
          by_cases c : mid < m
          · rw [if_pos c, if_pos c] at hz
            refine Ev.step (f := fun k => split_part_49.j4 k L (a : Int) (m : Int) (b : Int) (mid : Int) ((mid + m : Nat) : Int) ((mid + m - b : Nat) : Int) (mid : Int)) (fun k => ?_) (Ev.step (fun k => ?_) hz)
            · rw [split_part_49.f.eq_2, w_sub m a (by omega) (by omega), if_neg (by omega), w_sub b m (by omega) (by omega), if_neg (by omega), w_half a b (by omega), ← hmid, if_pos (by omega), w_add mid m (by omega), w_sub (mid + m) b (by omega) (by omega)]
            · rw [split_part_49.j4.eq_2, w_pred (mid + m) (by omega) (by omega)]
          · rw [if_neg c, if_neg c] at hz
            refine Ev.step (f := fun k => split_part_49.j4 k L (a : Int) (m : Int) (b : Int) (mid : Int) ((mid + m : Nat) : Int) (a : Int) (m : Int)) (fun k => ?_) (Ev.step (fun k => ?_) hz)
            · rw [split_part_49.f.eq_2, w_sub m a (by omega) (by omega), if_neg (by omega), w_sub b m (by omega) (by omega), if_neg (by omega), w_half a b (by omega), ← hmid, if_neg (by omega), w_add mid m (by omega)]
            · rw [split_part_49.j4.eq_2, w_pred (mid + m) (by omega) (by omega)]
        have hs0' : a ≤ s0 ∧ s0 ≤ r0 ∧ r0 ≤ m ∧ r0 ≤ mid ∧ mid + m ≤ b + s0 := by
          by_cases c : mid < m
          · rw [if_pos c] at hs0 hr0; omega
          · rw [if_neg c] at hs0 hr0; omega
        have mono : ∀ c c', s0 ≤ c' → c' ≤ c → c < r0 → lt (L.getD (mid + m - 1 - c) z52) (L.getD c z52) = false → lt (L.getD (mid + m - 1 - c') z52) (L.getD c' z52) = false := by
          intro c c' h1 h2 h3 h4
          have q1 := leA c' c (by omega) h2 (by omega)
          have q2 := leB (mid + m - 1 - c) (mid + m - 1 - c') (by omega) (by omega) (by omega)
          exact swo.trans q1 (swo.trans h4 q2)
        obtain ⟨s, hs1, hs2, hQ, hQ', hz0⟩ := sym_l4 (a := a) (m := m) (b := b) (mid := mid) (p := mid + m - 1) (by omega) (by omega) (by omega) (by omega) mono (r0 - s0) s0 r0 (Nat.le_refl _) (Nat.le_refl _) (by omega) (Nat.le_refl _) (by intro c h1 h2; omega) (by intro c h1 h2; omega)
        obtain ⟨e, he⟩ : ∃ e, e = mid + m - s := ⟨_, rfl⟩
        have hwe : wrap64 (((mid + m : Nat) : Int) - (s : Int)) = (e : Int) := by rw [w_sub _ _ (by omega) (by omega), he]
        -- the four rows
        obtain ⟨A1, A2, hAA, hA1l⟩ : ∃ A1 A2, A = A1 ++ A2 ∧ A1.length = s - a := ⟨A.take (s - a), A.drop (s - a), (List.take_append_drop ..).symm, by simp; omega⟩
        obtain ⟨B1, B2, hBB, hB1l⟩ : ∃ B1 B2, B = B1 ++ B2 ∧ B1.length = e - m := ⟨B.take (e - m), B.drop (e - m), (List.take_append_drop ..).symm, by simp; omega⟩
        have hA2l : A2.length = m - s := by have := congrArg List.length hAA; simp at this; omega
        have hB2l : B2.length = b - e := by have := congrArg List.length hBB; simp at this; omega
        have atA1 : ∀ t (ht : t < A1.length), L.getD (a + t) z52 = A1[t] := by intro t ht; rw [atA t (by omega)]; simp only [hAA]; rw [List.getElem_append_left ht]
        have atA2 : ∀ t (ht : t < A2.length), L.getD (s + t) z52 = A2[t] := by
          intro t ht; rw [show s + t = a + (s - a + t) by omega, atA _ (by omega)]; simp only [hAA]; rw [List.getElem_append_right (by omega)]; congr 1; omega
        have atB1 : ∀ t (ht : t < B1.length), L.getD (m + t) z52 = B1[t] := by intro t ht; rw [atB t (by omega)]; simp only [hBB]; rw [List.getElem_append_left ht]
        have atB2 : ∀ t (ht : t < B2.length), L.getD (e + t) z52 = B2[t] := by
          intro t ht; rw [show e + t = m + (e - m + t) by omega, atB _ (by omega)]; simp only [hBB]; rw [List.getElem_append_right (by omega)]; congr 1; omega
        have k1 : ∀ x ∈ A1, ∀ y ∈ B2, le lt x y := by
          intro x hx y hy
          obtain ⟨i, hi, rfl⟩ := List.getElem_of_mem hx
          obtain ⟨j, hj, rfl⟩ := List.getElem_of_mem hy
          rw [← atA1 i hi, ← atB2 j hj]
          have hss : s0 < s := by
            by_cases c : mid < m
            · rw [if_pos c] at hs0 hr0; omega
            · rw [if_neg c] at hs0 hr0; omega
          have q := hQ (s - 1) (by omega) (by omega)
          rw [show mid + m - 1 - (s - 1) = e by omega] at q
          exact swo.trans (swo.trans (leA (a + i) (s - 1) (by omega) (by omega) (by omega)) q) (leB e (e + j) (by omega) (by omega) (by omega))
        have k2 : ∀ y ∈ B1, ∀ x ∈ A2, lt y x = true := by
          intro y hy x hx
          obtain ⟨j, hj, rfl⟩ := List.getElem_of_mem hy
          obtain ⟨i, hi, rfl⟩ := List.getElem_of_mem hx
          rw [← atA2 i hi, ← atB1 j hj]
          have hss : s < r0 := by
            by_cases c : mid < m
            · rw [if_pos c] at hs0 hr0; omega
            · rw [if_neg c] at hs0 hr0; omega
          have q := hQ' s (Nat.le_refl _) hss
          rw [show mid + m - 1 - s = e - 1 by omega] at q
          exact swo.lt_le (swo.le_lt (leB (m + j) (e - 1) (by omega) (by omega) (by omega)) q) (leA s (s + i) (by omega) (by omega) (by omega))
        clear hs0 hr0
        have sA := hA; have sB := hB
        rw [hAA] at sA; rw [hBB] at sB
        obtain ⟨sA1, sA2, sA3⟩ := List.pairwise_append.1 sA
        obtain ⟨sB1, sB2, sB3⟩ := List.pairwise_append.1 sB
        -- the halves, merged
        have half : ∀ (P' X Y S' : List S52) (u v w : Nat), X.length + Y.length ≤ d → Srt lt X → Srt lt Y → P'.length = u → u + X.length = v → v + Y.length = w → w + S'.length ≤ 1099511627776 →
            ∃ M, St lt (X ++ Y) M ∧ M.length = X.length + Y.length ∧ ((1 ≤ X.length ∧ 1 ≤ Y.length) → Ev (fun k => split_part_49.f k (P' ++ X ++ Y ++ S') (u : Int) (v : Int) (w : Int)) (P' ++ M ++ S')) ∧ (¬ (1 ≤ X.length ∧ 1 ≤ Y.length) → M = X ++ Y) := by
          intro P' X Y S' u v w g1 g2 g3 g4 g5 g6 g7
          by_cases c : 1 ≤ X.length ∧ 1 ≤ Y.length
          · obtain ⟨M, m1, m2, m3⟩ := ih P' X Y S' u v w g1 c.1 c.2 g2 g3 g4 g5 g6 g7
            exact ⟨M, m1, m2, fun _ => m3, fun h => absurd c h⟩
          · refine ⟨X ++ Y, ?_, by simp, fun h => absurd h c, fun _ => rfl⟩
            refine St.of_sorted (List.pairwise_append.2 ⟨g2, g3, fun x hx y hy => absurd ⟨List.length_pos_of_mem hx, List.length_pos_of_mem hy⟩ c⟩)
        obtain ⟨M1, m1a, m1b, m1c, m1d⟩ := half P A1 B1 (A2 ++ B2 ++ S) a s mid (by omega) sA1 sB1 hP (by omega) (by omega) (by simp; omega)
        obtain ⟨M2, m2a, m2b, m2c, m2d⟩ := half (P ++ M1) A2 B2 S mid e b (by omega) sA2 sB2 (by simp; omega) (by omega) (by omega) hL
        refine ⟨M1 ++ M2, ?_, by simp; omega, ?_⟩
        · rw [hAA, hBB]; exact St.halves swo m1a m2a sA3 sB3 k1 k2
        · refine hcall _ (hz0 _ _ ?_)
          rw [hwe]
          -- behind the rotation
          have hL' : ∀ z, Ev (fun k => split_part_49.j7 k (P ++ A1 ++ B1 ++ (A2 ++ B2 ++ S)) (a : Int) (b : Int) (mid : Int) (s : Int) (e : Int)) z →
              Ev (fun k => if (s : Int) < (m : Int) then split_part_49.j6 k L (a : Int) (m : Int) (b : Int) (mid : Int) (s : Int) (e : Int) (decide ((m : Int) < (e : Int))) else split_part_49.j6 k L (a : Int) (m : Int) (b : Int) (mid : Int) (s : Int) (e : Int) false) z := by
            intro z hz
            by_cases c : s < m ∧ m < e
            · simp only [if_pos (show (s : Int) < (m : Int) by omega), decide_eq_true (show (m : Int) < (e : Int) by omega)]
              have hrot := rot_f (P := P ++ A1) (A := A2) (B := B1) (S := B2 ++ S) (a := s) (m := m) (b := e) (by simp; omega) (by omega) (by omega) c.1 c.2 (by simp; omega)
              have e1 : P ++ A1 ++ A2 ++ B1 ++ (B2 ++ S) = L := by rw [← hLL, hAA, hBB]; simp
              have e2 : P ++ A1 ++ B1 ++ A2 ++ (B2 ++ S) = P ++ A1 ++ B1 ++ (A2 ++ B2 ++ S) := by simp
              rw [e1, e2] at hrot
              refine Ev.step (f := fun k => (split_part_52.f k L (s : Int) (m : Int) (e : Int)).bind fun t => split_part_49.j7 k t (a : Int) (b : Int) (mid : Int) (s : Int) (e : Int)) (fun k => ?_) (Ev.bind hrot hz)
              rw [split_part_49.j6.eq_2, if_pos rfl]
            · have e1 : P ++ A1 ++ B1 ++ (A2 ++ B2 ++ S) = L := by
                have : A2 = [] ∨ B1 = [] := by
                  by_cases c3 : s < m
                  · exact .inr (List.eq_nil_of_length_eq_zero (by omega))
                  · exact .inl (List.eq_nil_of_length_eq_zero (by omega))
                rw [← hLL, hAA, hBB]
                rcases this with h | h <;> rw [h] <;> simp
              rw [e1] at hz
              have hj : Ev (fun k => split_part_49.j6 k L (a : Int) (m : Int) (b : Int) (mid : Int) (s : Int) (e : Int) false) z := by
                refine Ev.step (fun k => ?_) hz
                rw [split_part_49.j6.eq_2, if_neg (by simp)]
              by_cases c3 : s < m
              · simp only [if_pos (show (s : Int) < (m : Int) by omega), decide_eq_false (show ¬ (m : Int) < (e : Int) by omega)]; exact hj
              · simp only [if_neg (show ¬ (s : Int) < (m : Int) by omega)]; exact hj
          refine hL' _ ?_
          -- the second half
          have hS2 : Ev (fun k => if (mid : Int) < (e : Int) then (if (e : Int) < (b : Int) then (split_part_49.f k (P ++ M1 ++ (A2 ++ B2 ++ S)) (mid : Int) (e : Int) (b : Int)).bind fun t => some t else some (P ++ M1 ++ (A2 ++ B2 ++ S))) else some (P ++ M1 ++ (A2 ++ B2 ++ S))) (P ++ (M1 ++ M2) ++ S) := by
            have e1 : P ++ M1 ++ A2 ++ B2 ++ S = P ++ M1 ++ (A2 ++ B2 ++ S) := by simp
            have e2 : P ++ M1 ++ M2 ++ S = P ++ (M1 ++ M2) ++ S := by simp
            by_cases c : 1 ≤ A2.length ∧ 1 ≤ B2.length
            · have := m2c c
              rw [e1, e2] at this
              simp only [if_pos (show (mid : Int) < (e : Int) by omega), if_pos (show (e : Int) < (b : Int) by omega)]
              exact Ev.bind this (Ev.now _)
            · have h := m2d c
              have e3 : P ++ M1 ++ (A2 ++ B2 ++ S) = P ++ (M1 ++ M2) ++ S := by rw [h]; simp
              by_cases c3 : mid < e
              · simp only [if_pos (show (mid : Int) < (e : Int) by omega), if_neg (show ¬ (e : Int) < (b : Int) by omega), e3]; exact Ev.now _
              · simp only [if_neg (show ¬ (mid : Int) < (e : Int) by omega), e3]; exact Ev.now _
          by_cases c : 1 ≤ A1.length ∧ 1 ≤ B1.length
          · have := m1c c
            refine Ev.step (f := fun k => split_part_49.j8 k (P ++ A1 ++ B1 ++ (A2 ++ B2 ++ S)) (a : Int) (b : Int) (mid : Int) (s : Int) (e : Int) true) (fun k => ?_) ?_
            · rw [split_part_49.j7.eq_2, if_pos (by omega), decide_eq_true (by omega)]
            · refine Ev.step (f := fun k => (split_part_49.f k (P ++ A1 ++ B1 ++ (A2 ++ B2 ++ S)) (a : Int) (s : Int) (mid : Int)).bind fun t => if (mid : Int) < (e : Int) then (if (e : Int) < (b : Int) then (split_part_49.f k t (mid : Int) (e : Int) (b : Int)).bind fun t => some t else some t) else some t) (fun k => ?_) (Ev.bind this hS2)
              rw [split_part_49.j8.eq_2, if_pos rfl]
          · have h := m1d c
            have e3 : P ++ A1 ++ B1 ++ (A2 ++ B2 ++ S) = P ++ M1 ++ (A2 ++ B2 ++ S) := by rw [h]; simp
            rw [e3]
            refine Ev.step (f := fun k => split_part_49.j8 k (P ++ M1 ++ (A2 ++ B2 ++ S)) (a : Int) (b : Int) (mid : Int) (s : Int) (e : Int) false) (fun k => ?_) ?_
            · rw [split_part_49.j7.eq_2]
              by_cases c3 : a < s
              · rw [if_pos (by omega), decide_eq_false (by omega)]
              · rw [if_neg (by omega)]
            · refine Ev.step (fun k => ?_) hS2
              rw [split_part_49.j8.eq_2, if_neg (by simp)]

/-! ### the whole -/
theorem stb_l2 {n bs : Nat} (hbs : 1 ≤ bs) (hbs2 : bs ≤ 1099511627776) (hn : n ≤ 1099511627776) (d : Nat) : ∀ (P L0 L : List S52) (a : Nat), L0.length ≤ d → Bk lt bs L0 L → P.length = a → a + L0.length = n →
    ∃ L', Bk lt (2 * bs) L0 L' ∧ ∀ z, Ev (fun k => split_part_33.l1 k (P ++ L') (n : Int) ((2 * bs : Nat) : Int)) z → Ev (fun k => split_part_33.l2 k (P ++ L) (n : Int) (bs : Int) (a : Int) ((a + 2 * bs : Nat) : Int)) z := by
  have w2 : wrap64 (2 * (bs : Int)) = ((2 * bs : Nat) : Int) := by rw [w64_in (by unfold I64; omega)]; omega
  have w2' : wrap64 ((bs : Int) * 2) = ((2 * bs : Nat) : Int) := by rw [w64_in (by unfold I64; omega)]; omega
  induction d with
  | zero =>
    intro P L0 L a hd hB hP ha
    refine ⟨L, .last (by omega) (hB.whole (by omega)) hB.len, fun z hz => ?_⟩
    refine Ev.step (fun k => ?_) hz
    rw [split_part_33.l2.eq_2, if_neg (by omega), w_add a bs (by omega), if_neg (by omega), w2']
  | succ d ih =>
    intro P L0 L a hd hB hP ha
    by_cases c1 : a + 2 * bs ≤ n
    · obtain ⟨C0, C, R0, R, h1, h2, h3, h4, h5, h6⟩ := hB.first (by omega)
      obtain ⟨D0, D, T0, T, g1, g2, g3, g4, g5, g6⟩ := h6.first (by have := congrArg List.length h1; simp at this; omega)
      obtain ⟨M, m1, m2, m3⟩ := sym_f (C.length + D.length) P C D T a (a + bs) (a + 2 * bs) (Nat.le_refl _) (by omega) (by omega) h5.1 g5.1 hP (by omega) (by omega) (by
        have e1 := hB.len; rw [h2, g2] at e1; simp at e1; omega)
      have hl : (C0 ++ D0).length = 2 * bs := by simp; omega
      have hT : a + 2 * bs + T0.length = n := by have := congrArg List.length h1; rw [g1] at this; simp at this; omega
      obtain ⟨L', l1, l2⟩ := ih (P ++ M) T0 T (a + 2 * bs) (by omega) g6 (by simp; omega) hT
      refine ⟨M ++ L', ?_, fun z hz => ?_⟩
      · rw [h1, g1, ← List.append_assoc]
        exact .cons hl (by omega) (St.comp h5 g5 m1) l1
      · have e1 : P ++ M ++ L' = P ++ (M ++ L') := by simp
        have e2 : P ++ C ++ D ++ T = P ++ L := by rw [h2, g2]; simp
        rw [← e1] at hz
        have := l2 z hz
        rw [e2] at m3
        refine Ev.step (f := fun k => (split_part_49.f k (P ++ L) (a : Int) ((a + bs : Nat) : Int) ((a + 2 * bs : Nat) : Int)).bind fun t => split_part_33.l2 k t (n : Int) (bs : Int) ((a + 2 * bs : Nat) : Int) ((a + 2 * bs + 2 * bs : Nat) : Int)) (fun k => ?_) (Ev.bind m3 this)
        rw [split_part_33.l2.eq_2, if_pos (by omega), w_add a bs (by omega), w2, w_add (a + 2 * bs) (2 * bs) (by omega)]
    · by_cases c2 : a + bs < n
      · obtain ⟨C0, C, R0, R, h1, h2, h3, h4, h5, h6⟩ := hB.first (by omega)
        have hRl : R0.length = n - a - bs := by have := congrArg List.length h1; simp at this; omega
        have hR := h6.whole (by omega)
        have hRl2 := h6.len
        obtain ⟨M, m1, m2, m3⟩ := sym_f (C.length + R.length) P C R [] a (a + bs) n (Nat.le_refl _) (by omega) (by omega) h5.1 hR.1 hP (by omega) (by omega) (by simp; omega)
        refine ⟨M, .last (by omega) (by rw [h1]; exact St.comp h5 hR m1) (by rw [h1]; simp; omega), fun z hz => ?_⟩
        have e2 : P ++ C ++ R ++ [] = P ++ L := by rw [h2]; simp
        rw [e2, List.append_nil] at m3
        refine Ev.step (f := fun k => (split_part_49.f k (P ++ L) (a : Int) ((a + bs : Nat) : Int) (n : Int)).bind fun t => split_part_33.l1 k t (n : Int) ((2 * bs : Nat) : Int)) (fun k => ?_) (Ev.bind m3 hz)
        rw [split_part_33.l2.eq_2, if_neg (by omega), w_add a bs (by omega), if_pos (by omega), w2']
      · refine ⟨L, .last (by omega) (hB.whole (by omega)) hB.len, fun z hz => ?_⟩
        refine Ev.step (fun k => ?_) hz
        rw [split_part_33.l2.eq_2, if_neg (by omega), w_add a bs (by omega), if_neg (by omega), w2']
theorem stb_l1 {n : Nat} (hn : n ≤ 549755813888) (d : Nat) : ∀ (L0 L : List S52) (bs : Nat), n - bs ≤ d → 1 ≤ bs → bs ≤ 1099511627776 → Bk lt bs L0 L → L0.length = n →
    ∃ R, St lt L0 R ∧ R.length = n ∧ Ev (fun k => split_part_33.l1 k L (n : Int) (bs : Int)) R := by
  induction d with
  | zero =>
    intro L0 L bs hd h1 h2 hB hL
    refine ⟨L, hB.whole (by omega), by rw [hB.len, hL], ?_⟩
    refine Ev.step (f := fun _ => some _) (fun k => ?_) (Ev.now _)
    rw [split_part_33.l1.eq_2, if_neg (by omega)]
  | succ d ih =>
    intro L0 L bs hd h1 h2 hB hL
    by_cases c : bs < n
    · obtain ⟨L', hB', hz⟩ := stb_l2 (n := n) h1 h2 (by omega) n [] L0 L 0 (by omega) hB rfl (by omega)
      obtain ⟨R, r1, r2, r3⟩ := ih L0 L' (2 * bs) (by omega) (by omega) (by omega) hB' hL
      refine ⟨R, r1, r2, ?_⟩
      have := hz R (by simpa using r3)
      simp only [List.nil_append, Nat.zero_add] at this
      refine Ev.step (fun k => ?_) this
      rw [split_part_33.l1.eq_2, if_pos (by omega), show wrap64 (2 * (bs : Int)) = ((2 * bs : Nat) : Int) by rw [w64_in (by unfold I64; omega)]; omega]; rfl
    · refine ⟨L, hB.whole (by omega), by rw [hB.len, hL], ?_⟩
      refine Ev.step (f := fun _ => some _) (fun k => ?_) (Ev.now _)
      rw [split_part_33.l1.eq_2, if_neg (by omega)]
theorem stb_l0 {n : Nat} (hn : n ≤ 549755813888) (d : Nat) : ∀ (P L : List S52) (a : Nat), L.length ≤ d → P.length = a → a + L.length = n →
    ∃ L', Bk lt 20 L L' ∧ ∀ z, Ev (fun k => split_part_33.l1 k (P ++ L') (n : Int) 20) z → Ev (fun k => split_part_33.l0 k (P ++ L) (n : Int) 20 (a : Int) ((a + 20 : Nat) : Int)) z := by
  induction d with
  | zero =>
    intro P L a hd hP ha
    obtain ⟨R, r1, r2, r3⟩ := ins_f (P := P) (A := L) (S := []) (a := a) (b := n) hP ha (by simp; omega)
    refine ⟨R, .last (by omega) r1 r2, fun z hz => ?_⟩
    rw [List.append_nil, List.append_nil] at r3
    refine Ev.step (f := fun k => (split_part_48.f k (P ++ L) (a : Int) (n : Int)).bind fun t => split_part_33.l1 k t (n : Int) 20) (fun k => ?_) (Ev.bind r3 hz)
    rw [split_part_33.l0.eq_2, if_neg (by omega)]
  | succ d ih =>
    intro P L a hd hP ha
    by_cases c : a + 20 ≤ n
    · obtain ⟨C, T, hCT, hC⟩ : ∃ C T, L = C ++ T ∧ C.length = 20 := ⟨L.take 20, L.drop 20, (List.take_append_drop ..).symm, by simp; omega⟩
      have hT : T.length + 20 = L.length := by rw [hCT]; simp; omega
      obtain ⟨R, r1, r2, r3⟩ := ins_f (P := P) (A := C) (S := T) (a := a) (b := a + 20) hP (by omega) (by omega)
      obtain ⟨L', l1, l2⟩ := ih (P ++ R) T (a + 20) (by omega) (by simp; omega) (by omega)
      refine ⟨R ++ L', by rw [hCT]; exact .cons hC (by omega) r1 l1, fun z hz => ?_⟩
      have := l2 z (by simpa using hz)
      have e : P ++ C ++ T = P ++ L := by rw [hCT]; simp
      rw [e] at r3
      refine Ev.step (f := fun k => (split_part_48.f k (P ++ L) (a : Int) ((a + 20 : Nat) : Int)).bind fun t => split_part_33.l0 k t (n : Int) 20 ((a + 20 : Nat) : Int) ((a + 20 + 20 : Nat) : Int)) (fun k => ?_) (Ev.bind r3 this)
      rw [split_part_33.l0.eq_2, if_pos (by omega), show (20 : Int) = ((20 : Nat) : Int) from rfl, w_add (a + 20) 20 (by omega)]
    · obtain ⟨R, r1, r2, r3⟩ := ins_f (P := P) (A := L) (S := []) (a := a) (b := n) hP ha (by simp; omega)
      refine ⟨R, .last (by omega) r1 r2, fun z hz => ?_⟩
      rw [List.append_nil, List.append_nil] at r3
      refine Ev.step (f := fun k => (split_part_48.f k (P ++ L) (a : Int) (n : Int)).bind fun t => split_part_33.l1 k t (n : Int) 20) (fun k => ?_) (Ev.bind r3 hz)
      rw [split_part_33.l0.eq_2, if_neg (by omega)]
/-- slices.SortStableFunc: the row, sorted stably -/
theorem srt_f {L : List S52} (hL : L.length ≤ 549755813888) : ∃ R, St lt L R ∧ R.length = L.length ∧ Ev (fun k => split_part_20.f k L) R := by
  obtain ⟨L', h1, h2⟩ := stb_l0 hL L.length [] L 0 (Nat.le_refl _) rfl (by omega)
  obtain ⟨R, r1, r2, r3⟩ := stb_l1 hL L.length L L' 20 (by omega) (by omega) (by omega) h1 rfl
  refine ⟨R, r1, r2, ?_⟩
  unfold split_part_20.f split_part_33.f
  have := h2 R (by simpa using r3)
  simp only [List.nil_append, Nat.zero_add] at this
  exact Ev.bind this (Ev.now _)
end Go.Proofs.Ytjfnhhfgjomliaa.M
