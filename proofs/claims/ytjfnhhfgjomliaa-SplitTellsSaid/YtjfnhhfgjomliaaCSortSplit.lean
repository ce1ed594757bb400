import Derived.Test.YtjfnhhfgjomliaaQx5
import Derived.Test.YtjfnhhfgjomliaaMSort
import Derived.Test.YtjfnhhfgjomliaaMInt
import Derived.Test.YtjfnhhfgjomliaaQx2
import Derived.Test.YtjfnhhfgjomliaaCCmp
import Derived.Test.YtjfnhhfgjomliaaCWide
import Derived.Test.YtjfnhhfgjomliaaQx3
import Derived.Test.YtjfnhhfgjomliaaQx4
/- what the printed functions of slices.SortStableFunc tell: a stable sort -/
set_option linter.unusedVariables false
set_option linter.unusedSimpArgs false
namespace Go.Proofs.Ytjfnhhfgjomliaa.M
open Go.RowKit Go.Proofs.YtjfnhhfgjomliaaW.PrintWords Go.Proofs.YtjfnhhfgjomliaaW.PrintLast Go.Proofs.YtjfnhhfgjomliaaW.PrintMore Go.Proofs.Ytjfnhhfgjomliaa.Q

/-- the greater rest first -/
def lt (x y : S52) : Bool := decide (y.f2 < x.f2)
theorem swo : SWO lt := ⟨fun h => by simp [lt] at *; omega, fun h1 h2 => by simp [lt] at *; omega⟩
theorem cmp_lt (x y : S52) : ∃ t, split_By_1.f x.f0 x.f1 x.f2 y.f0 y.f1 y.f2 = some t ∧ decide (t < 0) = lt x y := by
  refine ⟨cmpI y.f2 x.f2, ?_, ?_⟩
  · unfold split_By_1.f; rw [compare_f]; rfl
  · unfold cmpI lt; split
    · rename_i h; simp [h]
    · rename_i h; split <;> simp [h]
theorem rd_at {L P R : List S52} {x : S52} {i : Nat} (h : L = P ++ x :: R) (hi : P.length = i) : rd_T52 L (i : Int) = x := by
  unfold rd_T52
  rw [Int.toNat_natCast, h, getD_mid hi]
theorem w_add (a b : Nat) (h : a + b ≤ 9223372036854775807) : wrap64 ((a : Int) + (b : Int)) = ((a + b : Nat) : Int) := by
  rw [w64_in (by unfold I64; omega)]; rfl
theorem w_one (a : Nat) (h : a + 1 ≤ 9223372036854775807) : wrap64 ((a : Int) + 1) = ((a + 1 : Nat) : Int) := by
  rw [w64_in (by unfold I64; omega)]; rfl
theorem w_sub (a b : Nat) (h : b ≤ a) (h2 : a ≤ 9223372036854775807) : wrap64 ((a : Int) - (b : Int)) = ((a - b : Nat) : Int) := by
  rw [w64_in (by unfold I64; omega)]; omega
theorem w_pred (a : Nat) (h : 1 ≤ a) (h2 : a ≤ 9223372036854775807) : wrap64 ((a : Int) - 1) = ((a - 1 : Nat) : Int) := by
  rw [w64_in (by unfold I64; omega)]; omega
theorem w_half (a b : Nat) (h : a + b ≤ 9223372036854775807) : wrap64 (IntKind.u64.wrap (wrap64 ((a : Int) + (b : Int))) / 2) = (((a + b) / 2 : Nat) : Int) := by
  rw [w_add a b h, IntWalk.u64_in _ ⟨by omega, by omega⟩, w64_in (by unfold I64; omega)]; rfl

/-! ### exchange of two rows -/
theorem swp_l {S : List S52} (d : Nat) : ∀ (P A M B : List S52) (a b n i : Nat), A.length = d → B.length = d → i + d = n → P.length = a + i → P.length + d + M.length = b + i → P.length + d + M.length + d + S.length ≤ 1099511627776 →
    Ev (fun k => split_part_53.l0 k (P ++ A ++ M ++ B ++ S) (a : Int) (b : Int) (n : Int) (i : Int)) (P ++ B ++ M ++ A ++ S) := by
  induction d with
  | zero =>
    intro P A M B a b n i hA hB hn hP hM hL
    obtain rfl := List.eq_nil_of_length_eq_zero hA
    obtain rfl := List.eq_nil_of_length_eq_zero hB
    refine Ev.step (f := fun _ => some _) (fun k => ?_) (Ev.now _)
    rw [split_part_53.l0.eq_2, if_neg (by omega)]
  | succ d ih =>
    intro P A M B a b n i hA hB hn hP hM hL
    cases A with
    | nil => simp at hA
    | cons x A =>
      cases B with
      | nil => simp at hB
      | cons y B =>
        simp only [List.length_cons, Nat.add_right_cancel_iff] at hA hB
        generalize hLL : P ++ x :: A ++ M ++ y :: B ++ S = L
        have e1 : L = P ++ x :: (A ++ (M ++ y :: (B ++ S))) := by rw [← hLL]; simp
        have e2 : L = (P ++ x :: (A ++ M)) ++ y :: (B ++ S) := by rw [← hLL]; simp
        have hlen : L.length = P.length + (d + 1) + M.length + (d + 1) + S.length := by rw [← hLL]; simp; omega
        have r1 : rd_T52 L ((a + i : Nat) : Int) = x := rd_at e1 hP
        have r2 : rd_T52 L ((b + i : Nat) : Int) = y := rd_at e2 (by simp; omega)
        have e3 : (L.set (a + i) y).set (b + i) x = (P ++ [y]) ++ A ++ (M ++ [x]) ++ B ++ S := by
          rw [e1, set_mid hP, show P ++ y :: (A ++ (M ++ y :: (B ++ S))) = (P ++ y :: (A ++ M)) ++ y :: (B ++ S) by simp, set_mid (by simp; omega)]; simp
        have := ih (P ++ [y]) A (M ++ [x]) B a b n (i + 1) hA hB (by omega) (by simp; omega) (by simp; omega) (by simp; omega)
        have e4 : P ++ [y] ++ B ++ (M ++ [x]) ++ A ++ S = P ++ y :: B ++ M ++ x :: A ++ S := by simp
        rw [← e4]
        refine Ev.step (fun k => ?_) this
        rw [split_part_53.l0.eq_2, if_pos (by omega), w_add b i (by omega), w_add a i (by omega), w_one i (by omega), if_pos (by omega), if_pos (by omega), if_pos (by omega), if_pos (by omega), r1, r2, Int.toNat_natCast, Int.toNat_natCast, ← e3]
theorem swp_f {P A M B S : List S52} {a b n : Nat} (hP : P.length = a) (hA : A.length = n) (hB : B.length = n) (hb : b = a + n + M.length) (hL : a + n + M.length + n + S.length ≤ 1099511627776) :
    Ev (fun k => split_part_53.f k (P ++ A ++ M ++ B ++ S) (a : Int) (b : Int) (n : Int)) (P ++ B ++ M ++ A ++ S) := by
  unfold split_part_53.f
  exact swp_l n P A M B a b n 0 hA hB (by omega) (by omega) (by omega) (by omega)

/-! ### two rows side by side exchanged -/
theorem rot_l (s : Nat) : ∀ (P A B S : List S52) (m i j : Nat), i + j ≤ s → 1 ≤ i → 1 ≤ j → A.length = i → B.length = j → P.length + i = m → P.length + i + j + S.length ≤ 1099511627776 →
    Ev (fun k => split_part_52.l0 k (P ++ A ++ B ++ S) (m : Int) (i : Int) (j : Int)) (P ++ B ++ A ++ S) := by
  induction s with
  | zero => intro P A B S m i j h h1 h2; omega
  | succ s ih =>
    intro P A B S m i j h h1 h2 hA hB hP hL
    by_cases c1 : i = j
    · subst c1
      have := swp_f (P := P) (A := A) (M := []) (B := B) (S := S) (a := m - i) (b := m) (n := i) (by omega) hA hB (by simp; omega) (by simp; omega)
      simp only [List.append_nil] at this
      refine Ev.step (f := fun k => (split_part_53.f k (P ++ A ++ B ++ S) ((m - i : Nat) : Int) (m : Int) (i : Int)).bind fun t => some t) (fun k => ?_) (Ev.bind this (Ev.now _))
      rw [split_part_52.l0.eq_2, if_pos rfl, w_sub m i (by omega) (by omega)]
    · by_cases c2 : j < i
      · obtain ⟨A1, A2, rfl, hA1⟩ : ∃ A1 A2, A = A1 ++ A2 ∧ A1.length = j := ⟨A.take j, A.drop j, (List.take_append_drop ..).symm, by simp; omega⟩
        have hA2 : A2.length = i - j := by simp at hA; omega
        have s1 := swp_f (P := P) (A := A1) (M := A2) (B := B) (S := S) (a := m - i) (b := m) (n := j) (by omega) hA1 hB (by omega) (by omega)
        have s2 := ih (P ++ B) A2 A1 S m (i - j) j (by omega) (by omega) h2 hA2 hA1 (by simp; omega) (by simp; omega)
        have e : P ++ (A1 ++ A2) ++ B ++ S = P ++ A1 ++ A2 ++ B ++ S := by simp
        have e' : P ++ B ++ (A1 ++ A2) ++ S = P ++ B ++ A1 ++ A2 ++ S := by simp
        rw [e, e']
        refine Ev.step (f := fun k => (split_part_53.f k (P ++ A1 ++ A2 ++ B ++ S) ((m - i : Nat) : Int) (m : Int) (j : Int)).bind fun t => split_part_52.l0 k t (m : Int) ((i - j : Nat) : Int) (j : Int)) (fun k => ?_) (Ev.bind s1 s2)
        rw [split_part_52.l0.eq_2, if_neg (by omega), if_pos (show (i : Int) > (j : Int) by omega), w_sub m i (by omega) (by omega), w_sub i j (by omega) (by omega)]
      · obtain ⟨B1, B2, rfl, hB1⟩ : ∃ B1 B2, B = B1 ++ B2 ∧ B1.length = j - i := ⟨B.take (j - i), B.drop (j - i), (List.take_append_drop ..).symm, by simp; omega⟩
        have hB2 : B2.length = i := by simp at hB; omega
        have s1 := swp_f (P := P) (A := A) (M := B1) (B := B2) (S := S) (a := m - i) (b := m + j - i) (n := i) (by omega) hA hB2 (by omega) (by omega)
        have s2 := ih P B2 B1 (A ++ S) m i (j - i) (by omega) h1 (by omega) hB2 hB1 hP (by simp; omega)
        have e : P ++ A ++ (B1 ++ B2) ++ S = P ++ A ++ B1 ++ B2 ++ S := by simp
        have e' : P ++ (B1 ++ B2) ++ A ++ S = P ++ B1 ++ B2 ++ (A ++ S) := by simp
        have e2 : P ++ B2 ++ B1 ++ A ++ S = P ++ B2 ++ B1 ++ (A ++ S) := by simp
        rw [e, e']
        rw [e2] at s1
        refine Ev.step (f := fun k => (split_part_53.f k (P ++ A ++ B1 ++ B2 ++ S) ((m - i : Nat) : Int) ((m + j - i : Nat) : Int) (i : Int)).bind fun t => split_part_52.l0 k t (m : Int) (i : Int) ((j - i : Nat) : Int)) (fun k => ?_) (Ev.bind s1 s2)
        rw [split_part_52.l0.eq_2, if_neg (by omega), if_neg (show ¬ (i : Int) > (j : Int) by omega), w_sub m i (by omega) (by omega), w_add m j (by omega), w_sub (m + j) i (by omega) (by omega), w_sub j i (by omega) (by omega)]
theorem rot_f {P A B S : List S52} {a m b : Nat} (hP : P.length = a) (hA : a + A.length = m) (hB : m + B.length = b) (h1 : a < m) (h2 : m < b) (hL : b + S.length ≤ 1099511627776) :
    Ev (fun k => split_part_52.f k (P ++ A ++ B ++ S) (a : Int) (m : Int) (b : Int)) (P ++ B ++ A ++ S) := by
  unfold split_part_52.f
  rw [w_sub m a (by omega) (by omega), w_sub b m (by omega) (by omega)]
  exact rot_l _ P A B S m (m - a) (b - m) (Nat.le_refl _) (by omega) (by omega) (by omega) (by omega) (by omega) (by omega)

/-! ### insertion -/
theorem ins_l1 {P S : List S52} {x : S52} {a b i : Nat} (hP : P.length = a) (n : Nat) : ∀ (A1 A2 : List S52), A1.length = n → (∀ y ∈ A2, lt x y = true) → a + A1.length + A2.length + 1 + S.length ≤ 1099511627776 →
    ∃ B1 B2, B1 ++ B2 = A1 ++ A2 ∧ (∀ y ∈ B2, lt x y = true) ∧ (∀ B y, B1 = B ++ [y] → lt x y = false) ∧
      ∀ r, Ev (fun k => split_part_48.l0 k (P ++ B1 ++ x :: B2 ++ S) (a : Int) (b : Int) (wrap64 ((i : Int) + 1))) r → Ev (fun k => split_part_48.l1 k (P ++ A1 ++ x :: A2 ++ S) (a : Int) (b : Int) (i : Int) ((a + A1.length : Nat) : Int)) r := by
  induction n with
  | zero =>
    intro A1 A2 h1 h2 hL
    obtain rfl := List.eq_nil_of_length_eq_zero h1
    refine ⟨[], A2, rfl, h2, fun B y e => by simp at e, fun r hr => ?_⟩
    refine Ev.step (fun k => ?_) hr
    rw [split_part_48.l1.eq_2, if_neg (by simp)]
  | succ n ih =>
    intro A1 A2 h1 h2 hL
    obtain ⟨A, y, rfl⟩ : ∃ A y, A1 = A ++ [y] := by
      rcases List.eq_nil_or_concat A1 with h | ⟨A, y, h⟩
      · subst h; simp at h1
      · exact ⟨A, y, by simpa using h⟩
    have hA : A.length = n := by simpa using h1
    generalize hLL : P ++ (A ++ [y]) ++ x :: A2 ++ S = L
    have e1 : L = (P ++ A ++ [y]) ++ x :: (A2 ++ S) := by rw [← hLL]; simp
    have e2 : L = (P ++ A) ++ y :: (x :: (A2 ++ S)) := by rw [← hLL]; simp
    have hlen : L.length = P.length + A.length + 1 + 1 + A2.length + S.length := by rw [← hLL]; simp; omega
    have r1 : rd_T52 L ((a + (A ++ [y]).length : Nat) : Int) = x := rd_at e1 (by simp; omega)
    have r2 : rd_T52 L ((a + (A ++ [y]).length - 1 : Nat) : Int) = y := rd_at e2 (by simp; omega)
    have hj : (a + (A ++ [y]).length : Nat) = a + A.length + 1 := by simp; omega
    obtain ⟨t, ht, hlt⟩ := cmp_lt x y
    by_cases c : lt x y = true
    · obtain ⟨B1, B2, hB, hB2, hB1, hr0⟩ := ih A (y :: A2) hA (fun z hz => by rcases List.mem_cons.1 hz with rfl | hz; exact c; exact h2 z hz) (by simp at hL ⊢; omega)
      refine ⟨B1, B2, by rw [hB]; simp, hB2, hB1, fun r hr => ?_⟩
      have := hr0 r hr
      have e3 : (L.set (a + A.length + 1) y).set (a + A.length) x = P ++ A ++ x :: (y :: A2) ++ S := by
        rw [e1, set_mid (by simp; omega), show P ++ A ++ [y] ++ y :: (A2 ++ S) = (P ++ A) ++ y :: (y :: (A2 ++ S)) by simp, set_mid (by simp; omega)]; simp
      refine Ev.step (fun k => ?_) this
      rw [split_part_48.l1.eq_2, hj, if_pos (by omega), w_pred (a + A.length + 1) (by omega) (by omega), if_pos (by omega), if_pos (by omega), if_pos (by omega), if_pos (by omega)]
      rw [hj] at r1
      rw [show a + (A ++ [y]).length - 1 = a + A.length by omega] at r2
      rw [show a + A.length + 1 - 1 = a + A.length by omega, r1, r2, ht]
      simp only [Option.bind_some]
      rw [if_pos (by rw [c] at hlt; simpa using hlt), Int.toNat_natCast, Int.toNat_natCast, ← e3]
    · have c' : lt x y = false := by simpa using c
      refine ⟨A ++ [y], A2, rfl, h2, fun B z e => ?_, fun r hr => ?_⟩
      · have := List.append_inj_right' e rfl
        simp at this; rw [← this]; exact c'
      · rw [hLL] at hr
        refine Ev.step (fun k => ?_) hr
        rw [split_part_48.l1.eq_2, hj, if_pos (by omega), w_pred (a + A.length + 1) (by omega) (by omega), if_pos (by omega), if_pos (by omega), if_pos (by omega), if_pos (by omega)]
        rw [hj] at r1
        rw [show a + (A ++ [y]).length - 1 = a + A.length by omega] at r2
        rw [show a + A.length + 1 - 1 = a + A.length by omega, r1, r2, ht]
        simp only [Option.bind_some]
        rw [if_neg (by rw [c'] at hlt; simpa using hlt)]
theorem last_le {A : List S52} {x : S52} (hs : Srt lt A) (h : ∀ B y, A = B ++ [y] → lt x y = false) : ∀ y ∈ A, le lt y x := by
  intro y hy
  rcases List.eq_nil_or_concat A with e | ⟨B, z, e⟩
  · subst e; cases hy
  · have e : A = B ++ [z] := by simpa using e
    subst e
    exact swo.trans (Srt.head swo hs hy) (h B z rfl)
theorem ins_l0 {P S A0 : List S52} {a b : Nat} (hP : P.length = a) (T : List S52) : ∀ (A : List S52) (i : Nat), St lt A0 A → a + A.length = i → i + T.length = b → b + S.length ≤ 1099511627776 →
    ∃ R, St lt (A0 ++ T) R ∧ R.length = A.length + T.length ∧ Ev (fun k => split_part_48.l0 k (P ++ A ++ T ++ S) (a : Int) (b : Int) (i : Int)) (P ++ R ++ S) := by
  induction T generalizing A0 with
  | nil =>
    intro A i hA hi hb hL
    refine ⟨A, by simpa using hA, by simp, ?_⟩
    simp only [List.append_nil]
    refine Ev.step (f := fun _ => some _) (fun k => ?_) (Ev.now _)
    rw [split_part_48.l0.eq_2, if_neg (by simp at hb; omega)]
  | cons x T ih =>
    intro A i hA hi hb hL
    simp only [List.length_cons] at hb
    obtain ⟨B1, B2, hB, hB2, hB1, hr⟩ := ins_l1 (S := T ++ S) (x := x) (a := a) (b := b) (i := i) hP A.length A [] rfl (by simp) (by simp; omega)
    rw [List.append_nil] at hB
    have hs := hA.1
    rw [← hB] at hs
    have s1 := last_le (List.pairwise_append.1 hs).1 hB1
    have hst : St lt (A0 ++ [x]) (B1 ++ x :: B2) := St.comp hA (St.one x) (by rw [← hB]; exact St.insert swo hs s1 hB2)
    have hBl : (B1 ++ x :: B2).length = A.length + 1 := by rw [← hB]; simp; omega
    obtain ⟨R, hR1, hR2, hR3⟩ := ih (A0 := A0 ++ [x]) (B1 ++ x :: B2) (i + 1) hst (by omega) (by omega) hL
    refine ⟨R, by simpa using hR1, by simp at hR2 hBl ⊢; omega, ?_⟩
    have e1 : P ++ A ++ x :: T ++ S = P ++ A ++ x :: [] ++ (T ++ S) := by simp
    have e2 : P ++ B1 ++ x :: B2 ++ (T ++ S) = P ++ (B1 ++ x :: B2) ++ T ++ S := by simp
    have := hr (P ++ R ++ S) (by rw [e2, w_one i (by omega)]; exact hR3)
    rw [e1]
    refine Ev.step (fun k => ?_) this
    rw [split_part_48.l0.eq_2, if_pos (by omega), hi]
theorem ins_f {P A S : List S52} {a b : Nat} (hP : P.length = a) (hb : a + A.length = b) (hL : b + S.length ≤ 1099511627776) :
    ∃ R, St lt A R ∧ R.length = A.length ∧ Ev (fun k => split_part_48.f k (P ++ A ++ S) (a : Int) (b : Int)) (P ++ R ++ S) := by
  unfold split_part_48.f
  rw [w_one a (by omega)]
  cases A with
  | nil =>
    refine ⟨[], St.nil, rfl, ?_⟩
    refine Ev.step (f := fun _ => some _) (fun k => ?_) (Ev.now _)
    rw [split_part_48.l0.eq_2, if_neg (by simp at hb; omega)]
  | cons x T =>
    obtain ⟨R, h1, h2, h3⟩ := ins_l0 (A0 := [x]) (S := S) (b := b) hP T [x] (a + 1) (St.one x) (by simp) (by simp at hb; omega) hL
    refine ⟨R, by simpa using h1, by simp at h2 ⊢; omega, ?_⟩
    have e : P ++ x :: T ++ S = P ++ [x] ++ T ++ S := by simp
    rw [e]; exact h3
end Go.Proofs.Ytjfnhhfgjomliaa.M
