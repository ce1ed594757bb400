import Derived.RowKit
/- stable sorting: sorted, and the elements that stand alike in their first order -/
set_option linter.unusedVariables false
set_option linter.unusedSimpArgs false
namespace Go.Proofs.Ytjfnhhfgjomliaa.M

/-- a strict weak order -/
structure SWO {α : Type} (lt : α → α → Bool) : Prop where
  asymm : ∀ {a b}, lt a b = true → lt b a = false
  trans : ∀ {a b c}, lt b a = false → lt c b = false → lt c a = false
variable {α : Type} {lt : α → α → Bool}
def le (lt : α → α → Bool) (a b : α) : Prop := lt b a = false
def eqv (lt : α → α → Bool) (x y : α) : Bool := !lt x y && !lt y x
theorem SWO.irrefl (h : SWO lt) (a : α) : lt a a = false := by
  cases e : lt a a with
  | false => rfl
  | true => exact (h.asymm e).symm.trans e |>.symm ▸ rfl
theorem SWO.lt_le (h : SWO lt) {a b c : α} (h1 : lt a b = true) (h2 : lt c b = false) : lt a c = true := by
  cases e : lt a c with
  | true => rfl
  | false => have := h.trans h2 e; rw [h1] at this; cases this
theorem SWO.le_lt (h : SWO lt) {a b c : α} (h1 : lt b a = false) (h2 : lt b c = true) : lt a c = true := by
  cases e : lt a c with
  | true => rfl
  | false => have := h.trans e h1; rw [h2] at this; cases this
def Srt (lt : α → α → Bool) (l : List α) : Prop := l.Pairwise (le lt)
/-- R is L, sorted stably -/
def St (lt : α → α → Bool) (L R : List α) : Prop := Srt lt R ∧ ∀ x, R.filter (eqv lt x) = L.filter (eqv lt x)
theorem St.nil : St lt [] [] := ⟨List.Pairwise.nil, fun _ => rfl⟩
theorem St.of_sorted {L : List α} (h : Srt lt L) : St lt L L := ⟨h, fun _ => rfl⟩
theorem St.one (x : α) : St lt [x] [x] := .of_sorted (List.pairwise_singleton ..)
theorem St.comp {C0 C D0 D M : List α} (h1 : St lt C0 C) (h2 : St lt D0 D) (h3 : St lt (C ++ D) M) : St lt (C0 ++ D0) M :=
  ⟨h3.1, fun x => by rw [h3.2, List.filter_append, List.filter_append, h1.2, h2.2]⟩
theorem St.trans {A B C : List α} (h1 : St lt A B) (h2 : St lt B C) : St lt A C := ⟨h2.1, fun x => (h2.2 x).trans (h1.2 x)⟩
theorem eqv_refl (h : SWO lt) (x : α) : eqv lt x x = true := by simp [eqv, h.irrefl]
theorem St.mem (h : SWO lt) {L R : List α} (hs : St lt L R) (x : α) : x ∈ R ↔ x ∈ L := by
  have h1 : x ∈ R.filter (eqv lt x) ↔ x ∈ R := by simp [eqv_refl h]
  have h2 : x ∈ L.filter (eqv lt x) ↔ x ∈ L := by simp [eqv_refl h]
  rw [← h1, hs.2 x, h2]
theorem St.perm (h : SWO lt) {L R : List α} (hs : St lt L R) [DecidableEq α] : R.Perm L := by
  rw [List.perm_iff_count]
  intro a
  have h1 : ∀ l : List α, l.count a = (l.filter (eqv lt a)).count a := fun l => by
    rw [List.count_filter (by exact eqv_refl h a)]
  rw [h1 R, h1 L, hs.2]
theorem filter_nil_of {p : α → Bool} {l : List α} (h : ∀ x ∈ l, p x = false) : l.filter p = [] := by
  rw [List.filter_eq_nil_iff]; intro x hx; simp [h x hx]
/-- halves that stand in order, each sorted of its own parts -/
theorem St.halves (h : SWO lt) {A1 A2 B1 B2 M1 M2 : List α} (h1 : St lt (A1 ++ B1) M1) (h2 : St lt (A2 ++ B2) M2)
    (hA : ∀ x ∈ A1, ∀ y ∈ A2, le lt x y) (hB : ∀ x ∈ B1, ∀ y ∈ B2, le lt x y) (c1 : ∀ x ∈ A1, ∀ y ∈ B2, le lt x y) (c2 : ∀ y ∈ B1, ∀ x ∈ A2, lt y x = true) :
    St lt ((A1 ++ A2) ++ (B1 ++ B2)) (M1 ++ M2) := by
  constructor
  · refine List.pairwise_append.2 ⟨h1.1, h2.1, fun x hx y hy => ?_⟩
    have hx' := (h1.mem h x).1 hx
    have hy' := (h2.mem h y).1 hy
    rcases List.mem_append.1 hx' with hx' | hx' <;> rcases List.mem_append.1 hy' with hy' | hy'
    · exact hA x hx' y hy'
    · exact c1 x hx' y hy'
    · exact h.asymm (c2 x hx' y hy')
    · exact hB x hx' y hy'
  · intro z
    simp only [List.filter_append, h1.2, h2.2]
    -- one of A2, B1 has none that stand like z
    have : A2.filter (eqv lt z) = [] ∨ B1.filter (eqv lt z) = [] := by
      cases e : B1.filter (eqv lt z) with
      | nil => exact .inr rfl
      | cons b t =>
        refine .inl (filter_nil_of fun x hx => ?_)
        have hb : b ∈ B1.filter (eqv lt z) := by rw [e]; exact List.mem_cons_self
        obtain ⟨hb1, hb2⟩ := List.mem_filter.1 hb
        have hlt := c2 b hb1 x hx
        simp only [eqv, Bool.and_eq_true, Bool.not_eq_true'] at hb2
        have : lt z x = true := h.le_lt hb2.2 hlt
        simp [eqv, this]
    rcases this with e | e <;> simp [e]
/-- an element put into a sorted row, behind those that stand like it -/
theorem St.insert (h : SWO lt) {B1 B2 : List α} {x : α} (hs : Srt lt (B1 ++ B2)) (h1 : ∀ y ∈ B1, le lt y x) (h2 : ∀ y ∈ B2, lt x y = true) : St lt ((B1 ++ B2) ++ [x]) (B1 ++ x :: B2) := by
  obtain ⟨s1, s2, s3⟩ := List.pairwise_append.1 hs
  constructor
  · refine List.pairwise_append.2 ⟨s1, List.pairwise_cons.2 ⟨fun y hy => h.asymm (h2 y hy), s2⟩, fun a ha b hb => ?_⟩
    rcases List.mem_cons.1 hb with rfl | hb
    · exact h1 a ha
    · exact s3 a ha b hb
  · intro z
    simp only [List.filter_append, List.filter_cons, List.filter_nil]
    by_cases hz : eqv lt z x = true
    · have : B2.filter (eqv lt z) = [] := filter_nil_of fun y hy => by
        simp only [eqv, Bool.and_eq_true, Bool.not_eq_true'] at hz
        have : lt z y = true := h.le_lt hz.2 (h2 y hy)
        simp [eqv, this]
      simp [hz, this]
    · simp [hz]
/-- an element put into a sorted row, ahead of those that stand like it -/
theorem St.insertL (h : SWO lt) {B1 B2 : List α} {x : α} (hs : Srt lt (B1 ++ B2)) (h1 : ∀ y ∈ B1, lt y x = true) (h2 : ∀ y ∈ B2, le lt x y) : St lt (x :: (B1 ++ B2)) (B1 ++ x :: B2) := by
  obtain ⟨s1, s2, s3⟩ := List.pairwise_append.1 hs
  constructor
  · refine List.pairwise_append.2 ⟨s1, List.pairwise_cons.2 ⟨h2, s2⟩, fun a ha b hb => ?_⟩
    rcases List.mem_cons.1 hb with rfl | hb
    · exact h.asymm (h1 a ha)
    · exact s3 a ha b hb
  · intro z
    simp only [List.filter_append, List.filter_cons]
    by_cases hz : eqv lt z x = true
    · have : B1.filter (eqv lt z) = [] := filter_nil_of fun y hy => by
        simp only [eqv, Bool.and_eq_true, Bool.not_eq_true'] at hz
        have : lt y z = true := h.lt_le (h1 y hy) hz.1
        simp [eqv, this]
      simp [hz, this]
    · simp [hz]
theorem Srt.head (h : SWO lt) {l : List α} {x y : α} (hs : Srt lt (l ++ [x])) (hy : y ∈ l ++ [x]) : le lt y x := by
  obtain ⟨_, _, s3⟩ := List.pairwise_append.1 hs
  rcases List.mem_append.1 hy with hy | hy
  · exact s3 y hy x (List.mem_singleton.2 rfl)
  · rw [List.mem_singleton.1 hy]; exact h.irrefl x
/-- two stably sorted rows of one row are one -/
theorem St.unique (h : SWO lt) : ∀ {R R' : List α}, Srt lt R → Srt lt R' → (∀ x, R.filter (eqv lt x) = R'.filter (eqv lt x)) → R = R'
  | [], [], _, _, _ => rfl
  | [], b :: R', _, _, hf => by
    have := hf b
    rw [List.filter_cons, if_pos (eqv_refl h b)] at this
    cases this
  | a :: R, [], _, _, hf => by
    have := hf a
    rw [List.filter_cons, if_pos (eqv_refl h a)] at this
    cases this
  | a :: R, b :: R', hs, hs', hf => by
    have memA : ∀ x, x ∈ a :: R ↔ x ∈ b :: R' := fun x => by
      have h1 : ∀ l : List α, x ∈ l.filter (eqv lt x) ↔ x ∈ l := fun l => by simp [eqv_refl h]
      rw [← h1, hf x, h1]
    have hab : le lt a b := by
      rcases List.mem_cons.1 ((memA b).2 List.mem_cons_self) with e | e
      · rw [e]; exact h.irrefl a
      · exact (List.pairwise_cons.1 hs).1 b e
    have hba : le lt b a := by
      rcases List.mem_cons.1 ((memA a).1 List.mem_cons_self) with e | e
      · rw [e]; exact h.irrefl b
      · exact (List.pairwise_cons.1 hs').1 a e
    have hab2 : eqv lt a b = true := by simp [eqv]; exact ⟨hba, hab⟩
    have h0 := hf a
    rw [List.filter_cons, if_pos (eqv_refl h a), List.filter_cons, if_pos hab2] at h0
    obtain ⟨rfl, h0⟩ := List.cons.inj h0
    have : R = R' := St.unique h (List.pairwise_cons.1 hs).2 (List.pairwise_cons.1 hs').2 (fun x => by
      have := hf x
      rw [List.filter_cons, List.filter_cons] at this
      split at this
      · exact (List.cons.inj this).2
      · exact this)
    rw [this]
/-! ### rows in blocks -/
inductive Bk (lt : α → α → Bool) (n : Nat) : List α → List α → Prop
  | last {L0 L : List α} : L0.length ≤ n → St lt L0 L → L.length = L0.length → Bk lt n L0 L
  | cons {C0 C L0 L : List α} : C0.length = n → C.length = n → St lt C0 C → Bk lt n L0 L → Bk lt n (C0 ++ L0) (C ++ L)
theorem Bk.len {n : Nat} {L0 L : List α} (h : Bk lt n L0 L) : L.length = L0.length := by
  induction h with
  | last _ _ h => exact h
  | cons h1 h2 _ _ ih => simp [h1, h2, ih]
theorem Bk.whole {n : Nat} {L0 L : List α} (h : Bk lt n L0 L) (hn : L0.length ≤ n) : St lt L0 L := by
  cases h with
  | last _ h _ => exact h
  | @cons C0 C L0 L h1 h2 h3 h4 =>
    have e := h4.len
    simp at hn
    have e1 : L0 = [] := List.eq_nil_of_length_eq_zero (by omega)
    subst e1
    have e2 : L = [] := List.eq_nil_of_length_eq_zero (by simpa using e)
    subst e2
    simpa using h3
/-- the first block, and what stands behind it -/
theorem Bk.first {n : Nat} {L0 L : List α} (h : Bk lt n L0 L) (hn : n ≤ L0.length) : ∃ C0 C D0 D, L0 = C0 ++ D0 ∧ L = C ++ D ∧ C0.length = n ∧ C.length = n ∧ St lt C0 C ∧ Bk lt n D0 D := by
  cases h with
  | last h1 h2 h3 => exact ⟨L0, L, [], [], by simp, by simp, by omega, by omega, h2, .last (by simp) St.nil rfl⟩
  | @cons C0 C L0 L h1 h2 h3 h4 => exact ⟨C0, C, L0, L, rfl, rfl, h1, h2, h3, h4⟩
/-! ### places in a row -/
theorem set_mid {P R : List α} {x v : α} {i : Nat} (h : P.length = i) : (P ++ x :: R).set i v = P ++ v :: R := by
  rw [List.set_append_right _ _ (by omega), h, Nat.sub_self]; rfl
theorem getD_mid {P R : List α} {x d : α} {i : Nat} (h : P.length = i) : (P ++ x :: R).getD i d = x := by
  rw [List.getD_eq_getElem?_getD, List.getElem?_append_right (by omega), h, Nat.sub_self]; rfl
end Go.Proofs.Ytjfnhhfgjomliaa.M
