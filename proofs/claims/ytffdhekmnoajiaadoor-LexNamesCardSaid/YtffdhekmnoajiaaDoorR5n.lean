import Derived.Test.YtffdhekmnoajiaaDoorQx1
import Derived.Test.YtffdhekmnoajiaaDoorQx2
import Derived.Test.YtffdhekmnoajiaaDoorR5w
/- the reference's other answers, and the law's own small functions -/
set_option linter.unusedVariables false
set_option linter.unusedSimpArgs false
namespace Go.Proofs.YtffdhekmnoajiaaDoor.M
open Go.RowKit Go.Proofs.YtffdhekmnoajiaaDoorW.PrintWords Go.Proofs.YtffdhekmnoajiaaDoorW.PrintLast Go.Proofs.YtffdhekmnoajiaaDoorW.PrintMore Go.Proofs.YtffdhekmnoajiaaDoor.Q Go.Proofs.YtffdhekmnoajiaaDoor.X
abbrev T42 := S42
abbrev T49 := S49
def t49 (x : T42) : T49 := ⟨x.f0, x.f1⟩
def t42 (x : T49) : T42 := ⟨x.f0, x.f1⟩
theorem t49_s42 (x : Int × List (List UInt8)) : t49 (s42 x) = s49 x := rfl
theorem rdn_of {α : Type} (d : α) {L P R : List α} {x : α} {i : Nat} (h : L = P ++ x :: R) (hi : P.length = i) : L.getD (i : Int).toNat d = x := by
  rw [h, Int.toNat_natCast, List.getD_eq_getElem?_getD, List.getElem?_append_right (by omega), hi, Nat.sub_self]; rfl
theorem rd49 {L P R : List T49} {x : T49} {i : Nat} (h : L = P ++ x :: R) (hi : P.length = i) : rd_T49 L (i : Int) = x := rdn_of _ h hi
theorem rd42 {L P R : List T42} {x : T42} {i : Nat} (h : L = P ++ x :: R) (hi : P.length = i) : rd_T42 L (i : Int) = x := rdn_of _ h hi
theorem rdS {L P R : List ByteArray} {x : ByteArray} {i : Nat} (h : L = P ++ x :: R) (hi : P.length = i) : rdOf ByteArray.empty L (i : Int) = x := rdn_of _ h hi
theorem one64 (i : Nat) (h : i < 9223372036854775807) : wrap64 ((i : Int) + 1) = ((i + 1 : Nat) : Int) := w64_nat h
theorem ours_l (T : List T42) : ∀ (P L : List T42) (i : Nat), L = P ++ T → P.length = i → L.length < 4398046511104 → Ev (fun k => law05_Ours.l0 k (P.map t49) L (L.length : Int) (i : Int)) (L.map t49) := by
  induction T with
  | nil =>
    intro P L i hL hi hl
    have e : P = L := by rw [hL]; simp
    subst e
    refine Ev.step (f := fun _ => some _) (fun k => ?_) (Ev.now _)
    rw [law05_Ours.l0.eq_2, if_neg (by omega)]
  | cons x T ih =>
    intro P L i hL hi hl
    have hlen : L.length = P.length + 1 + T.length := by rw [hL]; simp; omega
    have := ih (P ++ [x]) L (i + 1) (by rw [hL]; simp) (by simp; omega) hl
    refine Ev.step (fun k => ?_) this
    rw [law05_Ours.l0.eq_2, if_pos (by omega), if_pos (by omega), if_pos (by omega), if_pos (by rw [List.length_map]; omega), rd42 hL hi, one64 i (by omega), List.map_append]
    rfl
theorem ours_f {l : List T42} (h : l.length < 4398046511104) : Ev (fun k => law05_Ours.f k l) (l.map t49) := ours_l l [] l 0 rfl rfl h
theorem theirs_l (T : List T49) : ∀ (P L : List T49) (i : Nat), L = P ++ T → P.length = i → L.length < 4398046511104 → Ev (fun k => law05_theirs.l0 k (P.map t42) L (L.length : Int) (i : Int)) (L.map t42) := by
  induction T with
  | nil =>
    intro P L i hL hi hl
    have e : P = L := by rw [hL]; simp
    subst e
    refine Ev.step (f := fun _ => some _) (fun k => ?_) (Ev.now _)
    rw [law05_theirs.l0.eq_2, if_neg (by omega)]
  | cons x T ih =>
    intro P L i hL hi hl
    have hlen : L.length = P.length + 1 + T.length := by rw [hL]; simp; omega
    have := ih (P ++ [x]) L (i + 1) (by rw [hL]; simp) (by simp; omega) hl
    refine Ev.step (fun k => ?_) this
    rw [law05_theirs.l0.eq_2, if_pos (by omega), if_pos (by omega), if_pos (by omega), if_pos (by rw [List.length_map]; omega), rd49 hL hi, one64 i (by omega), List.map_append]
    rfl
theorem theirs_f {l : List T49} (h : l.length < 4398046511104) : Ev (fun k => law05_theirs.f k l) (l.map t42) := theirs_l l [] l 0 rfl rfl h
/-! few -/
def FewL (x : T49) : Prop := x.f1.length ≤ 60 ∧ ∀ w ∈ x.f1, w.size ≤ 100
theorem few_in {L : List T49} {i : Nat} {x : T49} (hx : rd_T49 L (i : Int) = x) (hi : i < 9223372036854775807) (T : List ByteArray) : ∀ (P : List ByteArray), x.f1 = P ++ T → x.f1.length ≤ 60 → (∀ w ∈ P, w.size ≤ 100) → ∀ b, Ev (fun k => law05_few.l0 k L L (L.length : Int) ((i + 1 : Nat) : Int)) b →
    ∃ c, Ev (fun k => law05_few.l1 k L L (L.length : Int) (i : Int) x.f1 (x.f1.length : Int) (P.length : Int)) c ∧ (c = true → FewL x ∧ b = true) := by
  induction T with
  | nil =>
    intro P hP hl hw b hb
    refine ⟨b, Ev.step (fun k => ?_) hb, fun h => ⟨⟨hl, by rw [hP, List.append_nil]; exact hw⟩, h⟩⟩
    rw [law05_few.l1.eq_2, if_neg (by rw [hP]; simp), one64 i hi]
  | cons y T ih =>
    intro P hP hl hw b hb
    have hlen : x.f1.length = P.length + 1 + T.length := by rw [hP]; simp; omega
    have e : ∀ k, law05_few.l1 (k + 1) L L (L.length : Int) (i : Int) x.f1 (x.f1.length : Int) (P.length : Int) = if (y.size : Int) > 100 then some false else law05_few.l1 k L L (L.length : Int) (i : Int) x.f1 (x.f1.length : Int) ((P ++ [y]).length : Int) := fun k => by
      rw [law05_few.l1.eq_2, if_pos (by omega), if_pos (by omega), if_pos (by omega), rdS hP rfl, one64 P.length (by omega)]; simp
    by_cases c : (y.size : Int) > 100
    · exact ⟨false, Ev.step (f := fun _ => some _) (fun k => by rw [e, if_pos c]) (Ev.now _), fun h => by cases h⟩
    · obtain ⟨r, h1, h2⟩ := ih (P ++ [y]) (by rw [hP]; simp) hl (fun w hw' => by
        rcases List.mem_append.1 hw' with h | h
        · exact hw w h
        · rw [List.mem_singleton.1 h]; omega) b hb
      exact ⟨r, Ev.step (fun k => by rw [e, if_neg c]) h1, h2⟩
theorem few_bad {L : List T49} {i : Nat} {x : T49} (hx : rd_T49 L (i : Int) = x) (hl : x.f1.length ≤ 60) (T : List ByteArray) : ∀ (P : List ByteArray), x.f1 = P ++ T → (∃ w ∈ T, 100 < w.size) → Ev (fun k => law05_few.l1 k L L (L.length : Int) (i : Int) x.f1 (x.f1.length : Int) (P.length : Int)) false := by
  induction T with
  | nil => rintro P _ ⟨w, hw, _⟩; simp at hw
  | cons y T ih =>
    intro P hP hex
    have hlen : x.f1.length = P.length + 1 + T.length := by rw [hP]; simp; omega
    have e : ∀ k, law05_few.l1 (k + 1) L L (L.length : Int) (i : Int) x.f1 (x.f1.length : Int) (P.length : Int) = if (y.size : Int) > 100 then some false else law05_few.l1 k L L (L.length : Int) (i : Int) x.f1 (x.f1.length : Int) ((P ++ [y]).length : Int) := fun k => by
      rw [law05_few.l1.eq_2, if_pos (by omega), if_pos (by omega), if_pos (by omega), rdS hP rfl, one64 P.length (by omega)]; simp
    by_cases c : (y.size : Int) > 100
    · exact Ev.step (f := fun _ => some _) (fun k => by rw [e, if_pos c]) (Ev.now _)
    · refine Ev.step (fun k => by rw [e, if_neg c]) (ih (P ++ [y]) (by rw [hP]; simp) ?_)
      obtain ⟨w, hw, h⟩ := hex
      rcases List.mem_cons.1 hw with rfl | hw
      · omega
      · exact ⟨w, hw, h⟩
theorem few_l (T : List T49) : ∀ (P L : List T49) (i : Nat), L = P ++ T → P.length = i → L.length ≤ 9223372036854775807 → (∀ x ∈ P, FewL x) → ∃ b, Ev (fun k => law05_few.l0 k L L (L.length : Int) (i : Int)) b ∧ (b = true → L.length ≤ 60 ∧ ∀ x ∈ L, FewL x) := by
  induction T with
  | nil =>
    intro P L i hL hi hl hP
    have e : P = L := by rw [hL]; simp
    subst e
    refine ⟨decide ((P.length : Int) ≤ 60), Ev.step (f := fun _ => some _) (fun k => ?_) (Ev.now _), fun h => ⟨by have := of_decide_eq_true h; omega, hP⟩⟩
    rw [law05_few.l0.eq_2, if_neg (by omega)]
  | cons x T ih =>
    intro P L i hL hi hl hP
    have hlen : L.length = P.length + 1 + T.length := by rw [hL]; simp; omega
    have hx := rd49 hL hi
    have e : ∀ k, law05_few.l0 (k + 1) L L (L.length : Int) (i : Int) = if (x.f1.length : Int) > 60 then some false else law05_few.l1 k L L (L.length : Int) (i : Int) x.f1 (x.f1.length : Int) 0 := fun k => by
      rw [law05_few.l0.eq_2, if_pos (by omega), if_pos (by omega), if_pos (by omega), hx]
    by_cases c0 : (x.f1.length : Int) > 60
    · exact ⟨false, Ev.step (f := fun _ => some _) (fun k => by rw [e, if_pos c0]) (Ev.now _), fun h => by cases h⟩
    by_cases hfw : FewL x
    · obtain ⟨b, h1, h2⟩ := ih (P ++ [x]) L (i + 1) (by rw [hL]; simp) (by simp; omega) hl (fun y hy => by
        rcases List.mem_append.1 hy with h | h
        · exact hP y h
        · rw [List.mem_singleton.1 h]; exact hfw)
      obtain ⟨c, h3, h4⟩ := few_in hx (by omega) x.f1 [] rfl (by omega) (by simp) b h1
      exact ⟨c, Ev.step (f := fun k => law05_few.l1 k L L (L.length : Int) (i : Int) x.f1 (x.f1.length : Int) 0) (fun k => by rw [e, if_neg c0]) h3, fun h => h2 (h4 h).2⟩
    · have hex : ∃ w ∈ x.f1, 100 < w.size := by
        refine Classical.byContradiction fun hn => hfw ⟨by omega, fun w hw => ?_⟩
        exact Nat.le_of_not_lt fun h => hn ⟨w, hw, h⟩
      have hb := few_bad hx (by omega) x.f1 [] rfl hex
      exact ⟨false, Ev.step (f := fun k => law05_few.l1 k L L (L.length : Int) (i : Int) x.f1 (x.f1.length : Int) 0) (fun k => by rw [e, if_neg c0]) hb, fun h => by cases h⟩
theorem few_f {l : List T49} (h : l.length ≤ 9223372036854775807) : ∃ b, Ev (fun k => law05_few.f k l) b ∧ (b = true → l.length ≤ 60 ∧ ∀ x ∈ l, FewL x) := few_l l [] l 0 rfl rfl h (by simp)
/-! Same -/
theorem same_in {L : List T49} {i : Nat} {x : T49} (hx : rd_T49 L (i : Int) = x) (hi : i < L.length) (hL : L.length ≤ 9223372036854775807) (hxl : x.f1.length ≤ 9223372036854775807) (h : Ev (fun k => ref05_Same.l0 k L L ((i + 1 : Nat) : Int)) true) (T : List ByteArray) : ∀ (P : List ByteArray), x.f1 = P ++ T →
    Ev (fun k => ref05_Same.l1 k L L (i : Int) (P.length : Int)) true := by
  induction T with
  | nil =>
    intro P hP
    refine Ev.step (fun k => ?_) h
    rw [ref05_Same.l1.eq_2, if_pos (by omega), if_pos (by omega), hx, if_neg (by rw [hP]; simp), one64 i (by omega)]
  | cons y T ih =>
    intro P hP
    have hlen : x.f1.length = P.length + 1 + T.length := by rw [hP]; simp; omega
    refine Ev.step (fun k => ?_) (ih (P ++ [y]) (by rw [hP]; simp))
    rw [ref05_Same.l1.eq_2, if_pos (by omega), if_pos (by omega), hx, if_pos (by omega), if_pos (by omega), if_pos (by omega), if_pos (by omega), if_pos rfl, one64 P.length (by omega)]; simp
theorem same_l (T : List T49) : ∀ (P L : List T49) (i : Nat), L = P ++ T → P.length = i → L.length ≤ 9223372036854775807 → (∀ x ∈ L, x.f1.length ≤ 9223372036854775807) → Ev (fun k => ref05_Same.l0 k L L (i : Int)) true := by
  induction T with
  | nil =>
    intro P L i hL hi hl _
    have e : P = L := by rw [hL]; simp
    subst e
    refine Ev.step (f := fun _ => some _) (fun k => ?_) (Ev.now _)
    rw [ref05_Same.l0.eq_2, if_neg (by omega)]
  | cons x T ih =>
    intro P L i hL hi hl hx
    have hlen : L.length = P.length + 1 + T.length := by rw [hL]; simp; omega
    have := ih (P ++ [x]) L (i + 1) (by rw [hL]; simp) (by simp; omega) hl hx
    refine Ev.step (f := fun k => ref05_Same.j1 k L L (i : Int) false) (fun k => by rw [ref05_Same.l0.eq_2, if_pos (by omega), if_pos (by omega), if_pos (by omega), if_pos rfl]; simp) ?_
    refine Ev.step (f := fun k => ref05_Same.l1 k L L (i : Int) 0) (fun k => by rw [ref05_Same.j1.eq_2, if_neg (by simp)]) ?_
    exact same_in (rd49 hL hi) (by omega) hl (hx x (by rw [hL]; simp)) this x.f1 [] rfl
theorem same_f {l : List T49} (h : l.length ≤ 9223372036854775807) (hx : ∀ x ∈ l, x.f1.length ≤ 9223372036854775807) : Ev (fun k => ref05_Same.f k l l) true := by
  unfold ref05_Same.f
  simp only [if_true]
  exact same_l l [] l 0 rfl rfl h hx
/-! Pick -/
def pickI (s : ByteArray) : List ByteArray → Nat → Int
  | [], _ => -1
  | y :: r, i => if y.toList = s.toList then (i : Int) else pickI s r (i + 1)
theorem rpick_l (s : ByteArray) (T : List ByteArray) : ∀ (P L : List ByteArray) (i : Nat), L = P ++ T → P.length = i → L.length ≤ 9223372036854775807 → Ev (fun k => ref05_Pick.l0 k s L (i : Int)) (pickI s T i) := by
  induction T with
  | nil =>
    intro P L i hL hi hl
    have e : P = L := by rw [hL]; simp
    subst e
    refine Ev.step (f := fun _ => some _) (fun k => ?_) (Ev.now _)
    rw [ref05_Pick.l0.eq_2, if_neg (by omega)]; rfl
  | cons x T ih =>
    intro P L i hL hi hl
    have hlen : L.length = P.length + 1 + T.length := by rw [hL]; simp; omega
    have e : ∀ k, ref05_Pick.l0 (k + 1) s L (i : Int) = if x.toList = s.toList then some (i : Int) else ref05_Pick.l0 k s L ((i + 1 : Nat) : Int) := fun k => by
      rw [ref05_Pick.l0.eq_2, if_pos (by omega), if_pos (by omega), rdS hL hi, one64 i (by omega)]
    unfold pickI
    by_cases c : x.toList = s.toList
    · rw [if_pos c]; exact Ev.step (f := fun _ => some _) (fun k => by rw [e, if_pos c]) (Ev.now _)
    · rw [if_neg c]; exact Ev.step (fun k => by rw [e, if_neg c]) (ih (P ++ [x]) L (i + 1) (by rw [hL]; simp) (by simp; omega) hl)
theorem rpick_f (s : ByteArray) {l : List ByteArray} (h : l.length ≤ 9223372036854775807) : Ev (fun k => ref05_Pick.f k s l) (pickI s l 0) := rpick_l s l [] l 0 rfl rfl h
theorem idx_l (s : ByteArray) (T : List ByteArray) : ∀ (P L : List ByteArray) (i : Nat), L = P ++ T → P.length = i → L.length ≤ 9223372036854775807 → Ev (fun k => slices_Index_string_string.l0 k L s (L.length : Int) (i : Int)) (pickI s T i) := by
  induction T with
  | nil =>
    intro P L i hL hi hl
    have e : P = L := by rw [hL]; simp
    subst e
    refine Ev.step (f := fun _ => some _) (fun k => ?_) (Ev.now _)
    rw [slices_Index_string_string.l0.eq_2, if_neg (by omega)]; rfl
  | cons x T ih =>
    intro P L i hL hi hl
    have hlen : L.length = P.length + 1 + T.length := by rw [hL]; simp; omega
    have e : ∀ k, slices_Index_string_string.l0 (k + 1) L s (L.length : Int) (i : Int) = if s.toList = x.toList then some (i : Int) else slices_Index_string_string.l0 k L s (L.length : Int) ((i + 1 : Nat) : Int) := fun k => by
      rw [slices_Index_string_string.l0.eq_2, if_pos (by omega), if_pos (by omega), if_pos (by omega), rdS hL hi, one64 i (by omega)]
    unfold pickI
    by_cases c : x.toList = s.toList
    · rw [if_pos c]; exact Ev.step (f := fun _ => some _) (fun k => by rw [e, if_pos c.symm]) (Ev.now _)
    · rw [if_neg c]; exact Ev.step (fun k => by rw [e, if_neg (fun h => c h.symm)]) (ih (P ++ [x]) L (i + 1) (by rw [hL]; simp) (by simp; omega) hl)
theorem pick_f (s : ByteArray) {l : List ByteArray} (h : l.length ≤ 9223372036854775807) : Ev (fun k => lex_Pick.f k s l) (pickI s l 0) := by
  unfold lex_Pick.f
  exact Ev.bind (idx_l s l [] l 0 rfl rfl h) (Ev.now _)
end Go.Proofs.YtffdhekmnoajiaaDoor.M
