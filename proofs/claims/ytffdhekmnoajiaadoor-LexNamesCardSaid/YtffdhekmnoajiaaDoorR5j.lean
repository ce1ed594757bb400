import Derived.Test.YtffdhekmnoajiaaDoorR5n
/- the reference's Name and Join -/
set_option linter.unusedVariables false
set_option linter.unusedSimpArgs false
namespace Go.Proofs.YtffdhekmnoajiaaDoor.M
open Go.RowKit Go.Proofs.YtffdhekmnoajiaaDoorW.PrintWords Go.Proofs.YtffdhekmnoajiaaDoorW.PrintLast Go.Proofs.YtffdhekmnoajiaaDoorW.PrintMore Go.Proofs.YtffdhekmnoajiaaDoor.Q Go.Proofs.YtffdhekmnoajiaaDoor.X
theorem rletter_f (c : Int) : ref05_letter.f c = some (letterP c) := by
  unfold ref05_letter.f letterP
  by_cases h1 : c ≥ 97
  · rw [if_pos h1]
    by_cases h2 : c ≤ 122
    · rw [if_pos h2]; simp [show (97 : Int) ≤ c from h1, h2]
    · rw [if_neg h2, if_pos (by omega)]
      have e2 : decide (c ≤ 122) = false := decide_eq_false h2
      have e3 : decide (c ≤ 90) = false := decide_eq_false (by omega)
      simp [e2, e3]
  · rw [if_neg h1]
    have e1 : decide (97 ≤ c) = false := decide_eq_false h1
    by_cases h2 : c ≥ 65
    · rw [if_pos h2]
      have e3 : decide (65 ≤ c) = true := decide_eq_true h2
      simp [e1, e3]
    · rw [if_neg h2]
      have e3 : decide (65 ≤ c) = false := decide_eq_false h2
      simp [e1, e3]
def wrongM (c : UInt8) : Bool := wrongP (c.toNat : Int)
theorem rname_l {S : List UInt8} (hS : S.length ≤ 140737488351232) (T : List UInt8) : ∀ (P : List UInt8), S = P ++ T → Ev (fun k => ref05_Name.l0 k (bs S) (P.length : Int)) (!(T.any wrongM)) := by
  induction T with
  | nil =>
    intro P hs
    have hsz : ((bs S).size : Int) = (P.length : Int) := by rw [bs_size, hs]; simp
    exact Ev.step (f := fun _ => some _) (fun k => by rw [ref05_Name.l0.eq_2, if_neg (by omega)]; rfl) (Ev.now _)
  | cons c T ih =>
    intro P hs
    have hsz : ((bs S).size : Int) = (P.length : Int) + 1 + T.length := by rw [bs_size, hs]; simp; omega
    have hbt : bt (bs S) (P.length : Int) = c.toNat := by rw [hs]; exact bt_bs rfl
    have hw : wrap64 ((P.length : Int) + 1) = ((P ++ [c]).length : Int) := by rw [w64_in (by unfold I64; rw [bs_size] at hsz; omega)]; simp
    have hn := ih (P ++ [c]) (by rw [hs]; simp)
    obtain ⟨x, hx⟩ : ∃ x : Int, (c.toNat : Int) = x := ⟨_, rfl⟩
    have st : ∀ k, ref05_Name.l0 (k + 1) (bs S) (P.length : Int) = if wrongM c = true then some false else ref05_Name.l0 k (bs S) ((P ++ [c]).length : Int) := by
      intro k
      rw [ref05_Name.l0.eq_2, if_pos (by omega), if_pos (by omega), hbt, hw, rletter_f]
      simp only [Option.bind_some]
      unfold wrongM wrongP
      rw [hx]
      cases hl : letterP x with
      | true => rw [if_pos rfl]; simp
      | false =>
        rw [if_neg (by simp)]
        by_cases h48 : x < 48
        · rw [if_pos h48]
          by_cases h1 : x = 46
          · rw [if_pos h1]; simp [h1]
          · rw [if_neg h1]
            by_cases h2 : x = 95
            · rw [if_pos h2]; simp [h2]
            · rw [if_neg h2]
              by_cases h3 : x = 45
              · rw [if_pos h3]; simp [h3]
              · rw [if_neg h3, if_pos (by simp [h48, h1, h2, h3])]
        · rw [if_neg h48]
          by_cases h57 : x > 57
          · rw [if_pos h57]
            by_cases h1 : x = 46
            · rw [if_pos h1]; simp [h1]
            · rw [if_neg h1]
              by_cases h2 : x = 95
              · rw [if_pos h2]; simp [h2]
              · rw [if_neg h2]
                by_cases h3 : x = 45
                · rw [if_pos h3]; simp [h3]
                · rw [if_neg h3, if_pos (by simp [show (57 : Int) < x from h57, h1, h2, h3])]
          · rw [if_neg h57, if_neg (by simp [h48, show ¬ (57 : Int) < x from h57])]
    by_cases hwr : wrongM c = true
    · have e : (!(c :: T).any wrongM) = false := by simp [hwr]
      rw [e]
      exact Ev.step (f := fun _ => some _) (fun k => by rw [st, if_pos hwr]) (Ev.now _)
    · have e : (c :: T).any wrongM = T.any wrongM := by simp [hwr]
      rw [e]
      exact Ev.step (fun k => by rw [st, if_neg hwr]) hn
theorem any_wrong (l : List UInt8) : (bytesL (bs l)).any wrongP = l.any wrongM := by rw [bytesL_bs, List.any_map]; rfl
def nameM (l : List UInt8) : Bool := decide (0 < l.length) && decide (l.length ≤ 12) && letterP (bt (bs l) 0) && !(l.any wrongM)
theorem nameB_bs (l : List UInt8) : nameB (bs l) = nameM l := by unfold nameB nameM; rw [bs_size, any_wrong]
theorem rname_f {l : List UInt8} (hl : l.length ≤ 140737488351232) : Ev (fun k => ref05_Name.f k (bs l)) (nameM l) := by
  unfold ref05_Name.f nameM
  rw [bs_size]
  by_cases h1 : l.length < 1
  · have e : decide (0 < l.length) = false := decide_eq_false (by omega)
    simp only [if_pos (show (l.length : Int) < 1 by omega), e, Bool.false_and]
    exact Ev.step (f := fun _ => some _) (fun k => by rw [ref05_Name.j0.eq_2, if_pos rfl]) (Ev.now _)
  · have e0 : decide (0 < l.length) = true := decide_eq_true (by omega)
    simp only [if_neg (show ¬ (l.length : Int) < 1 by omega)]
    by_cases h2 : 12 < l.length
    · have e : decide (l.length ≤ 12) = false := decide_eq_false (by omega)
      simp only [if_pos (show (l.length : Int) > 12 by omega), e, Bool.and_false, Bool.false_and]
      exact Ev.step (f := fun _ => some _) (fun k => by rw [ref05_Name.j0.eq_2, if_pos rfl]) (Ev.now _)
    · have e2 : decide (l.length ≤ 12) = true := decide_eq_true (by omega)
      simp only [if_neg (show ¬ (l.length : Int) > 12 by omega), if_pos (show 0 < (l.length : Int) by omega), rletter_f, Option.bind_some, e0, e2, Bool.true_and]
      cases hb : letterP (bt (bs l) 0) with
      | false => exact Ev.step (f := fun _ => some _) (fun k => by rw [ref05_Name.j0.eq_2, if_pos (by simp)]; simp) (Ev.now _)
      | true =>
        refine Ev.step (f := fun k => ref05_Name.l0 k (bs l) 0) (fun k => by rw [ref05_Name.j0.eq_2, if_neg (by simp)]) ?_
        simpa using rname_l hl l [] rfl
/-! Join -/
def dl (w : ByteArray) : List UInt8 := w.data.toList
theorem bs_dl (w : ByteArray) : bs (dl w) = w := bs_data w
theorem app_dl (a : List UInt8) (w : ByteArray) : bs a ++ w = bs (a ++ dl w) := by rw [← bs_append, bs_dl]
theorem size_dl (w : ByteArray) : w.size = (dl w).length := by conv => lhs; rw [← bs_dl w]
                                                               rw [bs_size]
def tailT (T : List ByteArray) : List UInt8 := Lib.joinTail [32] (T.map dl)
theorem tailT_cons (w : ByteArray) (T : List ByteArray) : tailT (w :: T) = 32 :: (dl w ++ tailT T) := by simp [tailT, Lib.joinTail]
theorem joinB_cons (w : ByteArray) (T : List ByteArray) : joinB (w :: T) = dl w ++ tailT T := by
  unfold joinB tailT; exact Lib.join_cons _ _ _
theorem rjoin_in {L : List T49} {i : Nat} {x : T49} (hx : rd_T49 L (i : Int) = x) (hi : i < L.length) (hL : L.length ≤ 9223372036854775806) (hxl : x.f1.length ≤ 60) {R : ByteArray} (T : List ByteArray) : ∀ (P : List ByteArray) (acc : List UInt8), x.f1 = P ++ T → P ≠ [] → acc.length + (tailT T).length + 1 ≤ 9223372036854775807 →
    Ev (fun k => ref05_Join.l0 k L (bs (acc ++ tailT T ++ [10])) ((i + 1 : Nat) : Int)) R → Ev (fun k => ref05_Join.l1 k L (bs acc) (i : Int) (P.length : Int)) R := by
  induction T with
  | nil =>
    intro P acc hP _ hb h
    refine Ev.step (fun k => ?_) h
    have : tailT [] = [] := rfl
    rw [this, List.append_nil] at *
    rw [ref05_Join.l1.eq_2, if_pos (by omega), if_pos (by omega), hx, if_neg (by have := congrArg List.length hP; omega), if_pos (by rw [bs_size]; omega), one64 i (by omega), show (⟨#[10]⟩ : ByteArray) = bs [10] from rfl, bs_append]
  | cons w T ih =>
    intro P acc hP hne hb h
    rw [tailT_cons] at hb h
    simp only [List.length_cons, List.length_append] at hb
    have hlen : x.f1.length = P.length + 1 + T.length := by rw [hP]; simp; omega
    have hpos : 0 < P.length := List.length_pos_iff.2 hne
    have := ih (P ++ [w]) (acc ++ [32] ++ dl w) (by rw [hP]; simp) (by simp) (by simp; omega) (by simpa using h)
    refine Ev.step (fun k => ?_) this
    rw [ref05_Join.l1.eq_2, if_pos (by omega), if_pos (by omega), hx, if_pos (by omega), if_pos (by omega), if_pos (by rw [bs_size]; omega), if_pos (by omega), rdS hP rfl, show (⟨#[32]⟩ : ByteArray) = bs [32] from rfl, bs_append,
      if_pos (by rw [bs_size, size_dl]; simp; omega), one64 P.length (by omega), app_dl]
    simp
theorem rjoin_x {L : List T49} {i : Nat} {x : T49} (hx : rd_T49 L (i : Int) = x) (hi : i < L.length) (hL : L.length ≤ 9223372036854775806) (hxl : x.f1.length ≤ 60) {R : ByteArray} (acc : List UInt8) (hb : acc.length + (joinB x.f1).length + 1 ≤ 9223372036854775807)
    (h : Ev (fun k => ref05_Join.l0 k L (bs (acc ++ joinB x.f1 ++ [10])) ((i + 1 : Nat) : Int)) R) : Ev (fun k => ref05_Join.l1 k L (bs acc) (i : Int) 0) R := by
  cases hw : x.f1 with
  | nil =>
    rw [hw] at hb h
    have e : joinB [] = [] := rfl
    rw [e, List.append_nil] at h
    rw [e] at hb
    refine Ev.step (fun k => ?_) h
    rw [ref05_Join.l1.eq_2, if_pos (by omega), if_pos (by omega), hx, hw, if_neg (by simp), if_pos (by rw [bs_size]; simp only [List.length_nil] at hb; omega), one64 i (by omega), show (⟨#[10]⟩ : ByteArray) = bs [10] from rfl, bs_append]
  | cons w T =>
    rw [hw, joinB_cons] at hb h
    simp only [List.length_append] at hb
    have hlen : x.f1.length = T.length + 1 := by rw [hw]; simp
    have := rjoin_in hx hi hL hxl T [w] (acc ++ dl w) (by rw [hw]; rfl) (by simp) (by simp; omega) (by simpa using h)
    have h0 : rdOf ByteArray.empty x.f1 0 = w := by rw [hw]; rfl
    refine Ev.step (fun k => ?_) this
    rw [ref05_Join.l1.eq_2, if_pos (by omega), if_pos (by omega), hx, if_pos (by omega), if_neg (by omega), if_pos (by omega), h0, if_pos (by rw [bs_size, size_dl]; omega), app_dl, show wrap64 (0 + 1) = (([w].length : Nat) : Int) from by show wrap64 (0 + 1) = 1; unfold wrap64; omega]
theorem rjoin_l (T : List T49) : ∀ (P L : List T49) (acc : List UInt8), L = P ++ T → L.length ≤ 60 → (∀ x ∈ L, x.f1.length ≤ 60) → acc.length + (joinTxt (T.map t42)).length ≤ 9223372036854775807 →
    Ev (fun k => ref05_Join.l0 k L (bs acc) (P.length : Int)) (bs (acc ++ joinTxt (T.map t42))) := by
  induction T with
  | nil =>
    intro P L acc hL hl _ _
    have e : L.length = P.length := by rw [hL]; simp
    refine Ev.step (f := fun _ => some _) (fun k => ?_) (Ev.now _)
    rw [ref05_Join.l0.eq_2, if_neg (by omega)]
    simp [joinTxt]
  | cons x T ih =>
    intro P L acc hL hl hf hb
    have hlen : L.length = P.length + 1 + T.length := by rw [hL]; simp; omega
    have e : joinTxt ((x :: T).map t42) = joinB x.f1 ++ [10] ++ joinTxt (T.map t42) := by simp [joinTxt, lineTxt, t42]
    rw [e] at hb ⊢
    simp only [List.length_append, List.length_cons, List.length_nil] at hb
    have := ih (P ++ [x]) L (acc ++ joinB x.f1 ++ [10]) (by rw [hL]; simp) hl hf (by simp; omega)
    refine Ev.step (f := fun k => ref05_Join.l1 k L (bs acc) (P.length : Int) 0) (fun k => by rw [ref05_Join.l0.eq_2, if_pos (by omega)]) ?_
    refine rjoin_x (rd49 hL rfl) (by omega) (by omega) (hf x (by rw [hL]; simp)) acc (by omega) ?_
    have e2 : (P ++ [x]).length = P.length + 1 := by simp
    rw [e2] at this
    simpa using this
theorem joinB_le : ∀ (l : List ByteArray), (∀ w ∈ l, w.size ≤ 100) → (joinB l).length ≤ 101 * l.length
  | [], _ => by simp [joinB, Lib.join_nil]
  | w :: T, h => by
    rw [joinB_cons]
    have h1 : (tailT T).length ≤ 101 * T.length := by
      have h2 : ∀ (T : List ByteArray), (∀ w ∈ T, w.size ≤ 100) → (tailT T).length ≤ 101 * T.length := by
        intro T
        induction T with
        | nil => intro _; simp [tailT, Lib.joinTail]
        | cons y T ih =>
          intro hT
          rw [tailT_cons]
          have := ih (fun w hw => hT w (List.mem_cons_of_mem _ hw))
          have h3 := hT y List.mem_cons_self
          rw [size_dl] at h3
          simp only [List.length_cons, List.length_append]; omega
      exact h2 T (fun w hw => h w (List.mem_cons_of_mem _ hw))
    have h3 := h w List.mem_cons_self
    rw [size_dl] at h3
    simp only [List.length_cons, List.length_append]; omega
theorem joinTxt_few (l : List T49) (h : ∀ x ∈ l, FewL x) : (joinTxt (l.map t42)).length ≤ 7000 * l.length := by
  induction l with
  | nil => simp [joinTxt]
  | cons x l ih =>
    have e : joinTxt ((x :: l).map t42) = joinB x.f1 ++ [10] ++ joinTxt (l.map t42) := by simp [joinTxt, lineTxt, t42]
    have h1 := ih (fun y hy => h y (List.mem_cons_of_mem _ hy))
    obtain ⟨h2, h3⟩ := h x List.mem_cons_self
    have h4 := joinB_le x.f1 h3
    rw [e]
    simp only [List.length_append, List.length_cons, List.length_nil]; omega
theorem rjoin_f {l : List T49} (hl : l.length ≤ 60) (h : ∀ x ∈ l, FewL x) : Ev (fun k => ref05_Join.f k l) (bs (joinTxt (l.map t42))) := by
  have hb := joinTxt_few l h
  have := rjoin_l l [] l [] rfl hl (fun x hx => (h x hx).1) (by simp; omega)
  show Ev (fun k => ref05_Join.l0 k l (bs []) 0) _
  simpa using this
theorem joinF_few {l : List T49} (hl : l.length ≤ 60) (h : ∀ x ∈ l, FewL x) : joinF (l.map t42) = some (bs (joinTxt (l.map t42))) := by
  have hb := joinTxt_few l h
  have ha : ((l.map t42).all fun x => decide (x.f1.length ≤ 140737488355328)) = true := by
    rw [List.all_eq_true]
    intro x hx
    obtain ⟨y, hy, rfl⟩ := List.mem_map.1 hx
    have := (h y hy).1
    exact decide_eq_true (by show y.f1.length ≤ _; omega)
  unfold joinF
  rw [if_pos ⟨by omega, ha⟩]
  rfl
end Go.Proofs.YtffdhekmnoajiaaDoor.M
