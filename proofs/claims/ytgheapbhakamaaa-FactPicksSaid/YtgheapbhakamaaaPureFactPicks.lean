/- FactPicks: what is picked of each mark, put together, is all; what is picked is a cube. No condition but what Go itself can hold. -/
import Derived.Test.YtgheapbhakamaaaQx30
import Derived.Test.YtgheapbhakamaaaGC
set_option linter.unusedVariables false
set_option linter.unusedSimpArgs false
namespace Go.Proofs.Ytgheapbhakamaaa.Pure
open Go Go.RowKit Go.Proofs.Ytgheapbhakamaaa.Q Go.Proofs.Ytgheapbhakamaaa.M Go.Proofs.Ytgheapbhakamaaa.XP Go.Proofs.YtgheapbhakamaaaW.PrintWords Go.Proofs.YtgheapbhakamaaaW.PrintLast
def entP (e : ByteArray) (x : S60) : Bool := decide (e.toList = []) || (x.f0.f0.toList == e.toList)
theorem pick_pck (c : List S60) (e : ByteArray) {m : Int} (h : 0 ≤ m) : c.filter (pickP e m) = pck c e m := by
 unfold pck
 refine List.filter_congr fun x _ => ?_
 unfold pickP M.anyB
 have : decide (m < 0) = false := decide_eq_false (by omega)
 rw [this, Bool.false_or]
 congr 2
 rw [Bool.eq_iff_iff, beq_iff_eq, beq_iff_eq]; exact eq_comm
theorem pick_sel (c : List S60) (e : ByteArray) : c.filter (pickP e (-1)) = sel c e fun _ => false := by
 unfold sel
 refine List.filter_congr fun x _ => ?_
 unfold pickP M.anyB
 have : decide ((-1 : Int) < 0) = true := by decide
 rw [this, Bool.true_or, Bool.and_true, Bool.not_false, Bool.and_true]
 congr 1
 rw [Bool.eq_iff_iff, beq_iff_eq, beq_iff_eq]; exact eq_comm
def Good (c : List S60) : Prop := (∀ x ∈ c, x.f1 ≠ 0) ∧ SK (c.map (·.f0))
theorem Good.part {c : List S60} (h : Good c) (p : S60 → Bool) : Good (c.filter p) :=
 ⟨fun x hx => h.1 x (List.mem_filter.1 hx).1, List.Pairwise.sublist (List.Sublist.map _ List.filter_sublist) h.2⟩
theorem sm_none {l : List S60} {k : S40} (h : ∀ x ∈ l, x.f0 ≠ k) : sm l k = 0 := by
 by_cases c : sm l k = 0
 ·exact c
 ·obtain ⟨x, hx, e⟩ := mem_keysS.1 (sm_mem c)
  exact absurd e (h x hx)
theorem sm_at : ∀ {c : List S60}, SK (c.map (·.f0)) → ∀ x ∈ c, sm c x.f0 = x.f1
 | [], _, x, hx => by cases hx
 | y :: ys, h, x, hx => by
  obtain ⟨h1, h2⟩ := List.pairwise_cons.1 h
  have hn : ∀ z ∈ ys, z.f0 ≠ y.f0 := fun z hz e => by
   have := h1 z.f0 (List.mem_map.2 ⟨z, hz, rfl⟩)
   rw [e] at this
   exact cmpK_irrefl this
  rw [sm_cons]
  rcases List.mem_cons.1 hx with rfl | hx
  ·rw [if_pos rfl, sm_none hn]; omega
  ·rw [if_neg (fun e => hn x hx e.symm), sm_at h2 x hx]; omega
theorem cubK_self (s : S40 → Int) : ∀ {c : List S60}, (∀ x ∈ c, x.f1 ≠ 0) → (∀ x ∈ c, s x.f0 = x.f1) → cubK s (c.map (·.f0)) = c
 | [], _, _ => rfl
 | y :: ys, h1, h2 => by
  have ih := cubK_self s (fun x hx => h1 x (List.mem_cons_of_mem _ hx)) (fun x hx => h2 x (List.mem_cons_of_mem _ hx))
  have e1 := h2 y List.mem_cons_self
  have e2 := h1 y List.mem_cons_self
  unfold cubK at ih ⊢
  rw [List.map_cons, List.filter_cons_of_pos (by simp only [decide_eq_true_eq]; rw [e1]; exact e2), List.map_cons, ih, e1]
theorem Good.cub {c : List S60} (h : Good c) : cubL c = c := by
 unfold cubL
 have e : keysS c = c.map (·.f0) := sk_ext (sk_keysS c) h.2 (fun x => by rw [mem_keysS, List.mem_map])
 rw [e]
 exact cubK_self _ h.1 (sm_at h.2)
theorem good_cubL (l : List S60) : Good (cubL l) := by
 unfold cubL
 refine ⟨fun x hx => ?_, ?_⟩
 ·obtain ⟨k, hk, rfl⟩ := List.mem_map.1 hx
  simpa using (List.mem_filter.1 hk).2
 ·unfold cubK
  rw [List.map_map]
  have : ((fun x : S60 => x.f0) ∘ fun k => (⟨k, sm l k⟩ : S60)) = id := rfl
  rw [this, List.map_id]
  exact (sk_keysS l).filter _
theorem split_both (p q r : S60 → Bool) (h : ∀ x, r x = (p x || q x)) (hd : ∀ x, p x = true → q x = false) (k : S40) : ∀ c : List S60, sm (c.filter r) k = sm (c.filter p) k + sm (c.filter q) k ∧ (c.filter r).length = (c.filter p).length + (c.filter q).length
 | [] => ⟨rfl, rfl⟩
 | x :: xs => by
  obtain ⟨ih1, ih2⟩ := split_both p q r h hd k xs
  cases hp : p x with
  | true =>
   have hq := hd x hp
   have hr : r x = true := by rw [h, hp]; rfl
   rw [List.filter_cons_of_pos hr, List.filter_cons_of_pos hp, List.filter_cons_of_neg (by rw [hq]; simp), sm_cons, sm_cons, ih1, List.length_cons, List.length_cons, ih2]
   constructor <;> omega
  | false =>
   cases hq : q x with
   | true =>
    have hr : r x = true := by rw [h, hp, hq]; rfl
    rw [List.filter_cons_of_pos hr, List.filter_cons_of_neg (by rw [hp]; simp), List.filter_cons_of_pos hq, sm_cons, sm_cons, ih1, List.length_cons, List.length_cons, ih2]
    constructor <;> omega
   | false =>
    have hr : r x = false := by rw [h, hp, hq]; rfl
    rw [List.filter_cons_of_neg (by rw [hr]; simp), List.filter_cons_of_neg (by rw [hp]; simp), List.filter_cons_of_neg (by rw [hq]; simp)]
    exact ⟨ih1, ih2⟩
theorem sel_split (c : List S60) (e : ByteArray) (left : Int → Bool) {m : Int} (hm : left m = true) (k : S40) : sm (sel c e fun z => left z && !(z == m)) k = sm (sel c e left) k + sm (pck c e m) k ∧ (sel c e fun z => left z && !(z == m)).length = (sel c e left).length + (pck c e m).length := by
 refine split_both _ _ _ (fun x => ?_) (fun x h => ?_) k c
 ·have : decide (x.f0.f4 = m) = (x.f0.f4 == m) := rfl
  simp only [this]
  cases decide (e.toList = []) <;> cases (x.f0.f0.toList == e.toList) <;> cases left x.f0.f4 <;> cases (x.f0.f4 == m) <;> rfl
 ·by_cases c : x.f0.f4 = m
  ·rw [c, hm] at h; simp at h
  ·rw [decide_eq_false c, Bool.and_false]
theorem FactPicks : law09_FactPicks.Pure := by
 intro l e hl hg _
 have hI := ints hg
 unfold law09_FactPicks.f
 rw [if_pos]
 refine ⟨Ev.rounds alive_f, ?_⟩
 obtain ⟨c1, h1, h2⟩ := few_f hl
 cases c1 with
 | false => exact .inl (Ev.rounds h1)
 | true =>
 refine .inr ⟨Ev.rounds h1, ?_⟩
 obtain ⟨c2, h3, h4⟩ := small_f hl
 cases c2 with
 | false => exact .inl (Ev.rounds h3)
 | true =>
 refine .inr ⟨Ev.rounds h3, ?_⟩
 by_cases he : 40 < e.size
 ·exact .inl he
 refine .inr ⟨by omega, ?_⟩
 have hl := h2 rfl
 have hsm := szs_small (h4 rfl) hl
 have hlm : (l.map tf).length ≤ 150 := by rw [List.length_map]; exact hl
 have hkf : ∀ x ∈ l.map tf, I64 x.f0.f4 := fun x hx => by
  obtain ⟨y, hy, rfl⟩ := List.mem_map.1 hx
  exact wf_i64 (hg y hy).1.2.2.2.2
 generalize hL : l.map tf = L at *
 have hIL : ∀ x ∈ L, I64 x.f1 := by rw [← hL]; exact ints_tf hI
 have t := theirs_f (l := l) (by omega)
 rw [hL] at t
 have o1 := of_f (l := L) (by omega) hIL
 rw [ofS_small (by omega) (by omega)] at o1
 have hkc : ∀ x ∈ cubL L, I64 x.f0.f4 := fun x hx => by
  obtain ⟨k, hk, rfl⟩ := List.mem_map.1 hx
  obtain ⟨y, hy, rfl⟩ := mem_keysS.1 (List.mem_filter.1 hk).1
  exact hkf y hy
 have hG := good_cubL L
 have hCI := cubL_i64 (l := L) hsm (by omega)
 have hCl : (cubL L).length ≤ 150 := by have := len_cubL L; omega
 have hCs : szs ((cubL L).map (·.f1)) ≤ 675539944105574400 := by have := szs_cubL L; omega
 generalize hC : cubL L = C at *
 have part : ∀ p : S60 → Bool, (C.filter p).length ≤ 150 := fun p => Nat.le_trans (List.length_filter_le ..) hCl
 have partI : ∀ p : S60 → Bool, ∀ x ∈ C.filter p, I64 x.f1 := fun p x hx => hCI x (List.mem_filter.1 hx).1
 have same : ∀ M : List S28, M.length ≤ 150 → ∃ k, ref09_Same.f k M M = some true := fun M hM => Ev.rounds (same_f (by omega))
 refine ⟨L, C, ⟨Ev.rounds t, Ev.rounds o1, by omega, fun x hx => ?_, fun m hm => ?_, fun m hm => ?_, fun left m hm hlm => ?_, fun left m hlm => (sel_split C e left hlm ⟨⟨#[]⟩, ⟨#[]⟩, ⟨#[]⟩, ⟨#[]⟩, 0⟩).2, ?_, ?_, ⟨_, Ev.rounds (ours_f (l := sel C e fun _ => false) (Nat.lt_of_le_of_lt (part _) (by omega))), ?_⟩, ⟨_, Ev.rounds (ours_f (l := C) (by omega)), ?_⟩⟩⟩
 ·have := hkc x hx
  unfold I64 at this
  omega
 ·have := pick_f e m (l := C) (by omega)
  rw [pick_pck C e hm] at this
  exact Ev.rounds this
 ·have := right_f (l := pck C e m) (by have := part (fun x => (decide (e.toList = []) || (x.f0.f0.toList == e.toList)) && decide (x.f0.f4 = m)); unfold pck; omega)
  have hr : rightS (pck C e m) = true := by
   unfold rightS
   have h := hG.part (fun x => (decide (e.toList = []) || (x.f0.f0.toList == e.toList)) && decide (x.f0.f4 = m))
   rw [Bool.and_eq_true, decide_eq_true_eq]
   exact ⟨rc_none.2 h, by have := part (fun x => (decide (e.toList = []) || (x.f0.f0.toList == e.toList)) && decide (x.f0.f4 = m)); unfold pck; omega⟩
  rw [hr] at this
  exact Ev.rounds this
 ·have hl1 : (sel C e left).length ≤ 150 := part _
  have hl2 : (pck C e m).length ≤ 150 := part _
  have hs1 : szs ((sel C e left).map (·.f1)) ≤ szs (C.map (·.f1)) := szs_filter C _
  have hs2 : szs ((pck C e m).map (·.f1)) ≤ szs (C.map (·.f1)) := szs_filter C _
  have := add_f (l := sel C e left) (m := pck C e m) (by omega) (partI _) (partI _)
  rw [ofS_small (by rw [List.map_append, szs_append]; omega) (by rw [List.length_append]; omega), cubL_ext (m := sel C e fun z => left z && !(z == m)) (fun k => by rw [sm_append, (sel_split C e left hlm k).1]), show cubL (sel C e fun z => left z && !(z == m)) = _ from Good.cub (hG.part _)] at this
  exact Ev.rounds this
 ·have := pick_f e (-1) (l := C) (by omega)
  rw [pick_sel C e] at this
  exact Ev.rounds this
 ·have := pick_f ⟨#[]⟩ (-1) (l := C) (by omega)
  rw [List.filter_eq_self.2 (fun x _ => by
   have e0 : M.anyB ⟨#[]⟩ x.f0.f0 = true := by unfold M.anyB; rw [decide_eq_true (show (⟨#[]⟩ : ByteArray).toList = [] by rw [Lib.toList_data])]; rfl
   unfold pickP; rw [e0, decide_eq_true (show (-1 : Int) < 0 by decide)]; rfl)] at this
  exact Ev.rounds this
 ·refine same _ ?_
  rw [List.length_map]; exact part _
 ·refine same _ ?_
  rw [List.length_map]; exact hCl
end Go.Proofs.Ytgheapbhakamaaa.Pure
