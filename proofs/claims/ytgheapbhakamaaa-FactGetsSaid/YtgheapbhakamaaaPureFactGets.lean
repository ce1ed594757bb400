/- FactGets: each key has the sum of its facts, and the sums of all parts are the sum of all. No condition but what Go itself can hold. -/
import Derived.Test.YtgheapbhakamaaaQx31
import Derived.Test.YtgheapbhakamaaaGC
set_option linter.unusedVariables false
set_option linter.unusedSimpArgs false
namespace Go.Proofs.Ytgheapbhakamaaa.Pure
open Go Go.RowKit Go.Proofs.Ytgheapbhakamaaa.Q Go.Proofs.Ytgheapbhakamaaa.M Go.Proofs.Ytgheapbhakamaaa.XG Go.Proofs.YtgheapbhakamaaaW.PrintWords Go.Proofs.YtgheapbhakamaaaW.PrintLast
def Good (c : List S60) : Prop := (∀ x ∈ c, x.f1 ≠ 0) ∧ SK (c.map (·.f0))
theorem sm_none {l : List S60} {k : S40} (h : ∀ x ∈ l, x.f0 ≠ k) : sm l k = 0 := by
 by_cases c : sm l k = 0
 ·exact c
 ·obtain ⟨x, hx, e⟩ := mem_keysS.1 (sm_mem c)
  exact absurd e (h x hx)
theorem sm_at : ∀ {c : List S60}, SK (c.map (·.f0)) → ∀ x ∈ c, sm c x.f0 = x.f1
 | [], _, x, hx => by cases hx
 | y :: ys, h, x, hx => by
  obtain ⟨h1, h2⟩ := List.pairwise_cons.1 h
  have hn : ∀ z ∈ ys, z.f0 ≠ y.f0 := fun z hz e => by
   have := h1 z.f0 (List.mem_map.2 ⟨z, hz, rfl⟩)
   rw [e] at this
   exact cmpK_irrefl this
  rw [sm_cons]
  rcases List.mem_cons.1 hx with rfl | hx
  ·rw [if_pos rfl, sm_none hn]; omega
  ·rw [if_neg (fun e => hn x hx e.symm), sm_at h2 x hx]; omega
theorem good_cubL (l : List S60) : Good (cubL l) := by
 unfold cubL
 refine ⟨fun x hx => ?_, ?_⟩
 ·obtain ⟨k, hk, rfl⟩ := List.mem_map.1 hx
  simpa using (List.mem_filter.1 hk).2
 ·unfold cubK
  rw [List.map_map]
  have : ((fun x : S60 => x.f0) ∘ fun k => (⟨k, sm l k⟩ : S60)) = id := rfl
  rw [this, List.map_id]
  exact (sk_keysS l).filter _
theorem lk_sm {c : List S60} (h : SK (c.map (·.f0))) (k : S40) : lk c k = sm c k := by
 unfold lk
 cases hf : c.find? (fun x => decide (x.f0 = k)) with
 | none =>
  rw [sm_none (fun x hx e => by have := List.find?_eq_none.1 hf x hx; simp [e] at this)]
 | some x =>
  have h1 := List.mem_of_find?_eq_some hf
  have h2 : x.f0 = k := by have := List.find?_some hf; simpa using this
  rw [← h2, sm_at h x h1]
theorem key_same {x : S28} (hx : g28 x) {a b d e : ByteArray} {n : Int} (h1 : a.size ≤ maxLen) (h2 : b.size ≤ maxLen) (h3 : d.size ≤ maxLen) (h4 : e.size ≤ maxLen) (h5 : (Lit.int .i64 n).wf = true) : (kx x).sameKey (kLit a b d e n) = decide ((tf x).f0 = (⟨a, b, d, e, n⟩ : S40)) := by
 have k1 := key_some hx.1.1 hx.1.2.1 hx.1.2.2.1 hx.1.2.2.2.1 hx.1.2.2.2.2
 have k2 := key_some h1 h2 h3 h4 h5
 by_cases c : kx x = kLit a b d e n
 ·have k1' : keyOf _ _ _ = some (kLit a b d e n) := k1.trans (congrArg some c)
  have := klawK.inj k1' k2
  simp at this
  rw [c, WideAt.sameKey_self (klawK_key k2)]
  have e1 : (tf x).f0 = (⟨a, b, d, e, n⟩ : S40) := by
   obtain ⟨q1, q2, q3, q4, q5⟩ := this
   show (⟨x.f0.f0, x.f0.f1, x.f0.f2, x.f0.f3, x.f0.f4⟩ : S40) = _
   rw [q1, q2, q3, q4, q5]
  rw [e1]; simp
 ·rw [Maps.sameKey_ne c, decide_eq_false]
  intro e1
  apply c
  injection e1 with q1 q2 q3 q4 q5
  unfold kx
  rw [q1, q2, q3, q4, q5]
theorem fk_sm {a b d e : ByteArray} {n : Int} (h1 : a.size ≤ maxLen) (h2 : b.size ≤ maxLen) (h3 : d.size ≤ maxLen) (h4 : e.size ≤ maxLen) (h5 : (Lit.int .i64 n).wf = true) : ∀ (l : List S28), (∀ x ∈ l, g28 x) → (l.map fun x => if (kx x).sameKey (kLit a b d e n) = true then x.f1 else 0).sum = sm (l.map tf) ⟨a, b, d, e, n⟩
 | [], _ => rfl
 | x :: l, h => by
  rw [List.map_cons, List.sum_cons, List.map_cons, sm_cons, fk_sm h1 h2 h3 h4 h5 l (fun y hy => h y (List.mem_cons_of_mem _ hy)), key_same (h x List.mem_cons_self) h1 h2 h3 h4 h5]
  simp only [decide_eq_true_eq]
  rfl
theorem any_e (s : ByteArray) : M.anyB ⟨#[]⟩ s = true := by
 unfold M.anyB
 rw [decide_eq_true (show (⟨#[]⟩ : ByteArray).toList = [] by rw [Lib.toList_data])]; rfl
theorem fe_sm {s : ByteArray} (hs : s.toList ≠ []) : ∀ (l : List S28), (l.map fun x => if (Lit.string x.f0.f0.data.toList).sameKey (.string s.data.toList) = true then x.f1 else 0).sum = (((l.map tf).filter fun x => selE s ⟨#[]⟩ ⟨#[]⟩ x.f0).map (·.f1)).sum
 | [] => rfl
 | x :: l => by
  have e : selE s ⟨#[]⟩ ⟨#[]⟩ (tf x).f0 = (Lit.string x.f0.f0.data.toList).sameKey (.string s.data.toList) := by
   unfold selE
   rw [any_e, any_e, Bool.and_true, Bool.and_true]
   unfold M.anyB
   rw [decide_eq_false hs, Bool.false_or, Lib.toList_data, Lib.toList_data]
   show (s.data.toList == x.f0.f0.data.toList) = (x.f0.f0.data.toList == s.data.toList)
   rw [Bool.eq_iff_iff, beq_iff_eq, beq_iff_eq]; exact eq_comm
  rw [List.map_cons, List.sum_cons, List.map_cons, fe_sm hs l]
  by_cases c : (Lit.string x.f0.f0.data.toList).sameKey (.string s.data.toList) = true
  ·rw [if_pos c, List.filter_cons_of_pos (by rw [e]; exact c), List.map_cons, List.sum_cons]; rfl
  ·rw [if_neg c, List.filter_cons_of_neg (by rw [e]; exact c)]; omega
theorem ft_sm : ∀ (l : List S28), (l.map (·.f1)).sum = (((l.map tf).filter fun x => selE ⟨#[]⟩ ⟨#[]⟩ ⟨#[]⟩ x.f0).map (·.f1)).sum
 | [] => rfl
 | x :: l => by
  rw [List.map_cons, List.sum_cons, List.map_cons, ft_sm l, List.filter_cons_of_pos (by unfold selE; rw [any_e, any_e, any_e]; rfl), List.map_cons, List.sum_cons]
  rfl
theorem sum_bound {B : Int} (f : S28 → Int) (hB : 0 ≤ B) : ∀ (l : List S28), (∀ x ∈ l, -B ≤ f x ∧ f x ≤ B) → -(l.length * B) ≤ (l.map f).sum ∧ (l.map f).sum ≤ l.length * B
 | [], _ => by simp
 | x :: l, h => by
  obtain ⟨h1, h2⟩ := sum_bound f hB l (fun y hy => h y (List.mem_cons_of_mem _ hy))
  have h3 := h x List.mem_cons_self
  rw [List.map_cons, List.sum_cons, List.length_cons]
  have : ((l.length + 1 : Nat) : Int) * B = l.length * B + B := by rw [Int.natCast_add, Int.add_mul]; simp
  rw [this]
  omega
theorem sum_in (f : S28 → Int) {l : List S28} (hl : l.length ≤ 150) (h : ∀ x ∈ l, -4503599627370496 ≤ f x ∧ f x ≤ 4503599627370496) (i : Nat) : In64 ((l.take i).map f).sum := by
 obtain ⟨h1, h2⟩ := sum_bound (B := 4503599627370496) f (by omega) (l.take i) (fun x hx => h x (List.mem_of_mem_take hx))
 have : (l.take i).length ≤ 150 := by rw [List.length_take]; omega
 unfold In64
 omega
theorem FactGets : law09_FactGets.Pure := by
 intro l hl hg
 have hI := ints hg
 unfold law09_FactGets.f
 rw [if_pos]
 refine ⟨Ev.rounds alive_f, ?_⟩
 obtain ⟨c1, h1, h2⟩ := few_f hl
 cases c1 with
 | false => exact .inl (Ev.rounds h1)
 | true =>
 refine .inr ⟨Ev.rounds h1, ?_⟩
 obtain ⟨c2, h3, h4⟩ := small_f hl
 cases c2 with
 | false => exact .inl (Ev.rounds h3)
 | true =>
 refine .inr ⟨Ev.rounds h3, ?_⟩
 have hl := h2 rfl
 have hab : ∀ x ∈ l, -4503599627370496 ≤ x.f1 ∧ x.f1 ≤ 4503599627370496 := fun x hx => by
  have := h4 rfl x hx
  have := ab_self x.f1
  omega
 have hsm := szs_small (h4 rfl) hl
 have hlm : (l.map tf).length ≤ 150 := by rw [List.length_map]; exact hl
 have t := theirs_f (l := l) (by omega)
 have o1 := of_f (l := l.map tf) (by omega) (ints_tf hI)
 rw [ofS_small (by omega) (by omega)] at o1
 have hG := good_cubL (l.map tf)
 have hCI := cubL_i64 (l := l.map tf) hsm (by omega)
 have hCl : (cubL (l.map tf)).length ≤ 150 := by have := len_cubL (l.map tf); omega
 have hCs : szs ((cubL (l.map tf)).map (·.f1)) ≤ 675539944105574400 := by have := szs_cubL (l.map tf); omega
 have sumC : ∀ s : ByteArray, Ev (fun k => fact_Sum.f k (cubL (l.map tf)) s ⟨#[]⟩ ⟨#[]⟩) ((((l.map tf).filter fun x => selE s ⟨#[]⟩ ⟨#[]⟩ x.f0).map (·.f1)).sum, 0) := fun s => by
  have := sum_f s ⟨#[]⟩ ⟨#[]⟩ (l := cubL (l.map tf)) (by omega) hCI
  have hb := szs_filter (cubL (l.map tf)) (fun x => selE s ⟨#[]⟩ ⟨#[]⟩ x.f0)
  rw [sumS_fits (by unfold selA; have : ab 0 = 0 := rfl; omega)] at this
  unfold selA at this
  rw [sum_cubL (selE s ⟨#[]⟩ ⟨#[]⟩) (l.map tf), Int.zero_add] at this
  exact this
 refine ⟨l.map tf, cubL (l.map tf), ⟨Ev.rounds t, Ev.rounds o1, by omega, hg, fun i kl => ?_, fun i s => ?_, fun i => sum_in _ hl hab i, fun a b d e n q1 q2 q3 q4 q5 => ?_, fun s _ => ?_, ?_⟩⟩
 ·refine sum_in _ hl (fun x hx => ?_) i
  have := hab x hx
  split <;> omega
 ·refine sum_in _ hl (fun x hx => ?_) i
  have := hab x hx
  split <;> omega
 ·have := get_f (l := cubL (l.map tf)) ⟨a, b, d, e, n⟩ hG.2 (by omega)
  rw [lk_sm hG.2, sm_cubL] at this
  unfold Fk
  rw [List.take_length, fk_sm q1 q2 q3 q4 q5 l hg]
  exact Ev.rounds this
 ·obtain ⟨k, hk⟩ := Ev.rounds (sumC s)
  refine ⟨k, _, hk, fun hs => ?_⟩
  unfold Fe
  rw [List.take_length, fe_sm hs]
 ·have := sumC ⟨#[]⟩
  unfold tot
  rw [List.take_length, ft_sm]
  exact Ev.rounds this
end Go.Proofs.Ytgheapbhakamaaa.Pure
