import Derived.Test.YtjfnhhfgjomliaaCSort2Split
import Derived.Test.YtjfnhhfgjomliaaMDl
/- the parts in the order of their rests, and what is handed out by it -/
set_option linter.unusedVariables false
set_option linter.unusedSimpArgs false
namespace Go.Proofs.Ytjfnhhfgjomliaa.M
open Go.RowKit Go.Proofs.Ytjfnhhfgjomliaa.Q

def mkp (A S : Int) (w : Nat → Int) (i : Nat) : S52 := ⟨(i : Int), A * w i / S, A * w i % S⟩
def partsL (A S : Int) (w : Nat → Int) (n : Nat) : List S52 := (List.range n).map (mkp A S w)
def valP (a : Int) (left : Nat) (j : Nat) (p : S52) : Int := let v := p.f1 + (if j < left then 1 else 0); if a < 0 then -v else v
def fillOut (a : Int) (left : Nat) : Nat → List S52 → List Int → List Int
  | _, [], out => out
  | j, p :: R, out => fillOut a left (j + 1) R (out.set p.f0.toNat (valP a left j p))
theorem fill_len (a : Int) (left : Nat) (R : List S52) : ∀ j out, (fillOut a left j R out).length = out.length := by
  induction R with
  | nil => intro j out; rfl
  | cons p R ih => intro j out; unfold fillOut; rw [ih, List.length_set]
theorem fill_other {a : Int} {left m : Nat} (R : List S52) : ∀ j out, (∀ p ∈ R, p.f0.toNat ≠ m) → (fillOut a left j R out).getD m 0 = out.getD m 0 := by
  induction R with
  | nil => intro j out _; rfl
  | cons p R ih =>
    intro j out h
    unfold fillOut
    rw [ih _ _ (fun q hq => h q (List.mem_cons_of_mem _ hq)), List.getD_eq_getElem?_getD, List.getD_eq_getElem?_getD, List.getElem?_set_ne (h p List.mem_cons_self)]
theorem fill_at {a : Int} {left : Nat} {p : S52} {V : List S52} (U : List S52) : ∀ j out, (∀ q ∈ V, q.f0.toNat ≠ p.f0.toNat) → p.f0.toNat < out.length →
    (fillOut a left j (U ++ p :: V) out).getD p.f0.toNat 0 = valP a left (j + U.length) p := by
  induction U with
  | nil =>
    intro j out h hl
    show (fillOut a left (j + 1) V (out.set p.f0.toNat (valP a left j p))).getD p.f0.toNat 0 = _
    rw [fill_other V _ _ h, List.getD_eq_getElem?_getD, List.getElem?_set_self hl]; rfl
  | cons q U ih =>
    intro j out h hl
    show (fillOut a left (j + 1) (U ++ p :: V) (out.set q.f0.toNat (valP a left j q))).getD p.f0.toNat 0 = _
    rw [ih _ _ h (by simpa using hl)]
    rw [show j + 1 + U.length = j + (q :: U).length by simp; omega]
theorem mem_parts {A S : Int} {w : Nat → Int} {n : Nat} {p : S52} : p ∈ partsL A S w n ↔ ∃ i, i < n ∧ p = mkp A S w i := by
  unfold partsL; simp only [List.mem_map, List.mem_range]
  constructor
  · rintro ⟨i, h, rfl⟩; exact ⟨i, h, rfl⟩
  · rintro ⟨i, h, rfl⟩; exact ⟨i, h, rfl⟩
def dlt (left : Nat) (R : List S52) (m : Nat) : Bool := (R.take left).any (fun p => decide (p.f0 = (m : Int)))
section
variable {A S : Int} {w : Nat → Int} {n : Nat} {R : List S52}
theorem parts_nodup : (partsL A S w n).Nodup := by
  unfold partsL
  rw [List.Nodup, List.pairwise_map]
  refine List.Pairwise.imp (fun {a b} (h : a < b) => ?_) List.pairwise_lt_range
  intro e
  have := congrArg S52.f0 e
  simp only [mkp] at this; omega
theorem R_nodup (h : St lt (partsL A S w n) R) : R.Nodup := by
  haveI : DecidableEq S52 := fun a b => Classical.propDecidable (a = b)
  exact (h.perm swo).nodup_iff.2 parts_nodup
theorem R_len (h : St lt (partsL A S w n) R) : R.length = n := by
  haveI : DecidableEq S52 := fun a b => Classical.propDecidable (a = b)
  rw [(h.perm swo).length_eq]; unfold partsL; simp
theorem R_mem (h : St lt (partsL A S w n) R) (p : S52) : p ∈ R ↔ ∃ i, i < n ∧ p = mkp A S w i := (h.mem swo p).trans mem_parts
theorem R_f0 (h : St lt (partsL A S w n) R) {p q : S52} (hp : p ∈ R) (hq : q ∈ R) (e : p.f0.toNat = q.f0.toNat) : p = q := by
  obtain ⟨i, _, rfl⟩ := (R_mem h p).1 hp
  obtain ⟨j, _, rfl⟩ := (R_mem h q).1 hq
  simp only [mkp, Int.toNat_natCast] at e
  rw [e]
theorem R_ord (h : St lt (partsL A S w n) R) : R.Pairwise (fun a b => b.f2 < a.f2 ∨ (b.f2 = a.f2 ∧ a.f0 < b.f0)) := by
  rw [List.pairwise_iff_getElem]
  intro i j hi hj hij
  have h1 : le lt R[i] R[j] := List.pairwise_iff_getElem.1 h.1 i j hi hj hij
  have h2 : ¬ R[i].f2 < R[j].f2 := by simpa [le, lt] using h1
  by_cases c : R[j].f2 < R[i].f2
  · exact .inl c
  · refine .inr ⟨by omega, ?_⟩
    have h3 : (partsL A S w n).Pairwise (fun a b => a.f0 < b.f0) := by
      unfold partsL
      rw [List.pairwise_map]
      refine List.Pairwise.imp (fun {a b} (h : a < b) => ?_) List.pairwise_lt_range
      simp only [mkp]; omega
    have h4 : (R.filter (eqv lt R[i])).Pairwise (fun a b => a.f0 < b.f0) := by
      rw [h.2]; exact h3.sublist List.filter_sublist
    rw [List.pairwise_filter, List.pairwise_iff_getElem] at h4
    refine h4 i j hi hj hij (eqv_refl swo _) ?_
    simp only [eqv, lt, Bool.and_eq_true, Bool.not_eq_true', decide_eq_false_iff_not]
    exact ⟨c, h2⟩
theorem dlt_iff {left m : Nat} : dlt left R m = true ↔ ∃ p ∈ R.take left, p.f0 = (m : Int) := by
  unfold dlt; simp
theorem dl_of (h : St lt (partsL A S w n) R) {left : Nat} (hl : left ≤ n) : Dl (fun i => A * w i % S) n left (dlt left R) := by
  have hn := R_nodup h
  have hlen := R_len h
  constructor
  · unfold cnt
    have hp : ((List.range n).filter (dlt left R)).Perm ((R.take left).map (fun p => p.f0.toNat)) := by
      refine (List.perm_ext_iff_of_nodup (List.Nodup.sublist List.filter_sublist List.nodup_range) ?_).2 (fun m => ?_)
      · rw [List.Nodup, List.pairwise_map]
        refine List.Pairwise.imp_of_mem (fun {a b} ha hb hab e => ?_) (hn.sublist (List.take_sublist left R))
        exact hab (R_f0 h (List.mem_of_mem_take ha) (List.mem_of_mem_take hb) e)
      · rw [List.mem_filter, List.mem_range, dlt_iff, List.mem_map]
        constructor
        · rintro ⟨_, p, hp, e⟩; exact ⟨p, hp, by rw [e]; rfl⟩
        · rintro ⟨p, hp, e⟩
          obtain ⟨i, hi, e2⟩ := (R_mem h p).1 (List.mem_of_mem_take hp)
          subst e2
          simp only [mkp, Int.toNat_natCast] at e
          subst e
          exact ⟨hi, _, hp, rfl⟩
    rw [hp.length_eq]; simp; omega
  · intro i j hi hj h1 h2
    obtain ⟨p, hp, e1⟩ := dlt_iff.1 h1
    have hq : mkp A S w j ∈ R := (R_mem h _).2 ⟨j, hj, rfl⟩
    rw [← List.take_append_drop left R] at hq
    rcases List.mem_append.1 hq with hq | hq
    · exact absurd (dlt_iff.2 ⟨_, hq, rfl⟩) (by rw [h2]; simp)
    · have ho := R_ord h
      rw [← List.take_append_drop left R] at ho
      have := (List.pairwise_append.1 ho).2.2 p hp _ hq
      obtain ⟨i', _, e2⟩ := (R_mem h p).1 (List.mem_of_mem_take hp)
      subst e2
      simp only [mkp] at this e1
      have : i' = i := by omega
      subst this
      simp only [mkp] at *
      omega
theorem fill_val (h : St lt (partsL A S w n) R) {a : Int} {left m : Nat} {out : List Int} (hm : m < n) (ho : out.length = n) :
    (fillOut a left 0 R out).getD m 0 = if a < 0 then -(A * w m / S + if dlt left R m = true then 1 else 0) else A * w m / S + if dlt left R m = true then 1 else 0 := by
  have hn := R_nodup h
  obtain ⟨U, V, hR⟩ := List.append_of_mem ((R_mem h _).2 ⟨m, hm, rfl⟩)
  have hV : ∀ q ∈ V, q.f0.toNat ≠ (mkp A S w m).f0.toNat := by
    intro q hq e
    have := R_f0 h (p := q) (q := mkp A S w m) (by rw [hR]; simp [hq]) (by rw [hR]; simp) e
    rw [hR] at hn
    have := (List.nodup_cons.1 (List.nodup_append.1 hn).2.1).1
    simp_all
  have := fill_at (a := a) (left := left) (p := mkp A S w m) (V := V) U 0 out hV (by simp [mkp]; omega)
  rw [← hR, show (mkp A S w m).f0.toNat = m by simp [mkp]] at this
  rw [this]
  have e : (U.length < left) ↔ dlt left R m = true := by
    rw [dlt_iff]
    constructor
    · intro hlt
      refine ⟨mkp A S w m, ?_, rfl⟩
      rw [hR, List.take_append]
      refine List.mem_append_right _ ?_
      rw [show left - U.length = (left - U.length - 1) + 1 by omega, List.take_succ_cons]
      exact List.mem_cons_self
    · rintro ⟨p, hp, e⟩
      have hpe : p = mkp A S w m := R_f0 h (List.mem_of_mem_take hp) (by rw [hR]; simp) (by rw [e]; simp [mkp])
      subst hpe
      rcases Nat.lt_or_ge U.length left with c | c
      · exact c
      · exfalso
        rw [hR, List.take_append_of_le_length c] at hp
        have hU := List.mem_of_mem_take hp
        rw [hR] at hn
        exact (List.nodup_append.1 hn).2.2 _ hU _ List.mem_cons_self rfl
  unfold valP
  simp only [Nat.zero_add, mkp]
  by_cases c : U.length < left
  · rw [if_pos c, if_pos (e.1 c)]
  · rw [if_neg c, if_neg (fun h => c (e.2 h))]
end
end Go.Proofs.Ytjfnhhfgjomliaa.M
