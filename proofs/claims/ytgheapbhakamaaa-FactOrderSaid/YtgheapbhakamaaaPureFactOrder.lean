/- Proved: for all facts whose amounts are small, they may stand in any order, and what is put together of parts is what is put together at once. No condition but what Go itself can hold. -/
import Derived.Test.YtgheapbhakamaaaQx18
import Derived.Test.YtgheapbhakamaaaGC
set_option linter.unusedVariables false
set_option linter.unusedSimpArgs false
namespace Go.Proofs.Ytgheapbhakamaaa.Pure
open Go Go.RowKit Go.Proofs.Ytgheapbhakamaaa.Q Go.Proofs.Ytgheapbhakamaaa.M Go.Proofs.YtgheapbhakamaaaW.PrintWords Go.Proofs.YtgheapbhakamaaaW.PrintLast
theorem swap_perm {α : Type} (P M S : List α) (x y : α) : (P ++ y :: (M ++ x :: S)).Perm (P ++ x :: (M ++ y :: S)) :=
 List.Perm.append_left P ((List.Perm.cons y List.perm_middle).trans ((List.Perm.swap x y (M ++ S)).trans (List.Perm.cons x List.perm_middle.symm)))
theorem set_midG {α : Type} {P R : List α} {x v : α} {i : Nat} (h : P.length = i) : (P ++ x :: R).set i v = P ++ v :: R := by
 subst h
 rw [List.set_append_right _ _ (Nat.le_refl _), Nat.sub_self]; rfl
theorem turn_l {l0 X : List S28} {m : Int} {r : Bool} {n : Nat} (hn : n < 1000000) (hr : ∀ Y : List S28, Y.Perm X → Ev (fun k => law09_FactOrder.j2 k l0 m Y) r) (d : Nat) :
  ∀ (Y : List S28) (i : Nat), i + d = n / 2 → Y.length = n → Y.Perm X → Ev (fun k => law09_FactOrder.l0 k l0 m Y ((n / 2 : Nat) : Int) (i : Int)) r := by
 induction d with
 | zero =>
  intro Y i hi hY hp
  refine Ev.step (fun k => ?_) (hr Y hp)
  rw [law09_FactOrder.l0.eq_2, if_neg (by omega)]
 | succ d ih =>
  intro Y i hi hY hp
  have hj : wrap64 (wrap64 ((Y.length : Int) - 1) - (i : Int)) = ((n - 1 - i : Nat) : Int) := by
   rw [hY, w64_in (show I64 ((n : Int) - 1) by unfold I64; omega), w64_in (by unfold I64; omega)]; omega
  obtain ⟨P, x, M, y, S, hL, hP, hM⟩ : ∃ P x M y S, Y = P ++ x :: (M ++ y :: S) ∧ P.length = i ∧ i + 1 + M.length = n - 1 - i := by
   obtain ⟨x, R, h1⟩ : ∃ x R, Y.drop i = x :: R := by
    cases hd : Y.drop i with
    | nil => have := List.drop_eq_nil_iff.1 hd; omega
    | cons x R => exact ⟨x, R, rfl⟩
   have hR : R.length = n - i - 1 := by
    have := congrArg List.length h1; rw [List.length_drop, List.length_cons] at this; omega
   obtain ⟨y, S, h2⟩ : ∃ y S, R.drop (n - 2 - 2 * i) = y :: S := by
    cases hd : R.drop (n - 2 - 2 * i) with
    | nil => have := List.drop_eq_nil_iff.1 hd; omega
    | cons y S => exact ⟨y, S, rfl⟩
   refine ⟨Y.take i, x, R.take (n - 2 - 2 * i), y, S, ?_, ?_, ?_⟩
   ·rw [← h2, List.take_append_drop, ← h1, List.take_append_drop]
   ·rw [List.length_take]; omega
   ·rw [List.length_take]; omega
  have hL2 : Y = (P ++ x :: M) ++ y :: S := by rw [hL]; simp
  have r1 : rd_T28 Y (i : Int) = x := rd28 hL hP
  have r2 : rd_T28 Y ((n - 1 - i : Nat) : Int) = y := rd28 hL2 (by simp; omega)
  have e3 : (Y.set i y).set (n - 1 - i) x = P ++ y :: (M ++ x :: S) := by
   rw [hL, set_midG hP, show P ++ y :: (M ++ y :: S) = (P ++ y :: M) ++ y :: S by simp, set_midG (by simp; omega)]; simp
  have := ih (P ++ y :: (M ++ x :: S)) (i + 1) (by omega) (by rw [← hY, hL]; simp) ((swap_perm P M S x y).trans (hL ▸ hp))
  refine Ev.step (fun k => ?_) this
  rw [law09_FactOrder.l0.eq_2, if_pos (by omega), hj, if_pos (by omega), if_pos (by omega), if_pos (by omega), if_pos (by omega), r1, r2, Int.toNat_natCast, Int.toNat_natCast, w_one i (by omega)]
  show law09_FactOrder.l0 k l0 m ((Y.set i y).set (n - 1 - i) x) _ _ = _
  rw [e3]
theorem j2_f {l Y : List S28} {m : Nat} (hm : m ≤ l.length) (hl : l.length ≤ 150) (hI : ∀ x ∈ l, I64 x.f1) (hs : ∀ x ∈ l, ab x.f1 ≤ 4503599627370496) (hp : Y.Perm l) : Ev (fun k => law09_FactOrder.j2 k l (m : Int) Y) true := by
 have hYl : Y.length = l.length := hp.length_eq
 have hIY : ∀ x ∈ Y, I64 x.f1 := fun x hx => hI x (hp.mem_iff.1 hx)
 have hsY : ∀ x ∈ Y, ab x.f1 ≤ 4503599627370496 := fun x hx => hs x (hp.mem_iff.1 hx)
 have hIt : ∀ x ∈ l.take m, I64 x.f1 := fun x hx => hI x (List.mem_of_mem_take hx)
 have hst : ∀ x ∈ l.take m, ab x.f1 ≤ 4503599627370496 := fun x hx => hs x (List.mem_of_mem_take hx)
 have hId : ∀ x ∈ l.drop m, I64 x.f1 := fun x hx => hI x (List.mem_of_mem_drop hx)
 have hsd : ∀ x ∈ l.drop m, ab x.f1 ≤ 4503599627370496 := fun x hx => hs x (List.mem_of_mem_drop hx)
 have ltk : (l.take m).length ≤ 150 := by rw [List.length_take]; omega
 have ldp : (l.drop m).length ≤ 150 := by rw [List.length_drop]; omega
 have b1 := szs_small hs hl
 have b2 := szs_small hsY (by omega)
 have b3 := szs_small hst ltk
 have b4 := szs_small hsd ldp
 have one : ∀ {X : List S28}, X.length ≤ 150 → (∀ x ∈ X, I64 x.f1) → szs ((X.map tf).map (·.f1)) ≤ 675539944105574400 → Ev (fun k => fact_Of.f k (X.map tf)) (cubL (X.map tf), 0) := fun {X} h1 h2 h3 => by
  have := of_f (l := X.map tf) (by rw [List.length_map]; omega) (ints_tf h2)
  rw [ofS_small (by omega) (by rw [List.length_map]; omega)] at this
  exact this
 have o1 := one hl hI b1
 have o2 := one (by omega) hIY b2
 have o3 := one ltk hIt b3
 have o4 := one ldp hId b4
 have i3 := cubL_i64 b3 (by omega)
 have i4 := cubL_i64 b4 (by omega)
 have s3 := szs_cubL ((l.take m).map tf)
 have s4 := szs_cubL ((l.drop m).map tf)
 have l3 := len_cubL ((l.take m).map tf)
 have l4 := len_cubL ((l.drop m).map tf)
 rw [List.length_map] at l3 l4
 have e2 : cubL (Y.map tf) = cubL (l.map tf) := cubL_ext (sm_perm (hp.map tf))
 have e5 : cubL (cubL ((l.take m).map tf) ++ cubL ((l.drop m).map tf)) = cubL (l.map tf) := cubL_ext (fun k => by
  rw [sm_append, sm_cubL, sm_cubL, ← sm_append, ← List.map_append, List.take_append_drop])
 have o5 := add_f (by omega) i3 i4
 rw [ofS_small (by rw [List.map_append, szs_append]; omega) (by rw [List.length_append]; omega), e5] at o5
 rw [e2] at o2
 have lc := len_cubL (l.map tf)
 rw [List.length_map] at lc
 have u1 := ours_f (l := cubL (l.map tf)) (by omega)
 have sa := same_f (l := (cubL (l.map tf)).map uf) (by rw [List.length_map]; omega)
 have rr := right_f (l := cubL (l.map tf)) (by omega)
 rw [show rightS (cubL (l.map tf)) = true from rightS_cubK (sk_keysS _) (by have := len_keysS (l.map tf); rw [List.length_map] at this; omega)] at rr
 refine Ev.step (f := fun k => (law09_Theirs.f k l).bind fun t470 => ((fact_Of.f k t470).bind fun bt473 => ((law09_Theirs.f k Y).bind fun t477 => ((fact_Of.f k t477).bind fun bt480 => ((law09_Theirs.f k (l.take m)).bind fun t488 => ((fact_Of.f k t488).bind fun bt491 => ((law09_Theirs.f k (l.drop m)).bind fun t499 => ((fact_Of.f k t499).bind fun bt502 => ((fact_Add.f k bt491.1 bt502.1).bind fun bt506 => (law09_FactOrder.j3 k bt473.1 bt473.2 bt480.1 bt480.2 bt491.2 bt502.2 bt506.1 bt506.2)))))))))) (fun k => by
  rw [law09_FactOrder.j2.eq_2]
  simp only [show (0 : Int) ≤ (m : Int) by omega, show (m : Int) ≤ (l.length : Int) by omega, if_true, Int.toNat_natCast]) ?_
 refine Ev.bind (theirs_f (by omega)) (Ev.bind o1 (Ev.bind (theirs_f (by omega)) (Ev.bind o2 (Ev.bind (theirs_f (by omega)) (Ev.bind o3 (Ev.bind (theirs_f (by omega)) (Ev.bind o4 (Ev.bind o5 ?_))))))))
 refine Ev.step (f := fun k => (law09_Ours.f k (cubL (l.map tf))).bind fun t510 => ((law09_Ours.f k (cubL (l.map tf))).bind fun t513 => ((ref09_Same.f k t510 t513).bind fun t516 => (if t516 = true then ((law09_Ours.f k (cubL (l.map tf))).bind fun t517 => ((law09_Ours.f k (cubL (l.map tf))).bind fun t520 => ((ref09_Same.f k t517 t520).bind fun t523 => (if t523 = true then ((fact_Right.f k (cubL (l.map tf))).bind fun t524 => (some t524)) else (some false))))) else (some false))))) (fun k => by
  rw [law09_FactOrder.j3.eq_2, if_pos (by rfl), if_pos (by rfl), if_pos (by rfl), if_pos (by rfl), if_pos (by rfl)]) ?_
 refine Ev.bind u1 (Ev.bind u1 (Ev.bind sa ?_))
 simp only [if_true]
 refine Ev.bind u1 (Ev.bind u1 (Ev.bind sa ?_))
 simp only [if_true]
 exact Ev.bind rr (Ev.now _)
theorem FactOrder : law09_FactOrder.Pure := by
 intro l at_ turn hl hg wat
 refine Ev.rounds (g := fun k => law09_FactOrder.f k l at_ turn) ?_
 have hI := ints hg
 have hat : 0 ≤ at_ ∧ at_ ≤ 255 := wf_u8 wat
 have yes : ∀ {x0 : List S28}, Ev (fun k => law09_FactOrder.j0 k x0 at_ turn true) true := fun {x0} => Ev.step (f := fun _ => some true) (fun k => by rw [law09_FactOrder.j0.eq_2, if_pos rfl]) (Ev.now _)
 unfold law09_FactOrder.f
 refine Ev.bind alive_f ?_
 simp only [if_true]
 obtain ⟨c1, h1, h2⟩ := few_f hl
 refine Ev.bind h1 ?_
 cases c1 with
 | false => simp only [Bool.false_eq_true, if_false]; exact yes
 | true =>
 simp only [if_true]
 obtain ⟨c2, h3, h4⟩ := small_f hl
 refine Ev.bind h3 ?_
 cases c2 with
 | false => simp only [Bool.false_eq_true, if_false]; exact yes
 | true =>
 simp only [if_true]
 have hl := h2 rfl
 have hs := h4 rfl
 by_cases h0 : l.length = 0
 ·have : ((l.length : Int) == 0) = true := by rw [h0]; rfl
  rw [this]; exact yes
 have h0' : ((l.length : Int) == 0) = false := by rw [beq_eq_false_iff_ne]; omega
 rw [h0']
 obtain ⟨m, hm, hml⟩ : ∃ m : Nat, Int.tmod (wrap64 at_) (l.length : Int) = (m : Int) ∧ m < l.length := by
  rw [w64_in (by unfold I64; omega), Int.tmod_eq_emod_of_nonneg hat.1]
  have h1 := Int.emod_nonneg at_ (show (l.length : Int) ≠ 0 by omega)
  have h2 := Int.emod_lt_of_pos at_ (show (0 : Int) < (l.length : Int) by omega)
  exact ⟨(at_ % (l.length : Int)).toNat, by omega, by omega⟩
 have hp : (l.drop m ++ l.take m).Perm l := by
  have := List.perm_append_comm (l₁ := l.drop m) (l₂ := l.take m)
  rw [List.take_append_drop] at this
  exact this
 have hj2 : ∀ Y : List S28, Y.Perm (l.drop m ++ l.take m) → Ev (fun k => law09_FactOrder.j2 k l (m : Int) Y) true := fun Y hY => j2_f (by omega) hl hI hs (hY.trans hp)
 have hln : (l.drop m ++ l.take m).length = l.length := hp.length_eq
 have hdl : (l.drop m).length ≤ l.length := by rw [List.length_drop]; omega
 have e : ∀ k, law09_FactOrder.j0 (k + 1) l at_ turn false = if turn = true then law09_FactOrder.l0 k l (m : Int) (l.drop m ++ l.take m) ((l.length / 2 : Nat) : Int) 0 else law09_FactOrder.j2 k l (m : Int) (l.drop m ++ l.take m) := fun k => by
  rw [law09_FactOrder.j0.eq_2, if_neg (by simp), if_neg (by omega), hm, if_pos (by omega), if_pos (by omega)]
  simp only [Option.bind_some, List.length_nil, Nat.zero_add, List.nil_append, Int.toNat_natCast]
  rw [if_pos (by omega), if_pos (by rw [List.length_append] at hln; omega), hln, w64_in (by unfold I64; omega)]
  rfl
 cases turn with
 | false => exact Ev.step (fun k => by rw [e, if_neg (by simp)]) (hj2 _ (List.Perm.refl _))
 | true => exact Ev.step (fun k => by rw [e, if_pos rfl]; rfl) (turn_l (by omega) hj2 (l.length / 2) _ 0 (by omega) hln (List.Perm.refl _))
end Go.Proofs.Ytgheapbhakamaaa.Pure
