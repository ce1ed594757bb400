/- printed by a program of this session (wip/tools/pr.sh): it is not a print of the kit -/
import Derived.Test.YtgheapbhakamaaaQx0
import Derived.Test.YtgheapbhakamaaaQx6
import Derived.Test.YtgheapbhakamaaaQx8
import Derived.Test.YtgheapbhakamaaaQx10
import Derived.Test.YtgheapbhakamaaaQx12
import Derived.Test.YtgheapbhakamaaaQx17
namespace Go.Proofs.Ytgheapbhakamaaa.Q
open Go.RowKit Go.Proofs.YtgheapbhakamaaaW.PrintWords Go.Proofs.YtgheapbhakamaaaW.PrintLast Go.Proofs.YtgheapbhakamaaaW.PrintMore
attribute [local go_sem] max2_int min2_int max_two min_two max_three min_three max_four min_four RFn.gtr_str   -- for this text's walks alone
set_option linter.unusedVariables false
set_option linter.unusedSimpArgs false

/-! ### law09_FactZeros: function 9 -/
mutual
def law09_FactZeros.j0 : Nat → List (S28) → Bool → Option (Bool)
 | 0, _, _ => none
 | k + 1, x0, x23 => if x23 = true then (some true) else ((law09_Theirs.f k x0).bind fun t560 => ((fact_Of.f k t560).bind fun bt563 => (law09_FactZeros.l0 k bt563.1 bt563.2 ([] : List (S60)) bt563.1 (bt563.1.length : Int) 0)))
def law09_FactZeros.l0 : Nat → List (S60) → Int → List (S60) → List (S60) → Int → Int → Option (Bool)
 | 0, _, _, _, _, _, _ => none
 | k + 1, x3, x4, x5, x30, x31, x32 => if x32 < x31 then (if 0 ≤ x32 then (if x32 < (x30.length : Int) then (if x5.length < 1759218604441 then (law09_FactZeros.l0 k x3 x4 (x5 ++ [(⟨(⟨(rd_T60 x30 x32).f0.f0, (rd_T60 x30 x32).f0.f1, (rd_T60 x30 x32).f0.f2, (rd_T60 x30 x32).f0.f3, (rd_T60 x30 x32).f0.f4⟩ : S40), wrap64 (-((rd_T60 x30 x32).f1))⟩ : S60)]) x30 x31 (wrap64 (x32 + 1))) else (none)) else (none)) else (none)) else ((fact_Add.f k x3 x5).bind fun bt572 => ((fact_Add.f k x3 ([] : List (S60))).bind fun bt576 => ((fact_Of.f k x3).bind fun bt580 => (law09_FactZeros.j2 k x3 x4 bt572.1 bt572.2 bt576.1 bt576.2 bt580.1 bt580.2))))
def law09_FactZeros.j2 : Nat → List (S60) → Int → List (S60) → Int → List (S60) → Int → List (S60) → Int → Option (Bool)
 | 0, _, _, _, _, _, _, _, _ => none
 | k + 1, x3, x4, x8, x9, x10, x11, x12, x13 => if x4 = 0 then (if x9 = 0 then (if (x8.length : Int) = 0 then (if x11 = 0 then ((law09_Ours.f k x10).bind fun t584 => ((law09_Ours.f k x3).bind fun t587 => ((ref09_Same.f k t584 t587).bind fun t590 => (if t590 = true then (if x13 = 0 then ((law09_Ours.f k x12).bind fun t591 => ((law09_Ours.f k x3).bind fun t594 => ((ref09_Same.f k t591 t594).bind fun t597 => (some t597)))) else (some false)) else (some false))))) else (some false)) else (some false)) else (some false)) else (some false)
end
def law09_FactZeros.f (k : Nat) (l0 : List (S28)) : Option (Bool) := (law09_alive.f k).bind fun t557 => (if t557 = true then ((law09_Few.f k l0).bind fun t558 => (if t558 = true then ((law09_small.f k l0).bind fun t559 => (law09_FactZeros.j0 k l0 (!t559))) else (law09_FactZeros.j0 k l0 true))) else (some false))
theorem law09_FactZeros.mono_l : ∀ k, (∀ y0 y1, LeO (law09_FactZeros.j0 k y0 y1) (law09_FactZeros.j0 (k + 1) y0 y1)) ∧ (∀ y0 y1 y2 y3 y4 y5, LeO (law09_FactZeros.l0 k y0 y1 y2 y3 y4 y5) (law09_FactZeros.l0 (k + 1) y0 y1 y2 y3 y4 y5)) ∧ (∀ y0 y1 y2 y3 y4 y5 y6 y7, LeO (law09_FactZeros.j2 k y0 y1 y2 y3 y4 y5 y6 y7) (law09_FactZeros.j2 (k + 1) y0 y1 y2 y3 y4 y5 y6 y7))
 | 0 => ⟨fun _ _ r h => by simp [law09_FactZeros.j0] at h, fun _ _ _ _ _ _ r h => by simp [law09_FactZeros.l0] at h, fun _ _ _ _ _ _ _ _ r h => by simp [law09_FactZeros.j2] at h⟩
 | k + 1 => by
  obtain ⟨ih0, ih1, ih2⟩ := law09_FactZeros.mono_l k
  refine ⟨?_, ?_, ?_⟩
  ·intro y0 y1
   unfold law09_FactZeros.j0
   repeat' first
   | (with_reducible exact ih0 _ _)
   | (with_reducible exact ih1 _ _ _ _ _ _)
   | (with_reducible exact ih2 _ _ _ _ _ _ _ _)
   | (with_reducible exact fact_Add.mono _ _ _)
   | (with_reducible exact fact_Of.mono _ _)
   | (with_reducible exact law09_Few.mono _ _)
   | (with_reducible exact law09_Ours.mono _ _)
   | (with_reducible exact law09_Theirs.mono _ _)
   | (with_reducible exact law09_alive.mono _)
   | (with_reducible exact law09_small.mono _ _)
   | (with_reducible exact ref09_Same.mono _ _ _)
   | (with_reducible exact LeO.refl _)
   | (with_reducible exact LeO.none _)
   | (with_reducible refine LeO.ite ?_ ?_)
   | (with_reducible refine LeO.bind ?_ (fun _ => ?_))
   | exact ih0 _ _
   | exact ih1 _ _ _ _ _ _
   | exact ih2 _ _ _ _ _ _ _ _
   | exact fact_Add.mono _ _ _
   | exact fact_Of.mono _ _
   | exact law09_Few.mono _ _
   | exact law09_Ours.mono _ _
   | exact law09_Theirs.mono _ _
   | exact law09_alive.mono _
   | exact law09_small.mono _ _
   | exact ref09_Same.mono _ _ _
   | exact LeO.none _
   | refine LeO.ite ?_ ?_
   | refine LeO.bind ?_ (fun _ => ?_)
  ·intro y0 y1 y2 y3 y4 y5
   unfold law09_FactZeros.l0
   repeat' first
   | (with_reducible exact ih0 _ _)
   | (with_reducible exact ih1 _ _ _ _ _ _)
   | (with_reducible exact ih2 _ _ _ _ _ _ _ _)
   | (with_reducible exact fact_Add.mono _ _ _)
   | (with_reducible exact fact_Of.mono _ _)
   | (with_reducible exact law09_Few.mono _ _)
   | (with_reducible exact law09_Ours.mono _ _)
   | (with_reducible exact law09_Theirs.mono _ _)
   | (with_reducible exact law09_alive.mono _)
   | (with_reducible exact law09_small.mono _ _)
   | (with_reducible exact ref09_Same.mono _ _ _)
   | (with_reducible exact LeO.refl _)
   | (with_reducible exact LeO.none _)
   | (with_reducible refine LeO.ite ?_ ?_)
   | (with_reducible refine LeO.bind ?_ (fun _ => ?_))
   | exact ih0 _ _
   | exact ih1 _ _ _ _ _ _
   | exact ih2 _ _ _ _ _ _ _ _
   | exact fact_Add.mono _ _ _
   | exact fact_Of.mono _ _
   | exact law09_Few.mono _ _
   | exact law09_Ours.mono _ _
   | exact law09_Theirs.mono _ _
   | exact law09_alive.mono _
   | exact law09_small.mono _ _
   | exact ref09_Same.mono _ _ _
   | exact LeO.none _
   | refine LeO.ite ?_ ?_
   | refine LeO.bind ?_ (fun _ => ?_)
  ·intro y0 y1 y2 y3 y4 y5 y6 y7
   unfold law09_FactZeros.j2
   repeat' first
   | (with_reducible exact ih0 _ _)
   | (with_reducible exact ih1 _ _ _ _ _ _)
   | (with_reducible exact ih2 _ _ _ _ _ _ _ _)
   | (with_reducible exact fact_Add.mono _ _ _)
   | (with_reducible exact fact_Of.mono _ _)
   | (with_reducible exact law09_Few.mono _ _)
   | (with_reducible exact law09_Ours.mono _ _)
   | (with_reducible exact law09_Theirs.mono _ _)
   | (with_reducible exact law09_alive.mono _)
   | (with_reducible exact law09_small.mono _ _)
   | (with_reducible exact ref09_Same.mono _ _ _)
   | (with_reducible exact LeO.refl _)
   | (with_reducible exact LeO.none _)
   | (with_reducible refine LeO.ite ?_ ?_)
   | (with_reducible refine LeO.bind ?_ (fun _ => ?_))
   | exact ih0 _ _
   | exact ih1 _ _ _ _ _ _
   | exact ih2 _ _ _ _ _ _ _ _
   | exact fact_Add.mono _ _ _
   | exact fact_Of.mono _ _
   | exact law09_Few.mono _ _
   | exact law09_Ours.mono _ _
   | exact law09_Theirs.mono _ _
   | exact law09_alive.mono _
   | exact law09_small.mono _ _
   | exact ref09_Same.mono _ _ _
   | exact LeO.none _
   | refine LeO.ite ?_ ?_
   | refine LeO.bind ?_ (fun _ => ?_)
theorem law09_FactZeros.mono : ∀ a0 k, LeO (law09_FactZeros.f k a0) (law09_FactZeros.f (k + 1) a0) := by
 intro a0 k
 obtain ⟨ih0, ih1, ih2⟩ := law09_FactZeros.mono_l k
 unfold law09_FactZeros.f
 repeat' first
   | (with_reducible exact ih0 _ _)
   | (with_reducible exact ih1 _ _ _ _ _ _)
   | (with_reducible exact ih2 _ _ _ _ _ _ _ _)
   | (with_reducible exact fact_Add.mono _ _ _)
   | (with_reducible exact fact_Of.mono _ _)
   | (with_reducible exact law09_Few.mono _ _)
   | (with_reducible exact law09_Ours.mono _ _)
   | (with_reducible exact law09_Theirs.mono _ _)
   | (with_reducible exact law09_alive.mono _)
   | (with_reducible exact law09_small.mono _ _)
   | (with_reducible exact ref09_Same.mono _ _ _)
   | (with_reducible exact LeO.refl _)
   | (with_reducible exact LeO.none _)
   | (with_reducible refine LeO.ite ?_ ?_)
   | (with_reducible refine LeO.bind ?_ (fun _ => ?_))
   | exact ih0 _ _
   | exact ih1 _ _ _ _ _ _
   | exact ih2 _ _ _ _ _ _ _ _
   | exact fact_Add.mono _ _ _
   | exact fact_Of.mono _ _
   | exact law09_Few.mono _ _
   | exact law09_Ours.mono _ _
   | exact law09_Theirs.mono _ _
   | exact law09_alive.mono _
   | exact law09_small.mono _ _
   | exact ref09_Same.mono _ _ _
   | exact LeO.none _
   | refine LeO.ite ?_ ?_
   | refine LeO.bind ?_ (fun _ => ?_)
theorem law09_FactZeros.isSome_setCell (w : World) (a b : Addr) (v : Value) : ((w.setCell a v).cell? b).isSome = (w.cell? b).isSome := by
 cases h : w.cell? b with
 | some u => obtain ⟨u', h'⟩ := cell?_setCell_some (p := a) (x := v) h; rw [h']; rfl
 | none =>
  by_cases e : a = b
  ·subst e
   unfold World.cell? at h ⊢
   simp only [World.setCell, Array.getElem?_modify, ↓reduceIte]
   split at h
   ·rename_i c e f hb
    rw [hb]
    simp only [Option.map_some]
    split at h
    ·rename_i hs; simp [hs]
    ·rename_i hs; simp [hs]; simpa using h
   ·rename_i hb
    cases hh : w.heap[a.block]? with
    | none => simp
    | some o => cases o <;> simp_all
  ·rw [World.cell?_setCell_other _ _ _ _ e, h]
attribute [local go_sem] law09_FactZeros.isSome_setCell
set_option maxHeartbeats 8000000 in
set_option maxRecDepth 100000 in
theorem law09_FactZeros.calls (k : Nat) (A0 : Option Addr) (c0 : Nat) (l0 : List (S28)) (r : Bool) (w : World) (hr0 : Kd.C k28 w A0 l0.length l0) (hc0 : l0.length ≤ c0) (h : law09_FactZeros.f k l0 = some r) :
  Calls Try.prog 9 #[.slice A0 l0.length c0] w fun e w' => e = .returned (.bool r) ∧ Below w.heap.size w w' := by
 have hu60 := Try.underlying60
 have HR0 := Aside0.mk hr0
 have HC0 := Aside0.mk hc0
 clear hr0 hc0
 have HB := Aside0.mk (Below.refl w.heap.size w)
 have H : ((law09_alive.f k).bind fun t557 => (if t557 = true then ((law09_Few.f k l0).bind fun t558 => (if t558 = true then ((law09_small.f k l0).bind fun t559 => (law09_FactZeros.j0 k l0 (!t559))) else (law09_FactZeros.j0 k l0 true))) else (some false))) = some r := h
 clear h
 replace H := Option.bind_eq_some_iff.mp H
 obtain ⟨t557, A20, H⟩ := H
 replace H : (if t557 = true then ((law09_Few.f k l0).bind fun t558 => (if t558 = true then ((law09_small.f k l0).bind fun t559 => (law09_FactZeros.j0 k l0 (!t559))) else (law09_FactZeros.j0 k l0 true))) else (some false)) = some r := H
 have A2 := Aside0.mk A20
 clear A20
 by_cases c3 : t557 = true
 ·subst c3
  have H1 : ((law09_Few.f k l0).bind fun t558 => (if t558 = true then ((law09_small.f k l0).bind fun t559 => (law09_FactZeros.j0 k l0 (!t559))) else (law09_FactZeros.j0 k l0 true))) = some r := by rw [if_pos rfl] at H; exact H
  clear H
  have H := H1
  clear H1
  have HC4 := Aside0.mk H
  clear H
  go_enter Try.func9, Try.ntmps9
  go_upto_region 3 with (first | ((with_reducible refine gate_callee (f := 10) rfl ?_); refine RFn.goesM (some 14) Try.func10 #[] rfl ?_; (with_reducible refine (law09_alive.calls k  true _ A2.out).mono ?_); rintro e w5 ⟨rfl, hb⟩; refine ⟨_, rfl, ?_⟩; have n0_ := Aside0.mk (below_step (RFn.bel) hb); clear HB; have HB := n0_; clear n0_; (try clear hb); (try clear hb2); (try clear hk); (try clear hi)))
  (try simp only [Act.put, List.setIfInBounds_toArray, List.set_cons_zero, List.set_cons_succ])
  go_cut [23] (fun v23 wc => ∃ (kq : Nat) (x23_3 : Bool), v23 = .bool x23_3 ∧ Aside0 (law09_FactZeros.j0 kq l0 x23_3 = some r) ∧ Aside0 (kq ≤ k) ∧ Aside0 (Below w.heap.size w wc))
  case first =>
   have H := HC4.out
   clear HC4
   replace H := Option.bind_eq_some_iff.mp H
   obtain ⟨t558, A60, H⟩ := H
   replace H : (if t558 = true then ((law09_small.f k l0).bind fun t559 => (law09_FactZeros.j0 k l0 (!t559))) else (law09_FactZeros.j0 k l0 true)) = some r := H
   have A6 := Aside0.mk A60
   clear A60
   by_cases c7 : t558 = true
   ·subst c7
    have H1 : ((law09_small.f k l0).bind fun t559 => (law09_FactZeros.j0 k l0 (!t559))) = some r := by rw [if_pos rfl] at H; exact H
    clear H
    have H := H1
    clear H1
    replace H := Option.bind_eq_some_iff.mp H
    obtain ⟨t559, A80, H⟩ := H
    replace H : (law09_FactZeros.j0 k l0 (!t559)) = some r := H
    have A8 := Aside0.mk A80
    clear A80
    have H' := Aside0.mk H
    clear H
    go_wp2_with (first | ((with_reducible refine gate_callee (f := 11) rfl ?_); refine RFn.goesM (some 17) Try.func11 #[.slice A0 l0.length c0] rfl ?_; (with_reducible refine (law09_Few.calls k _ _ l0 true _ ?side1 ?side2 A6.out).mono ?_); (case side1 => exact RFn.mC (Kd.C_below HR0.out HB.out)); (case side2 => exact HC0.out); rintro e w9 ⟨rfl, hb⟩; refine ⟨_, rfl, ?_⟩; have n0_ := Aside0.mk (below_step (RFn.bel) hb); clear HB; have HB := n0_; clear n0_; (try clear hb); (try clear hb2); (try clear hk); (try clear hi)) | (go_at_call 29; (with_reducible refine (law09_small.calls k _ _ l0 t559 _ ?side1 ?side2 A8.out).mono ?_); (case side1 => exact RFn.mC (Kd.C_below HR0.out HB.out)); (case side2 => exact HC0.out); rintro e w10 ⟨rfl, hb⟩; have n0_ := Aside0.mk (below_step (RFn.bel) hb); clear HB; have HB := n0_; clear n0_; (try clear hb); (try clear hb2); (try clear hk); (try clear hi)))
    go_meet
    case rel => exact ⟨_, (!t559), (by first | rfl | (simp; done) | (simp [*]; done)), H', ⟨by first | omega | exact Nat.le_refl _⟩, ⟨RFn.bel⟩⟩
   ·replace c7 := Bool.eq_false_iff.mpr c7
    subst c7
    have H1 : (law09_FactZeros.j0 k l0 true) = some r := by rw [if_neg (show ¬ (false = true) by decide)] at H; exact H
    clear H
    have H := H1
    clear H1
    have H' := Aside0.mk H
    clear H
    go_wp2_with (first | ((with_reducible refine gate_callee (f := 11) rfl ?_); refine RFn.goesM (some 17) Try.func11 #[.slice A0 l0.length c0] rfl ?_; (with_reducible refine (law09_Few.calls k _ _ l0 false _ ?side1 ?side2 A6.out).mono ?_); (case side1 => exact RFn.mC (Kd.C_below HR0.out HB.out)); (case side2 => exact HC0.out); rintro e w11 ⟨rfl, hb⟩; refine ⟨_, rfl, ?_⟩; have n0_ := Aside0.mk (below_step (RFn.bel) hb); clear HB; have HB := n0_; clear n0_; (try clear hb); (try clear hb2); (try clear hk); (try clear hi)))
    go_meet
    case rel => exact ⟨_, (true), (by first | rfl | (simp; done) | (simp [*]; done)), H', ⟨by first | omega | exact Nat.le_refl _⟩, ⟨RFn.bel⟩⟩
  case rest =>
   clear HC4
   try clear c1
   try clear p2
   try clear c3
   try clear c7
   try clear c9
   try clear c10
   try clear c11
   obtain ⟨kq, x23_3, rfl, HA, HJ3, HB⟩ := hcut
   cases kq with
   | zero => exact absurd HA.out (by simp [law09_FactZeros.j0])
   | succ kj3 =>
    have H := HA.out
    clear HA
    simp only [law09_FactZeros.j0] at H
    by_cases c12 : x23_3 = true
    ·subst c12
     have H1 : (some true) = some r := by rw [if_pos rfl] at H; exact H
     clear H
     have H := H1
     clear H1
     obtain rfl := Option.some.inj H
     go_wp2
     go_ret
     exact ⟨by first | rfl | (simp [errW_none, errW_some] <;> rfl) | (simp [*, errW_none, errW_some] <;> rfl), RFn.bel⟩
    ·replace c12 := Bool.eq_false_iff.mpr c12
     subst c12
     have H1 : ((law09_Theirs.f kj3 l0).bind fun t560 => ((fact_Of.f kj3 t560).bind fun bt563 => (law09_FactZeros.l0 kj3 bt563.1 bt563.2 ([] : List (S60)) bt563.1 (bt563.1.length : Int) 0))) = some r := by rw [if_neg (show ¬ (false = true) by decide)] at H; exact H
     clear H
     have H := H1
     clear H1
     replace H := Option.bind_eq_some_iff.mp H
     obtain ⟨t560, A130, H⟩ := H
     replace H : ((fact_Of.f kj3 t560).bind fun bt563 => (law09_FactZeros.l0 kj3 bt563.1 bt563.2 ([] : List (S60)) bt563.1 (bt563.1.length : Int) 0)) = some r := H
     have A13 := Aside0.mk A130
     clear A130
     replace H := Option.bind_eq_some_iff.mp H
     obtain ⟨⟨t563, t564⟩, A140, H⟩ := H
     replace H : (law09_FactZeros.l0 kj3 t563 t564 ([] : List (S60)) t563 (t563.length : Int) 0) = some r := H
     have A14 := Aside0.mk A140
     clear A140
     have H' := Aside0.mk H
     clear H
     go_wp2_with (first | ((with_reducible refine gate_callee (f := 13) rfl ?_); refine RFn.goesM (some 26) Try.func13 #[.slice A0 l0.length c0] rfl ?_; (with_reducible refine (law09_Theirs.calls kj3 _ _ l0 t560 _ ?side1 ?side2 A13.out).mono ?_); (case side1 => exact RFn.mC (Kd.C_below HR0.out HB.out)); (case side2 => exact HC0.out); rintro e w15 ⟨v561, rfl, ho0, hb⟩; refine ⟨_, rfl, ?_⟩; have n0_ := Aside0.mk (Kd.R_lower ho0 (below_size (RFn.bel))); have n1_ := Aside0.mk (below_step (RFn.bel) hb); clear HB; have HO562 := n0_; have HB := n1_; clear n0_ n1_; (try clear hb); (try clear hb2); (try clear hk); (try clear hi); (try clear ho0); obtain ⟨Ao16, co16, eo16⟩ := Kd.R_slice HO562.out; subst eo16) | ((with_reducible refine gate_callee (f := 12) rfl ?_); refine RFn.goesM (some 27) Try.func12 #[.slice Ao16 t560.length co16] rfl ?_; (with_reducible refine (fact_Of.calls kj3 _ _ t560 t563 t564 _ ?side1 ?side2 A14.out).mono ?_); (case side1 => exact RFn.mC (Kd.R_reads' HO562.out).2.2); (case side2 => exact (Kd.R_reads' HO562.out).2.1); rintro e w17 ⟨v565, rfl, ho0, hb⟩; refine ⟨_, rfl, ?_⟩; have n0_ := Aside0.mk (Kd.R_elder' (RFn.mR HO562) (Kd.R_base ho0) hb); have n1_ := Aside0.mk (Kd.R_lower (Kd.R_new' ho0 (Kd.R_lt (RFn.mR HO562))) (below_size (RFn.bel))); have n2_ := Aside0.mk (below_step (RFn.bel) hb); clear HO562; clear HB; have HO562 := n0_; have HO566 := n1_; have HB := n2_; clear n0_ n1_ n2_; (try clear hb); (try clear hb2); (try clear hk); (try clear hi); (try clear ho0); obtain ⟨Ao18, co18, eo18⟩ := Kd.R_slice HO566.out; subst eo18))
     (try simp only [Act.put, List.setIfInBounds_toArray, List.set_cons_succ, List.set_cons_zero])
     go_loopg [5, 32] kj3 (fun kq v5 v32 w' => ∃ (x5_2 : List (S60)) (x32_2 : Int), v32 = .int .i64 x32_2 ∧ Aside0 (law09_FactZeros.l0 kq t563 t564 x5_2 t563 (t563.length : Int) x32_2 = some r) ∧ Aside0 (kq ≤ kj3) ∧ Aside0 (Kd.R k60 60 w' w.heap.size (fun k_ => some k_ ≠ (v5 : Value).ownBlock) (.slice Ao18 t563.length co18) t563) ∧ Aside0 (Kd.R k60 60 w' w.heap.size (fun k_ => some k_ ≠ ((.slice Ao18 t563.length co18) : Value).ownBlock ∧ some k_ ≠ ((.slice Ao18 t563.length co18) : Value).ownBlock) v5 x5_2) ∧ Aside0 (Kd.R k60 60 w' w.heap.size (fun k_ => some k_ ≠ (v5 : Value).ownBlock) (.slice Ao18 t563.length co18) t563) ∧ Aside0 (Below w.heap.size w w'))
     case atStart => exact ⟨(([] : List (S60))), (0), (by first | rfl | (simp; done) | (simp [*]; done)), H', ⟨Nat.le_refl _⟩, ⟨by (with_reducible repeat (first | apply Kd.R_alloc | apply Kd.R_drewN | apply Kd.R_drew)); exact Kd.R_mono HO566.out (fun _ hk => by first | exact (by simp [Value.ownBlock]) | exact trivial | (refine ⟨?_, ?_⟩ <;> (try refine ⟨?_, ?_⟩) <;> first | exact hk.2 | exact hk.1.2 | exact hk.1.1.2 | exact hk.1.1.1.2 | exact hk.1.1.1.1.2))⟩, ⟨by first | exact Kd.R_nil _ _ _ _ _ | exact Kd.N_nil _ _ _ _ _ | exact Kd.V_nil _ _ _ _ _ | exact Kd.Q_nil _ _ _ _ _ | exact Kd.S_nil _ _ _ _ _⟩, ⟨by (with_reducible repeat (first | apply Kd.R_alloc | apply Kd.R_drewN | apply Kd.R_drew)); exact Kd.R_mono HO566.out (fun _ hk => by first | exact (by simp [Value.ownBlock]) | exact trivial | (refine ⟨?_, ?_⟩ <;> (try refine ⟨?_, ?_⟩) <;> first | exact hk.2 | exact hk.1.2 | exact hk.1.1.2 | exact hk.1.1.1.2 | exact hk.1.1.1.1.2))⟩, ⟨RFn.bel⟩⟩
     case round =>
      clear H'
      try clear c1
      try clear p2
      try clear c3
      try clear c7
      try clear c9
      try clear c10
      try clear c11
      try clear c12
      try clear c13
      try clear p2
      obtain ⟨x5_2, x32_2, rfl, HA, HK2, HO_3, HO_5, HO_30, HB⟩ := hrel
      cases gk with
      | zero => exact absurd HA.out (by simp [law09_FactZeros.l0])
      | succ k2 =>
       have H := HA.out
       clear HA
       simp only [law09_FactZeros.l0] at H
       by_cases c19 : x32_2 < (t563.length : Int)
       ·rw [if_pos c19] at H
        have c19b0 : decide (x32_2 < (t563.length : Int)) = true := decide_eq_true c19
        clear c19
        by_cases c20 : 0 ≤ x32_2
        ·rw [if_pos c20] at H
         have c20b0 : decide (0 ≤ x32_2) = true := decide_eq_true c20
         clear c20
         by_cases c21 : x32_2 < (t563.length : Int)
         ·rw [if_pos c21] at H
          have c21b0 : decide (x32_2 < (t563.length : Int)) = true := decide_eq_true c21
          clear c21
          by_cases c22 : x5_2.length < 1759218604441
          ·rw [if_pos c22] at H
           have LMc22 := Aside0.mk c22
           clear c22
           obtain ⟨y569, hy569⟩ : ∃ y_ : List (S60), y_ = (x5_2 ++ [(⟨(⟨(rd_T60 t563 x32_2).f0.f0, (rd_T60 t563 x32_2).f0.f1, (rd_T60 t563 x32_2).f0.f2, (rd_T60 t563 x32_2).f0.f3, (rd_T60 t563 x32_2).f0.f4⟩ : S40), wrap64 (-((rd_T60 t563 x32_2).f1))⟩ : S60)]) := ⟨_, rfl⟩
           replace H : (law09_FactZeros.l0 k2 t563 t564 y569 t563 (t563.length : Int) (wrap64 (x32_2 + 1))) = some r := by first | (rw [hy569]; with_reducible exact H) | (have H2_ := (Option.bind_some _ _).symm.trans H; rw [hy569]; with_reducible exact H2_) | (have H2_ := (Option.bind_some _ _).symm.trans H; with_reducible exact H2_) | with_reducible exact H | (rw [hy569]; exact H) | exact H
           have Ny569 := Aside0.mk hy569
           clear hy569
           have H' := Aside0.mk H
           clear H
           have p567 : 0 ≤ (x32_2 : Int) := RFn.od
           have q567 : x32_2 < (t563.length : Int) := RFn.od
           obtain ⟨ad567, e567, hx567_0, hx567_1, hx567_2, hx567_3, hx567_4, hx567_5⟩ := at_T60 (Kd.R_reads' HO_30.out).2.2 x32_2 p567 q567
           cases e567
           replace p567 := eq_true p567
           replace q567 := eq_true q567
           go_wp2_with (first | ((with_reducible refine gate_dst (N := 7) rfl ?_); (try (refine gate_guard (by rfl) ?_; dsimp only)); refine box_event ?hg (N := 7) ?hd (cs := #[.string (⟨#[]⟩ : ByteArray), .string (⟨#[]⟩ : ByteArray), .string (⟨#[]⟩ : ByteArray), .string (⟨#[]⟩ : ByteArray), .int .i64 0, .int .i64 0]) (t := 60) ?hr ?_; (case hd => rfl); (case hg => rfl); (case hr => first | (go_simp; done) | (go_simp; rfl)); intro gb568 hg w23 hbox hb; have n0_ := Aside0.mk (Kd.R_below (Kd.R_elderB (RFn.mR HO_3) gb568 (Nat.le_of_eq hg.symm)) hb); have n1_ := Aside0.mk (Kd.R_below (Kd.R_elderB (RFn.mR HO_5) gb568 (Nat.le_of_eq hg.symm)) hb); have n2_ := Aside0.mk (Kd.R_below (Kd.R_elderB (RFn.mR HO_30) gb568 (Nat.le_of_eq hg.symm)) hb); have n3_ := Aside0.mk (below_step (RFn.bel) hb); have n4_ := Aside0.mk (hbox); have n5_ := Aside0.mk ((by rw [hg]; exact (below_size (RFn.bel)) : w.heap.size ≤ gb568)); have n6_ := Aside0.mk ((by rw [hg]; exact (below_size (RFn.bel)) : w.heap.size ≤ gb568)); clear HO_3; clear HO_5; clear HO_30; clear HB; have HO_3 := n0_; have HO_5 := n1_; have HO_30 := n2_; have HB := n3_; have BK568 := n4_; have GW568 := n5_; have GE568 := n6_; clear n0_ n1_ n2_ n3_ n4_ n5_ n6_; clear hb hbox hg; have hcz24_0 : w23.cell? ⟨gb568, 0, none⟩ = some (.string (⟨#[]⟩ : ByteArray)) := (blk_cell BK568.out 0).trans rfl; have hcz24_1 : w23.cell? ⟨gb568, 1, none⟩ = some (.string (⟨#[]⟩ : ByteArray)) := (blk_cell BK568.out 1).trans rfl; have hcz24_2 : w23.cell? ⟨gb568, 2, none⟩ = some (.string (⟨#[]⟩ : ByteArray)) := (blk_cell BK568.out 2).trans rfl; have hcz24_3 : w23.cell? ⟨gb568, 3, none⟩ = some (.string (⟨#[]⟩ : ByteArray)) := (blk_cell BK568.out 3).trans rfl; have hcz24_4 : w23.cell? ⟨gb568, 4, none⟩ = some (.int .i64 0) := (blk_cell BK568.out 4).trans rfl; have hcz24_5 : w23.cell? ⟨gb568, 5, none⟩ = some (.int .i64 0) := (blk_cell BK568.out 5).trans rfl; have hfz24_0 := blk_frozen BK568.out 0; have hfz24_1 := blk_frozen BK568.out 1; have hfz24_2 := blk_frozen BK568.out 2; have hfz24_3 := blk_frozen BK568.out 3; have hfz24_4 := blk_frozen BK568.out 4; have hfz24_5 := blk_frozen BK568.out 5) | ((with_reducible refine gate_builtin (b := .append) (xs := #[.tmp 40, .tmp 42]) rfl ?_); (try (refine gate_guard (by rfl) ?_; dsimp only)); at_builtin; refine Kd.R_append k60 (w0 := w) w.heap.size rfl (.tmp 40) (.tmp 42) 30 60 (.agg #[(.string ⟨#[]⟩), (.string ⟨#[]⟩), (.string ⟨#[]⟩), (.string ⟨#[]⟩), (.int .i64 0), (.int .i64 0)]) 80 rfl Try.underlying30 info60 rfl (by decide) (by omega) u5 x5_2 (⟨(⟨(rd_T60 t563 x32_2).f0.f0, (rd_T60 t563 x32_2).f0.f1, (rd_T60 t563 x32_2).f0.f2, (rd_T60 t563 x32_2).f0.f3, (rd_T60 t563 x32_2).f0.f4⟩ : S40), wrap64 (-((rd_T60 t563 x32_2).f1))⟩ : S60) [.string ((rd_T60 t563 x32_2).f0.f0), .string ((rd_T60 t563 x32_2).f0.f1), .string ((rd_T60 t563 x32_2).f0.f2), .string ((rd_T60 t563 x32_2).f0.f3), .int .i64 ((rd_T60 t563 x32_2).f0.f4), .int .i64 (wrap64 (-((rd_T60 t563 x32_2).f1)))] (fun k_ => some k_ ≠ (.slice (some ad567) t563.length co18 : Value).ownBlock ∧ some k_ ≠ (.slice (some ad567) t563.length co18 : Value).ownBlock ∧ k_ ≠ gb568) (fun _ => False) rfl (by first | (go_simp; done) | (go_simp; rfl)) ?aP (fun _ hk => hk.elim) ?aF ?aO ?aB ?aS ?aL ?_; (case aP => exact k60_mkM _ _ _ (⟨(⟨(rd_T60 t563 x32_2).f0.f0, (rd_T60 t563 x32_2).f0.f1, (rd_T60 t563 x32_2).f0.f2, (rd_T60 t563 x32_2).f0.f3, (rd_T60 t563 x32_2).f0.f4⟩ : S40), wrap64 (-((rd_T60 t563 x32_2).f1))⟩ : S60)); (case aB => exact RFn.bels); (case aF => exact (fun k_ hk => ⟨Kd.fresh' (Kd.R_lt (by (with_reducible repeat (first | apply Kd.R_alloc | apply Kd.R_drewN | apply Kd.R_drew)); exact (Kd.R_mono (Kd.R_far (p := ⟨gb568, 5, none⟩) (Kd.R_far (p := ⟨gb568, 5, none⟩) (Kd.R_far (p := ⟨gb568, 4, none⟩) (Kd.R_far (p := ⟨gb568, 3, none⟩) (Kd.R_far (p := ⟨gb568, 2, none⟩) (Kd.R_far (p := ⟨gb568, 1, none⟩) (Kd.R_far (p := ⟨gb568, 0, none⟩) (Kd.R_mono HO_3.out (fun k_ hk => (⟨hk, hk.2⟩ : _ ∧ k_ ≠ gb568))) (fun _ hk => hk.2) (.string ((rd_T60 t563 x32_2).f0.f0))) (fun _ hk => hk.2) (.string ((rd_T60 t563 x32_2).f0.f1))) (fun _ hk => hk.2) (.string ((rd_T60 t563 x32_2).f0.f2))) (fun _ hk => hk.2) (.string ((rd_T60 t563 x32_2).f0.f3))) (fun _ hk => hk.2) (.int .i64 ((rd_T60 t563 x32_2).f0.f4))) (fun _ hk => hk.2) (.int .i64 ((rd_T60 t563 x32_2).f1))) (fun _ hk => hk.2) (.int .i64 (wrap64 (-((rd_T60 t563 x32_2).f1))))) (fun _ h_ => h_.1)))) k_ hk, Kd.fresh' (Kd.R_lt (by (with_reducible repeat (first | apply Kd.R_alloc | apply Kd.R_drewN | apply Kd.R_drew)); exact (Kd.R_mono (Kd.R_far (p := ⟨gb568, 5, none⟩) (Kd.R_far (p := ⟨gb568, 5, none⟩) (Kd.R_far (p := ⟨gb568, 4, none⟩) (Kd.R_far (p := ⟨gb568, 3, none⟩) (Kd.R_far (p := ⟨gb568, 2, none⟩) (Kd.R_far (p := ⟨gb568, 1, none⟩) (Kd.R_far (p := ⟨gb568, 0, none⟩) (Kd.R_mono HO_30.out (fun k_ hk => (⟨hk, hk.2⟩ : _ ∧ k_ ≠ gb568))) (fun _ hk => hk.2) (.string ((rd_T60 t563 x32_2).f0.f0))) (fun _ hk => hk.2) (.string ((rd_T60 t563 x32_2).f0.f1))) (fun _ hk => hk.2) (.string ((rd_T60 t563 x32_2).f0.f2))) (fun _ hk => hk.2) (.string ((rd_T60 t563 x32_2).f0.f3))) (fun _ hk => hk.2) (.int .i64 ((rd_T60 t563 x32_2).f0.f4))) (fun _ hk => hk.2) (.int .i64 ((rd_T60 t563 x32_2).f1))) (fun _ hk => hk.2) (.int .i64 (wrap64 (-((rd_T60 t563 x32_2).f1))))) (fun _ h_ => h_.1)))) k_ hk, Kd.freshB (g := gb568) (o := .cells #[.string ((rd_T60 t563 x32_2).f0.f0), .string ((rd_T60 t563 x32_2).f0.f1), .string ((rd_T60 t563 x32_2).f0.f2), .string ((rd_T60 t563 x32_2).f0.f3), .int .i64 ((rd_T60 t563 x32_2).f0.f4), .int .i64 (wrap64 (-((rd_T60 t563 x32_2).f1)))] 60 (0, 0)) (by (with_reducible repeat (first | refine blk_drewN ?_ _ | refine blk_drew ?_ | refine blk_alloc ?_ _)); refine blk_put (cs := #[.string ((rd_T60 t563 x32_2).f0.f0), .string ((rd_T60 t563 x32_2).f0.f1), .string ((rd_T60 t563 x32_2).f0.f2), .string ((rd_T60 t563 x32_2).f0.f3), .int .i64 ((rd_T60 t563 x32_2).f0.f4), .int .i64 ((rd_T60 t563 x32_2).f1)]) ?_ 5 _ rfl; (with_reducible repeat (first | refine blk_drewN ?_ _ | refine blk_drew ?_ | refine blk_alloc ?_ _)); refine blk_put (cs := #[.string ((rd_T60 t563 x32_2).f0.f0), .string ((rd_T60 t563 x32_2).f0.f1), .string ((rd_T60 t563 x32_2).f0.f2), .string ((rd_T60 t563 x32_2).f0.f3), .int .i64 ((rd_T60 t563 x32_2).f0.f4), .int .i64 0]) ?_ 5 _ rfl; (with_reducible repeat (first | refine blk_drewN ?_ _ | refine blk_drew ?_ | refine blk_alloc ?_ _)); refine blk_put (cs := #[.string ((rd_T60 t563 x32_2).f0.f0), .string ((rd_T60 t563 x32_2).f0.f1), .string ((rd_T60 t563 x32_2).f0.f2), .string ((rd_T60 t563 x32_2).f0.f3), .int .i64 0, .int .i64 0]) ?_ 4 _ rfl; (with_reducible repeat (first | refine blk_drewN ?_ _ | refine blk_drew ?_ | refine blk_alloc ?_ _)); refine blk_put (cs := #[.string ((rd_T60 t563 x32_2).f0.f0), .string ((rd_T60 t563 x32_2).f0.f1), .string ((rd_T60 t563 x32_2).f0.f2), .string (⟨#[]⟩ : ByteArray), .int .i64 0, .int .i64 0]) ?_ 3 _ rfl; (with_reducible repeat (first | refine blk_drewN ?_ _ | refine blk_drew ?_ | refine blk_alloc ?_ _)); refine blk_put (cs := #[.string ((rd_T60 t563 x32_2).f0.f0), .string ((rd_T60 t563 x32_2).f0.f1), .string (⟨#[]⟩ : ByteArray), .string (⟨#[]⟩ : ByteArray), .int .i64 0, .int .i64 0]) ?_ 2 _ rfl; (with_reducible repeat (first | refine blk_drewN ?_ _ | refine blk_drew ?_ | refine blk_alloc ?_ _)); refine blk_put (cs := #[.string ((rd_T60 t563 x32_2).f0.f0), .string (⟨#[]⟩ : ByteArray), .string (⟨#[]⟩ : ByteArray), .string (⟨#[]⟩ : ByteArray), .int .i64 0, .int .i64 0]) ?_ 1 _ rfl; (with_reducible repeat (first | refine blk_drewN ?_ _ | refine blk_drew ?_ | refine blk_alloc ?_ _)); refine blk_put (cs := #[.string (⟨#[]⟩ : ByteArray), .string (⟨#[]⟩ : ByteArray), .string (⟨#[]⟩ : ByteArray), .string (⟨#[]⟩ : ByteArray), .int .i64 0, .int .i64 0]) ?_ 0 _ rfl; (with_reducible repeat (first | refine blk_drewN ?_ _ | refine blk_drew ?_ | refine blk_alloc ?_ _)); exact BK568.out) k_ hk⟩)); (case aO => exact (by (with_reducible repeat (first | apply Kd.R_alloc | apply Kd.R_drewN | apply Kd.R_drew)); exact Kd.R_mono (Kd.R_far (p := ⟨gb568, 5, none⟩) (Kd.R_far (p := ⟨gb568, 5, none⟩) (Kd.R_far (p := ⟨gb568, 4, none⟩) (Kd.R_far (p := ⟨gb568, 3, none⟩) (Kd.R_far (p := ⟨gb568, 2, none⟩) (Kd.R_far (p := ⟨gb568, 1, none⟩) (Kd.R_far (p := ⟨gb568, 0, none⟩) (Kd.R_mono HO_5.out (fun k_ hk => (⟨hk, hk.2⟩ : _ ∧ k_ ≠ gb568))) (fun _ hk => hk.2) (.string ((rd_T60 t563 x32_2).f0.f0))) (fun _ hk => hk.2) (.string ((rd_T60 t563 x32_2).f0.f1))) (fun _ hk => hk.2) (.string ((rd_T60 t563 x32_2).f0.f2))) (fun _ hk => hk.2) (.string ((rd_T60 t563 x32_2).f0.f3))) (fun _ hk => hk.2) (.int .i64 ((rd_T60 t563 x32_2).f0.f4))) (fun _ hk => hk.2) (.int .i64 ((rd_T60 t563 x32_2).f1))) (fun _ hk => hk.2) (.int .i64 (wrap64 (-((rd_T60 t563 x32_2).f1))))) (fun _ hk => by first | exact ⟨hk.1.1.1, ⟨hk.1.1.2, hk.1.2⟩⟩ | exact trivial | (refine ⟨?_, ?_⟩ <;> (try refine ⟨?_, ?_⟩) <;> first | exact hk.2 | exact hk.1.2 | exact hk.1.1.2 | exact hk.1.1.1.2 | exact hk.1.1.1.1.2)))); (case aS => exact (below_size RFn.bels)); (case aL => have := LMc22.out; omega); intro v570 w25 ho hb hg hat; rw [← Ny569.out] at ho; have n0_ := Aside0.mk (Kd.R_after (ok := (fun k_ => k_ ≠ gb568)) (by (with_reducible repeat (first | apply Kd.R_alloc | apply Kd.R_drewN | apply Kd.R_drew)); exact Kd.R_mono (Kd.R_far (p := ⟨gb568, 5, none⟩) (Kd.R_far (p := ⟨gb568, 5, none⟩) (Kd.R_far (p := ⟨gb568, 4, none⟩) (Kd.R_far (p := ⟨gb568, 3, none⟩) (Kd.R_far (p := ⟨gb568, 2, none⟩) (Kd.R_far (p := ⟨gb568, 1, none⟩) (Kd.R_far (p := ⟨gb568, 0, none⟩) (Kd.R_mono HO_3.out (fun k_ hk => (⟨hk, hk.2⟩ : _ ∧ k_ ≠ gb568))) (fun _ hk => hk.2) (.string ((rd_T60 t563 x32_2).f0.f0))) (fun _ hk => hk.2) (.string ((rd_T60 t563 x32_2).f0.f1))) (fun _ hk => hk.2) (.string ((rd_T60 t563 x32_2).f0.f2))) (fun _ hk => hk.2) (.string ((rd_T60 t563 x32_2).f0.f3))) (fun _ hk => hk.2) (.int .i64 ((rd_T60 t563 x32_2).f0.f4))) (fun _ hk => hk.2) (.int .i64 ((rd_T60 t563 x32_2).f1))) (fun _ hk => hk.2) (.int .i64 (wrap64 (-((rd_T60 t563 x32_2).f1))))) (fun _ hk => by first | exact ⟨hk.1.2, hk.1.1⟩ | exact trivial | (refine ⟨?_, ?_⟩ <;> (try refine ⟨?_, ?_⟩) <;> first | exact hk.2 | exact hk.1.2 | exact hk.1.1.2 | exact hk.1.1.1.2 | exact hk.1.1.1.1.2))) hg hat); have n1_ := Aside0.mk (Kd.R_after (ok := (fun k_ => k_ ≠ gb568)) (by (with_reducible repeat (first | apply Kd.R_alloc | apply Kd.R_drewN | apply Kd.R_drew)); exact Kd.R_mono (Kd.R_far (p := ⟨gb568, 5, none⟩) (Kd.R_far (p := ⟨gb568, 5, none⟩) (Kd.R_far (p := ⟨gb568, 4, none⟩) (Kd.R_far (p := ⟨gb568, 3, none⟩) (Kd.R_far (p := ⟨gb568, 2, none⟩) (Kd.R_far (p := ⟨gb568, 1, none⟩) (Kd.R_far (p := ⟨gb568, 0, none⟩) (Kd.R_mono HO_30.out (fun k_ hk => (⟨hk, hk.2⟩ : _ ∧ k_ ≠ gb568))) (fun _ hk => hk.2) (.string ((rd_T60 t563 x32_2).f0.f0))) (fun _ hk => hk.2) (.string ((rd_T60 t563 x32_2).f0.f1))) (fun _ hk => hk.2) (.string ((rd_T60 t563 x32_2).f0.f2))) (fun _ hk => hk.2) (.string ((rd_T60 t563 x32_2).f0.f3))) (fun _ hk => hk.2) (.int .i64 ((rd_T60 t563 x32_2).f0.f4))) (fun _ hk => hk.2) (.int .i64 ((rd_T60 t563 x32_2).f1))) (fun _ hk => hk.2) (.int .i64 (wrap64 (-((rd_T60 t563 x32_2).f1))))) (fun _ hk => by first | exact ⟨hk.1.2, hk.1.1⟩ | exact trivial | (refine ⟨?_, ?_⟩ <;> (try refine ⟨?_, ?_⟩) <;> first | exact hk.2 | exact hk.1.2 | exact hk.1.1.2 | exact hk.1.1.1.2 | exact hk.1.1.1.1.2))) hg hat); have n2_ := Aside0.mk (blk_grown (g := gb568) (o := .cells #[.string ((rd_T60 t563 x32_2).f0.f0), .string ((rd_T60 t563 x32_2).f0.f1), .string ((rd_T60 t563 x32_2).f0.f2), .string ((rd_T60 t563 x32_2).f0.f3), .int .i64 ((rd_T60 t563 x32_2).f0.f4), .int .i64 (wrap64 (-((rd_T60 t563 x32_2).f1)))] 60 (0, 0)) (by (with_reducible repeat (first | refine blk_drewN ?_ _ | refine blk_drew ?_ | refine blk_alloc ?_ _)); refine blk_put (cs := #[.string ((rd_T60 t563 x32_2).f0.f0), .string ((rd_T60 t563 x32_2).f0.f1), .string ((rd_T60 t563 x32_2).f0.f2), .string ((rd_T60 t563 x32_2).f0.f3), .int .i64 ((rd_T60 t563 x32_2).f0.f4), .int .i64 ((rd_T60 t563 x32_2).f1)]) ?_ 5 _ rfl; (with_reducible repeat (first | refine blk_drewN ?_ _ | refine blk_drew ?_ | refine blk_alloc ?_ _)); refine blk_put (cs := #[.string ((rd_T60 t563 x32_2).f0.f0), .string ((rd_T60 t563 x32_2).f0.f1), .string ((rd_T60 t563 x32_2).f0.f2), .string ((rd_T60 t563 x32_2).f0.f3), .int .i64 ((rd_T60 t563 x32_2).f0.f4), .int .i64 0]) ?_ 5 _ rfl; (with_reducible repeat (first | refine blk_drewN ?_ _ | refine blk_drew ?_ | refine blk_alloc ?_ _)); refine blk_put (cs := #[.string ((rd_T60 t563 x32_2).f0.f0), .string ((rd_T60 t563 x32_2).f0.f1), .string ((rd_T60 t563 x32_2).f0.f2), .string ((rd_T60 t563 x32_2).f0.f3), .int .i64 0, .int .i64 0]) ?_ 4 _ rfl; (with_reducible repeat (first | refine blk_drewN ?_ _ | refine blk_drew ?_ | refine blk_alloc ?_ _)); refine blk_put (cs := #[.string ((rd_T60 t563 x32_2).f0.f0), .string ((rd_T60 t563 x32_2).f0.f1), .string ((rd_T60 t563 x32_2).f0.f2), .string (⟨#[]⟩ : ByteArray), .int .i64 0, .int .i64 0]) ?_ 3 _ rfl; (with_reducible repeat (first | refine blk_drewN ?_ _ | refine blk_drew ?_ | refine blk_alloc ?_ _)); refine blk_put (cs := #[.string ((rd_T60 t563 x32_2).f0.f0), .string ((rd_T60 t563 x32_2).f0.f1), .string (⟨#[]⟩ : ByteArray), .string (⟨#[]⟩ : ByteArray), .int .i64 0, .int .i64 0]) ?_ 2 _ rfl; (with_reducible repeat (first | refine blk_drewN ?_ _ | refine blk_drew ?_ | refine blk_alloc ?_ _)); refine blk_put (cs := #[.string ((rd_T60 t563 x32_2).f0.f0), .string (⟨#[]⟩ : ByteArray), .string (⟨#[]⟩ : ByteArray), .string (⟨#[]⟩ : ByteArray), .int .i64 0, .int .i64 0]) ?_ 1 _ rfl; (with_reducible repeat (first | refine blk_drewN ?_ _ | refine blk_drew ?_ | refine blk_alloc ?_ _)); refine blk_put (cs := #[.string (⟨#[]⟩ : ByteArray), .string (⟨#[]⟩ : ByteArray), .string (⟨#[]⟩ : ByteArray), .string (⟨#[]⟩ : ByteArray), .int .i64 0, .int .i64 0]) ?_ 0 _ rfl; (with_reducible repeat (first | refine blk_drewN ?_ _ | refine blk_drew ?_ | refine blk_alloc ?_ _)); exact BK568.out) hg (Kd.R_away HO_5.out (fun _ hk => hk.2))); have n3_ := Aside0.mk (hb); have n4_ := Aside0.mk (ho); clear HO_3; clear HO_30; clear BK568; clear HB; clear HO_5; have HO_3 := n0_; have HO_30 := n1_; have BK568 := n2_; have HB := n3_; have HO571 := n4_; clear n0_ n1_ n2_ n3_ n4_; clear ho hb hg hat))
           go_roundg k2
           case measure => have := HJ3.out; have := HK2.out; omega
           case rel => exact ⟨(y569), (wrap64 (x32_2 + 1)), (by first | rfl | (simp; done) | (simp [*]; done)), H', ⟨by have := HJ3.out; have := HK2.out; omega⟩, ⟨by (with_reducible repeat (first | apply Kd.R_alloc | apply Kd.R_drewN | apply Kd.R_drew)); exact Kd.R_mono HO_3.out (fun _ hk => by first | exact hk.2 | exact trivial | (refine ⟨?_, ?_⟩ <;> (try refine ⟨?_, ?_⟩) <;> first | exact hk.2 | exact hk.1.2 | exact hk.1.1.2 | exact hk.1.1.1.2 | exact hk.1.1.1.1.2))⟩, ⟨by (with_reducible repeat (first | apply Kd.R_alloc | apply Kd.R_drewN | apply Kd.R_drew)); exact Kd.R_mono HO571.out (fun _ hk => by first | exact ⟨hk.1, hk.2.1⟩ | exact trivial | (refine ⟨?_, ?_⟩ <;> (try refine ⟨?_, ?_⟩) <;> first | exact hk.2 | exact hk.1.2 | exact hk.1.1.2 | exact hk.1.1.1.2 | exact hk.1.1.1.1.2))⟩, ⟨by (with_reducible repeat (first | apply Kd.R_alloc | apply Kd.R_drewN | apply Kd.R_drew)); exact Kd.R_mono HO_30.out (fun _ hk => by first | exact hk.2 | exact trivial | (refine ⟨?_, ?_⟩ <;> (try refine ⟨?_, ?_⟩) <;> first | exact hk.2 | exact hk.1.2 | exact hk.1.1.2 | exact hk.1.1.1.2 | exact hk.1.1.1.1.2))⟩, ⟨RFn.bels⟩⟩
          ·rw [if_neg c22] at H
           exact absurd H (by simp)
         ·rw [if_neg c21] at H
          exact absurd H (by simp)
        ·rw [if_neg c20] at H
         exact absurd H (by simp)
       ·rw [if_neg c19] at H
        have c19b0 : decide (x32_2 < (t563.length : Int)) = false := decide_eq_false c19
        clear c19
        replace H := Option.bind_eq_some_iff.mp H
        obtain ⟨⟨t572, t573⟩, A260, H⟩ := H
        replace H : ((fact_Add.f k2 t563 ([] : List (S60))).bind fun bt576 => ((fact_Of.f k2 t563).bind fun bt580 => (law09_FactZeros.j2 k2 t563 t564 t572 t573 bt576.1 bt576.2 bt580.1 bt580.2))) = some r := H
        have A26 := Aside0.mk A260
        clear A260
        replace H := Option.bind_eq_some_iff.mp H
        obtain ⟨⟨t576, t577⟩, A270, H⟩ := H
        replace H : ((fact_Of.f k2 t563).bind fun bt580 => (law09_FactZeros.j2 k2 t563 t564 t572 t573 t576 t577 bt580.1 bt580.2)) = some r := H
        have A27 := Aside0.mk A270
        clear A270
        have HC28 := Aside0.mk H
        clear H
        obtain ⟨Ao29, co29, eo29⟩ := Kd.R_slice HO_5.out
        subst eo29
        go_upto_region 15 with (first | ((with_reducible refine gate_callee (f := 21) rfl ?_); refine RFn.goesM (some 48) Try.func21 #[.slice Ao18 t563.length co18, .slice Ao29 x5_2.length co29] rfl ?_; (with_reducible refine (fact_Add.calls k2 _ _ t563 _ _ x5_2 t572 t573 _ ?side1 ?side2 ?side3 ?side4 A26.out).mono ?_); (case side1 => exact RFn.mC (Kd.R_reads' HO_3.out).2.2); (case side2 => exact (Kd.R_reads' HO_3.out).2.1); (case side3 => exact RFn.mC (Kd.R_reads' HO_5.out).2.2); (case side4 => exact (Kd.R_reads' HO_5.out).2.1); rintro e w30 ⟨v574, rfl, ho0, hb⟩; refine ⟨_, rfl, ?_⟩; have n0_ := Aside0.mk (Kd.R_elder' (RFn.mR HO_3) (Kd.R_base ho0) hb); have n1_ := Aside0.mk (Kd.R_elder' (RFn.mR HO_5) (Kd.R_base ho0) hb); have n2_ := Aside0.mk (Kd.R_elder' (RFn.mR HO_30) (Kd.R_base ho0) hb); have n3_ := Aside0.mk (Kd.R_lower (Kd.R_new' (Kd.R_new' (Kd.R_new' ho0 (Kd.R_lt (RFn.mR HO_3))) (Kd.R_lt (RFn.mR HO_5))) (Kd.R_lt (RFn.mR HO_30))) (below_size (RFn.bel))); have n4_ := Aside0.mk (below_step (RFn.bel) hb); clear HO_3; clear HO_5; clear HO_30; clear HB; have HO_3 := n0_; have HO_5 := n1_; have HO_30 := n2_; have HO575 := n3_; have HB := n4_; clear n0_ n1_ n2_ n3_ n4_; (try clear hb); (try clear hb2); (try clear hk); (try clear hi); (try clear ho0)) | ((with_reducible refine gate_callee (f := 21) rfl ?_); refine RFn.goesM (some 53) Try.func21 #[.slice Ao18 t563.length co18, .slice none 0 0] rfl ?_; (refine (fact_Add.calls k2 _ _ t563 _ _ ([] : List (S60)) t576 t577 _ ?side1 ?side2 ?side3 ?side4 A27.out).mono ?_); (case side1 => exact RFn.mC (Kd.R_reads' HO_3.out).2.2); (case side2 => exact (Kd.R_reads' HO_3.out).2.1); (case side3 => exact Kd.C_nil _ _); (case side4 => exact Nat.le_refl _); rintro e w31 ⟨v578, rfl, ho0, hb⟩; refine ⟨_, rfl, ?_⟩; have n0_ := Aside0.mk (Kd.R_elder' (RFn.mR HO_3) (Kd.R_base ho0) hb); have n1_ := Aside0.mk (Kd.R_elder' (RFn.mR HO_5) (Kd.R_base ho0) hb); have n2_ := Aside0.mk (Kd.R_elder' (RFn.mR HO_30) (Kd.R_base ho0) hb); have n3_ := Aside0.mk (Kd.R_elder' (RFn.mR HO575) (Kd.R_base ho0) hb); have n4_ := Aside0.mk (Kd.R_lower (Kd.R_new' (Kd.R_new' (Kd.R_new' (Kd.R_new' ho0 (Kd.R_lt (RFn.mR HO_3))) (Kd.R_lt (RFn.mR HO_5))) (Kd.R_lt (RFn.mR HO_30))) (Kd.R_lt (RFn.mR HO575))) (below_size (RFn.bel))); have n5_ := Aside0.mk (below_step (RFn.bel) hb); clear HO_3; clear HO_5; clear HO_30; clear HO575; clear HB; have HO_3 := n0_; have HO_5 := n1_; have HO_30 := n2_; have HO575 := n3_; have HO579 := n4_; have HB := n5_; clear n0_ n1_ n2_ n3_ n4_ n5_; (try clear hb); (try clear hb2); (try clear hk); (try clear hi); (try clear ho0)))
        (try simp only [Act.put, List.setIfInBounds_toArray, List.set_cons_zero, List.set_cons_succ])
        go_cut [12, 13] (fun v12 v13 wc => ∃ (kq : Nat) (x12_27 : List (S60)) (x13_27 : Int), v13 = .int .i64 x13_27 ∧ Aside0 (law09_FactZeros.j2 kq t563 t564 t572 t573 t576 t577 x12_27 x13_27 = some r) ∧ Aside0 (kq ≤ k2) ∧ Aside0 (Kd.R k60 60 wc w.heap.size (fun k_ => some k_ ≠ (v574 : Value).ownBlock ∧ some k_ ≠ (v578 : Value).ownBlock) (.slice Ao18 t563.length co18) t563) ∧ Aside0 (Kd.R k60 60 wc w.heap.size (fun k_ => some k_ ≠ ((.slice Ao18 t563.length co18) : Value).ownBlock ∧ some k_ ≠ (v578 : Value).ownBlock) v574 t572) ∧ Aside0 (Kd.R k60 60 wc w.heap.size (fun k_ => some k_ ≠ ((.slice Ao18 t563.length co18) : Value).ownBlock ∧ some k_ ≠ (v574 : Value).ownBlock) v578 t576) ∧ Aside0 (Kd.R k60 60 wc w.heap.size (fun _ => True) v12 x12_27) ∧ Aside0 (Below w.heap.size w wc))
        case first =>
         have H := HC28.out
         clear HC28
         replace H := Option.bind_eq_some_iff.mp H
         obtain ⟨⟨t580, t581⟩, A320, H⟩ := H
         replace H : (law09_FactZeros.j2 k2 t563 t564 t572 t573 t576 t577 t580 t581) = some r := H
         have A32 := Aside0.mk A320
         clear A320
         have H' := Aside0.mk H
         clear H
         go_wp2_with (first | ((with_reducible refine gate_callee (f := 12) rfl ?_); refine RFn.goesM (some 58) Try.func12 #[.slice Ao18 t563.length co18] rfl ?_; (with_reducible refine (fact_Of.calls k2 _ _ t563 t580 t581 _ ?side1 ?side2 A32.out).mono ?_); (case side1 => exact RFn.mC (Kd.R_reads' HO_3.out).2.2); (case side2 => exact (Kd.R_reads' HO_3.out).2.1); rintro e w33 ⟨v582, rfl, ho0, hb⟩; refine ⟨_, rfl, ?_⟩; have n0_ := Aside0.mk (Kd.R_elder' (RFn.mR HO_3) (Kd.R_base ho0) hb); have n1_ := Aside0.mk (Kd.R_elder' (RFn.mR HO_5) (Kd.R_base ho0) hb); have n2_ := Aside0.mk (Kd.R_elder' (RFn.mR HO_30) (Kd.R_base ho0) hb); have n3_ := Aside0.mk (Kd.R_elder' (RFn.mR HO575) (Kd.R_base ho0) hb); have n4_ := Aside0.mk (Kd.R_elder' (RFn.mR HO579) (Kd.R_base ho0) hb); have n5_ := Aside0.mk (Kd.R_lower (Kd.R_new' (Kd.R_new' (Kd.R_new' (Kd.R_new' (Kd.R_new' ho0 (Kd.R_lt (RFn.mR HO_3))) (Kd.R_lt (RFn.mR HO_5))) (Kd.R_lt (RFn.mR HO_30))) (Kd.R_lt (RFn.mR HO575))) (Kd.R_lt (RFn.mR HO579))) (below_size (RFn.bel))); have n6_ := Aside0.mk (below_step (RFn.bel) hb); clear HO_3; clear HO_5; clear HO_30; clear HO575; clear HO579; clear HB; have HO_3 := n0_; have HO_5 := n1_; have HO_30 := n2_; have HO575 := n3_; have HO579 := n4_; have HO583 := n5_; have HB := n6_; clear n0_ n1_ n2_ n3_ n4_ n5_ n6_; (try clear hb); (try clear hb2); (try clear hk); (try clear hi); (try clear ho0)))
         go_meet
         case rel => exact ⟨_, (t580), (t581), (by first | rfl | (simp; done) | (simp [*]; done)), H', ⟨by have := HJ3.out; have := HK2.out; first | omega | exact Nat.le_refl _⟩, ⟨by (with_reducible repeat (first | apply Kd.R_alloc | apply Kd.R_drewN | apply Kd.R_drew)); exact Kd.R_mono HO_3.out (fun _ hk => by first | exact ⟨hk.1.1.2, ⟨hk.1.2, hk.2⟩⟩ | exact trivial | (refine ⟨?_, ?_⟩ <;> (try refine ⟨?_, ?_⟩) <;> first | exact hk.2 | exact hk.1.2 | exact hk.1.1.2 | exact hk.1.1.1.2 | exact hk.1.1.1.1.2))⟩, ⟨by (with_reducible repeat (first | apply Kd.R_alloc | apply Kd.R_drewN | apply Kd.R_drew)); exact Kd.R_mono HO575.out (fun _ hk => by first | exact ⟨hk.1.1.1.1.2, ⟨hk.1.2, hk.2⟩⟩ | exact trivial | (refine ⟨?_, ?_⟩ <;> (try refine ⟨?_, ?_⟩) <;> first | exact hk.2 | exact hk.1.2 | exact hk.1.1.2 | exact hk.1.1.1.2 | exact hk.1.1.1.1.2))⟩, ⟨by (with_reducible repeat (first | apply Kd.R_alloc | apply Kd.R_drewN | apply Kd.R_drew)); exact Kd.R_mono HO579.out (fun _ hk => by first | exact ⟨hk.1.1.1.1.2, ⟨hk.1.2, hk.2⟩⟩ | exact trivial | (refine ⟨?_, ?_⟩ <;> (try refine ⟨?_, ?_⟩) <;> first | exact hk.2 | exact hk.1.2 | exact hk.1.1.2 | exact hk.1.1.1.2 | exact hk.1.1.1.1.2))⟩, ⟨by (with_reducible repeat (first | apply Kd.R_alloc | apply Kd.R_drewN | apply Kd.R_drew)); exact Kd.R_mono HO583.out (fun _ hk => by first | exact ⟨hk.1.1.1.1.2, ⟨hk.1.2, hk.2⟩⟩ | exact trivial | (refine ⟨?_, ?_⟩ <;> (try refine ⟨?_, ?_⟩) <;> first | exact hk.2 | exact hk.1.2 | exact hk.1.1.2 | exact hk.1.1.1.2 | exact hk.1.1.1.1.2))⟩, ⟨RFn.bel⟩⟩
        case rest =>
         clear HC28
         try clear c1
         try clear c2
         try clear p2
         try clear c3
         try clear p5
         try clear q5
         try clear hx5
         try clear p6
         try clear c7
         try clear c9
         try clear c10
         try clear c11
         try clear c12
         try clear c13
         try clear c19
         try clear c19b0
         try clear c20
         try clear c20b0
         try clear c21
         try clear c21b0
         try clear c22
         try clear hcz24_0
         try clear hcz24_1
         try clear hcz24_2
         try clear hcz24_3
         try clear hcz24_4
         try clear hcz24_5
         try clear hfz24_0
         try clear hfz24_1
         try clear hfz24_2
         try clear hfz24_3
         try clear hfz24_4
         try clear hfz24_5
         try clear hx567_0
         try clear hx567_1
         try clear hx567_2
         try clear hx567_3
         try clear hx567_4
         try clear hx567_5
         try clear p2
         try clear p567
         try clear q567
         obtain ⟨kq, x12_27, x13_27, rfl, HA, HJ27, HO_3, HO_8, HO_10, HO_12, HB⟩ := hcut
         cases kq with
         | zero => exact absurd HA.out (by simp [law09_FactZeros.j2])
         | succ kj27 =>
          have H := HA.out
          clear HA
          simp only [law09_FactZeros.j2] at H
          by_cases c34 : t564 = 0
          ·rw [if_pos c34] at H
           have c34b0 : (t564 == 0) = true := beq_iff_eq.mpr c34
           have c34b1 : (t564 != 0) = false := bne_eq_false_iff_eq.mpr c34
           clear c34
           by_cases c35 : t573 = 0
           ·rw [if_pos c35] at H
            have c35b0 : (t573 == 0) = true := beq_iff_eq.mpr c35
            have c35b1 : (t573 != 0) = false := bne_eq_false_iff_eq.mpr c35
            clear c35
            by_cases c36 : (t572.length : Int) = 0
            ·rw [if_pos c36] at H
             have c36b0 : ((t572.length : Int) == 0) = true := beq_iff_eq.mpr c36
             have c36b1 : ((t572.length : Int) != 0) = false := bne_eq_false_iff_eq.mpr c36
             clear c36
             by_cases c37 : t577 = 0
             ·rw [if_pos c37] at H
              have c37b0 : (t577 == 0) = true := beq_iff_eq.mpr c37
              have c37b1 : (t577 != 0) = false := bne_eq_false_iff_eq.mpr c37
              clear c37
              replace H := Option.bind_eq_some_iff.mp H
              obtain ⟨t584, A380, H⟩ := H
              replace H : ((law09_Ours.f kj27 t563).bind fun t587 => ((ref09_Same.f kj27 t584 t587).bind fun t590 => (if t590 = true then (if x13_27 = 0 then ((law09_Ours.f kj27 x12_27).bind fun t591 => ((law09_Ours.f kj27 t563).bind fun t594 => ((ref09_Same.f kj27 t591 t594).bind fun t597 => (some t597)))) else (some false)) else (some false)))) = some r := H
              have A38 := Aside0.mk A380
              clear A380
              replace H := Option.bind_eq_some_iff.mp H
              obtain ⟨t587, A390, H⟩ := H
              replace H : ((ref09_Same.f kj27 t584 t587).bind fun t590 => (if t590 = true then (if x13_27 = 0 then ((law09_Ours.f kj27 x12_27).bind fun t591 => ((law09_Ours.f kj27 t563).bind fun t594 => ((ref09_Same.f kj27 t591 t594).bind fun t597 => (some t597)))) else (some false)) else (some false))) = some r := H
              have A39 := Aside0.mk A390
              clear A390
              replace H := Option.bind_eq_some_iff.mp H
              obtain ⟨t590, A400, H⟩ := H
              replace H : (if t590 = true then (if x13_27 = 0 then ((law09_Ours.f kj27 x12_27).bind fun t591 => ((law09_Ours.f kj27 t563).bind fun t594 => ((ref09_Same.f kj27 t591 t594).bind fun t597 => (some t597)))) else (some false)) else (some false)) = some r := H
              have A40 := Aside0.mk A400
              clear A400
              by_cases c41 : t590 = true
              ·subst c41
               have H1 : (if x13_27 = 0 then ((law09_Ours.f kj27 x12_27).bind fun t591 => ((law09_Ours.f kj27 t563).bind fun t594 => ((ref09_Same.f kj27 t591 t594).bind fun t597 => (some t597)))) else (some false)) = some r := by rw [if_pos rfl] at H; exact H
               clear H
               have H := H1
               clear H1
               by_cases c42 : x13_27 = 0
               ·rw [if_pos c42] at H
                have c42b0 : (x13_27 == 0) = true := beq_iff_eq.mpr c42
                have c42b1 : (x13_27 != 0) = false := bne_eq_false_iff_eq.mpr c42
                clear c42
                replace H := Option.bind_eq_some_iff.mp H
                obtain ⟨t591, A430, H⟩ := H
                replace H : ((law09_Ours.f kj27 t563).bind fun t594 => ((ref09_Same.f kj27 t591 t594).bind fun t597 => (some t597))) = some r := H
                have A43 := Aside0.mk A430
                clear A430
                replace H := Option.bind_eq_some_iff.mp H
                obtain ⟨t594, A440, H⟩ := H
                replace H : ((ref09_Same.f kj27 t591 t594).bind fun t597 => (some t597)) = some r := H
                have A44 := Aside0.mk A440
                clear A440
                replace H := Option.bind_eq_some_iff.mp H
                obtain ⟨t597, A450, H⟩ := H
                replace H : (some t597) = some r := H
                have A45 := Aside0.mk A450
                clear A450
                obtain rfl := Option.some.inj H
                obtain ⟨Ao46, co46, eo46⟩ := Kd.R_slice HO_8.out
                subst eo46
                obtain ⟨Ao47, co47, eo47⟩ := Kd.R_slice HO_10.out
                subst eo47
                go_wp2_with (first | (go_at_call 16; (with_reducible refine (law09_Ours.calls kj27 _ _ t576 t584 _ ?side1 ?side2 A38.out).mono ?_); (case side1 => exact RFn.mC (Kd.R_reads' HO_10.out).2.2); (case side2 => exact (Kd.R_reads' HO_10.out).2.1); rintro e w48 ⟨v585, rfl, ho0, hb⟩; have n0_ := Aside0.mk (Kd.R_below (RFn.mR HO_3) hb); have n1_ := Aside0.mk (Kd.R_below (RFn.mR HO_8) hb); have n2_ := Aside0.mk (Kd.R_below (RFn.mR HO_10) hb); have n3_ := Aside0.mk (Kd.R_below (RFn.mR HO_12) hb); have n4_ := Aside0.mk (Kd.R_lower ho0 (below_size (RFn.bel))); have n5_ := Aside0.mk (below_step (RFn.bel) hb); clear HO_3; clear HO_8; clear HO_10; clear HO_12; clear HB; have HO_3 := n0_; have HO_8 := n1_; have HO_10 := n2_; have HO_12 := n3_; have HO586 := n4_; have HB := n5_; clear n0_ n1_ n2_ n3_ n4_ n5_; (try clear hb); (try clear hb2); (try clear hk); (try clear hi); (try clear ho0)) | (go_at_call 16; (with_reducible refine (law09_Ours.calls kj27 _ _ t563 t587 _ ?side1 ?side2 A39.out).mono ?_); (case side1 => exact RFn.mC (Kd.R_reads' HO_3.out).2.2); (case side2 => exact (Kd.R_reads' HO_3.out).2.1); rintro e w49 ⟨v588, rfl, ho0, hb⟩; have n0_ := Aside0.mk (Kd.R_below (RFn.mR HO_3) hb); have n1_ := Aside0.mk (Kd.R_below (RFn.mR HO_8) hb); have n2_ := Aside0.mk (Kd.R_below (RFn.mR HO_10) hb); have n3_ := Aside0.mk (Kd.R_below (RFn.mR HO_12) hb); have n4_ := Aside0.mk (Kd.R_elder' (RFn.mR HO586) (Kd.R_base ho0) hb); have n5_ := Aside0.mk (Kd.R_lower (Kd.R_new' ho0 (Kd.R_lt (RFn.mR HO586))) (below_size (RFn.bel))); have n6_ := Aside0.mk (below_step (RFn.bel) hb); clear HO_3; clear HO_8; clear HO_10; clear HO_12; clear HO586; clear HB; have HO_3 := n0_; have HO_8 := n1_; have HO_10 := n2_; have HO_12 := n3_; have HO586 := n4_; have HO589 := n5_; have HB := n6_; clear n0_ n1_ n2_ n3_ n4_ n5_ n6_; (try clear hb); (try clear hb2); (try clear hk); (try clear hi); (try clear ho0); obtain ⟨Ao50, co50, eo50⟩ := Kd.R_slice HO586.out; subst eo50; obtain ⟨Ao51, co51, eo51⟩ := Kd.R_slice HO589.out; subst eo51) | (go_at_call 15; (with_reducible refine (ref09_Same.calls kj27 _ _ t584 _ _ t587 true _ ?side1 ?side2 ?side3 ?side4 A40.out).mono ?_); (case side1 => exact RFn.mC (Kd.R_reads' HO586.out).2.2); (case side2 => exact (Kd.R_reads' HO586.out).2.1); (case side3 => exact RFn.mC (Kd.R_reads' HO589.out).2.2); (case side4 => exact (Kd.R_reads' HO589.out).2.1); rintro e w' ⟨rfl, ⟨nd, rfl⟩⟩; obtain ⟨Ao52, co52, eo52⟩ := Kd.R_slice HO_12.out; subst eo52) | (go_at_call 16; (with_reducible refine (law09_Ours.calls kj27 _ _ x12_27 t591 _ ?side1 ?side2 A43.out).mono ?_); (case side1 => exact RFn.mC (Kd.R_reads' HO_12.out).2.2); (case side2 => exact (Kd.R_reads' HO_12.out).2.1); rintro e w53 ⟨v592, rfl, ho0, hb⟩; have n0_ := Aside0.mk (Kd.R_below (RFn.mR HO_3) hb); have n1_ := Aside0.mk (Kd.R_below (RFn.mR HO_8) hb); have n2_ := Aside0.mk (Kd.R_below (RFn.mR HO_10) hb); have n3_ := Aside0.mk (Kd.R_below (RFn.mR HO_12) hb); have n4_ := Aside0.mk (Kd.R_elder' (RFn.mR HO586) (Kd.R_base ho0) hb); have n5_ := Aside0.mk (Kd.R_elder' (RFn.mR HO589) (Kd.R_base ho0) hb); have n6_ := Aside0.mk (Kd.R_lower (Kd.R_new' (Kd.R_new' ho0 (Kd.R_lt (RFn.mR HO586))) (Kd.R_lt (RFn.mR HO589))) (below_size (RFn.bel))); have n7_ := Aside0.mk (below_step (RFn.bel) hb); clear HO_3; clear HO_8; clear HO_10; clear HO_12; clear HO586; clear HO589; clear HB; have HO_3 := n0_; have HO_8 := n1_; have HO_10 := n2_; have HO_12 := n3_; have HO586 := n4_; have HO589 := n5_; have HO593 := n6_; have HB := n7_; clear n0_ n1_ n2_ n3_ n4_ n5_ n6_ n7_; (try clear hb); (try clear hb2); (try clear hk); (try clear hi); (try clear ho0)) | (go_at_call 16; (with_reducible refine (law09_Ours.calls kj27 _ _ t563 t594 _ ?side1 ?side2 A44.out).mono ?_); (case side1 => exact RFn.mC (Kd.R_reads' HO_3.out).2.2); (case side2 => exact (Kd.R_reads' HO_3.out).2.1); rintro e w54 ⟨v595, rfl, ho0, hb⟩; have n0_ := Aside0.mk (Kd.R_below (RFn.mR HO_3) hb); have n1_ := Aside0.mk (Kd.R_below (RFn.mR HO_8) hb); have n2_ := Aside0.mk (Kd.R_below (RFn.mR HO_10) hb); have n3_ := Aside0.mk (Kd.R_below (RFn.mR HO_12) hb); have n4_ := Aside0.mk (Kd.R_elder' (RFn.mR HO586) (Kd.R_base ho0) hb); have n5_ := Aside0.mk (Kd.R_elder' (RFn.mR HO589) (Kd.R_base ho0) hb); have n6_ := Aside0.mk (Kd.R_elder' (RFn.mR HO593) (Kd.R_base ho0) hb); have n7_ := Aside0.mk (Kd.R_lower (Kd.R_new' (Kd.R_new' (Kd.R_new' ho0 (Kd.R_lt (RFn.mR HO586))) (Kd.R_lt (RFn.mR HO589))) (Kd.R_lt (RFn.mR HO593))) (below_size (RFn.bel))); have n8_ := Aside0.mk (below_step (RFn.bel) hb); clear HO_3; clear HO_8; clear HO_10; clear HO_12; clear HO586; clear HO589; clear HO593; clear HB; have HO_3 := n0_; have HO_8 := n1_; have HO_10 := n2_; have HO_12 := n3_; have HO586 := n4_; have HO589 := n5_; have HO593 := n6_; have HO596 := n7_; have HB := n8_; clear n0_ n1_ n2_ n3_ n4_ n5_ n6_ n7_ n8_; (try clear hb); (try clear hb2); (try clear hk); (try clear hi); (try clear ho0); obtain ⟨Ao55, co55, eo55⟩ := Kd.R_slice HO593.out; subst eo55; obtain ⟨Ao56, co56, eo56⟩ := Kd.R_slice HO596.out; subst eo56) | (go_at_call 15; (with_reducible refine (ref09_Same.calls kj27 _ _ t591 _ _ t594 t597 _ ?side1 ?side2 ?side3 ?side4 A45.out).mono ?_); (case side1 => exact RFn.mC (Kd.R_reads' HO593.out).2.2); (case side2 => exact (Kd.R_reads' HO593.out).2.1); (case side3 => exact RFn.mC (Kd.R_reads' HO596.out).2.2); (case side4 => exact (Kd.R_reads' HO596.out).2.1); rintro e w' ⟨rfl, ⟨nd, rfl⟩⟩))
                go_ret
                exact ⟨by first | rfl | (simp [errW_none, errW_some] <;> rfl) | (simp [*, errW_none, errW_some] <;> rfl), RFn.bel⟩
               ·rw [if_neg c42] at H
                have c42b0 : (x13_27 == 0) = false := beq_eq_false_iff_ne.mpr c42
                have c42b1 : (x13_27 != 0) = true := bne_iff_ne.mpr c42
                obtain rfl := Option.some.inj H
                obtain ⟨Ao57, co57, eo57⟩ := Kd.R_slice HO_8.out
                subst eo57
                obtain ⟨Ao58, co58, eo58⟩ := Kd.R_slice HO_10.out
                subst eo58
                go_wp2_with (first | (go_at_call 16; (with_reducible refine (law09_Ours.calls kj27 _ _ t576 t584 _ ?side1 ?side2 A38.out).mono ?_); (case side1 => exact RFn.mC (Kd.R_reads' HO_10.out).2.2); (case side2 => exact (Kd.R_reads' HO_10.out).2.1); rintro e w59 ⟨v585, rfl, ho0, hb⟩; have n0_ := Aside0.mk (Kd.R_below (RFn.mR HO_3) hb); have n1_ := Aside0.mk (Kd.R_below (RFn.mR HO_8) hb); have n2_ := Aside0.mk (Kd.R_below (RFn.mR HO_10) hb); have n3_ := Aside0.mk (Kd.R_below (RFn.mR HO_12) hb); have n4_ := Aside0.mk (Kd.R_lower ho0 (below_size (RFn.bel))); have n5_ := Aside0.mk (below_step (RFn.bel) hb); clear HO_3; clear HO_8; clear HO_10; clear HO_12; clear HB; have HO_3 := n0_; have HO_8 := n1_; have HO_10 := n2_; have HO_12 := n3_; have HO586 := n4_; have HB := n5_; clear n0_ n1_ n2_ n3_ n4_ n5_; (try clear hb); (try clear hb2); (try clear hk); (try clear hi); (try clear ho0)) | (go_at_call 16; (with_reducible refine (law09_Ours.calls kj27 _ _ t563 t587 _ ?side1 ?side2 A39.out).mono ?_); (case side1 => exact RFn.mC (Kd.R_reads' HO_3.out).2.2); (case side2 => exact (Kd.R_reads' HO_3.out).2.1); rintro e w60 ⟨v588, rfl, ho0, hb⟩; have n0_ := Aside0.mk (Kd.R_below (RFn.mR HO_3) hb); have n1_ := Aside0.mk (Kd.R_below (RFn.mR HO_8) hb); have n2_ := Aside0.mk (Kd.R_below (RFn.mR HO_10) hb); have n3_ := Aside0.mk (Kd.R_below (RFn.mR HO_12) hb); have n4_ := Aside0.mk (Kd.R_elder' (RFn.mR HO586) (Kd.R_base ho0) hb); have n5_ := Aside0.mk (Kd.R_lower (Kd.R_new' ho0 (Kd.R_lt (RFn.mR HO586))) (below_size (RFn.bel))); have n6_ := Aside0.mk (below_step (RFn.bel) hb); clear HO_3; clear HO_8; clear HO_10; clear HO_12; clear HO586; clear HB; have HO_3 := n0_; have HO_8 := n1_; have HO_10 := n2_; have HO_12 := n3_; have HO586 := n4_; have HO589 := n5_; have HB := n6_; clear n0_ n1_ n2_ n3_ n4_ n5_ n6_; (try clear hb); (try clear hb2); (try clear hk); (try clear hi); (try clear ho0); obtain ⟨Ao61, co61, eo61⟩ := Kd.R_slice HO586.out; subst eo61; obtain ⟨Ao62, co62, eo62⟩ := Kd.R_slice HO589.out; subst eo62) | (go_at_call 15; (with_reducible refine (ref09_Same.calls kj27 _ _ t584 _ _ t587 true _ ?side1 ?side2 ?side3 ?side4 A40.out).mono ?_); (case side1 => exact RFn.mC (Kd.R_reads' HO586.out).2.2); (case side2 => exact (Kd.R_reads' HO586.out).2.1); (case side3 => exact RFn.mC (Kd.R_reads' HO589.out).2.2); (case side4 => exact (Kd.R_reads' HO589.out).2.1); rintro e w' ⟨rfl, ⟨nd, rfl⟩⟩))
                go_ret
                exact ⟨by first | rfl | (simp [errW_none, errW_some] <;> rfl) | (simp [*, errW_none, errW_some] <;> rfl), RFn.bel⟩
              ·replace c41 := Bool.eq_false_iff.mpr c41
               subst c41
               have H1 : (some false) = some r := by rw [if_neg (show ¬ (false = true) by decide)] at H; exact H
               clear H
               have H := H1
               clear H1
               obtain rfl := Option.some.inj H
               obtain ⟨Ao63, co63, eo63⟩ := Kd.R_slice HO_8.out
               subst eo63
               obtain ⟨Ao64, co64, eo64⟩ := Kd.R_slice HO_10.out
               subst eo64
               go_wp2_with (first | (go_at_call 16; (with_reducible refine (law09_Ours.calls kj27 _ _ t576 t584 _ ?side1 ?side2 A38.out).mono ?_); (case side1 => exact RFn.mC (Kd.R_reads' HO_10.out).2.2); (case side2 => exact (Kd.R_reads' HO_10.out).2.1); rintro e w65 ⟨v585, rfl, ho0, hb⟩; have n0_ := Aside0.mk (Kd.R_below (RFn.mR HO_3) hb); have n1_ := Aside0.mk (Kd.R_below (RFn.mR HO_8) hb); have n2_ := Aside0.mk (Kd.R_below (RFn.mR HO_10) hb); have n3_ := Aside0.mk (Kd.R_below (RFn.mR HO_12) hb); have n4_ := Aside0.mk (Kd.R_lower ho0 (below_size (RFn.bel))); have n5_ := Aside0.mk (below_step (RFn.bel) hb); clear HO_3; clear HO_8; clear HO_10; clear HO_12; clear HB; have HO_3 := n0_; have HO_8 := n1_; have HO_10 := n2_; have HO_12 := n3_; have HO586 := n4_; have HB := n5_; clear n0_ n1_ n2_ n3_ n4_ n5_; (try clear hb); (try clear hb2); (try clear hk); (try clear hi); (try clear ho0)) | (go_at_call 16; (with_reducible refine (law09_Ours.calls kj27 _ _ t563 t587 _ ?side1 ?side2 A39.out).mono ?_); (case side1 => exact RFn.mC (Kd.R_reads' HO_3.out).2.2); (case side2 => exact (Kd.R_reads' HO_3.out).2.1); rintro e w66 ⟨v588, rfl, ho0, hb⟩; have n0_ := Aside0.mk (Kd.R_below (RFn.mR HO_3) hb); have n1_ := Aside0.mk (Kd.R_below (RFn.mR HO_8) hb); have n2_ := Aside0.mk (Kd.R_below (RFn.mR HO_10) hb); have n3_ := Aside0.mk (Kd.R_below (RFn.mR HO_12) hb); have n4_ := Aside0.mk (Kd.R_elder' (RFn.mR HO586) (Kd.R_base ho0) hb); have n5_ := Aside0.mk (Kd.R_lower (Kd.R_new' ho0 (Kd.R_lt (RFn.mR HO586))) (below_size (RFn.bel))); have n6_ := Aside0.mk (below_step (RFn.bel) hb); clear HO_3; clear HO_8; clear HO_10; clear HO_12; clear HO586; clear HB; have HO_3 := n0_; have HO_8 := n1_; have HO_10 := n2_; have HO_12 := n3_; have HO586 := n4_; have HO589 := n5_; have HB := n6_; clear n0_ n1_ n2_ n3_ n4_ n5_ n6_; (try clear hb); (try clear hb2); (try clear hk); (try clear hi); (try clear ho0); obtain ⟨Ao67, co67, eo67⟩ := Kd.R_slice HO586.out; subst eo67; obtain ⟨Ao68, co68, eo68⟩ := Kd.R_slice HO589.out; subst eo68) | (go_at_call 15; (with_reducible refine (ref09_Same.calls kj27 _ _ t584 _ _ t587 false _ ?side1 ?side2 ?side3 ?side4 A40.out).mono ?_); (case side1 => exact RFn.mC (Kd.R_reads' HO586.out).2.2); (case side2 => exact (Kd.R_reads' HO586.out).2.1); (case side3 => exact RFn.mC (Kd.R_reads' HO589.out).2.2); (case side4 => exact (Kd.R_reads' HO589.out).2.1); rintro e w' ⟨rfl, ⟨nd, rfl⟩⟩))
               go_ret
               exact ⟨by first | rfl | (simp [errW_none, errW_some] <;> rfl) | (simp [*, errW_none, errW_some] <;> rfl), RFn.bel⟩
             ·rw [if_neg c37] at H
              have c37b0 : (t577 == 0) = false := beq_eq_false_iff_ne.mpr c37
              have c37b1 : (t577 != 0) = true := bne_iff_ne.mpr c37
              obtain rfl := Option.some.inj H
              obtain ⟨Ao69, co69, eo69⟩ := Kd.R_slice HO_8.out
              subst eo69
              go_wp2
              go_ret
              exact ⟨by first | rfl | (simp [errW_none, errW_some] <;> rfl) | (simp [*, errW_none, errW_some] <;> rfl), RFn.bel⟩
            ·rw [if_neg c36] at H
             have c36b0 : ((t572.length : Int) == 0) = false := beq_eq_false_iff_ne.mpr c36
             have c36b1 : ((t572.length : Int) != 0) = true := bne_iff_ne.mpr c36
             have c36b2 : ¬ (t572 = []) := fun h_ => c36 (by rw [h_]; rfl)
             obtain rfl := Option.some.inj H
             obtain ⟨Ao70, co70, eo70⟩ := Kd.R_slice HO_8.out
             subst eo70
             go_wp2
             go_ret
             exact ⟨by first | rfl | (simp [errW_none, errW_some] <;> rfl) | (simp [*, errW_none, errW_some] <;> rfl), RFn.bel⟩
           ·rw [if_neg c35] at H
            have c35b0 : (t573 == 0) = false := beq_eq_false_iff_ne.mpr c35
            have c35b1 : (t573 != 0) = true := bne_iff_ne.mpr c35
            obtain rfl := Option.some.inj H
            go_wp2
            go_ret
            exact ⟨by first | rfl | (simp [errW_none, errW_some] <;> rfl) | (simp [*, errW_none, errW_some] <;> rfl), RFn.bel⟩
          ·rw [if_neg c34] at H
           have c34b0 : (t564 == 0) = false := beq_eq_false_iff_ne.mpr c34
           have c34b1 : (t564 != 0) = true := bne_iff_ne.mpr c34
           obtain rfl := Option.some.inj H
           go_wp2
           go_ret
           exact ⟨by first | rfl | (simp [errW_none, errW_some] <;> rfl) | (simp [*, errW_none, errW_some] <;> rfl), RFn.bel⟩
 ·replace c3 := Bool.eq_false_iff.mpr c3
  subst c3
  have H1 : (some false) = some r := by rw [if_neg (show ¬ (false = true) by decide)] at H; exact H
  clear H
  have H := H1
  clear H1
  obtain rfl := Option.some.inj H
  go_enter Try.func9, Try.ntmps9
  go_wp2_with (first | ((with_reducible refine gate_callee (f := 10) rfl ?_); refine RFn.goesM (some 14) Try.func10 #[] rfl ?_; (with_reducible refine (law09_alive.calls k  false _ A2.out).mono ?_); rintro e w71 ⟨rfl, hb⟩; refine ⟨_, rfl, ?_⟩; have n0_ := Aside0.mk (below_step (RFn.bel) hb); clear HB; have HB := n0_; clear n0_; (try clear hb); (try clear hb2); (try clear hk); (try clear hi)))
  go_ret
  exact ⟨by first | rfl | (simp [errW_none, errW_some] <;> rfl) | (simp [*, errW_none, errW_some] <;> rfl), RFn.bel⟩

/-- THE ONE PURE STATEMENT of law09_FactZeros: ours. -/
def law09_FactZeros.Pure : Prop := ∀ (l0 : List (S28)), l0.length ≤ 9223372036854775807 → (∀ x ∈ l0, g28 x) → ∃ k, law09_FactZeros.f k l0 = some true

end Go.Proofs.Ytgheapbhakamaaa.Q
