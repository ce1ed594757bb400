/- printed by a program of this session (wip/tools/pr.sh): it is not a print of the kit -/
import Derived.Test.YtgheapbhakamaaaQx0
import Derived.Test.YtgheapbhakamaaaQx1
import Derived.Test.YtgheapbhakamaaaQx3
import Derived.Test.YtgheapbhakamaaaQx10
namespace Go.Proofs.Ytgheapbhakamaaa.Q
open Go.RowKit Go.Proofs.YtgheapbhakamaaaW.PrintWords Go.Proofs.YtgheapbhakamaaaW.PrintLast Go.Proofs.YtgheapbhakamaaaW.PrintMore
attribute [local go_sem] max2_int min2_int max_two min_two max_three min_three max_four min_four RFn.gtr_str   -- for this text's walks alone
set_option linter.unusedVariables false
set_option linter.unusedSimpArgs false

attribute [local go_sem high] eqA24
/-! ### law09_FactKeys: function 8 -/
def law09_FactKeys.j0 : Nat → Int → Int → Int → ByteArray → ByteArray → ByteArray → ByteArray → Int → ByteArray → ByteArray → ByteArray → ByteArray → Int → Option (Bool)
 | 0, _, _, _, _, _, _, _, _, _, _, _, _, _ => none
 | k + 1, x7, x8, x9, x546000, x546001, x546002, x546003, x546004, x547000, x547001, x547002, x547003, x547004 => (fact_Cmp.f k x547000 x547001 x547002 x547003 x547004 x546000 x546001 x546002 x546003 x546004).bind fun t556 => (if x7 = (wrap64 (-t556)) then (if ((x7 == 0) == (x546000.toList == x547000.toList && (x546001.toList == x547001.toList && (x546002.toList == x547002.toList && (x546003.toList == x547003.toList && (x546004 == x547004)))))) = true then (if x7 > 0 then (if x7 ≥ 0 then (some true) else (if x8 ≥ 0 then (some true) else (some (decide (x9 < 0))))) else (if x8 > 0 then (if x7 ≥ 0 then (some true) else (if x8 ≥ 0 then (some true) else (some (decide (x9 < 0))))) else (if x9 ≤ 0 then (if x7 ≥ 0 then (some true) else (if x8 ≥ 0 then (some true) else (some (decide (x9 < 0))))) else (some false)))) else (some false)) else (some false))
def law09_FactKeys.f (k : Nat) (a0_0 : ByteArray) (a0_1 : ByteArray) (a0_2 : ByteArray) (a0_3 : ByteArray) (a0_4 : Int) (a1_0 : ByteArray) (a1_1 : ByteArray) (a1_2 : ByteArray) (a1_3 : ByteArray) (a1_4 : Int) (a2_0 : ByteArray) (a2_1 : ByteArray) (a2_2 : ByteArray) (a2_3 : ByteArray) (a2_4 : Int) : Option (Bool) := (law09_alive.f k).bind fun t548 => (if t548 = true then ((law09_Few.f k (([(⟨(⟨a0_0, a0_1, a0_2, a0_3, a0_4⟩ : S24), 0⟩ : S28), (⟨(⟨a1_0, a1_1, a1_2, a1_3, a1_4⟩ : S24), 0⟩ : S28), (⟨(⟨a2_0, a2_1, a2_2, a2_3, a2_4⟩ : S24), 0⟩ : S28)] : List (S28)))).bind fun t552 => (if t552 = true then ((fact_Cmp.f k a0_0 a0_1 a0_2 a0_3 a0_4 a1_0 a1_1 a1_2 a1_3 a1_4).bind fun t553 => ((fact_Cmp.f k a1_0 a1_1 a1_2 a1_3 a1_4 a2_0 a2_1 a2_2 a2_3 a2_4).bind fun t554 => ((fact_Cmp.f k a0_0 a0_1 a0_2 a0_3 a0_4 a2_0 a2_1 a2_2 a2_3 a2_4).bind fun t555 => (law09_FactKeys.j0 k t553 t554 t555 a0_0 a0_1 a0_2 a0_3 a0_4 a1_0 a1_1 a1_2 a1_3 a1_4)))) else (some true))) else (some false))
theorem law09_FactKeys.mono_l : ∀ k, (∀ y0 y1 y2 y3 y4 y5 y6 y7 y8 y9 y10 y11 y12, LeO (law09_FactKeys.j0 k y0 y1 y2 y3 y4 y5 y6 y7 y8 y9 y10 y11 y12) (law09_FactKeys.j0 (k + 1) y0 y1 y2 y3 y4 y5 y6 y7 y8 y9 y10 y11 y12))
 | 0 => fun _ _ _ _ _ _ _ _ _ _ _ _ _ r h => by simp [law09_FactKeys.j0] at h
 | k + 1 => by
  have ih0 := law09_FactKeys.mono_l k
  ·intro y0 y1 y2 y3 y4 y5 y6 y7 y8 y9 y10 y11 y12
   unfold law09_FactKeys.j0
   repeat' first
   | (with_reducible exact ih0 _ _ _ _ _ _ _ _ _ _ _ _ _)
   | (with_reducible exact fact_Cmp.mono _ _ _ _ _ _ _ _ _ _ _)
   | (with_reducible exact law09_Few.mono _ _)
   | (with_reducible exact law09_alive.mono _)
   | (with_reducible exact LeO.refl _)
   | (with_reducible exact LeO.none _)
   | (with_reducible refine LeO.ite ?_ ?_)
   | (with_reducible refine LeO.bind ?_ (fun _ => ?_))
   | exact ih0 _ _ _ _ _ _ _ _ _ _ _ _ _
   | exact fact_Cmp.mono _ _ _ _ _ _ _ _ _ _ _
   | exact law09_Few.mono _ _
   | exact law09_alive.mono _
   | exact LeO.none _
   | refine LeO.ite ?_ ?_
   | refine LeO.bind ?_ (fun _ => ?_)
theorem law09_FactKeys.mono : ∀ a0 a1 a2 a3 a4 a5 a6 a7 a8 a9 a10 a11 a12 a13 a14 k, LeO (law09_FactKeys.f k a0 a1 a2 a3 a4 a5 a6 a7 a8 a9 a10 a11 a12 a13 a14) (law09_FactKeys.f (k + 1) a0 a1 a2 a3 a4 a5 a6 a7 a8 a9 a10 a11 a12 a13 a14) := by
 intro a0 a1 a2 a3 a4 a5 a6 a7 a8 a9 a10 a11 a12 a13 a14 k
 have ih0 := law09_FactKeys.mono_l k
 unfold law09_FactKeys.f
 repeat' first
   | (with_reducible exact ih0 _ _ _ _ _ _ _ _ _ _ _ _ _)
   | (with_reducible exact fact_Cmp.mono _ _ _ _ _ _ _ _ _ _ _)
   | (with_reducible exact law09_Few.mono _ _)
   | (with_reducible exact law09_alive.mono _)
   | (with_reducible exact LeO.refl _)
   | (with_reducible exact LeO.none _)
   | (with_reducible refine LeO.ite ?_ ?_)
   | (with_reducible refine LeO.bind ?_ (fun _ => ?_))
   | exact ih0 _ _ _ _ _ _ _ _ _ _ _ _ _
   | exact fact_Cmp.mono _ _ _ _ _ _ _ _ _ _ _
   | exact law09_Few.mono _ _
   | exact law09_alive.mono _
   | exact LeO.none _
   | refine LeO.ite ?_ ?_
   | refine LeO.bind ?_ (fun _ => ?_)
def law09_FactKeys.T5 : Bool × List (List Nat × List Nat) := (true, [([], []), ([], []), ([0, 1], [0, 1]), ([], []), ([], []), ([3, 4, 2], [3, 4]), ([], []), ([], []), ([6, 7, 5], [6, 7]), ([2, 8, 0, 1, 2], [2]), ([5, 9, 0, 1, 2, 3, 4, 5, 9], [5]), ([8, 10, 0, 1, 2, 3, 4, 5, 6, 7, 8, 9, 10], [8])])
def law09_FactKeys.B5 : List Nat := [0, 0, 3, 0, 0, 31, 0, 0, 255, 511, 1023, 2047]
theorem law09_FactKeys.tab5 : rtab .any (opsOf Try.f8 5) = law09_FactKeys.T5 := by kernel_rfl
theorem law09_FactKeys.bits5 : waitsOk law09_FactKeys.T5.2 law09_FactKeys.B5 = true := by kernel_rfl
set_option maxHeartbeats 8000000 in
set_option maxRecDepth 100000 in
theorem law09_FactKeys.calls (k : Nat) (a0_0 : ByteArray) (a0_1 : ByteArray) (a0_2 : ByteArray) (a0_3 : ByteArray) (a0_4 : Int) (a1_0 : ByteArray) (a1_1 : ByteArray) (a1_2 : ByteArray) (a1_3 : ByteArray) (a1_4 : Int) (a2_0 : ByteArray) (a2_1 : ByteArray) (a2_2 : ByteArray) (a2_3 : ByteArray) (a2_4 : Int) (r : Bool) (w : World) (h : law09_FactKeys.f k a0_0 a0_1 a0_2 a0_3 a0_4 a1_0 a1_1 a1_2 a1_3 a1_4 a2_0 a2_1 a2_2 a2_3 a2_4 = some r) :
  Calls Try.prog 8 #[.agg #[.string a0_0, .string a0_1, .string a0_2, .string a0_3, .int .i64 a0_4], .agg #[.string a1_0, .string a1_1, .string a1_2, .string a1_3, .int .i64 a1_4], .agg #[.string a2_0, .string a2_1, .string a2_2, .string a2_3, .int .i64 a2_4]] w fun e w' => e = .returned (.bool r) ∧ Below w.heap.size w w' := by
 have hu24 := Try.underlying24
 have hu28 := Try.underlying28
 have HB := Aside0.mk (Below.refl w.heap.size w)
 have H : ((law09_alive.f k).bind fun t548 => (if t548 = true then ((law09_Few.f k (([(⟨(⟨a0_0, a0_1, a0_2, a0_3, a0_4⟩ : S24), 0⟩ : S28), (⟨(⟨a1_0, a1_1, a1_2, a1_3, a1_4⟩ : S24), 0⟩ : S28), (⟨(⟨a2_0, a2_1, a2_2, a2_3, a2_4⟩ : S24), 0⟩ : S28)] : List (S28)))).bind fun t552 => (if t552 = true then ((fact_Cmp.f k a0_0 a0_1 a0_2 a0_3 a0_4 a1_0 a1_1 a1_2 a1_3 a1_4).bind fun t553 => ((fact_Cmp.f k a1_0 a1_1 a1_2 a1_3 a1_4 a2_0 a2_1 a2_2 a2_3 a2_4).bind fun t554 => ((fact_Cmp.f k a0_0 a0_1 a0_2 a0_3 a0_4 a2_0 a2_1 a2_2 a2_3 a2_4).bind fun t555 => (law09_FactKeys.j0 k t553 t554 t555 a0_0 a0_1 a0_2 a0_3 a0_4 a1_0 a1_1 a1_2 a1_3 a1_4)))) else (some true))) else (some false))) = some r := h
 clear h
 replace H := Option.bind_eq_some_iff.mp H
 obtain ⟨t548, A40, H⟩ := H
 replace H : (if t548 = true then ((law09_Few.f k (([(⟨(⟨a0_0, a0_1, a0_2, a0_3, a0_4⟩ : S24), 0⟩ : S28), (⟨(⟨a1_0, a1_1, a1_2, a1_3, a1_4⟩ : S24), 0⟩ : S28), (⟨(⟨a2_0, a2_1, a2_2, a2_3, a2_4⟩ : S24), 0⟩ : S28)] : List (S28)))).bind fun t552 => (if t552 = true then ((fact_Cmp.f k a0_0 a0_1 a0_2 a0_3 a0_4 a1_0 a1_1 a1_2 a1_3 a1_4).bind fun t553 => ((fact_Cmp.f k a1_0 a1_1 a1_2 a1_3 a1_4 a2_0 a2_1 a2_2 a2_3 a2_4).bind fun t554 => ((fact_Cmp.f k a0_0 a0_1 a0_2 a0_3 a0_4 a2_0 a2_1 a2_2 a2_3 a2_4).bind fun t555 => (law09_FactKeys.j0 k t553 t554 t555 a0_0 a0_1 a0_2 a0_3 a0_4 a1_0 a1_1 a1_2 a1_3 a1_4)))) else (some true))) else (some false)) = some r := H
 have A4 := Aside0.mk A40
 clear A40
 by_cases c5 : t548 = true
 ·subst c5
  have H1 : ((law09_Few.f k (([(⟨(⟨a0_0, a0_1, a0_2, a0_3, a0_4⟩ : S24), 0⟩ : S28), (⟨(⟨a1_0, a1_1, a1_2, a1_3, a1_4⟩ : S24), 0⟩ : S28), (⟨(⟨a2_0, a2_1, a2_2, a2_3, a2_4⟩ : S24), 0⟩ : S28)] : List (S28)))).bind fun t552 => (if t552 = true then ((fact_Cmp.f k a0_0 a0_1 a0_2 a0_3 a0_4 a1_0 a1_1 a1_2 a1_3 a1_4).bind fun t553 => ((fact_Cmp.f k a1_0 a1_1 a1_2 a1_3 a1_4 a2_0 a2_1 a2_2 a2_3 a2_4).bind fun t554 => ((fact_Cmp.f k a0_0 a0_1 a0_2 a0_3 a0_4 a2_0 a2_1 a2_2 a2_3 a2_4).bind fun t555 => (law09_FactKeys.j0 k t553 t554 t555 a0_0 a0_1 a0_2 a0_3 a0_4 a1_0 a1_1 a1_2 a1_3 a1_4)))) else (some true))) = some r := by rw [if_pos rfl] at H; exact H
  clear H
  have H := H1
  clear H1
  obtain ⟨y549, hy549⟩ : ∃ y_ : List (S28), y_ = (([(⟨(⟨a0_0, a0_1, a0_2, a0_3, a0_4⟩ : S24), 0⟩ : S28), (⟨(⟨a1_0, a1_1, a1_2, a1_3, a1_4⟩ : S24), 0⟩ : S28), (⟨(⟨a2_0, a2_1, a2_2, a2_3, a2_4⟩ : S24), 0⟩ : S28)] : List (S28))) := ⟨_, rfl⟩
  replace H : ((law09_Few.f k y549).bind fun t552 => (if t552 = true then ((fact_Cmp.f k a0_0 a0_1 a0_2 a0_3 a0_4 a1_0 a1_1 a1_2 a1_3 a1_4).bind fun t553 => ((fact_Cmp.f k a1_0 a1_1 a1_2 a1_3 a1_4 a2_0 a2_1 a2_2 a2_3 a2_4).bind fun t554 => ((fact_Cmp.f k a0_0 a0_1 a0_2 a0_3 a0_4 a2_0 a2_1 a2_2 a2_3 a2_4).bind fun t555 => (law09_FactKeys.j0 k t553 t554 t555 a0_0 a0_1 a0_2 a0_3 a0_4 a1_0 a1_1 a1_2 a1_3 a1_4)))) else (some true))) = some r := by first | (rw [hy549]; with_reducible exact H) | (have H2_ := (Option.bind_some _ _).symm.trans H; rw [hy549]; with_reducible exact H2_) | (have H2_ := (Option.bind_some _ _).symm.trans H; with_reducible exact H2_) | with_reducible exact H | (rw [hy549]; exact H) | exact H
  have Ny549 := Aside0.mk hy549
  clear hy549
  replace H := Option.bind_eq_some_iff.mp H
  obtain ⟨t552, A60, H⟩ := H
  replace H : (if t552 = true then ((fact_Cmp.f k a0_0 a0_1 a0_2 a0_3 a0_4 a1_0 a1_1 a1_2 a1_3 a1_4).bind fun t553 => ((fact_Cmp.f k a1_0 a1_1 a1_2 a1_3 a1_4 a2_0 a2_1 a2_2 a2_3 a2_4).bind fun t554 => ((fact_Cmp.f k a0_0 a0_1 a0_2 a0_3 a0_4 a2_0 a2_1 a2_2 a2_3 a2_4).bind fun t555 => (law09_FactKeys.j0 k t553 t554 t555 a0_0 a0_1 a0_2 a0_3 a0_4 a1_0 a1_1 a1_2 a1_3 a1_4)))) else (some true)) = some r := H
  have A6 := Aside0.mk A60
  clear A60
  by_cases c7 : t552 = true
  ·subst c7
   have H1 : ((fact_Cmp.f k a0_0 a0_1 a0_2 a0_3 a0_4 a1_0 a1_1 a1_2 a1_3 a1_4).bind fun t553 => ((fact_Cmp.f k a1_0 a1_1 a1_2 a1_3 a1_4 a2_0 a2_1 a2_2 a2_3 a2_4).bind fun t554 => ((fact_Cmp.f k a0_0 a0_1 a0_2 a0_3 a0_4 a2_0 a2_1 a2_2 a2_3 a2_4).bind fun t555 => (law09_FactKeys.j0 k t553 t554 t555 a0_0 a0_1 a0_2 a0_3 a0_4 a1_0 a1_1 a1_2 a1_3 a1_4)))) = some r := by rw [if_pos rfl] at H; exact H
   clear H
   have H := H1
   clear H1
   have HC8 := Aside0.mk H
   clear H
   go_enter Try.func8, Try.ntmps8
   go_upto_region 5 with (first | ((with_reducible refine gate_dst (N := 3) rfl ?_); refine box_event ?hg (N := 3) ?hd (cs := #[.string a0_0, .string a0_1, .string a0_2, .string a0_3, .int .i64 a0_4]) (t := 24) ?hr ?_; (case hd => rfl); (case hg => rfl); (case hr => first | (go_simp; done) | (go_simp; rfl)); intro gb545 hg w9 hbox hb; have n0_ := Aside0.mk (below_step (RFn.bel) hb); have n1_ := Aside0.mk (hbox); have n2_ := Aside0.mk ((by rw [hg]; exact (below_size (RFn.bel)) : w.heap.size ≤ gb545)); have n3_ := Aside0.mk ((by rw [hg]; exact (below_size (RFn.bel)) : w.heap.size ≤ gb545)); clear HB; have HB := n0_; have BK545 := n1_; have GW545 := n2_; have GE545 := n3_; clear n0_ n1_ n2_ n3_; clear hb hbox hg) | ((with_reducible refine gate_dst (N := 4) rfl ?_); refine box_event ?hg (N := 4) ?hd (cs := #[.string a1_0, .string a1_1, .string a1_2, .string a1_3, .int .i64 a1_4]) (t := 24) ?hr ?_; (case hd => rfl); (case hg => rfl); (case hr => first | (go_simp; done) | (go_simp; rfl)); intro gb546 hg w10 hbox hb; have n0_ := Aside0.mk (blk_below (g := gb545) RFn.blk hb); have n1_ := Aside0.mk (below_step RFn.bels hb); have n2_ := Aside0.mk (hbox); have n3_ := Aside0.mk ((by rw [hg]; exact (below_size RFn.bels) : w.heap.size ≤ gb546)); have n4_ := Aside0.mk ((by rw [hg]; exact (below_size RFn.bels) : w.heap.size ≤ gb546)); have n5_ := Aside0.mk ((by rw [hg]; exact Nat.ne_of_lt (blk_lt (g := gb545) RFn.blk) : gb545 ≠ gb546)); have n6_ := Aside0.mk ((by rw [hg]; exact Nat.ne_of_gt (blk_lt (g := gb545) RFn.blk) : gb546 ≠ gb545)); clear BK545; clear HB; have BK545 := n0_; have HB := n1_; have BK546 := n2_; have GW546 := n3_; have GE546 := n4_; have NB545_546 := n5_; have NB546_545 := n6_; clear n0_ n1_ n2_ n3_ n4_ n5_ n6_; clear hb hbox hg) | ((with_reducible refine gate_dst (N := 5) rfl ?_); refine box_event ?hg (N := 5) ?hd (cs := #[.string a2_0, .string a2_1, .string a2_2, .string a2_3, .int .i64 a2_4]) (t := 24) ?hr ?_; (case hd => rfl); (case hg => rfl); (case hr => first | (go_simp; done) | (go_simp; rfl)); intro gb547 hg w11 hbox hb; have n0_ := Aside0.mk (blk_below (g := gb545) RFn.blk hb); have n1_ := Aside0.mk (blk_below (g := gb546) RFn.blk hb); have n2_ := Aside0.mk (below_step RFn.bels hb); have n3_ := Aside0.mk (hbox); have n4_ := Aside0.mk ((by rw [hg]; exact (below_size RFn.bels) : w.heap.size ≤ gb547)); have n5_ := Aside0.mk ((by rw [hg]; exact (below_size RFn.bels) : w.heap.size ≤ gb547)); have n6_ := Aside0.mk ((by rw [hg]; exact Nat.ne_of_lt (blk_lt (g := gb545) RFn.blk) : gb545 ≠ gb547)); have n7_ := Aside0.mk ((by rw [hg]; exact Nat.ne_of_gt (blk_lt (g := gb545) RFn.blk) : gb547 ≠ gb545)); have n8_ := Aside0.mk ((by rw [hg]; exact Nat.ne_of_lt (blk_lt (g := gb546) RFn.blk) : gb546 ≠ gb547)); have n9_ := Aside0.mk ((by rw [hg]; exact Nat.ne_of_gt (blk_lt (g := gb546) RFn.blk) : gb547 ≠ gb546)); clear BK545; clear BK546; clear HB; have BK545 := n0_; have BK546 := n1_; have HB := n2_; have BK547 := n3_; have GW547 := n4_; have GE547 := n5_; have NB545_547 := n6_; have NB547_545 := n7_; have NB546_547 := n8_; have NB547_546 := n9_; clear n0_ n1_ n2_ n3_ n4_ n5_ n6_ n7_ n8_ n9_; clear hb hbox hg) | ((with_reducible refine gate_callee (f := 10) rfl ?_); refine RFn.goesM (some 10) Try.func10 #[] rfl ?_; (with_reducible refine (law09_alive.calls k  true _ A4.out).mono ?_); rintro e w12 ⟨rfl, hb⟩; refine ⟨_, rfl, ?_⟩; have n0_ := Aside0.mk (blk_below (g := gb545) RFn.blk hb); have n1_ := Aside0.mk (blk_below (g := gb546) RFn.blk hb); have n2_ := Aside0.mk (blk_below (g := gb547) RFn.blk hb); have n3_ := Aside0.mk (below_step RFn.bels hb); clear BK545; clear BK546; clear BK547; clear HB; have BK545 := n0_; have BK546 := n1_; have BK547 := n2_; have HB := n3_; clear n0_ n1_ n2_ n3_; (try clear hb); (try clear hb2); (try clear hk); (try clear hi); have hnb13 := NB545_546.out; have hnc13 := NB546_545.out; have hnb14 := NB545_547.out; have hnc14 := NB547_545.out; have hcz15_0 : w12.cell? ⟨gb545, 0, none⟩ = some (.string a0_0) := (blk_cell BK545.out 0).trans rfl; have hcz15_1 : w12.cell? ⟨gb545, 1, none⟩ = some (.string a0_1) := (blk_cell BK545.out 1).trans rfl; have hcz15_2 : w12.cell? ⟨gb545, 2, none⟩ = some (.string a0_2) := (blk_cell BK545.out 2).trans rfl; have hcz15_3 : w12.cell? ⟨gb545, 3, none⟩ = some (.string a0_3) := (blk_cell BK545.out 3).trans rfl; have hcz15_4 : w12.cell? ⟨gb545, 4, none⟩ = some (.int .i64 a0_4) := (blk_cell BK545.out 4).trans rfl; have hfz15_0 := blk_frozen BK545.out 0; have hfz15_1 := blk_frozen BK545.out 1; have hfz15_2 := blk_frozen BK545.out 2; have hfz15_3 := blk_frozen BK545.out 3; have hfz15_4 := blk_frozen BK545.out 4; have hnb16 := NB546_547.out; have hnc16 := NB547_546.out; have hcz17_0 : w12.cell? ⟨gb546, 0, none⟩ = some (.string a1_0) := (blk_cell BK546.out 0).trans rfl; have hcz17_1 : w12.cell? ⟨gb546, 1, none⟩ = some (.string a1_1) := (blk_cell BK546.out 1).trans rfl; have hcz17_2 : w12.cell? ⟨gb546, 2, none⟩ = some (.string a1_2) := (blk_cell BK546.out 2).trans rfl; have hcz17_3 : w12.cell? ⟨gb546, 3, none⟩ = some (.string a1_3) := (blk_cell BK546.out 3).trans rfl; have hcz17_4 : w12.cell? ⟨gb546, 4, none⟩ = some (.int .i64 a1_4) := (blk_cell BK546.out 4).trans rfl; have hfz17_0 := blk_frozen BK546.out 0; have hfz17_1 := blk_frozen BK546.out 1; have hfz17_2 := blk_frozen BK546.out 2; have hfz17_3 := blk_frozen BK546.out 3; have hfz17_4 := blk_frozen BK546.out 4; have hcz18_0 : w12.cell? ⟨gb547, 0, none⟩ = some (.string a2_0) := (blk_cell BK547.out 0).trans rfl; have hcz18_1 : w12.cell? ⟨gb547, 1, none⟩ = some (.string a2_1) := (blk_cell BK547.out 1).trans rfl; have hcz18_2 : w12.cell? ⟨gb547, 2, none⟩ = some (.string a2_2) := (blk_cell BK547.out 2).trans rfl; have hcz18_3 : w12.cell? ⟨gb547, 3, none⟩ = some (.string a2_3) := (blk_cell BK547.out 3).trans rfl; have hcz18_4 : w12.cell? ⟨gb547, 4, none⟩ = some (.int .i64 a2_4) := (blk_cell BK547.out 4).trans rfl; have hfz18_0 := blk_frozen BK547.out 0; have hfz18_1 := blk_frozen BK547.out 1; have hfz18_2 := blk_frozen BK547.out 2; have hfz18_3 := blk_frozen BK547.out 3; have hfz18_4 := blk_frozen BK547.out 4) | ((with_reducible refine gate_dst (N := 18) rfl ?_); refine Kd.R_lit k28 _ 28 ?hg (N := 18) ?hd (xs := ([(⟨(⟨a0_0, a0_1, a0_2, a0_3, a0_4⟩ : S24), 0⟩ : S28), (⟨(⟨a1_0, a1_1, a1_2, a1_3, a1_4⟩ : S24), 0⟩ : S28), (⟨(⟨a2_0, a2_1, a2_2, a2_3, a2_4⟩ : S24), 0⟩ : S28)] : List (S28))) (inner := [.string a0_0, .string a0_1, .string a0_2, .string a0_3, .int .i64 a0_4, .int .i64 0, .string a1_0, .string a1_1, .string a1_2, .string a1_3, .int .i64 a1_4, .int .i64 0, .string a2_0, .string a2_1, .string a2_2, .string a2_3, .int .i64 a2_4, .int .i64 0]) (ok := fun _ => True) (okp := fun _ => True) ?hr ?hp (fun _ hk => hk) trivial (Below.refl _ _) (Nat.le_refl _) (by simp) ?_; (case hd => rfl); (case hg => rfl); (case hr => first | (go_simp; done) | (go_simp; rfl)); (case hp => exact (Reps.c6 (show Kd.M k28 _ _ _ (⟨(⟨a0_0, a0_1, a0_2, a0_3, a0_4⟩ : S24), 0⟩ : S28) [.string a0_0, .string a0_1, .string a0_2, .string a0_3, .int .i64 a0_4, .int .i64 0] from (k28_mkM _ _ _ (⟨(⟨a0_0, a0_1, a0_2, a0_3, a0_4⟩ : S24), 0⟩ : S28) )) (Reps.c6 (show Kd.M k28 _ _ _ (⟨(⟨a1_0, a1_1, a1_2, a1_3, a1_4⟩ : S24), 0⟩ : S28) [.string a1_0, .string a1_1, .string a1_2, .string a1_3, .int .i64 a1_4, .int .i64 0] from (k28_mkM _ _ _ (⟨(⟨a1_0, a1_1, a1_2, a1_3, a1_4⟩ : S24), 0⟩ : S28) )) (Reps.c6 (show Kd.M k28 _ _ _ (⟨(⟨a2_0, a2_1, a2_2, a2_3, a2_4⟩ : S24), 0⟩ : S28) [.string a2_0, .string a2_1, .string a2_2, .string a2_3, .int .i64 a2_4, .int .i64 0] from (k28_mkM _ _ _ (⟨(⟨a2_0, a2_1, a2_2, a2_3, a2_4⟩ : S24), 0⟩ : S28) )) (Reps.none _ _))))); intro v550 w19 ho20 hb hg_ hnew_; clear hg_ hnew_; (first | rw [← Ny549.out] at ho20 | (simp only [Int.reduceToNat] at ho20; rw [← Ny549.out] at ho20)); have n0_ := Aside0.mk (Kd.R_lower ho20 (below_size RFn.bels)); have n1_ := Aside0.mk (blk_below (g := gb545) RFn.blk hb); have n2_ := Aside0.mk (blk_below (g := gb546) RFn.blk hb); have n3_ := Aside0.mk (blk_below (g := gb547) RFn.blk hb); have n4_ := Aside0.mk (below_step RFn.bels hb); clear BK545; clear BK546; clear BK547; clear HB; have HO551 := n0_; have BK545 := n1_; have BK546 := n2_; have BK547 := n3_; have HB := n4_; clear n0_ n1_ n2_ n3_ n4_; clear hb ho20; obtain ⟨Ao21, co21, eo21⟩ := Kd.R_slice HO551.out; subst eo21) | ((with_reducible refine gate_callee (f := 11) rfl ?_); refine RFn.goesM (some 19) Try.func11 #[.slice Ao21 y549.length co21] rfl ?_; (with_reducible refine (law09_Few.calls k _ _ y549 true _ ?side1 ?side2 A6.out).mono ?_); (case side1 => exact RFn.mC (Kd.R_reads' HO551.out).2.2); (case side2 => exact (Kd.R_reads' HO551.out).2.1); rintro e w22 ⟨rfl, hb⟩; refine ⟨_, rfl, ?_⟩; have n0_ := Aside0.mk (Kd.R_below (RFn.mR HO551) hb); have n1_ := Aside0.mk (blk_below (g := gb545) RFn.blk hb); have n2_ := Aside0.mk (blk_below (g := gb546) RFn.blk hb); have n3_ := Aside0.mk (blk_below (g := gb547) RFn.blk hb); have n4_ := Aside0.mk (below_step RFn.bels hb); clear HO551; clear BK545; clear BK546; clear BK547; clear HB; have HO551 := n0_; have BK545 := n1_; have BK546 := n2_; have BK547 := n3_; have HB := n4_; clear n0_ n1_ n2_ n3_ n4_; (try clear hb); (try clear hb2); (try clear hk); (try clear hi)))
   (try simp only [Act.put, List.setIfInBounds_toArray, List.set_cons_zero, List.set_cons_succ])
   go_cut [7, 8, 9] (fun v7 v8 v9 wc => ∃ (kq : Nat) (x7_7 : Int) (x8_7 : Int) (x9_7 : Int), v7 = .int .i64 x7_7 ∧ v8 = .int .i64 x8_7 ∧ v9 = .int .i64 x9_7 ∧ Aside0 (law09_FactKeys.j0 kq x7_7 x8_7 x9_7 a0_0 a0_1 a0_2 a0_3 a0_4 a1_0 a1_1 a1_2 a1_3 a1_4 = some r) ∧ Aside0 (kq ≤ k) ∧ Aside0 (wc.heap[gb545]? = some (.cells #[.string a0_0, .string a0_1, .string a0_2, .string a0_3, .int .i64 a0_4] 24 (0, 0))) ∧ Aside0 (wc.heap[gb546]? = some (.cells #[.string a1_0, .string a1_1, .string a1_2, .string a1_3, .int .i64 a1_4] 24 (0, 0))) ∧ Aside0 (wc.heap[gb547]? = some (.cells #[.string a2_0, .string a2_1, .string a2_2, .string a2_3, .int .i64 a2_4] 24 (0, 0))) ∧ Aside0 (Below w.heap.size w wc))
   case first =>
    have H := HC8.out
    clear HC8
    replace H := Option.bind_eq_some_iff.mp H
    obtain ⟨t553, A230, H⟩ := H
    replace H : ((fact_Cmp.f k a1_0 a1_1 a1_2 a1_3 a1_4 a2_0 a2_1 a2_2 a2_3 a2_4).bind fun t554 => ((fact_Cmp.f k a0_0 a0_1 a0_2 a0_3 a0_4 a2_0 a2_1 a2_2 a2_3 a2_4).bind fun t555 => (law09_FactKeys.j0 k t553 t554 t555 a0_0 a0_1 a0_2 a0_3 a0_4 a1_0 a1_1 a1_2 a1_3 a1_4))) = some r := H
    have A23 := Aside0.mk A230
    clear A230
    replace H := Option.bind_eq_some_iff.mp H
    obtain ⟨t554, A240, H⟩ := H
    replace H : ((fact_Cmp.f k a0_0 a0_1 a0_2 a0_3 a0_4 a2_0 a2_1 a2_2 a2_3 a2_4).bind fun t555 => (law09_FactKeys.j0 k t553 t554 t555 a0_0 a0_1 a0_2 a0_3 a0_4 a1_0 a1_1 a1_2 a1_3 a1_4)) = some r := H
    have A24 := Aside0.mk A240
    clear A240
    replace H := Option.bind_eq_some_iff.mp H
    obtain ⟨t555, A250, H⟩ := H
    replace H : (law09_FactKeys.j0 k t553 t554 t555 a0_0 a0_1 a0_2 a0_3 a0_4 a1_0 a1_1 a1_2 a1_3 a1_4) = some r := H
    have A25 := Aside0.mk A250
    clear A250
    have H' := Aside0.mk H
    clear H
    try go_wp2
    have n0_ := Aside0.mk (Kd.R_drew HO551.out)
    have n1_ := Aside0.mk (blk_drew BK545.out)
    have n2_ := Aside0.mk (blk_drew BK546.out)
    have n3_ := Aside0.mk (blk_drew BK547.out)
    have n4_ := Aside0.mk (below_drew1 HB.out)
    clear HO551
    clear BK545
    clear BK546
    clear BK547
    clear HB
    have HO551 := n0_
    have BK545 := n1_
    have BK546 := n2_
    have BK547 := n3_
    have HB := n4_
    clear n0_ n1_ n2_ n3_ n4_
    refine start_ (n := 12) (S := fun w' => w'.cell? ⟨gb545, 0, none⟩ = some (.string a0_0) ∧ w'.cell? ⟨gb545, 1, none⟩ = some (.string a0_1) ∧ w'.cell? ⟨gb545, 2, none⟩ = some (.string a0_2) ∧ w'.cell? ⟨gb545, 3, none⟩ = some (.string a0_3) ∧ w'.cell? ⟨gb545, 4, none⟩ = some (.int .i64 a0_4) ∧ w'.cell? ⟨gb546, 0, none⟩ = some (.string a1_0) ∧ w'.cell? ⟨gb546, 1, none⟩ = some (.string a1_1) ∧ w'.cell? ⟨gb546, 2, none⟩ = some (.string a1_2) ∧ w'.cell? ⟨gb546, 3, none⟩ = some (.string a1_3) ∧ w'.cell? ⟨gb546, 4, none⟩ = some (.int .i64 a1_4) ∧ w'.cell? ⟨gb547, 0, none⟩ = some (.string a2_0) ∧ w'.cell? ⟨gb547, 1, none⟩ = some (.string a2_1) ∧ w'.cell? ⟨gb547, 2, none⟩ = some (.string a2_2) ∧ w'.cell? ⟨gb547, 3, none⟩ = some (.string a2_3) ∧ w'.cell? ⟨gb547, 4, none⟩ = some (.int .i64 a2_4)) (ds := []) #[ff,ff,ff,ff,ff,ff,ff,ff,ff,ff,ff,ff] (by kernel_rfl) rfl rfl ⟨(blk_cell BK545.out 0).trans rfl, (blk_cell BK545.out 1).trans rfl, (blk_cell BK545.out 2).trans rfl, (blk_cell BK545.out 3).trans rfl, (blk_cell BK545.out 4).trans rfl, (blk_cell BK546.out 0).trans rfl, (blk_cell BK546.out 1).trans rfl, (blk_cell BK546.out 2).trans rfl, (blk_cell BK546.out 3).trans rfl, (blk_cell BK546.out 4).trans rfl, (blk_cell BK547.out 0).trans rfl, (blk_cell BK547.out 1).trans rfl, (blk_cell BK547.out 2).trans rfl, (blk_cell BK547.out 3).trans rfl, (blk_cell BK547.out 4).trans rfl⟩ (fun hHeld => ?_); refine with_tabW law09_FactKeys.tab5 law09_FactKeys.bits5 (fun HT_ HW_ => ?_)
    generalize w22.drew = w26 at HO551 BK545 BK546 BK547 HB hHeld ⊢
    refine RFn.tA (i := 0) (N := some 21) #[tt,ff,ff,ff,ff,ff,ff,ff,ff,ff,ff,ff] rfl HT_ HW_ hHeld (by rintro w' ⟨s0, s1, s2, s3, s4, s5, s6, s7, s8, s9, s10, s11, s12, s13, s14⟩; go_simp; with_reducible rfl) ?_
    refine RFn.tA (i := 1) (N := some 22) #[tt,tt,ff,ff,ff,ff,ff,ff,ff,ff,ff,ff] rfl HT_ HW_ hHeld (by rintro w' ⟨s0, s1, s2, s3, s4, s5, s6, s7, s8, s9, s10, s11, s12, s13, s14⟩; go_simp; with_reducible rfl) ?_
    refine RFn.tA (i := 3) (N := some 24) #[tt,tt,ff,tt,ff,ff,ff,ff,ff,ff,ff,ff] rfl HT_ HW_ hHeld (by rintro w' ⟨s0, s1, s2, s3, s4, s5, s6, s7, s8, s9, s10, s11, s12, s13, s14⟩; go_simp; with_reducible rfl) ?_
    refine RFn.tA (i := 4) (N := some 25) #[tt,tt,ff,tt,tt,ff,ff,ff,ff,ff,ff,ff] rfl HT_ HW_ hHeld (by rintro w' ⟨s0, s1, s2, s3, s4, s5, s6, s7, s8, s9, s10, s11, s12, s13, s14⟩; go_simp; with_reducible rfl) ?_
    refine RFn.tA (i := 6) (N := some 27) #[tt,tt,ff,tt,tt,ff,tt,ff,ff,ff,ff,ff] rfl HT_ HW_ hHeld (by rintro w' ⟨s0, s1, s2, s3, s4, s5, s6, s7, s8, s9, s10, s11, s12, s13, s14⟩; go_simp; with_reducible rfl) ?_
    refine RFn.tA (i := 7) (N := some 28) #[tt,tt,ff,tt,tt,ff,tt,tt,ff,ff,ff,ff] rfl HT_ HW_ hHeld (by rintro w' ⟨s0, s1, s2, s3, s4, s5, s6, s7, s8, s9, s10, s11, s12, s13, s14⟩; go_simp; with_reducible rfl) ?_
    refine one_ (i := 2) (N := some 23) #[tt,tt,tt,tt,tt,ff,tt,tt,ff,ff,ff,ff] rfl rfl (one_of HT_.out (by kernel_rfl)) (by decide) (fun K hK => ?_)
    refine goes_ Try.func17 (by kernel_rfl) rfl #[.agg #[.string a0_0, .string a0_1, .string a0_2, .string a0_3, .int .i64 a0_4], .agg #[.string a1_0, .string a1_1, .string a1_2, .string a1_3, .int .i64 a1_4]] (by rfl) rfl rfl (by (try simp only [List.map_toArray, List.map_cons, List.map_nil]); first | done | rfl | (simp only [List.length_drop, List.length_take]; rfl)) ?_
    with_reducible refine (fact_Cmp.calls k a0_0 a0_1 a0_2 a0_3 a0_4 a1_0 a1_1 a1_2 a1_3 a1_4 t553 _ A23.out).mono ?_
    rintro e w27 ⟨rfl, hb⟩
    refine ⟨_, rfl, ?_⟩
    have n0_ := Aside0.mk (Kd.R_below (RFn.mR HO551) hb)
    have n1_ := Aside0.mk (blk_below (g := gb545) RFn.blk hb)
    have n2_ := Aside0.mk (blk_below (g := gb546) RFn.blk hb)
    have n3_ := Aside0.mk (blk_below (g := gb547) RFn.blk hb)
    have n4_ := Aside0.mk (below_step RFn.bels hb)
    clear HO551
    clear BK545
    clear BK546
    clear BK547
    clear HB
    have HO551 := n0_
    have BK545 := n1_
    have BK546 := n2_
    have BK547 := n3_
    have HB := n4_
    clear n0_ n1_ n2_ n3_ n4_
    (try clear hb)
    (try clear hb2)
    (try clear hk)
    (try clear hi)
    refine hK.out _ _ ⟨(blk_cell BK545.out 0).trans rfl, (blk_cell BK545.out 1).trans rfl, (blk_cell BK545.out 2).trans rfl, (blk_cell BK545.out 3).trans rfl, (blk_cell BK545.out 4).trans rfl, (blk_cell BK546.out 0).trans rfl, (blk_cell BK546.out 1).trans rfl, (blk_cell BK546.out 2).trans rfl, (blk_cell BK546.out 3).trans rfl, (blk_cell BK546.out 4).trans rfl, (blk_cell BK547.out 0).trans rfl, (blk_cell BK547.out 1).trans rfl, (blk_cell BK547.out 2).trans rfl, (blk_cell BK547.out 3).trans rfl, (blk_cell BK547.out 4).trans rfl⟩ (fun hHeld => ?_)
    clear hK K
    refine norm_ (a' := ?_) ?_ ?_
    rotate_left
    ·show Act.put _ (some 23) _ = _
     simp only [Act.put, List.setIfInBounds_toArray, List.set_cons_zero, List.set_cons_succ, i64_w, i32_w]
     rfl
    refine one_ (i := 5) (N := some 26) #[tt,tt,tt,tt,tt,tt,tt,tt,ff,ff,ff,ff] rfl rfl (one_of HT_.out (by kernel_rfl)) (by decide) (fun K hK => ?_)
    refine goes_ Try.func17 (by kernel_rfl) rfl #[.agg #[.string a1_0, .string a1_1, .string a1_2, .string a1_3, .int .i64 a1_4], .agg #[.string a2_0, .string a2_1, .string a2_2, .string a2_3, .int .i64 a2_4]] (by rfl) rfl rfl (by (try simp only [List.map_toArray, List.map_cons, List.map_nil]); first | done | rfl | (simp only [List.length_drop, List.length_take]; rfl)) ?_
    with_reducible refine (fact_Cmp.calls k a1_0 a1_1 a1_2 a1_3 a1_4 a2_0 a2_1 a2_2 a2_3 a2_4 t554 _ A24.out).mono ?_
    rintro e w28 ⟨rfl, hb⟩
    refine ⟨_, rfl, ?_⟩
    have n0_ := Aside0.mk (Kd.R_below (RFn.mR HO551) hb)
    have n1_ := Aside0.mk (blk_below (g := gb545) RFn.blk hb)
    have n2_ := Aside0.mk (blk_below (g := gb546) RFn.blk hb)
    have n3_ := Aside0.mk (blk_below (g := gb547) RFn.blk hb)
    have n4_ := Aside0.mk (below_step RFn.bels hb)
    clear HO551
    clear BK545
    clear BK546
    clear BK547
    clear HB
    have HO551 := n0_
    have BK545 := n1_
    have BK546 := n2_
    have BK547 := n3_
    have HB := n4_
    clear n0_ n1_ n2_ n3_ n4_
    (try clear hb)
    (try clear hb2)
    (try clear hk)
    (try clear hi)
    refine hK.out _ _ ⟨(blk_cell BK545.out 0).trans rfl, (blk_cell BK545.out 1).trans rfl, (blk_cell BK545.out 2).trans rfl, (blk_cell BK545.out 3).trans rfl, (blk_cell BK545.out 4).trans rfl, (blk_cell BK546.out 0).trans rfl, (blk_cell BK546.out 1).trans rfl, (blk_cell BK546.out 2).trans rfl, (blk_cell BK546.out 3).trans rfl, (blk_cell BK546.out 4).trans rfl, (blk_cell BK547.out 0).trans rfl, (blk_cell BK547.out 1).trans rfl, (blk_cell BK547.out 2).trans rfl, (blk_cell BK547.out 3).trans rfl, (blk_cell BK547.out 4).trans rfl⟩ (fun hHeld => ?_)
    clear hK K
    refine norm_ (a' := ?_) ?_ ?_
    rotate_left
    ·show Act.put _ (some 26) _ = _
     simp only [Act.put, List.setIfInBounds_toArray, List.set_cons_zero, List.set_cons_succ, i64_w, i32_w]
     rfl
    refine one_ (i := 8) (N := some 29) #[tt,tt,tt,tt,tt,tt,tt,tt,tt,ff,ff,ff] rfl rfl (one_of HT_.out (by kernel_rfl)) (by decide) (fun K hK => ?_)
    refine goes_ Try.func17 (by kernel_rfl) rfl #[.agg #[.string a0_0, .string a0_1, .string a0_2, .string a0_3, .int .i64 a0_4], .agg #[.string a2_0, .string a2_1, .string a2_2, .string a2_3, .int .i64 a2_4]] (by rfl) rfl rfl (by (try simp only [List.map_toArray, List.map_cons, List.map_nil]); first | done | rfl | (simp only [List.length_drop, List.length_take]; rfl)) ?_
    with_reducible refine (fact_Cmp.calls k a0_0 a0_1 a0_2 a0_3 a0_4 a2_0 a2_1 a2_2 a2_3 a2_4 t555 _ A25.out).mono ?_
    rintro e w29 ⟨rfl, hb⟩
    refine ⟨_, rfl, ?_⟩
    have n0_ := Aside0.mk (Kd.R_below (RFn.mR HO551) hb)
    have n1_ := Aside0.mk (blk_below (g := gb545) RFn.blk hb)
    have n2_ := Aside0.mk (blk_below (g := gb546) RFn.blk hb)
    have n3_ := Aside0.mk (blk_below (g := gb547) RFn.blk hb)
    have n4_ := Aside0.mk (below_step RFn.bels hb)
    clear HO551
    clear BK545
    clear BK546
    clear BK547
    clear HB
    have HO551 := n0_
    have BK545 := n1_
    have BK546 := n2_
    have BK547 := n3_
    have HB := n4_
    clear n0_ n1_ n2_ n3_ n4_
    (try clear hb)
    (try clear hb2)
    (try clear hk)
    (try clear hi)
    refine hK.out _ _ ⟨(blk_cell BK545.out 0).trans rfl, (blk_cell BK545.out 1).trans rfl, (blk_cell BK545.out 2).trans rfl, (blk_cell BK545.out 3).trans rfl, (blk_cell BK545.out 4).trans rfl, (blk_cell BK546.out 0).trans rfl, (blk_cell BK546.out 1).trans rfl, (blk_cell BK546.out 2).trans rfl, (blk_cell BK546.out 3).trans rfl, (blk_cell BK546.out 4).trans rfl, (blk_cell BK547.out 0).trans rfl, (blk_cell BK547.out 1).trans rfl, (blk_cell BK547.out 2).trans rfl, (blk_cell BK547.out 3).trans rfl, (blk_cell BK547.out 4).trans rfl⟩ (fun hHeld => ?_)
    clear hK K
    refine norm_ (a' := ?_) ?_ ?_
    rotate_left
    ·show Act.put _ (some 29) _ = _
     simp only [Act.put, List.setIfInBounds_toArray, List.set_cons_zero, List.set_cons_succ, i64_w, i32_w]
     rfl
    refine RFn.pA (i := 9) (N := some 7) #[tt,tt,tt,tt,tt,tt,tt,tt,tt,tt,ff,ff] HT_ ?_
    refine RFn.pA (i := 10) (N := some 8) #[tt,tt,tt,tt,tt,tt,tt,tt,tt,tt,tt,ff] HT_ ?_
    refine RFn.pA (i := 11) (N := some 9) #[tt,tt,tt,tt,tt,tt,tt,tt,tt,tt,tt,tt] HT_ ?_
    refine done_ (done_of HT_.out (by kernel_rfl)) ?_
    try go_wp2
    go_meet
    case rel => exact ⟨_, (t553), (t554), (t555), (by first | rfl | (simp; done) | (simp [*]; done)), (by first | rfl | (simp; done) | (simp [*]; done)), (by first | rfl | (simp; done) | (simp [*]; done)), H', ⟨by first | omega | exact Nat.le_refl _⟩, ⟨RFn.mB BK545⟩, ⟨RFn.mB BK546⟩, ⟨RFn.mB BK547⟩, ⟨RFn.bels⟩⟩
   case rest =>
    clear HC8
    try clear c1
    try clear p2
    try clear c5
    try clear c6
    try clear c7
    try clear c8
    try clear c10
    try clear c11
    try clear c13
    try clear c14
    try clear c16
    try clear c17
    try clear hcz15_0
    try clear hcz15_1
    try clear hcz15_2
    try clear hcz15_3
    try clear hcz15_4
    try clear hcz17_0
    try clear hcz17_1
    try clear hcz17_2
    try clear hcz17_3
    try clear hcz17_4
    try clear hcz18_0
    try clear hcz18_1
    try clear hcz18_2
    try clear hcz18_3
    try clear hcz18_4
    try clear hfz15_0
    try clear hfz15_1
    try clear hfz15_2
    try clear hfz15_3
    try clear hfz15_4
    try clear hfz17_0
    try clear hfz17_1
    try clear hfz17_2
    try clear hfz17_3
    try clear hfz17_4
    try clear hfz18_0
    try clear hfz18_1
    try clear hfz18_2
    try clear hfz18_3
    try clear hfz18_4
    obtain ⟨kq, x7_7, x8_7, x9_7, rfl, rfl, rfl, HA, HJ7, BK545, BK546, BK547, HB⟩ := hcut
    cases kq with
    | zero => exact absurd HA.out (by simp [law09_FactKeys.j0])
    | succ kj7 =>
     have H := HA.out
     clear HA
     simp only [law09_FactKeys.j0] at H
     replace H := Option.bind_eq_some_iff.mp H
     obtain ⟨t556, A300, H⟩ := H
     replace H : (if x7_7 = (wrap64 (-t556)) then (if ((x7_7 == 0) == (a0_0.toList == a1_0.toList && (a0_1.toList == a1_1.toList && (a0_2.toList == a1_2.toList && (a0_3.toList == a1_3.toList && (a0_4 == a1_4)))))) = true then (if x7_7 > 0 then (if x7_7 ≥ 0 then (some true) else (if x8_7 ≥ 0 then (some true) else (some (decide (x9_7 < 0))))) else (if x8_7 > 0 then (if x7_7 ≥ 0 then (some true) else (if x8_7 ≥ 0 then (some true) else (some (decide (x9_7 < 0))))) else (if x9_7 ≤ 0 then (if x7_7 ≥ 0 then (some true) else (if x8_7 ≥ 0 then (some true) else (some (decide (x9_7 < 0))))) else (some false)))) else (some false)) else (some false)) = some r := H
     have A30 := Aside0.mk A300
     clear A300
     by_cases c31 : x7_7 = (wrap64 (-t556))
     ·rw [if_pos c31] at H
      have c31b0 : (x7_7 == (wrap64 (-t556))) = true := beq_iff_eq.mpr c31
      have c31b1 : (x7_7 != (wrap64 (-t556))) = false := bne_eq_false_iff_eq.mpr c31
      clear c31
      by_cases c32 : ((x7_7 == 0) == (a0_0.toList == a1_0.toList && (a0_1.toList == a1_1.toList && (a0_2.toList == a1_2.toList && (a0_3.toList == a1_3.toList && (a0_4 == a1_4)))))) = true
      ·rw [if_pos c32] at H
       have c32b0 : ((x7_7 == 0) == (a0_0.toList == a1_0.toList && (a0_1.toList == a1_1.toList && (a0_2.toList == a1_2.toList && (a0_3.toList == a1_3.toList && (a0_4 == a1_4)))))) = true := c32
       (try (have c32b1 : decide ((x7_7 == 0) = (a0_0.toList == a1_0.toList && (a0_1.toList == a1_1.toList && (a0_2.toList == a1_2.toList && (a0_3.toList == a1_3.toList && (a0_4 == a1_4)))))) = true := by simpa using c32))
       (try (have c32b2 : ((x7_7 == 0) == (a0_0.toList == a1_0.toList && (a0_1.toList == a1_1.toList && (a0_2.toList == a1_2.toList && (a0_3.toList == a1_3.toList && (a0_4 == a1_4)))))) = true := by simpa using c32))
       clear c32
       by_cases c33 : x7_7 > 0
       ·rw [if_pos c33] at H
        have c33b0 : decide (0 < x7_7) = true := decide_eq_true c33
        clear c33
        by_cases c34 : x7_7 ≥ 0
        ·rw [if_pos c34] at H
         have c34b0 : decide (0 ≤ x7_7) = true := decide_eq_true c34
         clear c34
         obtain rfl := Option.some.inj H
         have hnb35 := NB546_545.out
         have hnc35 := NB545_546.out
         have hnb36 := NB546_547.out
         have hnc36 := NB547_546.out
         have hcz37_0 : wc.cell? ⟨gb546, 0, none⟩ = some (.string a1_0) := (blk_cell BK546.out 0).trans rfl
         have hcz37_1 : wc.cell? ⟨gb546, 1, none⟩ = some (.string a1_1) := (blk_cell BK546.out 1).trans rfl
         have hcz37_2 : wc.cell? ⟨gb546, 2, none⟩ = some (.string a1_2) := (blk_cell BK546.out 2).trans rfl
         have hcz37_3 : wc.cell? ⟨gb546, 3, none⟩ = some (.string a1_3) := (blk_cell BK546.out 3).trans rfl
         have hcz37_4 : wc.cell? ⟨gb546, 4, none⟩ = some (.int .i64 a1_4) := (blk_cell BK546.out 4).trans rfl
         have hfz37_0 := blk_frozen BK546.out 0
         have hfz37_1 := blk_frozen BK546.out 1
         have hfz37_2 := blk_frozen BK546.out 2
         have hfz37_3 := blk_frozen BK546.out 3
         have hfz37_4 := blk_frozen BK546.out 4
         have hnb38 := NB545_547.out
         have hnc38 := NB547_545.out
         have hcz39_0 : wc.cell? ⟨gb545, 0, none⟩ = some (.string a0_0) := (blk_cell BK545.out 0).trans rfl
         have hcz39_1 : wc.cell? ⟨gb545, 1, none⟩ = some (.string a0_1) := (blk_cell BK545.out 1).trans rfl
         have hcz39_2 : wc.cell? ⟨gb545, 2, none⟩ = some (.string a0_2) := (blk_cell BK545.out 2).trans rfl
         have hcz39_3 : wc.cell? ⟨gb545, 3, none⟩ = some (.string a0_3) := (blk_cell BK545.out 3).trans rfl
         have hcz39_4 : wc.cell? ⟨gb545, 4, none⟩ = some (.int .i64 a0_4) := (blk_cell BK545.out 4).trans rfl
         have hfz39_0 := blk_frozen BK545.out 0
         have hfz39_1 := blk_frozen BK545.out 1
         have hfz39_2 := blk_frozen BK545.out 2
         have hfz39_3 := blk_frozen BK545.out 3
         have hfz39_4 := blk_frozen BK545.out 4
         go_wp2_with (first | ((with_reducible refine gate_callee (f := 17) rfl ?_); refine RFn.goesM (some 33) Try.func17 #[.agg #[.string a1_0, .string a1_1, .string a1_2, .string a1_3, .int .i64 a1_4], .agg #[.string a0_0, .string a0_1, .string a0_2, .string a0_3, .int .i64 a0_4]] rfl ?_; (with_reducible refine (fact_Cmp.calls kj7 a1_0 a1_1 a1_2 a1_3 a1_4 a0_0 a0_1 a0_2 a0_3 a0_4 t556 _ A30.out).mono ?_); rintro e w40 ⟨rfl, hb⟩; refine ⟨_, rfl, ?_⟩; have n0_ := Aside0.mk (blk_below (g := gb545) RFn.blk hb); have n1_ := Aside0.mk (blk_below (g := gb546) RFn.blk hb); have n2_ := Aside0.mk (blk_below (g := gb547) RFn.blk hb); have n3_ := Aside0.mk (below_step RFn.bels hb); clear BK545; clear BK546; clear BK547; clear HB; have BK545 := n0_; have BK546 := n1_; have BK547 := n2_; have HB := n3_; clear n0_ n1_ n2_ n3_; (try clear hb); (try clear hb2); (try clear hk); (try clear hi); have hcz41_0 : w40.cell? ⟨gb545, 0, none⟩ = some (.string a0_0) := (blk_cell BK545.out 0).trans rfl; have hcz41_1 : w40.cell? ⟨gb545, 1, none⟩ = some (.string a0_1) := (blk_cell BK545.out 1).trans rfl; have hcz41_2 : w40.cell? ⟨gb545, 2, none⟩ = some (.string a0_2) := (blk_cell BK545.out 2).trans rfl; have hcz41_3 : w40.cell? ⟨gb545, 3, none⟩ = some (.string a0_3) := (blk_cell BK545.out 3).trans rfl; have hcz41_4 : w40.cell? ⟨gb545, 4, none⟩ = some (.int .i64 a0_4) := (blk_cell BK545.out 4).trans rfl; have hfz41_0 := blk_frozen BK545.out 0; have hfz41_1 := blk_frozen BK545.out 1; have hfz41_2 := blk_frozen BK545.out 2; have hfz41_3 := blk_frozen BK545.out 3; have hfz41_4 := blk_frozen BK545.out 4; have hcz42_0 : w40.cell? ⟨gb546, 0, none⟩ = some (.string a1_0) := (blk_cell BK546.out 0).trans rfl; have hcz42_1 : w40.cell? ⟨gb546, 1, none⟩ = some (.string a1_1) := (blk_cell BK546.out 1).trans rfl; have hcz42_2 : w40.cell? ⟨gb546, 2, none⟩ = some (.string a1_2) := (blk_cell BK546.out 2).trans rfl; have hcz42_3 : w40.cell? ⟨gb546, 3, none⟩ = some (.string a1_3) := (blk_cell BK546.out 3).trans rfl; have hcz42_4 : w40.cell? ⟨gb546, 4, none⟩ = some (.int .i64 a1_4) := (blk_cell BK546.out 4).trans rfl; have hfz42_0 := blk_frozen BK546.out 0; have hfz42_1 := blk_frozen BK546.out 1; have hfz42_2 := blk_frozen BK546.out 2; have hfz42_3 := blk_frozen BK546.out 3; have hfz42_4 := blk_frozen BK546.out 4))
         go_ret
         exact ⟨by first | rfl | (simp [errW_none, errW_some] <;> rfl) | (simp [*, errW_none, errW_some] <;> rfl), RFn.bels⟩
        ·rw [if_neg c34] at H
         have c34b0 : decide (0 ≤ x7_7) = false := decide_eq_false c34
         clear c34
         by_cases c43 : x8_7 ≥ 0
         ·rw [if_pos c43] at H
          have c43b0 : decide (0 ≤ x8_7) = true := decide_eq_true c43
          clear c43
          obtain rfl := Option.some.inj H
          have hnb44 := NB546_545.out
          have hnc44 := NB545_546.out
          have hnb45 := NB546_547.out
          have hnc45 := NB547_546.out
          have hcz46_0 : wc.cell? ⟨gb546, 0, none⟩ = some (.string a1_0) := (blk_cell BK546.out 0).trans rfl
          have hcz46_1 : wc.cell? ⟨gb546, 1, none⟩ = some (.string a1_1) := (blk_cell BK546.out 1).trans rfl
          have hcz46_2 : wc.cell? ⟨gb546, 2, none⟩ = some (.string a1_2) := (blk_cell BK546.out 2).trans rfl
          have hcz46_3 : wc.cell? ⟨gb546, 3, none⟩ = some (.string a1_3) := (blk_cell BK546.out 3).trans rfl
          have hcz46_4 : wc.cell? ⟨gb546, 4, none⟩ = some (.int .i64 a1_4) := (blk_cell BK546.out 4).trans rfl
          have hfz46_0 := blk_frozen BK546.out 0
          have hfz46_1 := blk_frozen BK546.out 1
          have hfz46_2 := blk_frozen BK546.out 2
          have hfz46_3 := blk_frozen BK546.out 3
          have hfz46_4 := blk_frozen BK546.out 4
          have hnb47 := NB545_547.out
          have hnc47 := NB547_545.out
          have hcz48_0 : wc.cell? ⟨gb545, 0, none⟩ = some (.string a0_0) := (blk_cell BK545.out 0).trans rfl
          have hcz48_1 : wc.cell? ⟨gb545, 1, none⟩ = some (.string a0_1) := (blk_cell BK545.out 1).trans rfl
          have hcz48_2 : wc.cell? ⟨gb545, 2, none⟩ = some (.string a0_2) := (blk_cell BK545.out 2).trans rfl
          have hcz48_3 : wc.cell? ⟨gb545, 3, none⟩ = some (.string a0_3) := (blk_cell BK545.out 3).trans rfl
          have hcz48_4 : wc.cell? ⟨gb545, 4, none⟩ = some (.int .i64 a0_4) := (blk_cell BK545.out 4).trans rfl
          have hfz48_0 := blk_frozen BK545.out 0
          have hfz48_1 := blk_frozen BK545.out 1
          have hfz48_2 := blk_frozen BK545.out 2
          have hfz48_3 := blk_frozen BK545.out 3
          have hfz48_4 := blk_frozen BK545.out 4
          go_wp2_with (first | ((with_reducible refine gate_callee (f := 17) rfl ?_); refine RFn.goesM (some 33) Try.func17 #[.agg #[.string a1_0, .string a1_1, .string a1_2, .string a1_3, .int .i64 a1_4], .agg #[.string a0_0, .string a0_1, .string a0_2, .string a0_3, .int .i64 a0_4]] rfl ?_; (with_reducible refine (fact_Cmp.calls kj7 a1_0 a1_1 a1_2 a1_3 a1_4 a0_0 a0_1 a0_2 a0_3 a0_4 t556 _ A30.out).mono ?_); rintro e w49 ⟨rfl, hb⟩; refine ⟨_, rfl, ?_⟩; have n0_ := Aside0.mk (blk_below (g := gb545) RFn.blk hb); have n1_ := Aside0.mk (blk_below (g := gb546) RFn.blk hb); have n2_ := Aside0.mk (blk_below (g := gb547) RFn.blk hb); have n3_ := Aside0.mk (below_step RFn.bels hb); clear BK545; clear BK546; clear BK547; clear HB; have BK545 := n0_; have BK546 := n1_; have BK547 := n2_; have HB := n3_; clear n0_ n1_ n2_ n3_; (try clear hb); (try clear hb2); (try clear hk); (try clear hi); have hcz50_0 : w49.cell? ⟨gb545, 0, none⟩ = some (.string a0_0) := (blk_cell BK545.out 0).trans rfl; have hcz50_1 : w49.cell? ⟨gb545, 1, none⟩ = some (.string a0_1) := (blk_cell BK545.out 1).trans rfl; have hcz50_2 : w49.cell? ⟨gb545, 2, none⟩ = some (.string a0_2) := (blk_cell BK545.out 2).trans rfl; have hcz50_3 : w49.cell? ⟨gb545, 3, none⟩ = some (.string a0_3) := (blk_cell BK545.out 3).trans rfl; have hcz50_4 : w49.cell? ⟨gb545, 4, none⟩ = some (.int .i64 a0_4) := (blk_cell BK545.out 4).trans rfl; have hfz50_0 := blk_frozen BK545.out 0; have hfz50_1 := blk_frozen BK545.out 1; have hfz50_2 := blk_frozen BK545.out 2; have hfz50_3 := blk_frozen BK545.out 3; have hfz50_4 := blk_frozen BK545.out 4; have hcz51_0 : w49.cell? ⟨gb546, 0, none⟩ = some (.string a1_0) := (blk_cell BK546.out 0).trans rfl; have hcz51_1 : w49.cell? ⟨gb546, 1, none⟩ = some (.string a1_1) := (blk_cell BK546.out 1).trans rfl; have hcz51_2 : w49.cell? ⟨gb546, 2, none⟩ = some (.string a1_2) := (blk_cell BK546.out 2).trans rfl; have hcz51_3 : w49.cell? ⟨gb546, 3, none⟩ = some (.string a1_3) := (blk_cell BK546.out 3).trans rfl; have hcz51_4 : w49.cell? ⟨gb546, 4, none⟩ = some (.int .i64 a1_4) := (blk_cell BK546.out 4).trans rfl; have hfz51_0 := blk_frozen BK546.out 0; have hfz51_1 := blk_frozen BK546.out 1; have hfz51_2 := blk_frozen BK546.out 2; have hfz51_3 := blk_frozen BK546.out 3; have hfz51_4 := blk_frozen BK546.out 4))
          go_ret
          exact ⟨by first | rfl | (simp [errW_none, errW_some] <;> rfl) | (simp [*, errW_none, errW_some] <;> rfl), RFn.bels⟩
         ·rw [if_neg c43] at H
          have c43b0 : decide (0 ≤ x8_7) = false := decide_eq_false c43
          clear c43
          obtain rfl := Option.some.inj H
          have hnb52 := NB546_545.out
          have hnc52 := NB545_546.out
          have hnb53 := NB546_547.out
          have hnc53 := NB547_546.out
          have hcz54_0 : wc.cell? ⟨gb546, 0, none⟩ = some (.string a1_0) := (blk_cell BK546.out 0).trans rfl
          have hcz54_1 : wc.cell? ⟨gb546, 1, none⟩ = some (.string a1_1) := (blk_cell BK546.out 1).trans rfl
          have hcz54_2 : wc.cell? ⟨gb546, 2, none⟩ = some (.string a1_2) := (blk_cell BK546.out 2).trans rfl
          have hcz54_3 : wc.cell? ⟨gb546, 3, none⟩ = some (.string a1_3) := (blk_cell BK546.out 3).trans rfl
          have hcz54_4 : wc.cell? ⟨gb546, 4, none⟩ = some (.int .i64 a1_4) := (blk_cell BK546.out 4).trans rfl
          have hfz54_0 := blk_frozen BK546.out 0
          have hfz54_1 := blk_frozen BK546.out 1
          have hfz54_2 := blk_frozen BK546.out 2
          have hfz54_3 := blk_frozen BK546.out 3
          have hfz54_4 := blk_frozen BK546.out 4
          have hnb55 := NB545_547.out
          have hnc55 := NB547_545.out
          have hcz56_0 : wc.cell? ⟨gb545, 0, none⟩ = some (.string a0_0) := (blk_cell BK545.out 0).trans rfl
          have hcz56_1 : wc.cell? ⟨gb545, 1, none⟩ = some (.string a0_1) := (blk_cell BK545.out 1).trans rfl
          have hcz56_2 : wc.cell? ⟨gb545, 2, none⟩ = some (.string a0_2) := (blk_cell BK545.out 2).trans rfl
          have hcz56_3 : wc.cell? ⟨gb545, 3, none⟩ = some (.string a0_3) := (blk_cell BK545.out 3).trans rfl
          have hcz56_4 : wc.cell? ⟨gb545, 4, none⟩ = some (.int .i64 a0_4) := (blk_cell BK545.out 4).trans rfl
          have hfz56_0 := blk_frozen BK545.out 0
          have hfz56_1 := blk_frozen BK545.out 1
          have hfz56_2 := blk_frozen BK545.out 2
          have hfz56_3 := blk_frozen BK545.out 3
          have hfz56_4 := blk_frozen BK545.out 4
          go_wp2_with (first | ((with_reducible refine gate_callee (f := 17) rfl ?_); refine RFn.goesM (some 33) Try.func17 #[.agg #[.string a1_0, .string a1_1, .string a1_2, .string a1_3, .int .i64 a1_4], .agg #[.string a0_0, .string a0_1, .string a0_2, .string a0_3, .int .i64 a0_4]] rfl ?_; (with_reducible refine (fact_Cmp.calls kj7 a1_0 a1_1 a1_2 a1_3 a1_4 a0_0 a0_1 a0_2 a0_3 a0_4 t556 _ A30.out).mono ?_); rintro e w57 ⟨rfl, hb⟩; refine ⟨_, rfl, ?_⟩; have n0_ := Aside0.mk (blk_below (g := gb545) RFn.blk hb); have n1_ := Aside0.mk (blk_below (g := gb546) RFn.blk hb); have n2_ := Aside0.mk (blk_below (g := gb547) RFn.blk hb); have n3_ := Aside0.mk (below_step RFn.bels hb); clear BK545; clear BK546; clear BK547; clear HB; have BK545 := n0_; have BK546 := n1_; have BK547 := n2_; have HB := n3_; clear n0_ n1_ n2_ n3_; (try clear hb); (try clear hb2); (try clear hk); (try clear hi); have hcz58_0 : w57.cell? ⟨gb545, 0, none⟩ = some (.string a0_0) := (blk_cell BK545.out 0).trans rfl; have hcz58_1 : w57.cell? ⟨gb545, 1, none⟩ = some (.string a0_1) := (blk_cell BK545.out 1).trans rfl; have hcz58_2 : w57.cell? ⟨gb545, 2, none⟩ = some (.string a0_2) := (blk_cell BK545.out 2).trans rfl; have hcz58_3 : w57.cell? ⟨gb545, 3, none⟩ = some (.string a0_3) := (blk_cell BK545.out 3).trans rfl; have hcz58_4 : w57.cell? ⟨gb545, 4, none⟩ = some (.int .i64 a0_4) := (blk_cell BK545.out 4).trans rfl; have hfz58_0 := blk_frozen BK545.out 0; have hfz58_1 := blk_frozen BK545.out 1; have hfz58_2 := blk_frozen BK545.out 2; have hfz58_3 := blk_frozen BK545.out 3; have hfz58_4 := blk_frozen BK545.out 4; have hcz59_0 : w57.cell? ⟨gb546, 0, none⟩ = some (.string a1_0) := (blk_cell BK546.out 0).trans rfl; have hcz59_1 : w57.cell? ⟨gb546, 1, none⟩ = some (.string a1_1) := (blk_cell BK546.out 1).trans rfl; have hcz59_2 : w57.cell? ⟨gb546, 2, none⟩ = some (.string a1_2) := (blk_cell BK546.out 2).trans rfl; have hcz59_3 : w57.cell? ⟨gb546, 3, none⟩ = some (.string a1_3) := (blk_cell BK546.out 3).trans rfl; have hcz59_4 : w57.cell? ⟨gb546, 4, none⟩ = some (.int .i64 a1_4) := (blk_cell BK546.out 4).trans rfl; have hfz59_0 := blk_frozen BK546.out 0; have hfz59_1 := blk_frozen BK546.out 1; have hfz59_2 := blk_frozen BK546.out 2; have hfz59_3 := blk_frozen BK546.out 3; have hfz59_4 := blk_frozen BK546.out 4))
          go_ret
          exact ⟨by first | rfl | (simp [errW_none, errW_some] <;> rfl) | (simp [*, errW_none, errW_some] <;> rfl), RFn.bels⟩
       ·rw [if_neg c33] at H
        have c33b0 : decide (0 < x7_7) = false := decide_eq_false c33
        clear c33
        by_cases c60 : x8_7 > 0
        ·rw [if_pos c60] at H
         have c60b0 : decide (0 < x8_7) = true := decide_eq_true c60
         clear c60
         by_cases c61 : x7_7 ≥ 0
         ·rw [if_pos c61] at H
          have c61b0 : decide (0 ≤ x7_7) = true := decide_eq_true c61
          clear c61
          obtain rfl := Option.some.inj H
          have hnb62 := NB546_545.out
          have hnc62 := NB545_546.out
          have hnb63 := NB546_547.out
          have hnc63 := NB547_546.out
          have hcz64_0 : wc.cell? ⟨gb546, 0, none⟩ = some (.string a1_0) := (blk_cell BK546.out 0).trans rfl
          have hcz64_1 : wc.cell? ⟨gb546, 1, none⟩ = some (.string a1_1) := (blk_cell BK546.out 1).trans rfl
          have hcz64_2 : wc.cell? ⟨gb546, 2, none⟩ = some (.string a1_2) := (blk_cell BK546.out 2).trans rfl
          have hcz64_3 : wc.cell? ⟨gb546, 3, none⟩ = some (.string a1_3) := (blk_cell BK546.out 3).trans rfl
          have hcz64_4 : wc.cell? ⟨gb546, 4, none⟩ = some (.int .i64 a1_4) := (blk_cell BK546.out 4).trans rfl
          have hfz64_0 := blk_frozen BK546.out 0
          have hfz64_1 := blk_frozen BK546.out 1
          have hfz64_2 := blk_frozen BK546.out 2
          have hfz64_3 := blk_frozen BK546.out 3
          have hfz64_4 := blk_frozen BK546.out 4
          have hnb65 := NB545_547.out
          have hnc65 := NB547_545.out
          have hcz66_0 : wc.cell? ⟨gb545, 0, none⟩ = some (.string a0_0) := (blk_cell BK545.out 0).trans rfl
          have hcz66_1 : wc.cell? ⟨gb545, 1, none⟩ = some (.string a0_1) := (blk_cell BK545.out 1).trans rfl
          have hcz66_2 : wc.cell? ⟨gb545, 2, none⟩ = some (.string a0_2) := (blk_cell BK545.out 2).trans rfl
          have hcz66_3 : wc.cell? ⟨gb545, 3, none⟩ = some (.string a0_3) := (blk_cell BK545.out 3).trans rfl
          have hcz66_4 : wc.cell? ⟨gb545, 4, none⟩ = some (.int .i64 a0_4) := (blk_cell BK545.out 4).trans rfl
          have hfz66_0 := blk_frozen BK545.out 0
          have hfz66_1 := blk_frozen BK545.out 1
          have hfz66_2 := blk_frozen BK545.out 2
          have hfz66_3 := blk_frozen BK545.out 3
          have hfz66_4 := blk_frozen BK545.out 4
          go_wp2_with (first | ((with_reducible refine gate_callee (f := 17) rfl ?_); refine RFn.goesM (some 33) Try.func17 #[.agg #[.string a1_0, .string a1_1, .string a1_2, .string a1_3, .int .i64 a1_4], .agg #[.string a0_0, .string a0_1, .string a0_2, .string a0_3, .int .i64 a0_4]] rfl ?_; (with_reducible refine (fact_Cmp.calls kj7 a1_0 a1_1 a1_2 a1_3 a1_4 a0_0 a0_1 a0_2 a0_3 a0_4 t556 _ A30.out).mono ?_); rintro e w67 ⟨rfl, hb⟩; refine ⟨_, rfl, ?_⟩; have n0_ := Aside0.mk (blk_below (g := gb545) RFn.blk hb); have n1_ := Aside0.mk (blk_below (g := gb546) RFn.blk hb); have n2_ := Aside0.mk (blk_below (g := gb547) RFn.blk hb); have n3_ := Aside0.mk (below_step RFn.bels hb); clear BK545; clear BK546; clear BK547; clear HB; have BK545 := n0_; have BK546 := n1_; have BK547 := n2_; have HB := n3_; clear n0_ n1_ n2_ n3_; (try clear hb); (try clear hb2); (try clear hk); (try clear hi); have hcz68_0 : w67.cell? ⟨gb545, 0, none⟩ = some (.string a0_0) := (blk_cell BK545.out 0).trans rfl; have hcz68_1 : w67.cell? ⟨gb545, 1, none⟩ = some (.string a0_1) := (blk_cell BK545.out 1).trans rfl; have hcz68_2 : w67.cell? ⟨gb545, 2, none⟩ = some (.string a0_2) := (blk_cell BK545.out 2).trans rfl; have hcz68_3 : w67.cell? ⟨gb545, 3, none⟩ = some (.string a0_3) := (blk_cell BK545.out 3).trans rfl; have hcz68_4 : w67.cell? ⟨gb545, 4, none⟩ = some (.int .i64 a0_4) := (blk_cell BK545.out 4).trans rfl; have hfz68_0 := blk_frozen BK545.out 0; have hfz68_1 := blk_frozen BK545.out 1; have hfz68_2 := blk_frozen BK545.out 2; have hfz68_3 := blk_frozen BK545.out 3; have hfz68_4 := blk_frozen BK545.out 4; have hcz69_0 : w67.cell? ⟨gb546, 0, none⟩ = some (.string a1_0) := (blk_cell BK546.out 0).trans rfl; have hcz69_1 : w67.cell? ⟨gb546, 1, none⟩ = some (.string a1_1) := (blk_cell BK546.out 1).trans rfl; have hcz69_2 : w67.cell? ⟨gb546, 2, none⟩ = some (.string a1_2) := (blk_cell BK546.out 2).trans rfl; have hcz69_3 : w67.cell? ⟨gb546, 3, none⟩ = some (.string a1_3) := (blk_cell BK546.out 3).trans rfl; have hcz69_4 : w67.cell? ⟨gb546, 4, none⟩ = some (.int .i64 a1_4) := (blk_cell BK546.out 4).trans rfl; have hfz69_0 := blk_frozen BK546.out 0; have hfz69_1 := blk_frozen BK546.out 1; have hfz69_2 := blk_frozen BK546.out 2; have hfz69_3 := blk_frozen BK546.out 3; have hfz69_4 := blk_frozen BK546.out 4))
          go_ret
          exact ⟨by first | rfl | (simp [errW_none, errW_some] <;> rfl) | (simp [*, errW_none, errW_some] <;> rfl), RFn.bels⟩
         ·rw [if_neg c61] at H
          have c61b0 : decide (0 ≤ x7_7) = false := decide_eq_false c61
          clear c61
          by_cases c70 : x8_7 ≥ 0
          ·rw [if_pos c70] at H
           have c70b0 : decide (0 ≤ x8_7) = true := decide_eq_true c70
           clear c70
           obtain rfl := Option.some.inj H
           have hnb71 := NB546_545.out
           have hnc71 := NB545_546.out
           have hnb72 := NB546_547.out
           have hnc72 := NB547_546.out
           have hcz73_0 : wc.cell? ⟨gb546, 0, none⟩ = some (.string a1_0) := (blk_cell BK546.out 0).trans rfl
           have hcz73_1 : wc.cell? ⟨gb546, 1, none⟩ = some (.string a1_1) := (blk_cell BK546.out 1).trans rfl
           have hcz73_2 : wc.cell? ⟨gb546, 2, none⟩ = some (.string a1_2) := (blk_cell BK546.out 2).trans rfl
           have hcz73_3 : wc.cell? ⟨gb546, 3, none⟩ = some (.string a1_3) := (blk_cell BK546.out 3).trans rfl
           have hcz73_4 : wc.cell? ⟨gb546, 4, none⟩ = some (.int .i64 a1_4) := (blk_cell BK546.out 4).trans rfl
           have hfz73_0 := blk_frozen BK546.out 0
           have hfz73_1 := blk_frozen BK546.out 1
           have hfz73_2 := blk_frozen BK546.out 2
           have hfz73_3 := blk_frozen BK546.out 3
           have hfz73_4 := blk_frozen BK546.out 4
           have hnb74 := NB545_547.out
           have hnc74 := NB547_545.out
           have hcz75_0 : wc.cell? ⟨gb545, 0, none⟩ = some (.string a0_0) := (blk_cell BK545.out 0).trans rfl
           have hcz75_1 : wc.cell? ⟨gb545, 1, none⟩ = some (.string a0_1) := (blk_cell BK545.out 1).trans rfl
           have hcz75_2 : wc.cell? ⟨gb545, 2, none⟩ = some (.string a0_2) := (blk_cell BK545.out 2).trans rfl
           have hcz75_3 : wc.cell? ⟨gb545, 3, none⟩ = some (.string a0_3) := (blk_cell BK545.out 3).trans rfl
           have hcz75_4 : wc.cell? ⟨gb545, 4, none⟩ = some (.int .i64 a0_4) := (blk_cell BK545.out 4).trans rfl
           have hfz75_0 := blk_frozen BK545.out 0
           have hfz75_1 := blk_frozen BK545.out 1
           have hfz75_2 := blk_frozen BK545.out 2
           have hfz75_3 := blk_frozen BK545.out 3
           have hfz75_4 := blk_frozen BK545.out 4
           go_wp2_with (first | ((with_reducible refine gate_callee (f := 17) rfl ?_); refine RFn.goesM (some 33) Try.func17 #[.agg #[.string a1_0, .string a1_1, .string a1_2, .string a1_3, .int .i64 a1_4], .agg #[.string a0_0, .string a0_1, .string a0_2, .string a0_3, .int .i64 a0_4]] rfl ?_; (with_reducible refine (fact_Cmp.calls kj7 a1_0 a1_1 a1_2 a1_3 a1_4 a0_0 a0_1 a0_2 a0_3 a0_4 t556 _ A30.out).mono ?_); rintro e w76 ⟨rfl, hb⟩; refine ⟨_, rfl, ?_⟩; have n0_ := Aside0.mk (blk_below (g := gb545) RFn.blk hb); have n1_ := Aside0.mk (blk_below (g := gb546) RFn.blk hb); have n2_ := Aside0.mk (blk_below (g := gb547) RFn.blk hb); have n3_ := Aside0.mk (below_step RFn.bels hb); clear BK545; clear BK546; clear BK547; clear HB; have BK545 := n0_; have BK546 := n1_; have BK547 := n2_; have HB := n3_; clear n0_ n1_ n2_ n3_; (try clear hb); (try clear hb2); (try clear hk); (try clear hi); have hcz77_0 : w76.cell? ⟨gb545, 0, none⟩ = some (.string a0_0) := (blk_cell BK545.out 0).trans rfl; have hcz77_1 : w76.cell? ⟨gb545, 1, none⟩ = some (.string a0_1) := (blk_cell BK545.out 1).trans rfl; have hcz77_2 : w76.cell? ⟨gb545, 2, none⟩ = some (.string a0_2) := (blk_cell BK545.out 2).trans rfl; have hcz77_3 : w76.cell? ⟨gb545, 3, none⟩ = some (.string a0_3) := (blk_cell BK545.out 3).trans rfl; have hcz77_4 : w76.cell? ⟨gb545, 4, none⟩ = some (.int .i64 a0_4) := (blk_cell BK545.out 4).trans rfl; have hfz77_0 := blk_frozen BK545.out 0; have hfz77_1 := blk_frozen BK545.out 1; have hfz77_2 := blk_frozen BK545.out 2; have hfz77_3 := blk_frozen BK545.out 3; have hfz77_4 := blk_frozen BK545.out 4; have hcz78_0 : w76.cell? ⟨gb546, 0, none⟩ = some (.string a1_0) := (blk_cell BK546.out 0).trans rfl; have hcz78_1 : w76.cell? ⟨gb546, 1, none⟩ = some (.string a1_1) := (blk_cell BK546.out 1).trans rfl; have hcz78_2 : w76.cell? ⟨gb546, 2, none⟩ = some (.string a1_2) := (blk_cell BK546.out 2).trans rfl; have hcz78_3 : w76.cell? ⟨gb546, 3, none⟩ = some (.string a1_3) := (blk_cell BK546.out 3).trans rfl; have hcz78_4 : w76.cell? ⟨gb546, 4, none⟩ = some (.int .i64 a1_4) := (blk_cell BK546.out 4).trans rfl; have hfz78_0 := blk_frozen BK546.out 0; have hfz78_1 := blk_frozen BK546.out 1; have hfz78_2 := blk_frozen BK546.out 2; have hfz78_3 := blk_frozen BK546.out 3; have hfz78_4 := blk_frozen BK546.out 4))
           go_ret
           exact ⟨by first | rfl | (simp [errW_none, errW_some] <;> rfl) | (simp [*, errW_none, errW_some] <;> rfl), RFn.bels⟩
          ·rw [if_neg c70] at H
           have c70b0 : decide (0 ≤ x8_7) = false := decide_eq_false c70
           clear c70
           obtain rfl := Option.some.inj H
           have hnb79 := NB546_545.out
           have hnc79 := NB545_546.out
           have hnb80 := NB546_547.out
           have hnc80 := NB547_546.out
           have hcz81_0 : wc.cell? ⟨gb546, 0, none⟩ = some (.string a1_0) := (blk_cell BK546.out 0).trans rfl
           have hcz81_1 : wc.cell? ⟨gb546, 1, none⟩ = some (.string a1_1) := (blk_cell BK546.out 1).trans rfl
           have hcz81_2 : wc.cell? ⟨gb546, 2, none⟩ = some (.string a1_2) := (blk_cell BK546.out 2).trans rfl
           have hcz81_3 : wc.cell? ⟨gb546, 3, none⟩ = some (.string a1_3) := (blk_cell BK546.out 3).trans rfl
           have hcz81_4 : wc.cell? ⟨gb546, 4, none⟩ = some (.int .i64 a1_4) := (blk_cell BK546.out 4).trans rfl
           have hfz81_0 := blk_frozen BK546.out 0
           have hfz81_1 := blk_frozen BK546.out 1
           have hfz81_2 := blk_frozen BK546.out 2
           have hfz81_3 := blk_frozen BK546.out 3
           have hfz81_4 := blk_frozen BK546.out 4
           have hnb82 := NB545_547.out
           have hnc82 := NB547_545.out
           have hcz83_0 : wc.cell? ⟨gb545, 0, none⟩ = some (.string a0_0) := (blk_cell BK545.out 0).trans rfl
           have hcz83_1 : wc.cell? ⟨gb545, 1, none⟩ = some (.string a0_1) := (blk_cell BK545.out 1).trans rfl
           have hcz83_2 : wc.cell? ⟨gb545, 2, none⟩ = some (.string a0_2) := (blk_cell BK545.out 2).trans rfl
           have hcz83_3 : wc.cell? ⟨gb545, 3, none⟩ = some (.string a0_3) := (blk_cell BK545.out 3).trans rfl
           have hcz83_4 : wc.cell? ⟨gb545, 4, none⟩ = some (.int .i64 a0_4) := (blk_cell BK545.out 4).trans rfl
           have hfz83_0 := blk_frozen BK545.out 0
           have hfz83_1 := blk_frozen BK545.out 1
           have hfz83_2 := blk_frozen BK545.out 2
           have hfz83_3 := blk_frozen BK545.out 3
           have hfz83_4 := blk_frozen BK545.out 4
           go_wp2_with (first | ((with_reducible refine gate_callee (f := 17) rfl ?_); refine RFn.goesM (some 33) Try.func17 #[.agg #[.string a1_0, .string a1_1, .string a1_2, .string a1_3, .int .i64 a1_4], .agg #[.string a0_0, .string a0_1, .string a0_2, .string a0_3, .int .i64 a0_4]] rfl ?_; (with_reducible refine (fact_Cmp.calls kj7 a1_0 a1_1 a1_2 a1_3 a1_4 a0_0 a0_1 a0_2 a0_3 a0_4 t556 _ A30.out).mono ?_); rintro e w84 ⟨rfl, hb⟩; refine ⟨_, rfl, ?_⟩; have n0_ := Aside0.mk (blk_below (g := gb545) RFn.blk hb); have n1_ := Aside0.mk (blk_below (g := gb546) RFn.blk hb); have n2_ := Aside0.mk (blk_below (g := gb547) RFn.blk hb); have n3_ := Aside0.mk (below_step RFn.bels hb); clear BK545; clear BK546; clear BK547; clear HB; have BK545 := n0_; have BK546 := n1_; have BK547 := n2_; have HB := n3_; clear n0_ n1_ n2_ n3_; (try clear hb); (try clear hb2); (try clear hk); (try clear hi); have hcz85_0 : w84.cell? ⟨gb545, 0, none⟩ = some (.string a0_0) := (blk_cell BK545.out 0).trans rfl; have hcz85_1 : w84.cell? ⟨gb545, 1, none⟩ = some (.string a0_1) := (blk_cell BK545.out 1).trans rfl; have hcz85_2 : w84.cell? ⟨gb545, 2, none⟩ = some (.string a0_2) := (blk_cell BK545.out 2).trans rfl; have hcz85_3 : w84.cell? ⟨gb545, 3, none⟩ = some (.string a0_3) := (blk_cell BK545.out 3).trans rfl; have hcz85_4 : w84.cell? ⟨gb545, 4, none⟩ = some (.int .i64 a0_4) := (blk_cell BK545.out 4).trans rfl; have hfz85_0 := blk_frozen BK545.out 0; have hfz85_1 := blk_frozen BK545.out 1; have hfz85_2 := blk_frozen BK545.out 2; have hfz85_3 := blk_frozen BK545.out 3; have hfz85_4 := blk_frozen BK545.out 4; have hcz86_0 : w84.cell? ⟨gb546, 0, none⟩ = some (.string a1_0) := (blk_cell BK546.out 0).trans rfl; have hcz86_1 : w84.cell? ⟨gb546, 1, none⟩ = some (.string a1_1) := (blk_cell BK546.out 1).trans rfl; have hcz86_2 : w84.cell? ⟨gb546, 2, none⟩ = some (.string a1_2) := (blk_cell BK546.out 2).trans rfl; have hcz86_3 : w84.cell? ⟨gb546, 3, none⟩ = some (.string a1_3) := (blk_cell BK546.out 3).trans rfl; have hcz86_4 : w84.cell? ⟨gb546, 4, none⟩ = some (.int .i64 a1_4) := (blk_cell BK546.out 4).trans rfl; have hfz86_0 := blk_frozen BK546.out 0; have hfz86_1 := blk_frozen BK546.out 1; have hfz86_2 := blk_frozen BK546.out 2; have hfz86_3 := blk_frozen BK546.out 3; have hfz86_4 := blk_frozen BK546.out 4))
           go_ret
           exact ⟨by first | rfl | (simp [errW_none, errW_some] <;> rfl) | (simp [*, errW_none, errW_some] <;> rfl), RFn.bels⟩
        ·rw [if_neg c60] at H
         have c60b0 : decide (0 < x8_7) = false := decide_eq_false c60
         clear c60
         by_cases c87 : x9_7 ≤ 0
         ·rw [if_pos c87] at H
          have c87b0 : decide (x9_7 ≤ 0) = true := decide_eq_true c87
          clear c87
          by_cases c88 : x7_7 ≥ 0
          ·rw [if_pos c88] at H
           have c88b0 : decide (0 ≤ x7_7) = true := decide_eq_true c88
           clear c88
           obtain rfl := Option.some.inj H
           have hnb89 := NB546_545.out
           have hnc89 := NB545_546.out
           have hnb90 := NB546_547.out
           have hnc90 := NB547_546.out
           have hcz91_0 : wc.cell? ⟨gb546, 0, none⟩ = some (.string a1_0) := (blk_cell BK546.out 0).trans rfl
           have hcz91_1 : wc.cell? ⟨gb546, 1, none⟩ = some (.string a1_1) := (blk_cell BK546.out 1).trans rfl
           have hcz91_2 : wc.cell? ⟨gb546, 2, none⟩ = some (.string a1_2) := (blk_cell BK546.out 2).trans rfl
           have hcz91_3 : wc.cell? ⟨gb546, 3, none⟩ = some (.string a1_3) := (blk_cell BK546.out 3).trans rfl
           have hcz91_4 : wc.cell? ⟨gb546, 4, none⟩ = some (.int .i64 a1_4) := (blk_cell BK546.out 4).trans rfl
           have hfz91_0 := blk_frozen BK546.out 0
           have hfz91_1 := blk_frozen BK546.out 1
           have hfz91_2 := blk_frozen BK546.out 2
           have hfz91_3 := blk_frozen BK546.out 3
           have hfz91_4 := blk_frozen BK546.out 4
           have hnb92 := NB545_547.out
           have hnc92 := NB547_545.out
           have hcz93_0 : wc.cell? ⟨gb545, 0, none⟩ = some (.string a0_0) := (blk_cell BK545.out 0).trans rfl
           have hcz93_1 : wc.cell? ⟨gb545, 1, none⟩ = some (.string a0_1) := (blk_cell BK545.out 1).trans rfl
           have hcz93_2 : wc.cell? ⟨gb545, 2, none⟩ = some (.string a0_2) := (blk_cell BK545.out 2).trans rfl
           have hcz93_3 : wc.cell? ⟨gb545, 3, none⟩ = some (.string a0_3) := (blk_cell BK545.out 3).trans rfl
           have hcz93_4 : wc.cell? ⟨gb545, 4, none⟩ = some (.int .i64 a0_4) := (blk_cell BK545.out 4).trans rfl
           have hfz93_0 := blk_frozen BK545.out 0
           have hfz93_1 := blk_frozen BK545.out 1
           have hfz93_2 := blk_frozen BK545.out 2
           have hfz93_3 := blk_frozen BK545.out 3
           have hfz93_4 := blk_frozen BK545.out 4
           go_wp2_with (first | ((with_reducible refine gate_callee (f := 17) rfl ?_); refine RFn.goesM (some 33) Try.func17 #[.agg #[.string a1_0, .string a1_1, .string a1_2, .string a1_3, .int .i64 a1_4], .agg #[.string a0_0, .string a0_1, .string a0_2, .string a0_3, .int .i64 a0_4]] rfl ?_; (with_reducible refine (fact_Cmp.calls kj7 a1_0 a1_1 a1_2 a1_3 a1_4 a0_0 a0_1 a0_2 a0_3 a0_4 t556 _ A30.out).mono ?_); rintro e w94 ⟨rfl, hb⟩; refine ⟨_, rfl, ?_⟩; have n0_ := Aside0.mk (blk_below (g := gb545) RFn.blk hb); have n1_ := Aside0.mk (blk_below (g := gb546) RFn.blk hb); have n2_ := Aside0.mk (blk_below (g := gb547) RFn.blk hb); have n3_ := Aside0.mk (below_step RFn.bels hb); clear BK545; clear BK546; clear BK547; clear HB; have BK545 := n0_; have BK546 := n1_; have BK547 := n2_; have HB := n3_; clear n0_ n1_ n2_ n3_; (try clear hb); (try clear hb2); (try clear hk); (try clear hi); have hcz95_0 : w94.cell? ⟨gb545, 0, none⟩ = some (.string a0_0) := (blk_cell BK545.out 0).trans rfl; have hcz95_1 : w94.cell? ⟨gb545, 1, none⟩ = some (.string a0_1) := (blk_cell BK545.out 1).trans rfl; have hcz95_2 : w94.cell? ⟨gb545, 2, none⟩ = some (.string a0_2) := (blk_cell BK545.out 2).trans rfl; have hcz95_3 : w94.cell? ⟨gb545, 3, none⟩ = some (.string a0_3) := (blk_cell BK545.out 3).trans rfl; have hcz95_4 : w94.cell? ⟨gb545, 4, none⟩ = some (.int .i64 a0_4) := (blk_cell BK545.out 4).trans rfl; have hfz95_0 := blk_frozen BK545.out 0; have hfz95_1 := blk_frozen BK545.out 1; have hfz95_2 := blk_frozen BK545.out 2; have hfz95_3 := blk_frozen BK545.out 3; have hfz95_4 := blk_frozen BK545.out 4; have hcz96_0 : w94.cell? ⟨gb546, 0, none⟩ = some (.string a1_0) := (blk_cell BK546.out 0).trans rfl; have hcz96_1 : w94.cell? ⟨gb546, 1, none⟩ = some (.string a1_1) := (blk_cell BK546.out 1).trans rfl; have hcz96_2 : w94.cell? ⟨gb546, 2, none⟩ = some (.string a1_2) := (blk_cell BK546.out 2).trans rfl; have hcz96_3 : w94.cell? ⟨gb546, 3, none⟩ = some (.string a1_3) := (blk_cell BK546.out 3).trans rfl; have hcz96_4 : w94.cell? ⟨gb546, 4, none⟩ = some (.int .i64 a1_4) := (blk_cell BK546.out 4).trans rfl; have hfz96_0 := blk_frozen BK546.out 0; have hfz96_1 := blk_frozen BK546.out 1; have hfz96_2 := blk_frozen BK546.out 2; have hfz96_3 := blk_frozen BK546.out 3; have hfz96_4 := blk_frozen BK546.out 4))
           go_ret
           exact ⟨by first | rfl | (simp [errW_none, errW_some] <;> rfl) | (simp [*, errW_none, errW_some] <;> rfl), RFn.bels⟩
          ·rw [if_neg c88] at H
           have c88b0 : decide (0 ≤ x7_7) = false := decide_eq_false c88
           clear c88
           by_cases c97 : x8_7 ≥ 0
           ·rw [if_pos c97] at H
            have c97b0 : decide (0 ≤ x8_7) = true := decide_eq_true c97
            clear c97
            obtain rfl := Option.some.inj H
            have hnb98 := NB546_545.out
            have hnc98 := NB545_546.out
            have hnb99 := NB546_547.out
            have hnc99 := NB547_546.out
            have hcz100_0 : wc.cell? ⟨gb546, 0, none⟩ = some (.string a1_0) := (blk_cell BK546.out 0).trans rfl
            have hcz100_1 : wc.cell? ⟨gb546, 1, none⟩ = some (.string a1_1) := (blk_cell BK546.out 1).trans rfl
            have hcz100_2 : wc.cell? ⟨gb546, 2, none⟩ = some (.string a1_2) := (blk_cell BK546.out 2).trans rfl
            have hcz100_3 : wc.cell? ⟨gb546, 3, none⟩ = some (.string a1_3) := (blk_cell BK546.out 3).trans rfl
            have hcz100_4 : wc.cell? ⟨gb546, 4, none⟩ = some (.int .i64 a1_4) := (blk_cell BK546.out 4).trans rfl
            have hfz100_0 := blk_frozen BK546.out 0
            have hfz100_1 := blk_frozen BK546.out 1
            have hfz100_2 := blk_frozen BK546.out 2
            have hfz100_3 := blk_frozen BK546.out 3
            have hfz100_4 := blk_frozen BK546.out 4
            have hnb101 := NB545_547.out
            have hnc101 := NB547_545.out
            have hcz102_0 : wc.cell? ⟨gb545, 0, none⟩ = some (.string a0_0) := (blk_cell BK545.out 0).trans rfl
            have hcz102_1 : wc.cell? ⟨gb545, 1, none⟩ = some (.string a0_1) := (blk_cell BK545.out 1).trans rfl
            have hcz102_2 : wc.cell? ⟨gb545, 2, none⟩ = some (.string a0_2) := (blk_cell BK545.out 2).trans rfl
            have hcz102_3 : wc.cell? ⟨gb545, 3, none⟩ = some (.string a0_3) := (blk_cell BK545.out 3).trans rfl
            have hcz102_4 : wc.cell? ⟨gb545, 4, none⟩ = some (.int .i64 a0_4) := (blk_cell BK545.out 4).trans rfl
            have hfz102_0 := blk_frozen BK545.out 0
            have hfz102_1 := blk_frozen BK545.out 1
            have hfz102_2 := blk_frozen BK545.out 2
            have hfz102_3 := blk_frozen BK545.out 3
            have hfz102_4 := blk_frozen BK545.out 4
            go_wp2_with (first | ((with_reducible refine gate_callee (f := 17) rfl ?_); refine RFn.goesM (some 33) Try.func17 #[.agg #[.string a1_0, .string a1_1, .string a1_2, .string a1_3, .int .i64 a1_4], .agg #[.string a0_0, .string a0_1, .string a0_2, .string a0_3, .int .i64 a0_4]] rfl ?_; (with_reducible refine (fact_Cmp.calls kj7 a1_0 a1_1 a1_2 a1_3 a1_4 a0_0 a0_1 a0_2 a0_3 a0_4 t556 _ A30.out).mono ?_); rintro e w103 ⟨rfl, hb⟩; refine ⟨_, rfl, ?_⟩; have n0_ := Aside0.mk (blk_below (g := gb545) RFn.blk hb); have n1_ := Aside0.mk (blk_below (g := gb546) RFn.blk hb); have n2_ := Aside0.mk (blk_below (g := gb547) RFn.blk hb); have n3_ := Aside0.mk (below_step RFn.bels hb); clear BK545; clear BK546; clear BK547; clear HB; have BK545 := n0_; have BK546 := n1_; have BK547 := n2_; have HB := n3_; clear n0_ n1_ n2_ n3_; (try clear hb); (try clear hb2); (try clear hk); (try clear hi); have hcz104_0 : w103.cell? ⟨gb545, 0, none⟩ = some (.string a0_0) := (blk_cell BK545.out 0).trans rfl; have hcz104_1 : w103.cell? ⟨gb545, 1, none⟩ = some (.string a0_1) := (blk_cell BK545.out 1).trans rfl; have hcz104_2 : w103.cell? ⟨gb545, 2, none⟩ = some (.string a0_2) := (blk_cell BK545.out 2).trans rfl; have hcz104_3 : w103.cell? ⟨gb545, 3, none⟩ = some (.string a0_3) := (blk_cell BK545.out 3).trans rfl; have hcz104_4 : w103.cell? ⟨gb545, 4, none⟩ = some (.int .i64 a0_4) := (blk_cell BK545.out 4).trans rfl; have hfz104_0 := blk_frozen BK545.out 0; have hfz104_1 := blk_frozen BK545.out 1; have hfz104_2 := blk_frozen BK545.out 2; have hfz104_3 := blk_frozen BK545.out 3; have hfz104_4 := blk_frozen BK545.out 4; have hcz105_0 : w103.cell? ⟨gb546, 0, none⟩ = some (.string a1_0) := (blk_cell BK546.out 0).trans rfl; have hcz105_1 : w103.cell? ⟨gb546, 1, none⟩ = some (.string a1_1) := (blk_cell BK546.out 1).trans rfl; have hcz105_2 : w103.cell? ⟨gb546, 2, none⟩ = some (.string a1_2) := (blk_cell BK546.out 2).trans rfl; have hcz105_3 : w103.cell? ⟨gb546, 3, none⟩ = some (.string a1_3) := (blk_cell BK546.out 3).trans rfl; have hcz105_4 : w103.cell? ⟨gb546, 4, none⟩ = some (.int .i64 a1_4) := (blk_cell BK546.out 4).trans rfl; have hfz105_0 := blk_frozen BK546.out 0; have hfz105_1 := blk_frozen BK546.out 1; have hfz105_2 := blk_frozen BK546.out 2; have hfz105_3 := blk_frozen BK546.out 3; have hfz105_4 := blk_frozen BK546.out 4))
            go_ret
            exact ⟨by first | rfl | (simp [errW_none, errW_some] <;> rfl) | (simp [*, errW_none, errW_some] <;> rfl), RFn.bels⟩
           ·rw [if_neg c97] at H
            have c97b0 : decide (0 ≤ x8_7) = false := decide_eq_false c97
            clear c97
            obtain rfl := Option.some.inj H
            have hnb106 := NB546_545.out
            have hnc106 := NB545_546.out
            have hnb107 := NB546_547.out
            have hnc107 := NB547_546.out
            have hcz108_0 : wc.cell? ⟨gb546, 0, none⟩ = some (.string a1_0) := (blk_cell BK546.out 0).trans rfl
            have hcz108_1 : wc.cell? ⟨gb546, 1, none⟩ = some (.string a1_1) := (blk_cell BK546.out 1).trans rfl
            have hcz108_2 : wc.cell? ⟨gb546, 2, none⟩ = some (.string a1_2) := (blk_cell BK546.out 2).trans rfl
            have hcz108_3 : wc.cell? ⟨gb546, 3, none⟩ = some (.string a1_3) := (blk_cell BK546.out 3).trans rfl
            have hcz108_4 : wc.cell? ⟨gb546, 4, none⟩ = some (.int .i64 a1_4) := (blk_cell BK546.out 4).trans rfl
            have hfz108_0 := blk_frozen BK546.out 0
            have hfz108_1 := blk_frozen BK546.out 1
            have hfz108_2 := blk_frozen BK546.out 2
            have hfz108_3 := blk_frozen BK546.out 3
            have hfz108_4 := blk_frozen BK546.out 4
            have hnb109 := NB545_547.out
            have hnc109 := NB547_545.out
            have hcz110_0 : wc.cell? ⟨gb545, 0, none⟩ = some (.string a0_0) := (blk_cell BK545.out 0).trans rfl
            have hcz110_1 : wc.cell? ⟨gb545, 1, none⟩ = some (.string a0_1) := (blk_cell BK545.out 1).trans rfl
            have hcz110_2 : wc.cell? ⟨gb545, 2, none⟩ = some (.string a0_2) := (blk_cell BK545.out 2).trans rfl
            have hcz110_3 : wc.cell? ⟨gb545, 3, none⟩ = some (.string a0_3) := (blk_cell BK545.out 3).trans rfl
            have hcz110_4 : wc.cell? ⟨gb545, 4, none⟩ = some (.int .i64 a0_4) := (blk_cell BK545.out 4).trans rfl
            have hfz110_0 := blk_frozen BK545.out 0
            have hfz110_1 := blk_frozen BK545.out 1
            have hfz110_2 := blk_frozen BK545.out 2
            have hfz110_3 := blk_frozen BK545.out 3
            have hfz110_4 := blk_frozen BK545.out 4
            go_wp2_with (first | ((with_reducible refine gate_callee (f := 17) rfl ?_); refine RFn.goesM (some 33) Try.func17 #[.agg #[.string a1_0, .string a1_1, .string a1_2, .string a1_3, .int .i64 a1_4], .agg #[.string a0_0, .string a0_1, .string a0_2, .string a0_3, .int .i64 a0_4]] rfl ?_; (with_reducible refine (fact_Cmp.calls kj7 a1_0 a1_1 a1_2 a1_3 a1_4 a0_0 a0_1 a0_2 a0_3 a0_4 t556 _ A30.out).mono ?_); rintro e w111 ⟨rfl, hb⟩; refine ⟨_, rfl, ?_⟩; have n0_ := Aside0.mk (blk_below (g := gb545) RFn.blk hb); have n1_ := Aside0.mk (blk_below (g := gb546) RFn.blk hb); have n2_ := Aside0.mk (blk_below (g := gb547) RFn.blk hb); have n3_ := Aside0.mk (below_step RFn.bels hb); clear BK545; clear BK546; clear BK547; clear HB; have BK545 := n0_; have BK546 := n1_; have BK547 := n2_; have HB := n3_; clear n0_ n1_ n2_ n3_; (try clear hb); (try clear hb2); (try clear hk); (try clear hi); have hcz112_0 : w111.cell? ⟨gb545, 0, none⟩ = some (.string a0_0) := (blk_cell BK545.out 0).trans rfl; have hcz112_1 : w111.cell? ⟨gb545, 1, none⟩ = some (.string a0_1) := (blk_cell BK545.out 1).trans rfl; have hcz112_2 : w111.cell? ⟨gb545, 2, none⟩ = some (.string a0_2) := (blk_cell BK545.out 2).trans rfl; have hcz112_3 : w111.cell? ⟨gb545, 3, none⟩ = some (.string a0_3) := (blk_cell BK545.out 3).trans rfl; have hcz112_4 : w111.cell? ⟨gb545, 4, none⟩ = some (.int .i64 a0_4) := (blk_cell BK545.out 4).trans rfl; have hfz112_0 := blk_frozen BK545.out 0; have hfz112_1 := blk_frozen BK545.out 1; have hfz112_2 := blk_frozen BK545.out 2; have hfz112_3 := blk_frozen BK545.out 3; have hfz112_4 := blk_frozen BK545.out 4; have hcz113_0 : w111.cell? ⟨gb546, 0, none⟩ = some (.string a1_0) := (blk_cell BK546.out 0).trans rfl; have hcz113_1 : w111.cell? ⟨gb546, 1, none⟩ = some (.string a1_1) := (blk_cell BK546.out 1).trans rfl; have hcz113_2 : w111.cell? ⟨gb546, 2, none⟩ = some (.string a1_2) := (blk_cell BK546.out 2).trans rfl; have hcz113_3 : w111.cell? ⟨gb546, 3, none⟩ = some (.string a1_3) := (blk_cell BK546.out 3).trans rfl; have hcz113_4 : w111.cell? ⟨gb546, 4, none⟩ = some (.int .i64 a1_4) := (blk_cell BK546.out 4).trans rfl; have hfz113_0 := blk_frozen BK546.out 0; have hfz113_1 := blk_frozen BK546.out 1; have hfz113_2 := blk_frozen BK546.out 2; have hfz113_3 := blk_frozen BK546.out 3; have hfz113_4 := blk_frozen BK546.out 4))
            go_ret
            exact ⟨by first | rfl | (simp [errW_none, errW_some] <;> rfl) | (simp [*, errW_none, errW_some] <;> rfl), RFn.bels⟩
         ·rw [if_neg c87] at H
          have c87b0 : decide (x9_7 ≤ 0) = false := decide_eq_false c87
          clear c87
          obtain rfl := Option.some.inj H
          have hnb114 := NB546_545.out
          have hnc114 := NB545_546.out
          have hnb115 := NB546_547.out
          have hnc115 := NB547_546.out
          have hcz116_0 : wc.cell? ⟨gb546, 0, none⟩ = some (.string a1_0) := (blk_cell BK546.out 0).trans rfl
          have hcz116_1 : wc.cell? ⟨gb546, 1, none⟩ = some (.string a1_1) := (blk_cell BK546.out 1).trans rfl
          have hcz116_2 : wc.cell? ⟨gb546, 2, none⟩ = some (.string a1_2) := (blk_cell BK546.out 2).trans rfl
          have hcz116_3 : wc.cell? ⟨gb546, 3, none⟩ = some (.string a1_3) := (blk_cell BK546.out 3).trans rfl
          have hcz116_4 : wc.cell? ⟨gb546, 4, none⟩ = some (.int .i64 a1_4) := (blk_cell BK546.out 4).trans rfl
          have hfz116_0 := blk_frozen BK546.out 0
          have hfz116_1 := blk_frozen BK546.out 1
          have hfz116_2 := blk_frozen BK546.out 2
          have hfz116_3 := blk_frozen BK546.out 3
          have hfz116_4 := blk_frozen BK546.out 4
          have hnb117 := NB545_547.out
          have hnc117 := NB547_545.out
          have hcz118_0 : wc.cell? ⟨gb545, 0, none⟩ = some (.string a0_0) := (blk_cell BK545.out 0).trans rfl
          have hcz118_1 : wc.cell? ⟨gb545, 1, none⟩ = some (.string a0_1) := (blk_cell BK545.out 1).trans rfl
          have hcz118_2 : wc.cell? ⟨gb545, 2, none⟩ = some (.string a0_2) := (blk_cell BK545.out 2).trans rfl
          have hcz118_3 : wc.cell? ⟨gb545, 3, none⟩ = some (.string a0_3) := (blk_cell BK545.out 3).trans rfl
          have hcz118_4 : wc.cell? ⟨gb545, 4, none⟩ = some (.int .i64 a0_4) := (blk_cell BK545.out 4).trans rfl
          have hfz118_0 := blk_frozen BK545.out 0
          have hfz118_1 := blk_frozen BK545.out 1
          have hfz118_2 := blk_frozen BK545.out 2
          have hfz118_3 := blk_frozen BK545.out 3
          have hfz118_4 := blk_frozen BK545.out 4
          go_wp2_with (first | ((with_reducible refine gate_callee (f := 17) rfl ?_); refine RFn.goesM (some 33) Try.func17 #[.agg #[.string a1_0, .string a1_1, .string a1_2, .string a1_3, .int .i64 a1_4], .agg #[.string a0_0, .string a0_1, .string a0_2, .string a0_3, .int .i64 a0_4]] rfl ?_; (with_reducible refine (fact_Cmp.calls kj7 a1_0 a1_1 a1_2 a1_3 a1_4 a0_0 a0_1 a0_2 a0_3 a0_4 t556 _ A30.out).mono ?_); rintro e w119 ⟨rfl, hb⟩; refine ⟨_, rfl, ?_⟩; have n0_ := Aside0.mk (blk_below (g := gb545) RFn.blk hb); have n1_ := Aside0.mk (blk_below (g := gb546) RFn.blk hb); have n2_ := Aside0.mk (blk_below (g := gb547) RFn.blk hb); have n3_ := Aside0.mk (below_step RFn.bels hb); clear BK545; clear BK546; clear BK547; clear HB; have BK545 := n0_; have BK546 := n1_; have BK547 := n2_; have HB := n3_; clear n0_ n1_ n2_ n3_; (try clear hb); (try clear hb2); (try clear hk); (try clear hi); have hcz120_0 : w119.cell? ⟨gb545, 0, none⟩ = some (.string a0_0) := (blk_cell BK545.out 0).trans rfl; have hcz120_1 : w119.cell? ⟨gb545, 1, none⟩ = some (.string a0_1) := (blk_cell BK545.out 1).trans rfl; have hcz120_2 : w119.cell? ⟨gb545, 2, none⟩ = some (.string a0_2) := (blk_cell BK545.out 2).trans rfl; have hcz120_3 : w119.cell? ⟨gb545, 3, none⟩ = some (.string a0_3) := (blk_cell BK545.out 3).trans rfl; have hcz120_4 : w119.cell? ⟨gb545, 4, none⟩ = some (.int .i64 a0_4) := (blk_cell BK545.out 4).trans rfl; have hfz120_0 := blk_frozen BK545.out 0; have hfz120_1 := blk_frozen BK545.out 1; have hfz120_2 := blk_frozen BK545.out 2; have hfz120_3 := blk_frozen BK545.out 3; have hfz120_4 := blk_frozen BK545.out 4; have hcz121_0 : w119.cell? ⟨gb546, 0, none⟩ = some (.string a1_0) := (blk_cell BK546.out 0).trans rfl; have hcz121_1 : w119.cell? ⟨gb546, 1, none⟩ = some (.string a1_1) := (blk_cell BK546.out 1).trans rfl; have hcz121_2 : w119.cell? ⟨gb546, 2, none⟩ = some (.string a1_2) := (blk_cell BK546.out 2).trans rfl; have hcz121_3 : w119.cell? ⟨gb546, 3, none⟩ = some (.string a1_3) := (blk_cell BK546.out 3).trans rfl; have hcz121_4 : w119.cell? ⟨gb546, 4, none⟩ = some (.int .i64 a1_4) := (blk_cell BK546.out 4).trans rfl; have hfz121_0 := blk_frozen BK546.out 0; have hfz121_1 := blk_frozen BK546.out 1; have hfz121_2 := blk_frozen BK546.out 2; have hfz121_3 := blk_frozen BK546.out 3; have hfz121_4 := blk_frozen BK546.out 4))
          go_ret
          exact ⟨by first | rfl | (simp [errW_none, errW_some] <;> rfl) | (simp [*, errW_none, errW_some] <;> rfl), RFn.bels⟩
      ·rw [if_neg c32] at H
       have c32b0 : ((x7_7 == 0) == (a0_0.toList == a1_0.toList && (a0_1.toList == a1_1.toList && (a0_2.toList == a1_2.toList && (a0_3.toList == a1_3.toList && (a0_4 == a1_4)))))) = false := by simpa using c32
       (try (have c32b1 : decide ((x7_7 == 0) = (a0_0.toList == a1_0.toList && (a0_1.toList == a1_1.toList && (a0_2.toList == a1_2.toList && (a0_3.toList == a1_3.toList && (a0_4 == a1_4)))))) = false := by simpa using c32))
       (try (have c32b2 : ((x7_7 == 0) == (a0_0.toList == a1_0.toList && (a0_1.toList == a1_1.toList && (a0_2.toList == a1_2.toList && (a0_3.toList == a1_3.toList && (a0_4 == a1_4)))))) = false := by simpa using c32))
       (try (have c32b3 : ¬ ((x7_7 == 0) = (a0_0.toList == a1_0.toList && (a0_1.toList == a1_1.toList && (a0_2.toList == a1_2.toList && (a0_3.toList == a1_3.toList && (a0_4 == a1_4)))))) := by simpa using c32))
       clear c32
       obtain rfl := Option.some.inj H
       have hnb122 := NB546_545.out
       have hnc122 := NB545_546.out
       have hnb123 := NB546_547.out
       have hnc123 := NB547_546.out
       have hcz124_0 : wc.cell? ⟨gb546, 0, none⟩ = some (.string a1_0) := (blk_cell BK546.out 0).trans rfl
       have hcz124_1 : wc.cell? ⟨gb546, 1, none⟩ = some (.string a1_1) := (blk_cell BK546.out 1).trans rfl
       have hcz124_2 : wc.cell? ⟨gb546, 2, none⟩ = some (.string a1_2) := (blk_cell BK546.out 2).trans rfl
       have hcz124_3 : wc.cell? ⟨gb546, 3, none⟩ = some (.string a1_3) := (blk_cell BK546.out 3).trans rfl
       have hcz124_4 : wc.cell? ⟨gb546, 4, none⟩ = some (.int .i64 a1_4) := (blk_cell BK546.out 4).trans rfl
       have hfz124_0 := blk_frozen BK546.out 0
       have hfz124_1 := blk_frozen BK546.out 1
       have hfz124_2 := blk_frozen BK546.out 2
       have hfz124_3 := blk_frozen BK546.out 3
       have hfz124_4 := blk_frozen BK546.out 4
       have hnb125 := NB545_547.out
       have hnc125 := NB547_545.out
       have hcz126_0 : wc.cell? ⟨gb545, 0, none⟩ = some (.string a0_0) := (blk_cell BK545.out 0).trans rfl
       have hcz126_1 : wc.cell? ⟨gb545, 1, none⟩ = some (.string a0_1) := (blk_cell BK545.out 1).trans rfl
       have hcz126_2 : wc.cell? ⟨gb545, 2, none⟩ = some (.string a0_2) := (blk_cell BK545.out 2).trans rfl
       have hcz126_3 : wc.cell? ⟨gb545, 3, none⟩ = some (.string a0_3) := (blk_cell BK545.out 3).trans rfl
       have hcz126_4 : wc.cell? ⟨gb545, 4, none⟩ = some (.int .i64 a0_4) := (blk_cell BK545.out 4).trans rfl
       have hfz126_0 := blk_frozen BK545.out 0
       have hfz126_1 := blk_frozen BK545.out 1
       have hfz126_2 := blk_frozen BK545.out 2
       have hfz126_3 := blk_frozen BK545.out 3
       have hfz126_4 := blk_frozen BK545.out 4
       go_wp2_with (first | ((with_reducible refine gate_callee (f := 17) rfl ?_); refine RFn.goesM (some 33) Try.func17 #[.agg #[.string a1_0, .string a1_1, .string a1_2, .string a1_3, .int .i64 a1_4], .agg #[.string a0_0, .string a0_1, .string a0_2, .string a0_3, .int .i64 a0_4]] rfl ?_; (with_reducible refine (fact_Cmp.calls kj7 a1_0 a1_1 a1_2 a1_3 a1_4 a0_0 a0_1 a0_2 a0_3 a0_4 t556 _ A30.out).mono ?_); rintro e w127 ⟨rfl, hb⟩; refine ⟨_, rfl, ?_⟩; have n0_ := Aside0.mk (blk_below (g := gb545) RFn.blk hb); have n1_ := Aside0.mk (blk_below (g := gb546) RFn.blk hb); have n2_ := Aside0.mk (blk_below (g := gb547) RFn.blk hb); have n3_ := Aside0.mk (below_step RFn.bels hb); clear BK545; clear BK546; clear BK547; clear HB; have BK545 := n0_; have BK546 := n1_; have BK547 := n2_; have HB := n3_; clear n0_ n1_ n2_ n3_; (try clear hb); (try clear hb2); (try clear hk); (try clear hi); have hcz128_0 : w127.cell? ⟨gb545, 0, none⟩ = some (.string a0_0) := (blk_cell BK545.out 0).trans rfl; have hcz128_1 : w127.cell? ⟨gb545, 1, none⟩ = some (.string a0_1) := (blk_cell BK545.out 1).trans rfl; have hcz128_2 : w127.cell? ⟨gb545, 2, none⟩ = some (.string a0_2) := (blk_cell BK545.out 2).trans rfl; have hcz128_3 : w127.cell? ⟨gb545, 3, none⟩ = some (.string a0_3) := (blk_cell BK545.out 3).trans rfl; have hcz128_4 : w127.cell? ⟨gb545, 4, none⟩ = some (.int .i64 a0_4) := (blk_cell BK545.out 4).trans rfl; have hfz128_0 := blk_frozen BK545.out 0; have hfz128_1 := blk_frozen BK545.out 1; have hfz128_2 := blk_frozen BK545.out 2; have hfz128_3 := blk_frozen BK545.out 3; have hfz128_4 := blk_frozen BK545.out 4; have hcz129_0 : w127.cell? ⟨gb546, 0, none⟩ = some (.string a1_0) := (blk_cell BK546.out 0).trans rfl; have hcz129_1 : w127.cell? ⟨gb546, 1, none⟩ = some (.string a1_1) := (blk_cell BK546.out 1).trans rfl; have hcz129_2 : w127.cell? ⟨gb546, 2, none⟩ = some (.string a1_2) := (blk_cell BK546.out 2).trans rfl; have hcz129_3 : w127.cell? ⟨gb546, 3, none⟩ = some (.string a1_3) := (blk_cell BK546.out 3).trans rfl; have hcz129_4 : w127.cell? ⟨gb546, 4, none⟩ = some (.int .i64 a1_4) := (blk_cell BK546.out 4).trans rfl; have hfz129_0 := blk_frozen BK546.out 0; have hfz129_1 := blk_frozen BK546.out 1; have hfz129_2 := blk_frozen BK546.out 2; have hfz129_3 := blk_frozen BK546.out 3; have hfz129_4 := blk_frozen BK546.out 4))
       go_ret
       exact ⟨by first | rfl | (simp [errW_none, errW_some] <;> rfl) | (simp [*, errW_none, errW_some] <;> rfl), RFn.bels⟩
     ·rw [if_neg c31] at H
      have c31b0 : (x7_7 == (wrap64 (-t556))) = false := beq_eq_false_iff_ne.mpr c31
      have c31b1 : (x7_7 != (wrap64 (-t556))) = true := bne_iff_ne.mpr c31
      obtain rfl := Option.some.inj H
      have hnb130 := NB546_545.out
      have hnc130 := NB545_546.out
      have hnb131 := NB546_547.out
      have hnc131 := NB547_546.out
      have hcz132_0 : wc.cell? ⟨gb546, 0, none⟩ = some (.string a1_0) := (blk_cell BK546.out 0).trans rfl
      have hcz132_1 : wc.cell? ⟨gb546, 1, none⟩ = some (.string a1_1) := (blk_cell BK546.out 1).trans rfl
      have hcz132_2 : wc.cell? ⟨gb546, 2, none⟩ = some (.string a1_2) := (blk_cell BK546.out 2).trans rfl
      have hcz132_3 : wc.cell? ⟨gb546, 3, none⟩ = some (.string a1_3) := (blk_cell BK546.out 3).trans rfl
      have hcz132_4 : wc.cell? ⟨gb546, 4, none⟩ = some (.int .i64 a1_4) := (blk_cell BK546.out 4).trans rfl
      have hfz132_0 := blk_frozen BK546.out 0
      have hfz132_1 := blk_frozen BK546.out 1
      have hfz132_2 := blk_frozen BK546.out 2
      have hfz132_3 := blk_frozen BK546.out 3
      have hfz132_4 := blk_frozen BK546.out 4
      have hnb133 := NB545_547.out
      have hnc133 := NB547_545.out
      have hcz134_0 : wc.cell? ⟨gb545, 0, none⟩ = some (.string a0_0) := (blk_cell BK545.out 0).trans rfl
      have hcz134_1 : wc.cell? ⟨gb545, 1, none⟩ = some (.string a0_1) := (blk_cell BK545.out 1).trans rfl
      have hcz134_2 : wc.cell? ⟨gb545, 2, none⟩ = some (.string a0_2) := (blk_cell BK545.out 2).trans rfl
      have hcz134_3 : wc.cell? ⟨gb545, 3, none⟩ = some (.string a0_3) := (blk_cell BK545.out 3).trans rfl
      have hcz134_4 : wc.cell? ⟨gb545, 4, none⟩ = some (.int .i64 a0_4) := (blk_cell BK545.out 4).trans rfl
      have hfz134_0 := blk_frozen BK545.out 0
      have hfz134_1 := blk_frozen BK545.out 1
      have hfz134_2 := blk_frozen BK545.out 2
      have hfz134_3 := blk_frozen BK545.out 3
      have hfz134_4 := blk_frozen BK545.out 4
      go_wp2_with (first | ((with_reducible refine gate_callee (f := 17) rfl ?_); refine RFn.goesM (some 33) Try.func17 #[.agg #[.string a1_0, .string a1_1, .string a1_2, .string a1_3, .int .i64 a1_4], .agg #[.string a0_0, .string a0_1, .string a0_2, .string a0_3, .int .i64 a0_4]] rfl ?_; (with_reducible refine (fact_Cmp.calls kj7 a1_0 a1_1 a1_2 a1_3 a1_4 a0_0 a0_1 a0_2 a0_3 a0_4 t556 _ A30.out).mono ?_); rintro e w135 ⟨rfl, hb⟩; refine ⟨_, rfl, ?_⟩; have n0_ := Aside0.mk (blk_below (g := gb545) RFn.blk hb); have n1_ := Aside0.mk (blk_below (g := gb546) RFn.blk hb); have n2_ := Aside0.mk (blk_below (g := gb547) RFn.blk hb); have n3_ := Aside0.mk (below_step RFn.bels hb); clear BK545; clear BK546; clear BK547; clear HB; have BK545 := n0_; have BK546 := n1_; have BK547 := n2_; have HB := n3_; clear n0_ n1_ n2_ n3_; (try clear hb); (try clear hb2); (try clear hk); (try clear hi)))
      go_ret
      exact ⟨by first | rfl | (simp [errW_none, errW_some] <;> rfl) | (simp [*, errW_none, errW_some] <;> rfl), RFn.bels⟩
  ·replace c7 := Bool.eq_false_iff.mpr c7
   subst c7
   have H1 : (some true) = some r := by rw [if_neg (show ¬ (false = true) by decide)] at H; exact H
   clear H
   have H := H1
   clear H1
   obtain rfl := Option.some.inj H
   go_enter Try.func8, Try.ntmps8
   go_wp2_with (first | ((with_reducible refine gate_dst (N := 3) rfl ?_); refine box_event ?hg (N := 3) ?hd (cs := #[.string a0_0, .string a0_1, .string a0_2, .string a0_3, .int .i64 a0_4]) (t := 24) ?hr ?_; (case hd => rfl); (case hg => rfl); (case hr => first | (go_simp; done) | (go_simp; rfl)); intro gb545 hg w136 hbox hb; have n0_ := Aside0.mk (below_step (RFn.bel) hb); have n1_ := Aside0.mk (hbox); have n2_ := Aside0.mk ((by rw [hg]; exact (below_size (RFn.bel)) : w.heap.size ≤ gb545)); have n3_ := Aside0.mk ((by rw [hg]; exact (below_size (RFn.bel)) : w.heap.size ≤ gb545)); clear HB; have HB := n0_; have BK545 := n1_; have GW545 := n2_; have GE545 := n3_; clear n0_ n1_ n2_ n3_; clear hb hbox hg) | ((with_reducible refine gate_dst (N := 4) rfl ?_); refine box_event ?hg (N := 4) ?hd (cs := #[.string a1_0, .string a1_1, .string a1_2, .string a1_3, .int .i64 a1_4]) (t := 24) ?hr ?_; (case hd => rfl); (case hg => rfl); (case hr => first | (go_simp; done) | (go_simp; rfl)); intro gb546 hg w137 hbox hb; have n0_ := Aside0.mk (blk_below (g := gb545) RFn.blk hb); have n1_ := Aside0.mk (below_step RFn.bels hb); have n2_ := Aside0.mk (hbox); have n3_ := Aside0.mk ((by rw [hg]; exact (below_size RFn.bels) : w.heap.size ≤ gb546)); have n4_ := Aside0.mk ((by rw [hg]; exact (below_size RFn.bels) : w.heap.size ≤ gb546)); have n5_ := Aside0.mk ((by rw [hg]; exact Nat.ne_of_lt (blk_lt (g := gb545) RFn.blk) : gb545 ≠ gb546)); have n6_ := Aside0.mk ((by rw [hg]; exact Nat.ne_of_gt (blk_lt (g := gb545) RFn.blk) : gb546 ≠ gb545)); clear BK545; clear HB; have BK545 := n0_; have HB := n1_; have BK546 := n2_; have GW546 := n3_; have GE546 := n4_; have NB545_546 := n5_; have NB546_545 := n6_; clear n0_ n1_ n2_ n3_ n4_ n5_ n6_; clear hb hbox hg) | ((with_reducible refine gate_dst (N := 5) rfl ?_); refine box_event ?hg (N := 5) ?hd (cs := #[.string a2_0, .string a2_1, .string a2_2, .string a2_3, .int .i64 a2_4]) (t := 24) ?hr ?_; (case hd => rfl); (case hg => rfl); (case hr => first | (go_simp; done) | (go_simp; rfl)); intro gb547 hg w138 hbox hb; have n0_ := Aside0.mk (blk_below (g := gb545) RFn.blk hb); have n1_ := Aside0.mk (blk_below (g := gb546) RFn.blk hb); have n2_ := Aside0.mk (below_step RFn.bels hb); have n3_ := Aside0.mk (hbox); have n4_ := Aside0.mk ((by rw [hg]; exact (below_size RFn.bels) : w.heap.size ≤ gb547)); have n5_ := Aside0.mk ((by rw [hg]; exact (below_size RFn.bels) : w.heap.size ≤ gb547)); have n6_ := Aside0.mk ((by rw [hg]; exact Nat.ne_of_lt (blk_lt (g := gb545) RFn.blk) : gb545 ≠ gb547)); have n7_ := Aside0.mk ((by rw [hg]; exact Nat.ne_of_gt (blk_lt (g := gb545) RFn.blk) : gb547 ≠ gb545)); have n8_ := Aside0.mk ((by rw [hg]; exact Nat.ne_of_lt (blk_lt (g := gb546) RFn.blk) : gb546 ≠ gb547)); have n9_ := Aside0.mk ((by rw [hg]; exact Nat.ne_of_gt (blk_lt (g := gb546) RFn.blk) : gb547 ≠ gb546)); clear BK545; clear BK546; clear HB; have BK545 := n0_; have BK546 := n1_; have HB := n2_; have BK547 := n3_; have GW547 := n4_; have GE547 := n5_; have NB545_547 := n6_; have NB547_545 := n7_; have NB546_547 := n8_; have NB547_546 := n9_; clear n0_ n1_ n2_ n3_ n4_ n5_ n6_ n7_ n8_ n9_; clear hb hbox hg) | ((with_reducible refine gate_callee (f := 10) rfl ?_); refine RFn.goesM (some 10) Try.func10 #[] rfl ?_; (with_reducible refine (law09_alive.calls k  true _ A4.out).mono ?_); rintro e w139 ⟨rfl, hb⟩; refine ⟨_, rfl, ?_⟩; have n0_ := Aside0.mk (blk_below (g := gb545) RFn.blk hb); have n1_ := Aside0.mk (blk_below (g := gb546) RFn.blk hb); have n2_ := Aside0.mk (blk_below (g := gb547) RFn.blk hb); have n3_ := Aside0.mk (below_step RFn.bels hb); clear BK545; clear BK546; clear BK547; clear HB; have BK545 := n0_; have BK546 := n1_; have BK547 := n2_; have HB := n3_; clear n0_ n1_ n2_ n3_; (try clear hb); (try clear hb2); (try clear hk); (try clear hi); have hnb140 := NB545_546.out; have hnc140 := NB546_545.out; have hnb141 := NB545_547.out; have hnc141 := NB547_545.out; have hcz142_0 : w139.cell? ⟨gb545, 0, none⟩ = some (.string a0_0) := (blk_cell BK545.out 0).trans rfl; have hcz142_1 : w139.cell? ⟨gb545, 1, none⟩ = some (.string a0_1) := (blk_cell BK545.out 1).trans rfl; have hcz142_2 : w139.cell? ⟨gb545, 2, none⟩ = some (.string a0_2) := (blk_cell BK545.out 2).trans rfl; have hcz142_3 : w139.cell? ⟨gb545, 3, none⟩ = some (.string a0_3) := (blk_cell BK545.out 3).trans rfl; have hcz142_4 : w139.cell? ⟨gb545, 4, none⟩ = some (.int .i64 a0_4) := (blk_cell BK545.out 4).trans rfl; have hfz142_0 := blk_frozen BK545.out 0; have hfz142_1 := blk_frozen BK545.out 1; have hfz142_2 := blk_frozen BK545.out 2; have hfz142_3 := blk_frozen BK545.out 3; have hfz142_4 := blk_frozen BK545.out 4; have hnb143 := NB546_547.out; have hnc143 := NB547_546.out; have hcz144_0 : w139.cell? ⟨gb546, 0, none⟩ = some (.string a1_0) := (blk_cell BK546.out 0).trans rfl; have hcz144_1 : w139.cell? ⟨gb546, 1, none⟩ = some (.string a1_1) := (blk_cell BK546.out 1).trans rfl; have hcz144_2 : w139.cell? ⟨gb546, 2, none⟩ = some (.string a1_2) := (blk_cell BK546.out 2).trans rfl; have hcz144_3 : w139.cell? ⟨gb546, 3, none⟩ = some (.string a1_3) := (blk_cell BK546.out 3).trans rfl; have hcz144_4 : w139.cell? ⟨gb546, 4, none⟩ = some (.int .i64 a1_4) := (blk_cell BK546.out 4).trans rfl; have hfz144_0 := blk_frozen BK546.out 0; have hfz144_1 := blk_frozen BK546.out 1; have hfz144_2 := blk_frozen BK546.out 2; have hfz144_3 := blk_frozen BK546.out 3; have hfz144_4 := blk_frozen BK546.out 4; have hcz145_0 : w139.cell? ⟨gb547, 0, none⟩ = some (.string a2_0) := (blk_cell BK547.out 0).trans rfl; have hcz145_1 : w139.cell? ⟨gb547, 1, none⟩ = some (.string a2_1) := (blk_cell BK547.out 1).trans rfl; have hcz145_2 : w139.cell? ⟨gb547, 2, none⟩ = some (.string a2_2) := (blk_cell BK547.out 2).trans rfl; have hcz145_3 : w139.cell? ⟨gb547, 3, none⟩ = some (.string a2_3) := (blk_cell BK547.out 3).trans rfl; have hcz145_4 : w139.cell? ⟨gb547, 4, none⟩ = some (.int .i64 a2_4) := (blk_cell BK547.out 4).trans rfl; have hfz145_0 := blk_frozen BK547.out 0; have hfz145_1 := blk_frozen BK547.out 1; have hfz145_2 := blk_frozen BK547.out 2; have hfz145_3 := blk_frozen BK547.out 3; have hfz145_4 := blk_frozen BK547.out 4) | ((with_reducible refine gate_dst (N := 18) rfl ?_); refine Kd.R_lit k28 _ 28 ?hg (N := 18) ?hd (xs := ([(⟨(⟨a0_0, a0_1, a0_2, a0_3, a0_4⟩ : S24), 0⟩ : S28), (⟨(⟨a1_0, a1_1, a1_2, a1_3, a1_4⟩ : S24), 0⟩ : S28), (⟨(⟨a2_0, a2_1, a2_2, a2_3, a2_4⟩ : S24), 0⟩ : S28)] : List (S28))) (inner := [.string a0_0, .string a0_1, .string a0_2, .string a0_3, .int .i64 a0_4, .int .i64 0, .string a1_0, .string a1_1, .string a1_2, .string a1_3, .int .i64 a1_4, .int .i64 0, .string a2_0, .string a2_1, .string a2_2, .string a2_3, .int .i64 a2_4, .int .i64 0]) (ok := fun _ => True) (okp := fun _ => True) ?hr ?hp (fun _ hk => hk) trivial (Below.refl _ _) (Nat.le_refl _) (by simp) ?_; (case hd => rfl); (case hg => rfl); (case hr => first | (go_simp; done) | (go_simp; rfl)); (case hp => exact (Reps.c6 (show Kd.M k28 _ _ _ (⟨(⟨a0_0, a0_1, a0_2, a0_3, a0_4⟩ : S24), 0⟩ : S28) [.string a0_0, .string a0_1, .string a0_2, .string a0_3, .int .i64 a0_4, .int .i64 0] from (k28_mkM _ _ _ (⟨(⟨a0_0, a0_1, a0_2, a0_3, a0_4⟩ : S24), 0⟩ : S28) )) (Reps.c6 (show Kd.M k28 _ _ _ (⟨(⟨a1_0, a1_1, a1_2, a1_3, a1_4⟩ : S24), 0⟩ : S28) [.string a1_0, .string a1_1, .string a1_2, .string a1_3, .int .i64 a1_4, .int .i64 0] from (k28_mkM _ _ _ (⟨(⟨a1_0, a1_1, a1_2, a1_3, a1_4⟩ : S24), 0⟩ : S28) )) (Reps.c6 (show Kd.M k28 _ _ _ (⟨(⟨a2_0, a2_1, a2_2, a2_3, a2_4⟩ : S24), 0⟩ : S28) [.string a2_0, .string a2_1, .string a2_2, .string a2_3, .int .i64 a2_4, .int .i64 0] from (k28_mkM _ _ _ (⟨(⟨a2_0, a2_1, a2_2, a2_3, a2_4⟩ : S24), 0⟩ : S28) )) (Reps.none _ _))))); intro v550 w146 ho147 hb hg_ hnew_; clear hg_ hnew_; (first | rw [← Ny549.out] at ho147 | (simp only [Int.reduceToNat] at ho147; rw [← Ny549.out] at ho147)); have n0_ := Aside0.mk (Kd.R_lower ho147 (below_size RFn.bels)); have n1_ := Aside0.mk (blk_below (g := gb545) RFn.blk hb); have n2_ := Aside0.mk (blk_below (g := gb546) RFn.blk hb); have n3_ := Aside0.mk (blk_below (g := gb547) RFn.blk hb); have n4_ := Aside0.mk (below_step RFn.bels hb); clear BK545; clear BK546; clear BK547; clear HB; have HO551 := n0_; have BK545 := n1_; have BK546 := n2_; have BK547 := n3_; have HB := n4_; clear n0_ n1_ n2_ n3_ n4_; clear hb ho147; obtain ⟨Ao148, co148, eo148⟩ := Kd.R_slice HO551.out; subst eo148) | ((with_reducible refine gate_callee (f := 11) rfl ?_); refine RFn.goesM (some 19) Try.func11 #[.slice Ao148 y549.length co148] rfl ?_; (with_reducible refine (law09_Few.calls k _ _ y549 false _ ?side1 ?side2 A6.out).mono ?_); (case side1 => exact RFn.mC (Kd.R_reads' HO551.out).2.2); (case side2 => exact (Kd.R_reads' HO551.out).2.1); rintro e w149 ⟨rfl, hb⟩; refine ⟨_, rfl, ?_⟩; have n0_ := Aside0.mk (Kd.R_below (RFn.mR HO551) hb); have n1_ := Aside0.mk (blk_below (g := gb545) RFn.blk hb); have n2_ := Aside0.mk (blk_below (g := gb546) RFn.blk hb); have n3_ := Aside0.mk (blk_below (g := gb547) RFn.blk hb); have n4_ := Aside0.mk (below_step RFn.bels hb); clear HO551; clear BK545; clear BK546; clear BK547; clear HB; have HO551 := n0_; have BK545 := n1_; have BK546 := n2_; have BK547 := n3_; have HB := n4_; clear n0_ n1_ n2_ n3_ n4_; (try clear hb); (try clear hb2); (try clear hk); (try clear hi)))
   go_ret
   exact ⟨by first | rfl | (simp [errW_none, errW_some] <;> rfl) | (simp [*, errW_none, errW_some] <;> rfl), RFn.bels⟩
 ·replace c5 := Bool.eq_false_iff.mpr c5
  subst c5
  have H1 : (some false) = some r := by rw [if_neg (show ¬ (false = true) by decide)] at H; exact H
  clear H
  have H := H1
  clear H1
  obtain rfl := Option.some.inj H
  go_enter Try.func8, Try.ntmps8
  go_wp2_with (first | ((with_reducible refine gate_dst (N := 3) rfl ?_); refine box_event ?hg (N := 3) ?hd (cs := #[.string a0_0, .string a0_1, .string a0_2, .string a0_3, .int .i64 a0_4]) (t := 24) ?hr ?_; (case hd => rfl); (case hg => rfl); (case hr => first | (go_simp; done) | (go_simp; rfl)); intro gb545 hg w150 hbox hb; have n0_ := Aside0.mk (below_step (RFn.bel) hb); have n1_ := Aside0.mk (hbox); have n2_ := Aside0.mk ((by rw [hg]; exact (below_size (RFn.bel)) : w.heap.size ≤ gb545)); have n3_ := Aside0.mk ((by rw [hg]; exact (below_size (RFn.bel)) : w.heap.size ≤ gb545)); clear HB; have HB := n0_; have BK545 := n1_; have GW545 := n2_; have GE545 := n3_; clear n0_ n1_ n2_ n3_; clear hb hbox hg) | ((with_reducible refine gate_dst (N := 4) rfl ?_); refine box_event ?hg (N := 4) ?hd (cs := #[.string a1_0, .string a1_1, .string a1_2, .string a1_3, .int .i64 a1_4]) (t := 24) ?hr ?_; (case hd => rfl); (case hg => rfl); (case hr => first | (go_simp; done) | (go_simp; rfl)); intro gb546 hg w151 hbox hb; have n0_ := Aside0.mk (blk_below (g := gb545) RFn.blk hb); have n1_ := Aside0.mk (below_step RFn.bels hb); have n2_ := Aside0.mk (hbox); have n3_ := Aside0.mk ((by rw [hg]; exact (below_size RFn.bels) : w.heap.size ≤ gb546)); have n4_ := Aside0.mk ((by rw [hg]; exact (below_size RFn.bels) : w.heap.size ≤ gb546)); have n5_ := Aside0.mk ((by rw [hg]; exact Nat.ne_of_lt (blk_lt (g := gb545) RFn.blk) : gb545 ≠ gb546)); have n6_ := Aside0.mk ((by rw [hg]; exact Nat.ne_of_gt (blk_lt (g := gb545) RFn.blk) : gb546 ≠ gb545)); clear BK545; clear HB; have BK545 := n0_; have HB := n1_; have BK546 := n2_; have GW546 := n3_; have GE546 := n4_; have NB545_546 := n5_; have NB546_545 := n6_; clear n0_ n1_ n2_ n3_ n4_ n5_ n6_; clear hb hbox hg) | ((with_reducible refine gate_dst (N := 5) rfl ?_); refine box_event ?hg (N := 5) ?hd (cs := #[.string a2_0, .string a2_1, .string a2_2, .string a2_3, .int .i64 a2_4]) (t := 24) ?hr ?_; (case hd => rfl); (case hg => rfl); (case hr => first | (go_simp; done) | (go_simp; rfl)); intro gb547 hg w152 hbox hb; have n0_ := Aside0.mk (blk_below (g := gb545) RFn.blk hb); have n1_ := Aside0.mk (blk_below (g := gb546) RFn.blk hb); have n2_ := Aside0.mk (below_step RFn.bels hb); have n3_ := Aside0.mk (hbox); have n4_ := Aside0.mk ((by rw [hg]; exact (below_size RFn.bels) : w.heap.size ≤ gb547)); have n5_ := Aside0.mk ((by rw [hg]; exact (below_size RFn.bels) : w.heap.size ≤ gb547)); have n6_ := Aside0.mk ((by rw [hg]; exact Nat.ne_of_lt (blk_lt (g := gb545) RFn.blk) : gb545 ≠ gb547)); have n7_ := Aside0.mk ((by rw [hg]; exact Nat.ne_of_gt (blk_lt (g := gb545) RFn.blk) : gb547 ≠ gb545)); have n8_ := Aside0.mk ((by rw [hg]; exact Nat.ne_of_lt (blk_lt (g := gb546) RFn.blk) : gb546 ≠ gb547)); have n9_ := Aside0.mk ((by rw [hg]; exact Nat.ne_of_gt (blk_lt (g := gb546) RFn.blk) : gb547 ≠ gb546)); clear BK545; clear BK546; clear HB; have BK545 := n0_; have BK546 := n1_; have HB := n2_; have BK547 := n3_; have GW547 := n4_; have GE547 := n5_; have NB545_547 := n6_; have NB547_545 := n7_; have NB546_547 := n8_; have NB547_546 := n9_; clear n0_ n1_ n2_ n3_ n4_ n5_ n6_ n7_ n8_ n9_; clear hb hbox hg) | ((with_reducible refine gate_callee (f := 10) rfl ?_); refine RFn.goesM (some 10) Try.func10 #[] rfl ?_; (with_reducible refine (law09_alive.calls k  false _ A4.out).mono ?_); rintro e w153 ⟨rfl, hb⟩; refine ⟨_, rfl, ?_⟩; have n0_ := Aside0.mk (blk_below (g := gb545) RFn.blk hb); have n1_ := Aside0.mk (blk_below (g := gb546) RFn.blk hb); have n2_ := Aside0.mk (blk_below (g := gb547) RFn.blk hb); have n3_ := Aside0.mk (below_step RFn.bels hb); clear BK545; clear BK546; clear BK547; clear HB; have BK545 := n0_; have BK546 := n1_; have BK547 := n2_; have HB := n3_; clear n0_ n1_ n2_ n3_; (try clear hb); (try clear hb2); (try clear hk); (try clear hi)))
  go_ret
  exact ⟨by first | rfl | (simp [errW_none, errW_some] <;> rfl) | (simp [*, errW_none, errW_some] <;> rfl), RFn.bels⟩

/-- THE ONE PURE STATEMENT of law09_FactKeys: ours. -/
def law09_FactKeys.Pure : Prop := ∀ (a0_0 : ByteArray) (a0_1 : ByteArray) (a0_2 : ByteArray) (a0_3 : ByteArray) (a0_4 : Int) (a1_0 : ByteArray) (a1_1 : ByteArray) (a1_2 : ByteArray) (a1_3 : ByteArray) (a1_4 : Int) (a2_0 : ByteArray) (a2_1 : ByteArray) (a2_2 : ByteArray) (a2_3 : ByteArray) (a2_4 : Int), a0_0.size ≤ 9223372036854775807 → a0_1.size ≤ 9223372036854775807 → a0_2.size ≤ 9223372036854775807 → a0_3.size ≤ 9223372036854775807 → (Lit.int .i64 a0_4).wf = true → a1_0.size ≤ 9223372036854775807 → a1_1.size ≤ 9223372036854775807 → a1_2.size ≤ 9223372036854775807 → a1_3.size ≤ 9223372036854775807 → (Lit.int .i64 a1_4).wf = true → a2_0.size ≤ 9223372036854775807 → a2_1.size ≤ 9223372036854775807 → a2_2.size ≤ 9223372036854775807 → a2_3.size ≤ 9223372036854775807 → (Lit.int .i64 a2_4).wf = true → ∃ k, law09_FactKeys.f k a0_0 a0_1 a0_2 a0_3 a0_4 a1_0 a1_1 a1_2 a1_3 a1_4 a2_0 a2_1 a2_2 a2_3 a2_4 = some true

end Go.Proofs.Ytgheapbhakamaaa.Q
