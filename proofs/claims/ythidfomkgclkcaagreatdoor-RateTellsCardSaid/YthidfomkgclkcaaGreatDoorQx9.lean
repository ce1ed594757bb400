/- printed by a program of this session (wip/tools/pr.sh): it is not a print of the kit -/
import Derived.Test.YthidfomkgclkcaaGreatDoorQx0
import Derived.Test.YthidfomkgclkcaaGreatDoorQx2
import Derived.Test.YthidfomkgclkcaaGreatDoorQx7
import Derived.Test.YthidfomkgclkcaaGreatDoorQx8
namespace Go.Proofs.YthidfomkgclkcaaGreatDoor.Q
open Go.RowKit Go.Proofs.YthidfomkgclkcaaGreatDoorW.PrintWords Go.Proofs.YthidfomkgclkcaaGreatDoorW.PrintLast Go.Proofs.YthidfomkgclkcaaGreatDoorW.PrintMore
attribute [local go_sem] max2_int min2_int max_two min_two max_three min_three max_four min_four   -- for this text's walks alone
set_option linter.unusedVariables false
set_option linter.unusedSimpArgs false

attribute [local go_sem high] eqA67
/-! ### ref02_below: function 39 -/
def ref02_below.f (a0 : Bool) (a1_0 : Int) (a1_1 : Int) (a2 : Bool) (a3_0 : Int) (a3_1 : Int) : Option (Bool) := if (a0 != a2) = true then (some a0) else (if a0 = true then ((ref02_less.f a3_0 a3_1 a1_0 a1_1).bind fun t257 => (some t257)) else ((ref02_less.f a1_0 a1_1 a3_0 a3_1).bind fun t258 => (some t258)))
set_option maxHeartbeats 8000000 in
set_option maxRecDepth 100000 in
theorem ref02_below.calls (a0 : Bool) (a1_0 : Int) (a1_1 : Int) (a2 : Bool) (a3_0 : Int) (a3_1 : Int) (r : Bool) (w : World) (h : ref02_below.f a0 a1_0 a1_1 a2 a3_0 a3_1 = some r) :
  Calls Tryz.prog 39 #[.bool a0, .agg #[.int .u64 a1_0, .int .u64 a1_1], .bool a2, .agg #[.int .u64 a3_0, .int .u64 a3_1]] w fun e w' => e = .returned (.bool r) ∧ Below w.heap.size w w' := by
 have hu67 := Tryz.underlying67
 have HB := Aside0.mk (Below.refl w.heap.size w)
 have H : (if (a0 != a2) = true then (some a0) else (if a0 = true then ((ref02_less.f a3_0 a3_1 a1_0 a1_1).bind fun t257 => (some t257)) else ((ref02_less.f a1_0 a1_1 a3_0 a3_1).bind fun t258 => (some t258)))) = some r := h
 clear h
 by_cases c5 : (a0 != a2) = true
 ·rw [if_pos c5] at H
  have c5b0 : (a0 != a2) = true := c5
  (try (have c5b1 : decide (a0 = a2) = false := by simpa using c5))
  (try (have c5b2 : (a0 == a2) = false := by simpa using c5))
  (try (have c5b3 : ¬ (a0 = a2) := by simpa using c5))
  clear c5
  obtain rfl := Option.some.inj H
  go_enter Tryz.func39, Tryz.ntmps39
  go_wp2_with (first | ((with_reducible refine gate_dst (N := 5) rfl ?_); refine box_event ?hg (N := 5) ?hd (cs := #[.int .u64 a1_0, .int .u64 a1_1]) (t := 67) ?hr ?_; (case hd => rfl); (case hg => rfl); (case hr => first | (go_simp; done) | (go_simp; rfl)); intro gb255 hg w6 hbox hb; have n0_ := Aside0.mk (below_step (RFn.bel) hb); have n1_ := Aside0.mk (hbox); have n2_ := Aside0.mk ((by rw [hg]; exact (below_size (RFn.bel)) : w.heap.size ≤ gb255)); have n3_ := Aside0.mk ((by rw [hg]; exact (below_size (RFn.bel)) : w.heap.size ≤ gb255)); clear HB; have HB := n0_; have BK255 := n1_; have GW255 := n2_; have GE255 := n3_; clear n0_ n1_ n2_ n3_; clear hb hbox hg) | ((with_reducible refine gate_dst (N := 7) rfl ?_); refine box_event ?hg (N := 7) ?hd (cs := #[.int .u64 a3_0, .int .u64 a3_1]) (t := 67) ?hr ?_; (case hd => rfl); (case hg => rfl); (case hr => first | (go_simp; done) | (go_simp; rfl)); intro gb256 hg w7 hbox hb; have n0_ := Aside0.mk (blk_below (g := gb255) (o := .cells #[.int .u64 a1_0, .int .u64 a1_1] 67 (0, 0)) (by (with_reducible repeat (first | refine blk_drewN ?_ _ | refine blk_drew ?_ | refine blk_alloc ?_ _)); exact BK255.out) hb); have n1_ := Aside0.mk (below_step RFn.bels hb); have n2_ := Aside0.mk (hbox); have n3_ := Aside0.mk ((by rw [hg]; exact (below_size RFn.bels) : w.heap.size ≤ gb256)); have n4_ := Aside0.mk ((by rw [hg]; exact (below_size RFn.bels) : w.heap.size ≤ gb256)); have n5_ := Aside0.mk ((by rw [hg]; exact Nat.ne_of_lt (blk_lt (g := gb255) (o := .cells #[.int .u64 a1_0, .int .u64 a1_1] 67 (0, 0)) (by (with_reducible repeat (first | refine blk_drewN ?_ _ | refine blk_drew ?_ | refine blk_alloc ?_ _)); exact BK255.out)) : gb255 ≠ gb256)); have n6_ := Aside0.mk ((by rw [hg]; exact Nat.ne_of_gt (blk_lt (g := gb255) (o := .cells #[.int .u64 a1_0, .int .u64 a1_1] 67 (0, 0)) (by (with_reducible repeat (first | refine blk_drewN ?_ _ | refine blk_drew ?_ | refine blk_alloc ?_ _)); exact BK255.out)) : gb256 ≠ gb255)); clear BK255; clear HB; have BK255 := n0_; have HB := n1_; have BK256 := n2_; have GW256 := n3_; have GE256 := n4_; have NB255_256 := n5_; have NB256_255 := n6_; clear n0_ n1_ n2_ n3_ n4_ n5_ n6_; clear hb hbox hg))
  go_ret
  exact ⟨by first | rfl | (simp [errW_none, errW_some] <;> rfl) | (simp [*, errW_none, errW_some] <;> rfl), RFn.bels⟩
 ·rw [if_neg c5] at H
  have c5b0 : (a0 != a2) = false := by simpa using c5
  (try (have c5b1 : decide (a0 = a2) = true := by simpa using c5))
  (try (have c5b2 : (a0 == a2) = true := by simpa using c5))
  clear c5
  by_cases c8 : a0 = true
  ·subst c8
   have H1 : ((ref02_less.f a3_0 a3_1 a1_0 a1_1).bind fun t257 => (some t257)) = some r := by rw [if_pos rfl] at H; exact H
   clear H
   have H := H1
   clear H1
   replace H := Option.bind_eq_some_iff.mp H
   obtain ⟨t257, A90, H⟩ := H
   replace H : (some t257) = some r := H
   have A9 := Aside0.mk A90
   clear A90
   obtain rfl := Option.some.inj H
   go_enter Tryz.func39, Tryz.ntmps39
   go_wp2_with (first | ((with_reducible refine gate_dst (N := 5) rfl ?_); refine box_event ?hg (N := 5) ?hd (cs := #[.int .u64 a1_0, .int .u64 a1_1]) (t := 67) ?hr ?_; (case hd => rfl); (case hg => rfl); (case hr => first | (go_simp; done) | (go_simp; rfl)); intro gb255 hg w10 hbox hb; have n0_ := Aside0.mk (below_step (RFn.bel) hb); have n1_ := Aside0.mk (hbox); have n2_ := Aside0.mk ((by rw [hg]; exact (below_size (RFn.bel)) : w.heap.size ≤ gb255)); have n3_ := Aside0.mk ((by rw [hg]; exact (below_size (RFn.bel)) : w.heap.size ≤ gb255)); clear HB; have HB := n0_; have BK255 := n1_; have GW255 := n2_; have GE255 := n3_; clear n0_ n1_ n2_ n3_; clear hb hbox hg) | ((with_reducible refine gate_dst (N := 7) rfl ?_); refine box_event ?hg (N := 7) ?hd (cs := #[.int .u64 a3_0, .int .u64 a3_1]) (t := 67) ?hr ?_; (case hd => rfl); (case hg => rfl); (case hr => first | (go_simp; done) | (go_simp; rfl)); intro gb256 hg w11 hbox hb; have n0_ := Aside0.mk (blk_below (g := gb255) (o := .cells #[.int .u64 a1_0, .int .u64 a1_1] 67 (0, 0)) (by (with_reducible repeat (first | refine blk_drewN ?_ _ | refine blk_drew ?_ | refine blk_alloc ?_ _)); exact BK255.out) hb); have n1_ := Aside0.mk (below_step RFn.bels hb); have n2_ := Aside0.mk (hbox); have n3_ := Aside0.mk ((by rw [hg]; exact (below_size RFn.bels) : w.heap.size ≤ gb256)); have n4_ := Aside0.mk ((by rw [hg]; exact (below_size RFn.bels) : w.heap.size ≤ gb256)); have n5_ := Aside0.mk ((by rw [hg]; exact Nat.ne_of_lt (blk_lt (g := gb255) (o := .cells #[.int .u64 a1_0, .int .u64 a1_1] 67 (0, 0)) (by (with_reducible repeat (first | refine blk_drewN ?_ _ | refine blk_drew ?_ | refine blk_alloc ?_ _)); exact BK255.out)) : gb255 ≠ gb256)); have n6_ := Aside0.mk ((by rw [hg]; exact Nat.ne_of_gt (blk_lt (g := gb255) (o := .cells #[.int .u64 a1_0, .int .u64 a1_1] 67 (0, 0)) (by (with_reducible repeat (first | refine blk_drewN ?_ _ | refine blk_drew ?_ | refine blk_alloc ?_ _)); exact BK255.out)) : gb256 ≠ gb255)); clear BK255; clear HB; have BK255 := n0_; have HB := n1_; have BK256 := n2_; have GW256 := n3_; have GE256 := n4_; have NB255_256 := n5_; have NB256_255 := n6_; clear n0_ n1_ n2_ n3_ n4_ n5_ n6_; clear hb hbox hg; have hnb12 := NB256_255.out; have hnc12 := NB255_256.out; have hcz13_0 : w11.cell? ⟨gb256, 0, none⟩ = some (.int .u64 a3_0) := (blk_cell BK256.out 0).trans rfl; have hcz13_1 : w11.cell? ⟨gb256, 1, none⟩ = some (.int .u64 a3_1) := (blk_cell BK256.out 1).trans rfl; have hfz13_0 := blk_frozen BK256.out 0; have hfz13_1 := blk_frozen BK256.out 1; have hcz14_0 : w11.cell? ⟨gb255, 0, none⟩ = some (.int .u64 a1_0) := (blk_cell BK255.out 0).trans rfl; have hcz14_1 : w11.cell? ⟨gb255, 1, none⟩ = some (.int .u64 a1_1) := (blk_cell BK255.out 1).trans rfl; have hfz14_0 := blk_frozen BK255.out 0; have hfz14_1 := blk_frozen BK255.out 1) | ((with_reducible refine gate_callee (f := 52) rfl ?_); refine RFn.goesM (some 16) Tryz.func52 #[.agg #[.int .u64 a3_0, .int .u64 a3_1], .agg #[.int .u64 a1_0, .int .u64 a1_1]] rfl ?_; (with_reducible refine (ref02_less.calls a3_0 a3_1 a1_0 a1_1 t257 _ A9.out).mono ?_); rintro e w15 ⟨rfl, hb⟩; refine ⟨_, rfl, ?_⟩; have n0_ := Aside0.mk (blk_below (g := gb255) (o := .cells #[.int .u64 a1_0, .int .u64 a1_1] 67 (0, 0)) (by (with_reducible repeat (first | refine blk_drewN ?_ _ | refine blk_drew ?_ | refine blk_alloc ?_ _)); exact BK255.out) hb); have n1_ := Aside0.mk (blk_below (g := gb256) (o := .cells #[.int .u64 a3_0, .int .u64 a3_1] 67 (0, 0)) (by (with_reducible repeat (first | refine blk_drewN ?_ _ | refine blk_drew ?_ | refine blk_alloc ?_ _)); exact BK256.out) hb); have n2_ := Aside0.mk (below_step RFn.bels hb); clear BK255; clear BK256; clear HB; have BK255 := n0_; have BK256 := n1_; have HB := n2_; clear n0_ n1_ n2_; (try clear hb); (try clear hb2); (try clear hk); (try clear hi)))
   go_ret
   exact ⟨by first | rfl | (simp [errW_none, errW_some] <;> rfl) | (simp [*, errW_none, errW_some] <;> rfl), RFn.bels⟩
  ·replace c8 := Bool.eq_false_iff.mpr c8
   subst c8
   have H1 : ((ref02_less.f a1_0 a1_1 a3_0 a3_1).bind fun t258 => (some t258)) = some r := by rw [if_neg (show ¬ (false = true) by decide)] at H; exact H
   clear H
   have H := H1
   clear H1
   replace H := Option.bind_eq_some_iff.mp H
   obtain ⟨t258, A160, H⟩ := H
   replace H : (some t258) = some r := H
   have A16 := Aside0.mk A160
   clear A160
   obtain rfl := Option.some.inj H
   go_enter Tryz.func39, Tryz.ntmps39
   go_wp2_with (first | ((with_reducible refine gate_dst (N := 5) rfl ?_); refine box_event ?hg (N := 5) ?hd (cs := #[.int .u64 a1_0, .int .u64 a1_1]) (t := 67) ?hr ?_; (case hd => rfl); (case hg => rfl); (case hr => first | (go_simp; done) | (go_simp; rfl)); intro gb255 hg w17 hbox hb; have n0_ := Aside0.mk (below_step (RFn.bel) hb); have n1_ := Aside0.mk (hbox); have n2_ := Aside0.mk ((by rw [hg]; exact (below_size (RFn.bel)) : w.heap.size ≤ gb255)); have n3_ := Aside0.mk ((by rw [hg]; exact (below_size (RFn.bel)) : w.heap.size ≤ gb255)); clear HB; have HB := n0_; have BK255 := n1_; have GW255 := n2_; have GE255 := n3_; clear n0_ n1_ n2_ n3_; clear hb hbox hg) | ((with_reducible refine gate_dst (N := 7) rfl ?_); refine box_event ?hg (N := 7) ?hd (cs := #[.int .u64 a3_0, .int .u64 a3_1]) (t := 67) ?hr ?_; (case hd => rfl); (case hg => rfl); (case hr => first | (go_simp; done) | (go_simp; rfl)); intro gb256 hg w18 hbox hb; have n0_ := Aside0.mk (blk_below (g := gb255) (o := .cells #[.int .u64 a1_0, .int .u64 a1_1] 67 (0, 0)) (by (with_reducible repeat (first | refine blk_drewN ?_ _ | refine blk_drew ?_ | refine blk_alloc ?_ _)); exact BK255.out) hb); have n1_ := Aside0.mk (below_step RFn.bels hb); have n2_ := Aside0.mk (hbox); have n3_ := Aside0.mk ((by rw [hg]; exact (below_size RFn.bels) : w.heap.size ≤ gb256)); have n4_ := Aside0.mk ((by rw [hg]; exact (below_size RFn.bels) : w.heap.size ≤ gb256)); have n5_ := Aside0.mk ((by rw [hg]; exact Nat.ne_of_lt (blk_lt (g := gb255) (o := .cells #[.int .u64 a1_0, .int .u64 a1_1] 67 (0, 0)) (by (with_reducible repeat (first | refine blk_drewN ?_ _ | refine blk_drew ?_ | refine blk_alloc ?_ _)); exact BK255.out)) : gb255 ≠ gb256)); have n6_ := Aside0.mk ((by rw [hg]; exact Nat.ne_of_gt (blk_lt (g := gb255) (o := .cells #[.int .u64 a1_0, .int .u64 a1_1] 67 (0, 0)) (by (with_reducible repeat (first | refine blk_drewN ?_ _ | refine blk_drew ?_ | refine blk_alloc ?_ _)); exact BK255.out)) : gb256 ≠ gb255)); clear BK255; clear HB; have BK255 := n0_; have HB := n1_; have BK256 := n2_; have GW256 := n3_; have GE256 := n4_; have NB255_256 := n5_; have NB256_255 := n6_; clear n0_ n1_ n2_ n3_ n4_ n5_ n6_; clear hb hbox hg; have hnb19 := NB255_256.out; have hnc19 := NB256_255.out; have hcz20_0 : w18.cell? ⟨gb255, 0, none⟩ = some (.int .u64 a1_0) := (blk_cell BK255.out 0).trans rfl; have hcz20_1 : w18.cell? ⟨gb255, 1, none⟩ = some (.int .u64 a1_1) := (blk_cell BK255.out 1).trans rfl; have hfz20_0 := blk_frozen BK255.out 0; have hfz20_1 := blk_frozen BK255.out 1; have hcz21_0 : w18.cell? ⟨gb256, 0, none⟩ = some (.int .u64 a3_0) := (blk_cell BK256.out 0).trans rfl; have hcz21_1 : w18.cell? ⟨gb256, 1, none⟩ = some (.int .u64 a3_1) := (blk_cell BK256.out 1).trans rfl; have hfz21_0 := blk_frozen BK256.out 0; have hfz21_1 := blk_frozen BK256.out 1) | ((with_reducible refine gate_callee (f := 52) rfl ?_); refine RFn.goesM (some 19) Tryz.func52 #[.agg #[.int .u64 a1_0, .int .u64 a1_1], .agg #[.int .u64 a3_0, .int .u64 a3_1]] rfl ?_; (with_reducible refine (ref02_less.calls a1_0 a1_1 a3_0 a3_1 t258 _ A16.out).mono ?_); rintro e w22 ⟨rfl, hb⟩; refine ⟨_, rfl, ?_⟩; have n0_ := Aside0.mk (blk_below (g := gb255) (o := .cells #[.int .u64 a1_0, .int .u64 a1_1] 67 (0, 0)) (by (with_reducible repeat (first | refine blk_drewN ?_ _ | refine blk_drew ?_ | refine blk_alloc ?_ _)); exact BK255.out) hb); have n1_ := Aside0.mk (blk_below (g := gb256) (o := .cells #[.int .u64 a3_0, .int .u64 a3_1] 67 (0, 0)) (by (with_reducible repeat (first | refine blk_drewN ?_ _ | refine blk_drew ?_ | refine blk_alloc ?_ _)); exact BK256.out) hb); have n2_ := Aside0.mk (below_step RFn.bels hb); clear BK255; clear BK256; clear HB; have BK255 := n0_; have BK256 := n1_; have HB := n2_; clear n0_ n1_ n2_; (try clear hb); (try clear hb2); (try clear hk); (try clear hi)))
   go_ret
   exact ⟨by first | rfl | (simp [errW_none, errW_some] <;> rfl) | (simp [*, errW_none, errW_some] <;> rfl), RFn.bels⟩

/-! ### ref02_Cmp: function 22 -/
mutual
def ref02_Cmp.j0 : Nat → Int → Int → Bool → Int → Int → Int → Int → Option (Int)
 | 0, _, _, _, _, _, _, _ => none
 | k + 1, x2, x3, x11, x264000, x264001, x269000, x269001 => if ((decide (x2 < 0)) != (decide (x3 < 0))) = true then (ref02_Cmp.j1 k x11 (!(x269000 == 0) || (!(x269001 == 0))) x264000 x264001 x269000 x269001) else (ref02_Cmp.j1 k x11 false x264000 x264001 x269000 x269001)
def ref02_Cmp.j1 : Nat → Bool → Bool → Int → Int → Int → Int → Option (Int)
 | 0, _, _, _, _, _, _ => none
 | k + 1, x11, x12, x264000, x264001, x269000, x269001 => (ref02_below.f x11 x264000 x264001 x12 x269000 x269001).bind fun t269 => (if t269 = true then (some (-1)) else ((ref02_below.f x12 x269000 x269001 x11 x264000 x264001).bind fun t270 => (if t270 = true then (some 1) else (some 0))))
end
def ref02_Cmp.f (k : Nat) (a0 : Int) (a1 : Int) (a2 : Int) (a3 : Int) : Option (Int) := (ref02_size.f a0).bind fun t259 => ((ref02_size.f a1).bind fun t260 => ((ref02_times.f k t259 t260).bind fun bt261 => ((ref02_size.f a2).bind fun t264 => ((ref02_size.f a3).bind fun t265 => ((ref02_times.f k t264 t265).bind fun bt266 => (if ((decide (a0 < 0)) != (decide (a1 < 0))) = true then (ref02_Cmp.j0 k a2 a3 (!(bt261.1 == 0) || (!(bt261.2 == 0))) bt261.1 bt261.2 bt266.1 bt266.2) else (ref02_Cmp.j0 k a2 a3 false bt261.1 bt261.2 bt266.1 bt266.2)))))))
theorem ref02_Cmp.mono_l : ∀ k, (∀ y0 y1 y2 y3 y4 y5 y6, LeO (ref02_Cmp.j0 k y0 y1 y2 y3 y4 y5 y6) (ref02_Cmp.j0 (k + 1) y0 y1 y2 y3 y4 y5 y6)) ∧ (∀ y0 y1 y2 y3 y4 y5, LeO (ref02_Cmp.j1 k y0 y1 y2 y3 y4 y5) (ref02_Cmp.j1 (k + 1) y0 y1 y2 y3 y4 y5))
 | 0 => ⟨fun _ _ _ _ _ _ _ r h => by simp [ref02_Cmp.j0] at h, fun _ _ _ _ _ _ r h => by simp [ref02_Cmp.j1] at h⟩
 | k + 1 => by
  obtain ⟨ih0, ih1⟩ := ref02_Cmp.mono_l k
  refine ⟨?_, ?_⟩
  ·intro y0 y1 y2 y3 y4 y5 y6
   unfold ref02_Cmp.j0
   repeat' first
   | (with_reducible exact ih0 _ _ _ _ _ _ _)
   | (with_reducible exact ih1 _ _ _ _ _ _)
   | (with_reducible exact ref02_times.mono _ _ _)
   | (with_reducible exact LeO.refl _)
   | (with_reducible exact LeO.none _)
   | (with_reducible refine LeO.ite ?_ ?_)
   | (with_reducible refine LeO.bind ?_ (fun _ => ?_))
   | exact ih0 _ _ _ _ _ _ _
   | exact ih1 _ _ _ _ _ _
   | exact ref02_times.mono _ _ _
   | exact LeO.none _
   | refine LeO.ite ?_ ?_
   | refine LeO.bind ?_ (fun _ => ?_)
  ·intro y0 y1 y2 y3 y4 y5
   unfold ref02_Cmp.j1
   repeat' first
   | (with_reducible exact ih0 _ _ _ _ _ _ _)
   | (with_reducible exact ih1 _ _ _ _ _ _)
   | (with_reducible exact ref02_times.mono _ _ _)
   | (with_reducible exact LeO.refl _)
   | (with_reducible exact LeO.none _)
   | (with_reducible refine LeO.ite ?_ ?_)
   | (with_reducible refine LeO.bind ?_ (fun _ => ?_))
   | exact ih0 _ _ _ _ _ _ _
   | exact ih1 _ _ _ _ _ _
   | exact ref02_times.mono _ _ _
   | exact LeO.none _
   | refine LeO.ite ?_ ?_
   | refine LeO.bind ?_ (fun _ => ?_)
theorem ref02_Cmp.mono : ∀ a0 a1 a2 a3 k, LeO (ref02_Cmp.f k a0 a1 a2 a3) (ref02_Cmp.f (k + 1) a0 a1 a2 a3) := by
 intro a0 a1 a2 a3 k
 obtain ⟨ih0, ih1⟩ := ref02_Cmp.mono_l k
 unfold ref02_Cmp.f
 repeat' first
   | (with_reducible exact ih0 _ _ _ _ _ _ _)
   | (with_reducible exact ih1 _ _ _ _ _ _)
   | (with_reducible exact ref02_times.mono _ _ _)
   | (with_reducible exact LeO.refl _)
   | (with_reducible exact LeO.none _)
   | (with_reducible refine LeO.ite ?_ ?_)
   | (with_reducible refine LeO.bind ?_ (fun _ => ?_))
   | exact ih0 _ _ _ _ _ _ _
   | exact ih1 _ _ _ _ _ _
   | exact ref02_times.mono _ _ _
   | exact LeO.none _
   | refine LeO.ite ?_ ?_
   | refine LeO.bind ?_ (fun _ => ?_)
set_option maxHeartbeats 8000000 in
set_option maxRecDepth 100000 in
theorem ref02_Cmp.calls (k : Nat) (a0 : Int) (a1 : Int) (a2 : Int) (a3 : Int) (r : Int) (w : World) (h : ref02_Cmp.f k a0 a1 a2 a3 = some r) :
  Calls Tryz.prog 22 #[.int .i64 a0, .int .i64 a1, .int .i64 a2, .int .i64 a3] w fun e w' => e = .returned (.int .i64 r) ∧ Below w.heap.size w w' := by
 have hu67 := Tryz.underlying67
 have HB := Aside0.mk (Below.refl w.heap.size w)
 have H : ((ref02_size.f a0).bind fun t259 => ((ref02_size.f a1).bind fun t260 => ((ref02_times.f k t259 t260).bind fun bt261 => ((ref02_size.f a2).bind fun t264 => ((ref02_size.f a3).bind fun t265 => ((ref02_times.f k t264 t265).bind fun bt266 => (if ((decide (a0 < 0)) != (decide (a1 < 0))) = true then (ref02_Cmp.j0 k a2 a3 (!(bt261.1 == 0) || (!(bt261.2 == 0))) bt261.1 bt261.2 bt266.1 bt266.2) else (ref02_Cmp.j0 k a2 a3 false bt261.1 bt261.2 bt266.1 bt266.2)))))))) = some r := h
 clear h
 replace H := Option.bind_eq_some_iff.mp H
 obtain ⟨t259, A50, H⟩ := H
 replace H : ((ref02_size.f a1).bind fun t260 => ((ref02_times.f k t259 t260).bind fun bt261 => ((ref02_size.f a2).bind fun t264 => ((ref02_size.f a3).bind fun t265 => ((ref02_times.f k t264 t265).bind fun bt266 => (if ((decide (a0 < 0)) != (decide (a1 < 0))) = true then (ref02_Cmp.j0 k a2 a3 (!(bt261.1 == 0) || (!(bt261.2 == 0))) bt261.1 bt261.2 bt266.1 bt266.2) else (ref02_Cmp.j0 k a2 a3 false bt261.1 bt261.2 bt266.1 bt266.2))))))) = some r := H
 have A5 := Aside0.mk A50
 clear A50
 replace H := Option.bind_eq_some_iff.mp H
 obtain ⟨t260, A60, H⟩ := H
 replace H : ((ref02_times.f k t259 t260).bind fun bt261 => ((ref02_size.f a2).bind fun t264 => ((ref02_size.f a3).bind fun t265 => ((ref02_times.f k t264 t265).bind fun bt266 => (if ((decide (a0 < 0)) != (decide (a1 < 0))) = true then (ref02_Cmp.j0 k a2 a3 (!(bt261.1 == 0) || (!(bt261.2 == 0))) bt261.1 bt261.2 bt266.1 bt266.2) else (ref02_Cmp.j0 k a2 a3 false bt261.1 bt261.2 bt266.1 bt266.2)))))) = some r := H
 have A6 := Aside0.mk A60
 clear A60
 replace H := Option.bind_eq_some_iff.mp H
 obtain ⟨⟨t261, t262⟩, A70, H⟩ := H
 replace H : ((ref02_size.f a2).bind fun t264 => ((ref02_size.f a3).bind fun t265 => ((ref02_times.f k t264 t265).bind fun bt266 => (if ((decide (a0 < 0)) != (decide (a1 < 0))) = true then (ref02_Cmp.j0 k a2 a3 (!(t261 == 0) || (!(t262 == 0))) t261 t262 bt266.1 bt266.2) else (ref02_Cmp.j0 k a2 a3 false t261 t262 bt266.1 bt266.2))))) = some r := H
 have A7 := Aside0.mk A70
 clear A70
 replace H := Option.bind_eq_some_iff.mp H
 obtain ⟨t264, A80, H⟩ := H
 replace H : ((ref02_size.f a3).bind fun t265 => ((ref02_times.f k t264 t265).bind fun bt266 => (if ((decide (a0 < 0)) != (decide (a1 < 0))) = true then (ref02_Cmp.j0 k a2 a3 (!(t261 == 0) || (!(t262 == 0))) t261 t262 bt266.1 bt266.2) else (ref02_Cmp.j0 k a2 a3 false t261 t262 bt266.1 bt266.2)))) = some r := H
 have A8 := Aside0.mk A80
 clear A80
 replace H := Option.bind_eq_some_iff.mp H
 obtain ⟨t265, A90, H⟩ := H
 replace H : ((ref02_times.f k t264 t265).bind fun bt266 => (if ((decide (a0 < 0)) != (decide (a1 < 0))) = true then (ref02_Cmp.j0 k a2 a3 (!(t261 == 0) || (!(t262 == 0))) t261 t262 bt266.1 bt266.2) else (ref02_Cmp.j0 k a2 a3 false t261 t262 bt266.1 bt266.2))) = some r := H
 have A9 := Aside0.mk A90
 clear A90
 replace H := Option.bind_eq_some_iff.mp H
 obtain ⟨⟨t266, t267⟩, A100, H⟩ := H
 replace H : (if ((decide (a0 < 0)) != (decide (a1 < 0))) = true then (ref02_Cmp.j0 k a2 a3 (!(t261 == 0) || (!(t262 == 0))) t261 t262 t266 t267) else (ref02_Cmp.j0 k a2 a3 false t261 t262 t266 t267)) = some r := H
 have A10 := Aside0.mk A100
 clear A100
 have HC11 := Aside0.mk H
 clear H
 go_enter Tryz.func22, Tryz.ntmps22
 go_upto_region 3 with (first | ((with_reducible refine gate_callee (f := 28) rfl ?_); refine RFn.goesM (some 14) Tryz.func28 #[.int .i64 a0] rfl ?_; (with_reducible refine (ref02_size.calls a0 t259 _ A5.out).mono ?_); rintro e w' ⟨rfl, ⟨nd, rfl⟩⟩; refine ⟨_, rfl, ?_⟩) | ((with_reducible refine gate_callee (f := 28) rfl ?_); refine RFn.goesM (some 16) Tryz.func28 #[.int .i64 a1] rfl ?_; (with_reducible refine (ref02_size.calls a1 t260 _ A6.out).mono ?_); rintro e w' ⟨rfl, ⟨nd, rfl⟩⟩; refine ⟨_, rfl, ?_⟩) | ((with_reducible refine gate_callee (f := 33) rfl ?_); refine RFn.goesM (some 17) Tryz.func33 #[.int .u64 t259, .int .u64 t260] rfl ?_; (with_reducible refine (ref02_times.calls k t259 t260 t261 t262 _ A7.out).mono ?_); rintro e w12 ⟨rfl, hb⟩; refine ⟨_, rfl, ?_⟩; have n0_ := Aside0.mk (below_step (RFn.bel) hb); clear HB; have HB := n0_; clear n0_; (try clear hb); (try clear hb2); (try clear hk); (try clear hi)) | ((with_reducible refine gate_dst (N := 9) rfl ?_); refine box_event ?hg (N := 9) ?hd (cs := #[.int .u64 0, .int .u64 0]) (t := 67) ?hr ?_; (case hd => rfl); (case hg => rfl); (case hr => first | (go_simp; done) | (go_simp; rfl)); intro gb263 hg w13 hbox hb; have n0_ := Aside0.mk (below_step (RFn.bel) hb); have n1_ := Aside0.mk (hbox); have n2_ := Aside0.mk ((by rw [hg]; exact (below_size (RFn.bel)) : w.heap.size ≤ gb263)); have n3_ := Aside0.mk ((by rw [hg]; exact (below_size (RFn.bel)) : w.heap.size ≤ gb263)); clear HB; have HB := n0_; have BK263 := n1_; have GW263 := n2_; have GE263 := n3_; clear n0_ n1_ n2_ n3_; clear hb hbox hg; have hcz14_0 : w13.cell? ⟨gb263, 0, none⟩ = some (.int .u64 0) := (blk_cell BK263.out 0).trans rfl; have hcz14_1 : w13.cell? ⟨gb263, 1, none⟩ = some (.int .u64 0) := (blk_cell BK263.out 1).trans rfl; have hfz14_0 := blk_frozen BK263.out 0; have hfz14_1 := blk_frozen BK263.out 1) | ((with_reducible refine gate_callee (f := 28) rfl ?_); refine RFn.goesM (some 19) Tryz.func28 #[.int .i64 a2] rfl ?_; (with_reducible refine (ref02_size.calls a2 t264 _ A8.out).mono ?_); rintro e w' ⟨rfl, ⟨nd, rfl⟩⟩; refine ⟨_, rfl, ?_⟩) | ((with_reducible refine gate_callee (f := 28) rfl ?_); refine RFn.goesM (some 21) Tryz.func28 #[.int .i64 a3] rfl ?_; (with_reducible refine (ref02_size.calls a3 t265 _ A9.out).mono ?_); rintro e w' ⟨rfl, ⟨nd, rfl⟩⟩; refine ⟨_, rfl, ?_⟩) | ((with_reducible refine gate_callee (f := 33) rfl ?_); refine RFn.goesM (some 22) Tryz.func33 #[.int .u64 t264, .int .u64 t265] rfl ?_; (with_reducible refine (ref02_times.calls k t264 t265 t266 t267 _ A10.out).mono ?_); rintro e w15 ⟨rfl, hb⟩; refine ⟨_, rfl, ?_⟩; have n0_ := Aside0.mk (blk_below (g := gb263) (o := .cells #[.int .u64 t261, .int .u64 t262] 67 (0, 0)) (by (with_reducible repeat (first | refine blk_drewN ?_ _ | refine blk_drew ?_ | refine blk_alloc ?_ _)); refine blk_put (cs := #[.int .u64 t261, .int .u64 0]) ?_ 1 _ rfl; (with_reducible repeat (first | refine blk_drewN ?_ _ | refine blk_drew ?_ | refine blk_alloc ?_ _)); refine blk_put (cs := #[.int .u64 0, .int .u64 0]) ?_ 0 _ rfl; (with_reducible repeat (first | refine blk_drewN ?_ _ | refine blk_drew ?_ | refine blk_alloc ?_ _)); exact BK263.out) hb); have n1_ := Aside0.mk (below_step RFn.bels hb); clear BK263; clear HB; have BK263 := n0_; have HB := n1_; clear n0_ n1_; (try clear hb); (try clear hb2); (try clear hk); (try clear hi)) | ((with_reducible refine gate_dst (N := 10) rfl ?_); refine box_event ?hg (N := 10) ?hd (cs := #[.int .u64 0, .int .u64 0]) (t := 67) ?hr ?_; (case hd => rfl); (case hg => rfl); (case hr => first | (go_simp; done) | (go_simp; rfl)); intro gb268 hg w16 hbox hb; have n0_ := Aside0.mk (blk_below (g := gb263) (o := .cells #[.int .u64 t261, .int .u64 t262] 67 (0, 0)) (by (with_reducible repeat (first | refine blk_drewN ?_ _ | refine blk_drew ?_ | refine blk_alloc ?_ _)); exact BK263.out) hb); have n1_ := Aside0.mk (below_step RFn.bels hb); have n2_ := Aside0.mk (hbox); have n3_ := Aside0.mk ((by rw [hg]; exact (below_size RFn.bels) : w.heap.size ≤ gb268)); have n4_ := Aside0.mk ((by rw [hg]; exact (below_size RFn.bels) : w.heap.size ≤ gb268)); have n5_ := Aside0.mk ((by rw [hg]; exact Nat.ne_of_lt (blk_lt (g := gb263) (o := .cells #[.int .u64 t261, .int .u64 t262] 67 (0, 0)) (by (with_reducible repeat (first | refine blk_drewN ?_ _ | refine blk_drew ?_ | refine blk_alloc ?_ _)); exact BK263.out)) : gb263 ≠ gb268)); have n6_ := Aside0.mk ((by rw [hg]; exact Nat.ne_of_gt (blk_lt (g := gb263) (o := .cells #[.int .u64 t261, .int .u64 t262] 67 (0, 0)) (by (with_reducible repeat (first | refine blk_drewN ?_ _ | refine blk_drew ?_ | refine blk_alloc ?_ _)); exact BK263.out)) : gb268 ≠ gb263)); clear BK263; clear HB; have BK263 := n0_; have HB := n1_; have BK268 := n2_; have GW268 := n3_; have GE268 := n4_; have NB263_268 := n5_; have NB268_263 := n6_; clear n0_ n1_ n2_ n3_ n4_ n5_ n6_; clear hb hbox hg; have hnb17 := NB268_263.out; have hnc17 := NB263_268.out; have hcz18_0 : w16.cell? ⟨gb268, 0, none⟩ = some (.int .u64 0) := (blk_cell BK268.out 0).trans rfl; have hcz18_1 : w16.cell? ⟨gb268, 1, none⟩ = some (.int .u64 0) := (blk_cell BK268.out 1).trans rfl; have hfz18_0 := blk_frozen BK268.out 0; have hfz18_1 := blk_frozen BK268.out 1))
 (try simp only [Act.put, List.setIfInBounds_toArray, List.set_cons_zero, List.set_cons_succ])
 go_cut [11] (fun v11 wc => ∃ (kq : Nat) (x11_10 : Bool), v11 = .bool x11_10 ∧ Aside0 (ref02_Cmp.j0 kq a2 a3 x11_10 t261 t262 t266 t267 = some r) ∧ Aside0 (kq ≤ k) ∧ Aside0 (wc.heap[gb263]? = some (.cells #[.int .u64 t261, .int .u64 t262] 67 (0, 0))) ∧ Aside0 (wc.heap[gb268]? = some (.cells #[.int .u64 t266, .int .u64 t267] 67 (0, 0))) ∧ Aside0 (Below w.heap.size w wc))
 case first =>
  have H := HC11.out
  clear HC11
  by_cases c19 : ((decide (a0 < 0)) != (decide (a1 < 0))) = true
  ·rw [if_pos c19] at H
   have c19b0 : ((decide (a0 < 0)) != (decide (a1 < 0))) = true := c19
   (try (have c19b1 : decide ((decide (a0 < 0)) = (decide (a1 < 0))) = false := by simpa using c19))
   (try (have c19b2 : ((decide (a0 < 0)) == (decide (a1 < 0))) = false := by simpa using c19))
   (try (have c19b3 : ¬ ((decide (a0 < 0)) = (decide (a1 < 0))) := by simpa using c19))
   clear c19
   (first | rw [c19b0] | (simp only [i64_w, i32_w]; rw [c19b0]) | skip)
   have H' := Aside0.mk H
   clear H
   have hnb20 := NB263_268.out
   have hnc20 := NB268_263.out
   have hcz21_0 : w16.cell? ⟨gb263, 0, none⟩ = some (.int .u64 t261) := (blk_cell BK263.out 0).trans rfl
   have hcz21_1 : w16.cell? ⟨gb263, 1, none⟩ = some (.int .u64 t262) := (blk_cell BK263.out 1).trans rfl
   have hfz21_0 := blk_frozen BK263.out 0
   have hfz21_1 := blk_frozen BK263.out 1
   go_wp2
   go_meet
   case rel => exact ⟨_, ((!(t261 == 0) || (!(t262 == 0)))), (by first | rfl | (simp; done) | (simp [*]; done)), H', ⟨by first | omega | exact Nat.le_refl _⟩, ⟨by (with_reducible repeat (first | refine blk_drewN ?_ _ | refine blk_drew ?_ | refine blk_alloc ?_ _)); refine blk_far ?_ NB263_268.out _; (with_reducible repeat (first | refine blk_drewN ?_ _ | refine blk_drew ?_ | refine blk_alloc ?_ _)); refine blk_far ?_ NB263_268.out _; (with_reducible repeat (first | refine blk_drewN ?_ _ | refine blk_drew ?_ | refine blk_alloc ?_ _)); exact BK263.out⟩, ⟨by (with_reducible repeat (first | refine blk_drewN ?_ _ | refine blk_drew ?_ | refine blk_alloc ?_ _)); refine blk_put (cs := #[.int .u64 t266, .int .u64 0]) ?_ 1 _ rfl; (with_reducible repeat (first | refine blk_drewN ?_ _ | refine blk_drew ?_ | refine blk_alloc ?_ _)); refine blk_put (cs := #[.int .u64 0, .int .u64 0]) ?_ 0 _ rfl; (with_reducible repeat (first | refine blk_drewN ?_ _ | refine blk_drew ?_ | refine blk_alloc ?_ _)); exact BK268.out⟩, ⟨RFn.bels⟩⟩
  ·rw [if_neg c19] at H
   have c19b0 : ((decide (a0 < 0)) != (decide (a1 < 0))) = false := by simpa using c19
   (try (have c19b1 : decide ((decide (a0 < 0)) = (decide (a1 < 0))) = true := by simpa using c19))
   (try (have c19b2 : ((decide (a0 < 0)) == (decide (a1 < 0))) = true := by simpa using c19))
   clear c19
   (first | rw [c19b0] | (simp only [i64_w, i32_w]; rw [c19b0]) | skip)
   have H' := Aside0.mk H
   clear H
   go_wp2
   go_meet
   case rel => exact ⟨_, (false), (by first | rfl | (simp; done) | (simp [*]; done)), H', ⟨by first | omega | exact Nat.le_refl _⟩, ⟨by (with_reducible repeat (first | refine blk_drewN ?_ _ | refine blk_drew ?_ | refine blk_alloc ?_ _)); refine blk_far ?_ NB263_268.out _; (with_reducible repeat (first | refine blk_drewN ?_ _ | refine blk_drew ?_ | refine blk_alloc ?_ _)); refine blk_far ?_ NB263_268.out _; (with_reducible repeat (first | refine blk_drewN ?_ _ | refine blk_drew ?_ | refine blk_alloc ?_ _)); exact BK263.out⟩, ⟨by (with_reducible repeat (first | refine blk_drewN ?_ _ | refine blk_drew ?_ | refine blk_alloc ?_ _)); refine blk_put (cs := #[.int .u64 t266, .int .u64 0]) ?_ 1 _ rfl; (with_reducible repeat (first | refine blk_drewN ?_ _ | refine blk_drew ?_ | refine blk_alloc ?_ _)); refine blk_put (cs := #[.int .u64 0, .int .u64 0]) ?_ 0 _ rfl; (with_reducible repeat (first | refine blk_drewN ?_ _ | refine blk_drew ?_ | refine blk_alloc ?_ _)); exact BK268.out⟩, ⟨RFn.bels⟩⟩
 case rest =>
  clear HC11
  try clear c1
  try clear c2
  try clear p2
  try clear c3
  try clear c17
  try clear c19
  try clear c19b0
  try clear c19b1
  try clear c19b2
  try clear c20
  try clear hcz14_0
  try clear hcz14_1
  try clear hcz18_0
  try clear hcz18_1
  try clear hcz21_0
  try clear hcz21_1
  try clear hfz14_0
  try clear hfz14_1
  try clear hfz18_0
  try clear hfz18_1
  try clear hfz21_0
  try clear hfz21_1
  obtain ⟨kq, x11_10, rfl, HA, HJ10, BK263, BK268, HB⟩ := hcut
  cases kq with
  | zero => exact absurd HA.out (by simp [ref02_Cmp.j0])
  | succ kj10 =>
   have H := HA.out
   clear HA
   simp only [ref02_Cmp.j0] at H
   have HC22 := Aside0.mk H
   clear H
   go_upto_region 4 with (fail)
   go_cut [12] (fun v12 wc => ∃ (kq : Nat) (x12_21 : Bool), v12 = .bool x12_21 ∧ Aside0 (ref02_Cmp.j1 kq x11_10 x12_21 t261 t262 t266 t267 = some r) ∧ Aside0 (kq ≤ kj10) ∧ Aside0 (wc.heap[gb263]? = some (.cells #[.int .u64 t261, .int .u64 t262] 67 (0, 0))) ∧ Aside0 (wc.heap[gb268]? = some (.cells #[.int .u64 t266, .int .u64 t267] 67 (0, 0))) ∧ Aside0 (Below w.heap.size w wc))
   case first =>
    have H := HC22.out
    clear HC22
    by_cases c23 : ((decide (a2 < 0)) != (decide (a3 < 0))) = true
    ·rw [if_pos c23] at H
     have c23b0 : ((decide (a2 < 0)) != (decide (a3 < 0))) = true := c23
     (try (have c23b1 : decide ((decide (a2 < 0)) = (decide (a3 < 0))) = false := by simpa using c23))
     (try (have c23b2 : ((decide (a2 < 0)) == (decide (a3 < 0))) = false := by simpa using c23))
     (try (have c23b3 : ¬ ((decide (a2 < 0)) = (decide (a3 < 0))) := by simpa using c23))
     clear c23
     (first | rw [c23b0] | (simp only [i64_w, i32_w]; rw [c23b0]) | skip)
     have H' := Aside0.mk H
     clear H
     have hnb24 := NB268_263.out
     have hnc24 := NB263_268.out
     have hcz25_0 : wc.cell? ⟨gb268, 0, none⟩ = some (.int .u64 t266) := (blk_cell BK268.out 0).trans rfl
     have hcz25_1 : wc.cell? ⟨gb268, 1, none⟩ = some (.int .u64 t267) := (blk_cell BK268.out 1).trans rfl
     have hfz25_0 := blk_frozen BK268.out 0
     have hfz25_1 := blk_frozen BK268.out 1
     go_wp2
     go_meet
     case rel => exact ⟨_, ((!(t266 == 0) || (!(t267 == 0)))), (by first | rfl | (simp; done) | (simp [*]; done)), H', ⟨by have := HJ10.out; first | omega | exact Nat.le_refl _⟩, ⟨by (with_reducible repeat (first | refine blk_drewN ?_ _ | refine blk_drew ?_ | refine blk_alloc ?_ _)); exact BK263.out⟩, ⟨by (with_reducible repeat (first | refine blk_drewN ?_ _ | refine blk_drew ?_ | refine blk_alloc ?_ _)); exact BK268.out⟩, ⟨RFn.bels⟩⟩
    ·rw [if_neg c23] at H
     have c23b0 : ((decide (a2 < 0)) != (decide (a3 < 0))) = false := by simpa using c23
     (try (have c23b1 : decide ((decide (a2 < 0)) = (decide (a3 < 0))) = true := by simpa using c23))
     (try (have c23b2 : ((decide (a2 < 0)) == (decide (a3 < 0))) = true := by simpa using c23))
     clear c23
     (first | rw [c23b0] | (simp only [i64_w, i32_w]; rw [c23b0]) | skip)
     have H' := Aside0.mk H
     clear H
     go_wp2
     go_meet
     case rel => exact ⟨_, (false), (by first | rfl | (simp; done) | (simp [*]; done)), H', ⟨by have := HJ10.out; first | omega | exact Nat.le_refl _⟩, ⟨by (with_reducible repeat (first | refine blk_drewN ?_ _ | refine blk_drew ?_ | refine blk_alloc ?_ _)); exact BK263.out⟩, ⟨by (with_reducible repeat (first | refine blk_drewN ?_ _ | refine blk_drew ?_ | refine blk_alloc ?_ _)); exact BK268.out⟩, ⟨RFn.bels⟩⟩
   case rest =>
    clear HC22
    try clear c1
    try clear c2
    try clear p2
    try clear c3
    try clear c17
    try clear c19
    try clear c19b0
    try clear c19b1
    try clear c19b2
    try clear c20
    try clear c22
    try clear c23
    try clear c23b0
    try clear c23b1
    try clear c23b2
    try clear c24
    try clear hcz14_0
    try clear hcz14_1
    try clear hcz18_0
    try clear hcz18_1
    try clear hcz21_0
    try clear hcz21_1
    try clear hcz25_0
    try clear hcz25_1
    try clear hfz14_0
    try clear hfz14_1
    try clear hfz18_0
    try clear hfz18_1
    try clear hfz21_0
    try clear hfz21_1
    try clear hfz25_0
    try clear hfz25_1
    try clear p2
    obtain ⟨kq, x12_21, rfl, HA, HJ21, BK263, BK268, HB⟩ := hcut
    cases kq with
    | zero => exact absurd HA.out (by simp [ref02_Cmp.j1])
    | succ kj21 =>
     have H := HA.out
     clear HA
     simp only [ref02_Cmp.j1] at H
     replace H := Option.bind_eq_some_iff.mp H
     obtain ⟨t269, A260, H⟩ := H
     replace H : (if t269 = true then (some (-1)) else ((ref02_below.f x12_21 t266 t267 x11_10 t261 t262).bind fun t270 => (if t270 = true then (some 1) else (some 0)))) = some r := H
     have A26 := Aside0.mk A260
     clear A260
     by_cases c27 : t269 = true
     ·subst c27
      have H1 : (some (-1)) = some r := by rw [if_pos rfl] at H; exact H
      clear H
      have H := H1
      clear H1
      obtain rfl := Option.some.inj H
      have hnb28 := NB263_268.out
      have hnc28 := NB268_263.out
      have hcz29_0 : wc.cell? ⟨gb263, 0, none⟩ = some (.int .u64 t261) := (blk_cell BK263.out 0).trans rfl
      have hcz29_1 : wc.cell? ⟨gb263, 1, none⟩ = some (.int .u64 t262) := (blk_cell BK263.out 1).trans rfl
      have hfz29_0 := blk_frozen BK263.out 0
      have hfz29_1 := blk_frozen BK263.out 1
      have hcz30_0 : wc.cell? ⟨gb268, 0, none⟩ = some (.int .u64 t266) := (blk_cell BK268.out 0).trans rfl
      have hcz30_1 : wc.cell? ⟨gb268, 1, none⟩ = some (.int .u64 t267) := (blk_cell BK268.out 1).trans rfl
      have hfz30_0 := blk_frozen BK268.out 0
      have hfz30_1 := blk_frozen BK268.out 1
      go_wp2_with (first | ((with_reducible refine gate_callee (f := 39) rfl ?_); refine RFn.goesM (some 47) Tryz.func39 #[.bool x11_10, .agg #[.int .u64 t261, .int .u64 t262], .bool x12_21, .agg #[.int .u64 t266, .int .u64 t267]] rfl ?_; (with_reducible refine (ref02_below.calls x11_10 t261 t262 x12_21 t266 t267 true _ A26.out).mono ?_); rintro e w31 ⟨rfl, hb⟩; refine ⟨_, rfl, ?_⟩; have n0_ := Aside0.mk (blk_below (g := gb263) (o := .cells #[.int .u64 t261, .int .u64 t262] 67 (0, 0)) (by (with_reducible repeat (first | refine blk_drewN ?_ _ | refine blk_drew ?_ | refine blk_alloc ?_ _)); exact BK263.out) hb); have n1_ := Aside0.mk (blk_below (g := gb268) (o := .cells #[.int .u64 t266, .int .u64 t267] 67 (0, 0)) (by (with_reducible repeat (first | refine blk_drewN ?_ _ | refine blk_drew ?_ | refine blk_alloc ?_ _)); exact BK268.out) hb); have n2_ := Aside0.mk (below_step RFn.bels hb); clear BK263; clear BK268; clear HB; have BK263 := n0_; have BK268 := n1_; have HB := n2_; clear n0_ n1_ n2_; (try clear hb); (try clear hb2); (try clear hk); (try clear hi)))
      go_ret
      exact ⟨by first | rfl | (simp [errW_none, errW_some] <;> rfl) | (simp [*, errW_none, errW_some] <;> rfl), RFn.bels⟩
     ·replace c27 := Bool.eq_false_iff.mpr c27
      subst c27
      have H1 : ((ref02_below.f x12_21 t266 t267 x11_10 t261 t262).bind fun t270 => (if t270 = true then (some 1) else (some 0))) = some r := by rw [if_neg (show ¬ (false = true) by decide)] at H; exact H
      clear H
      have H := H1
      clear H1
      replace H := Option.bind_eq_some_iff.mp H
      obtain ⟨t270, A320, H⟩ := H
      replace H : (if t270 = true then (some 1) else (some 0)) = some r := H
      have A32 := Aside0.mk A320
      clear A320
      by_cases c33 : t270 = true
      ·subst c33
       have H1 : (some 1) = some r := by rw [if_pos rfl] at H; exact H
       clear H
       have H := H1
       clear H1
       obtain rfl := Option.some.inj H
       have hnb34 := NB263_268.out
       have hnc34 := NB268_263.out
       have hcz35_0 : wc.cell? ⟨gb263, 0, none⟩ = some (.int .u64 t261) := (blk_cell BK263.out 0).trans rfl
       have hcz35_1 : wc.cell? ⟨gb263, 1, none⟩ = some (.int .u64 t262) := (blk_cell BK263.out 1).trans rfl
       have hfz35_0 := blk_frozen BK263.out 0
       have hfz35_1 := blk_frozen BK263.out 1
       have hcz36_0 : wc.cell? ⟨gb268, 0, none⟩ = some (.int .u64 t266) := (blk_cell BK268.out 0).trans rfl
       have hcz36_1 : wc.cell? ⟨gb268, 1, none⟩ = some (.int .u64 t267) := (blk_cell BK268.out 1).trans rfl
       have hfz36_0 := blk_frozen BK268.out 0
       have hfz36_1 := blk_frozen BK268.out 1
       go_wp2_with (first | ((with_reducible refine gate_callee (f := 39) rfl ?_); refine RFn.goesM (some 47) Tryz.func39 #[.bool x11_10, .agg #[.int .u64 t261, .int .u64 t262], .bool x12_21, .agg #[.int .u64 t266, .int .u64 t267]] rfl ?_; (with_reducible refine (ref02_below.calls x11_10 t261 t262 x12_21 t266 t267 false _ A26.out).mono ?_); rintro e w37 ⟨rfl, hb⟩; refine ⟨_, rfl, ?_⟩; have n0_ := Aside0.mk (blk_below (g := gb263) (o := .cells #[.int .u64 t261, .int .u64 t262] 67 (0, 0)) (by (with_reducible repeat (first | refine blk_drewN ?_ _ | refine blk_drew ?_ | refine blk_alloc ?_ _)); exact BK263.out) hb); have n1_ := Aside0.mk (blk_below (g := gb268) (o := .cells #[.int .u64 t266, .int .u64 t267] 67 (0, 0)) (by (with_reducible repeat (first | refine blk_drewN ?_ _ | refine blk_drew ?_ | refine blk_alloc ?_ _)); exact BK268.out) hb); have n2_ := Aside0.mk (below_step RFn.bels hb); clear BK263; clear BK268; clear HB; have BK263 := n0_; have BK268 := n1_; have HB := n2_; clear n0_ n1_ n2_; (try clear hb); (try clear hb2); (try clear hk); (try clear hi); have hcz38_0 : w37.cell? ⟨gb268, 0, none⟩ = some (.int .u64 t266) := (blk_cell BK268.out 0).trans rfl; have hcz38_1 : w37.cell? ⟨gb268, 1, none⟩ = some (.int .u64 t267) := (blk_cell BK268.out 1).trans rfl; have hfz38_0 := blk_frozen BK268.out 0; have hfz38_1 := blk_frozen BK268.out 1; have hcz39_0 : w37.cell? ⟨gb263, 0, none⟩ = some (.int .u64 t261) := (blk_cell BK263.out 0).trans rfl; have hcz39_1 : w37.cell? ⟨gb263, 1, none⟩ = some (.int .u64 t262) := (blk_cell BK263.out 1).trans rfl; have hfz39_0 := blk_frozen BK263.out 0; have hfz39_1 := blk_frozen BK263.out 1) | ((with_reducible refine gate_callee (f := 39) rfl ?_); refine RFn.goesM (some 52) Tryz.func39 #[.bool x12_21, .agg #[.int .u64 t266, .int .u64 t267], .bool x11_10, .agg #[.int .u64 t261, .int .u64 t262]] rfl ?_; (with_reducible refine (ref02_below.calls x12_21 t266 t267 x11_10 t261 t262 true _ A32.out).mono ?_); rintro e w40 ⟨rfl, hb⟩; refine ⟨_, rfl, ?_⟩; have n0_ := Aside0.mk (blk_below (g := gb263) (o := .cells #[.int .u64 t261, .int .u64 t262] 67 (0, 0)) (by (with_reducible repeat (first | refine blk_drewN ?_ _ | refine blk_drew ?_ | refine blk_alloc ?_ _)); exact BK263.out) hb); have n1_ := Aside0.mk (blk_below (g := gb268) (o := .cells #[.int .u64 t266, .int .u64 t267] 67 (0, 0)) (by (with_reducible repeat (first | refine blk_drewN ?_ _ | refine blk_drew ?_ | refine blk_alloc ?_ _)); exact BK268.out) hb); have n2_ := Aside0.mk (below_step RFn.bels hb); clear BK263; clear BK268; clear HB; have BK263 := n0_; have BK268 := n1_; have HB := n2_; clear n0_ n1_ n2_; (try clear hb); (try clear hb2); (try clear hk); (try clear hi)))
       go_ret
       exact ⟨by first | rfl | (simp [errW_none, errW_some] <;> rfl) | (simp [*, errW_none, errW_some] <;> rfl), RFn.bels⟩
      ·replace c33 := Bool.eq_false_iff.mpr c33
       subst c33
       have H1 : (some 0) = some r := by rw [if_neg (show ¬ (false = true) by decide)] at H; exact H
       clear H
       have H := H1
       clear H1
       obtain rfl := Option.some.inj H
       have hnb41 := NB263_268.out
       have hnc41 := NB268_263.out
       have hcz42_0 : wc.cell? ⟨gb263, 0, none⟩ = some (.int .u64 t261) := (blk_cell BK263.out 0).trans rfl
       have hcz42_1 : wc.cell? ⟨gb263, 1, none⟩ = some (.int .u64 t262) := (blk_cell BK263.out 1).trans rfl
       have hfz42_0 := blk_frozen BK263.out 0
       have hfz42_1 := blk_frozen BK263.out 1
       have hcz43_0 : wc.cell? ⟨gb268, 0, none⟩ = some (.int .u64 t266) := (blk_cell BK268.out 0).trans rfl
       have hcz43_1 : wc.cell? ⟨gb268, 1, none⟩ = some (.int .u64 t267) := (blk_cell BK268.out 1).trans rfl
       have hfz43_0 := blk_frozen BK268.out 0
       have hfz43_1 := blk_frozen BK268.out 1
       go_wp2_with (first | ((with_reducible refine gate_callee (f := 39) rfl ?_); refine RFn.goesM (some 47) Tryz.func39 #[.bool x11_10, .agg #[.int .u64 t261, .int .u64 t262], .bool x12_21, .agg #[.int .u64 t266, .int .u64 t267]] rfl ?_; (with_reducible refine (ref02_below.calls x11_10 t261 t262 x12_21 t266 t267 false _ A26.out).mono ?_); rintro e w44 ⟨rfl, hb⟩; refine ⟨_, rfl, ?_⟩; have n0_ := Aside0.mk (blk_below (g := gb263) (o := .cells #[.int .u64 t261, .int .u64 t262] 67 (0, 0)) (by (with_reducible repeat (first | refine blk_drewN ?_ _ | refine blk_drew ?_ | refine blk_alloc ?_ _)); exact BK263.out) hb); have n1_ := Aside0.mk (blk_below (g := gb268) (o := .cells #[.int .u64 t266, .int .u64 t267] 67 (0, 0)) (by (with_reducible repeat (first | refine blk_drewN ?_ _ | refine blk_drew ?_ | refine blk_alloc ?_ _)); exact BK268.out) hb); have n2_ := Aside0.mk (below_step RFn.bels hb); clear BK263; clear BK268; clear HB; have BK263 := n0_; have BK268 := n1_; have HB := n2_; clear n0_ n1_ n2_; (try clear hb); (try clear hb2); (try clear hk); (try clear hi); have hcz45_0 : w44.cell? ⟨gb268, 0, none⟩ = some (.int .u64 t266) := (blk_cell BK268.out 0).trans rfl; have hcz45_1 : w44.cell? ⟨gb268, 1, none⟩ = some (.int .u64 t267) := (blk_cell BK268.out 1).trans rfl; have hfz45_0 := blk_frozen BK268.out 0; have hfz45_1 := blk_frozen BK268.out 1; have hcz46_0 : w44.cell? ⟨gb263, 0, none⟩ = some (.int .u64 t261) := (blk_cell BK263.out 0).trans rfl; have hcz46_1 : w44.cell? ⟨gb263, 1, none⟩ = some (.int .u64 t262) := (blk_cell BK263.out 1).trans rfl; have hfz46_0 := blk_frozen BK263.out 0; have hfz46_1 := blk_frozen BK263.out 1) | ((with_reducible refine gate_callee (f := 39) rfl ?_); refine RFn.goesM (some 52) Tryz.func39 #[.bool x12_21, .agg #[.int .u64 t266, .int .u64 t267], .bool x11_10, .agg #[.int .u64 t261, .int .u64 t262]] rfl ?_; (with_reducible refine (ref02_below.calls x12_21 t266 t267 x11_10 t261 t262 false _ A32.out).mono ?_); rintro e w47 ⟨rfl, hb⟩; refine ⟨_, rfl, ?_⟩; have n0_ := Aside0.mk (blk_below (g := gb263) (o := .cells #[.int .u64 t261, .int .u64 t262] 67 (0, 0)) (by (with_reducible repeat (first | refine blk_drewN ?_ _ | refine blk_drew ?_ | refine blk_alloc ?_ _)); exact BK263.out) hb); have n1_ := Aside0.mk (blk_below (g := gb268) (o := .cells #[.int .u64 t266, .int .u64 t267] 67 (0, 0)) (by (with_reducible repeat (first | refine blk_drewN ?_ _ | refine blk_drew ?_ | refine blk_alloc ?_ _)); exact BK268.out) hb); have n2_ := Aside0.mk (below_step RFn.bels hb); clear BK263; clear BK268; clear HB; have BK263 := n0_; have BK268 := n1_; have HB := n2_; clear n0_ n1_ n2_; (try clear hb); (try clear hb2); (try clear hk); (try clear hi)))
       go_ret
       exact ⟨by first | rfl | (simp [errW_none, errW_some] <;> rfl) | (simp [*, errW_none, errW_some] <;> rfl), RFn.bels⟩

/-! ### ref03_Cmp: function 12 -/
def ref03_Cmp.f (k : Nat) (a0_0 : Int) (a0_1 : Int) (a1_0 : Int) (a1_1 : Int) : Option (Int) := (ref02_Cmp.f k a0_0 a1_1 a1_0 a0_1).bind fun t273 => (some t273)
theorem ref03_Cmp.mono : ∀ a0 a1 a2 a3 k, LeO (ref03_Cmp.f k a0 a1 a2 a3) (ref03_Cmp.f (k + 1) a0 a1 a2 a3) := by
 intro a0 a1 a2 a3 k
 unfold ref03_Cmp.f
 repeat' first
   | (with_reducible exact ref02_Cmp.mono _ _ _ _ _)
   | (with_reducible exact LeO.refl _)
   | (with_reducible exact LeO.none _)
   | (with_reducible refine LeO.ite ?_ ?_)
   | (with_reducible refine LeO.bind ?_ (fun _ => ?_))
   | exact ref02_Cmp.mono _ _ _ _ _
   | exact LeO.none _
   | refine LeO.ite ?_ ?_
   | refine LeO.bind ?_ (fun _ => ?_)
set_option maxHeartbeats 8000000 in
set_option maxRecDepth 100000 in
theorem ref03_Cmp.calls (k : Nat) (a0_0 : Int) (a0_1 : Int) (a1_0 : Int) (a1_1 : Int) (r : Int) (w : World) (h : ref03_Cmp.f k a0_0 a0_1 a1_0 a1_1 = some r) :
  Calls Tryz.prog 12 #[.agg #[.int .i64 a0_0, .int .i64 a0_1], .agg #[.int .i64 a1_0, .int .i64 a1_1]] w fun e w' => e = .returned (.int .i64 r) ∧ Below w.heap.size w w' := by
 have hu23 := Tryz.underlying23
 have HB := Aside0.mk (Below.refl w.heap.size w)
 have H : ((ref02_Cmp.f k a0_0 a1_1 a1_0 a0_1).bind fun t273 => (some t273)) = some r := h
 clear h
 replace H := Option.bind_eq_some_iff.mp H
 obtain ⟨t273, A30, H⟩ := H
 replace H : (some t273) = some r := H
 have A3 := Aside0.mk A30
 clear A30
 obtain rfl := Option.some.inj H
 go_enter Tryz.func12, Tryz.ntmps12
 go_wp2_with (first | ((with_reducible refine gate_dst (N := 2) rfl ?_); refine box_event ?hg (N := 2) ?hd (cs := #[.int .i64 a0_0, .int .i64 a0_1]) (t := 23) ?hr ?_; (case hd => rfl); (case hg => rfl); (case hr => first | (go_simp; done) | (go_simp; rfl)); intro gb271 hg w4 hbox hb; have n0_ := Aside0.mk (below_step (RFn.bel) hb); have n1_ := Aside0.mk (hbox); have n2_ := Aside0.mk ((by rw [hg]; exact (below_size (RFn.bel)) : w.heap.size ≤ gb271)); have n3_ := Aside0.mk ((by rw [hg]; exact (below_size (RFn.bel)) : w.heap.size ≤ gb271)); clear HB; have HB := n0_; have BK271 := n1_; have GW271 := n2_; have GE271 := n3_; clear n0_ n1_ n2_ n3_; clear hb hbox hg) | ((with_reducible refine gate_dst (N := 3) rfl ?_); refine box_event ?hg (N := 3) ?hd (cs := #[.int .i64 a1_0, .int .i64 a1_1]) (t := 23) ?hr ?_; (case hd => rfl); (case hg => rfl); (case hr => first | (go_simp; done) | (go_simp; rfl)); intro gb272 hg w5 hbox hb; have n0_ := Aside0.mk (blk_below (g := gb271) (o := .cells #[.int .i64 a0_0, .int .i64 a0_1] 23 (0, 0)) (by (with_reducible repeat (first | refine blk_drewN ?_ _ | refine blk_drew ?_ | refine blk_alloc ?_ _)); exact BK271.out) hb); have n1_ := Aside0.mk (below_step RFn.bels hb); have n2_ := Aside0.mk (hbox); have n3_ := Aside0.mk ((by rw [hg]; exact (below_size RFn.bels) : w.heap.size ≤ gb272)); have n4_ := Aside0.mk ((by rw [hg]; exact (below_size RFn.bels) : w.heap.size ≤ gb272)); have n5_ := Aside0.mk ((by rw [hg]; exact Nat.ne_of_lt (blk_lt (g := gb271) (o := .cells #[.int .i64 a0_0, .int .i64 a0_1] 23 (0, 0)) (by (with_reducible repeat (first | refine blk_drewN ?_ _ | refine blk_drew ?_ | refine blk_alloc ?_ _)); exact BK271.out)) : gb271 ≠ gb272)); have n6_ := Aside0.mk ((by rw [hg]; exact Nat.ne_of_gt (blk_lt (g := gb271) (o := .cells #[.int .i64 a0_0, .int .i64 a0_1] 23 (0, 0)) (by (with_reducible repeat (first | refine blk_drewN ?_ _ | refine blk_drew ?_ | refine blk_alloc ?_ _)); exact BK271.out)) : gb272 ≠ gb271)); clear BK271; clear HB; have BK271 := n0_; have HB := n1_; have BK272 := n2_; have GW272 := n3_; have GE272 := n4_; have NB271_272 := n5_; have NB272_271 := n6_; clear n0_ n1_ n2_ n3_ n4_ n5_ n6_; clear hb hbox hg; have hnb6 := NB271_272.out; have hnc6 := NB272_271.out; have hcz7_0 : w5.cell? ⟨gb271, 0, none⟩ = some (.int .i64 a0_0) := (blk_cell BK271.out 0).trans rfl; have hcz7_1 : w5.cell? ⟨gb271, 1, none⟩ = some (.int .i64 a0_1) := (blk_cell BK271.out 1).trans rfl; have hfz7_0 := blk_frozen BK271.out 0; have hfz7_1 := blk_frozen BK271.out 1; have hcz8_0 : w5.cell? ⟨gb272, 0, none⟩ = some (.int .i64 a1_0) := (blk_cell BK272.out 0).trans rfl; have hcz8_1 : w5.cell? ⟨gb272, 1, none⟩ = some (.int .i64 a1_1) := (blk_cell BK272.out 1).trans rfl; have hfz8_0 := blk_frozen BK272.out 0; have hfz8_1 := blk_frozen BK272.out 1) | ((with_reducible refine gate_callee (f := 22) rfl ?_); refine RFn.goesM (some 13) Tryz.func22 #[.int .i64 a0_0, .int .i64 a1_1, .int .i64 a1_0, .int .i64 a0_1] rfl ?_; (with_reducible refine (ref02_Cmp.calls k a0_0 a1_1 a1_0 a0_1 t273 _ A3.out).mono ?_); rintro e w9 ⟨rfl, hb⟩; refine ⟨_, rfl, ?_⟩; have n0_ := Aside0.mk (blk_below (g := gb271) (o := .cells #[.int .i64 a0_0, .int .i64 a0_1] 23 (0, 0)) (by (with_reducible repeat (first | refine blk_drewN ?_ _ | refine blk_drew ?_ | refine blk_alloc ?_ _)); exact BK271.out) hb); have n1_ := Aside0.mk (blk_below (g := gb272) (o := .cells #[.int .i64 a1_0, .int .i64 a1_1] 23 (0, 0)) (by (with_reducible repeat (first | refine blk_drewN ?_ _ | refine blk_drew ?_ | refine blk_alloc ?_ _)); exact BK272.out) hb); have n2_ := Aside0.mk (below_step RFn.bels hb); clear BK271; clear BK272; clear HB; have BK271 := n0_; have BK272 := n1_; have HB := n2_; clear n0_ n1_ n2_; (try clear hb); (try clear hb2); (try clear hk); (try clear hi)))
 go_ret
 exact ⟨by first | rfl | (simp [errW_none, errW_some] <;> rfl) | (simp [*, errW_none, errW_some] <;> rfl), RFn.bels⟩

end Go.Proofs.YthidfomkgclkcaaGreatDoor.Q
