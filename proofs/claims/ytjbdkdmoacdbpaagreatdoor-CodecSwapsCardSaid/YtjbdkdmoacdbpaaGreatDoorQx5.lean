/- printed by a program of this session (wip/tools/pr.sh): it is not a print of the kit -/
import Derived.Test.YtjbdkdmoacdbpaaGreatDoorQx0
namespace Go.Proofs.YtjbdkdmoacdbpaaGreatDoor.Q
open Go.RowKit Go.Proofs.YtjbdkdmoacdbpaaGreatDoorW.PrintWords Go.Proofs.YtjbdkdmoacdbpaaGreatDoorW.PrintLast Go.Proofs.YtjbdkdmoacdbpaaGreatDoorW.PrintMore
attribute [local go_sem] max2_int min2_int max_two min_two max_three min_three max_four min_four RFn.gtr_str   -- for this text's walks alone
set_option linter.unusedVariables false
set_option linter.unusedSimpArgs false
/-! ### law09_Few: function 9 -/
def law09_Few.l0 : Nat → List (S54) → List (S54) → Int → Int → Option (Bool)
 | 0, _, _, _, _ => none
 | k + 1, x0, x6, x7, x8 => if x8 < x7 then (if 0 ≤ x8 then (if x8 < (x6.length : Int) then (if (((rd_T54 x6 x8).f0.f0).size : Int) > 40 then (some false) else (if (((rd_T54 x6 x8).f0.f1).size : Int) > 40 then (some false) else (if (((rd_T54 x6 x8).f0.f2).size : Int) > 40 then (some false) else (if (((rd_T54 x6 x8).f0.f3).size : Int) > 40 then (some false) else (law09_Few.l0 k x0 x6 x7 (wrap64 (x8 + 1))))))) else (none)) else (none)) else (some (decide ((x0.length : Int) ≤ 150)))
def law09_Few.f (k : Nat) (l0 : List (S54)) : Option (Bool) := law09_Few.l0 k l0 l0 (l0.length : Int) 0
theorem law09_Few.mono_l : ∀ k, (∀ y0 y1 y2 y3, LeO (law09_Few.l0 k y0 y1 y2 y3) (law09_Few.l0 (k + 1) y0 y1 y2 y3))
 | 0 => fun _ _ _ _ r h => by simp [law09_Few.l0] at h
 | k + 1 => by
  have ih0 := law09_Few.mono_l k
  ·intro y0 y1 y2 y3
   unfold law09_Few.l0
   repeat' with_reducible first | exact LeO.refl _ | apply ih0 | exact LeO.none _ | apply LeO.ite | refine LeO.bind ?_ fun _ => ?_
theorem law09_Few.mono : ∀ a0 k, LeO (law09_Few.f k a0) (law09_Few.f (k + 1) a0) := by
 intro a0 k
 have ih0 := law09_Few.mono_l k
 unfold law09_Few.f
 repeat' with_reducible first | exact LeO.refl _ | apply ih0 | exact LeO.none _ | apply LeO.ite | refine LeO.bind ?_ fun _ => ?_
set_option maxHeartbeats 8000000 in
set_option maxRecDepth 100000 in
theorem law09_Few.calls (k : Nat) (A0 : Option Addr) (c0 : Nat) (l0 : List (S54)) (r : Bool) (w : World) (hr0 : Kd.C k54 w A0 l0.length l0) (hc0 : l0.length ≤ c0) (h : law09_Few.f k l0 = some r) :
  Calls Tryz.prog 9 #[.slice A0 l0.length c0] w fun e w' => e = .returned (.bool r) ∧ Below w.heap.size w w' := by
 have hu54 := Tryz.underlying54
 have hu52 := Tryz.underlying52
 have HR0 := Aside0.mk hr0
 have HC0 := Aside0.mk hc0
 clear hr0 hc0
 have HB := Aside0.mk (Below.refl w.heap.size w)
 have H : (law09_Few.l0 k l0 l0 (l0.length : Int) 0) = some r := h
 clear h
 have H' := Aside0.mk H
 clear H
 go_enter Tryz.func9, Tryz.ntmps9
 go_wp2
 go_loopg [8] k (fun kq v8 w' => ∃ (x8_1 : Int), v8 = .int .i64 x8_1 ∧ Aside0 (law09_Few.l0 kq l0 l0 (l0.length : Int) x8_1 = some r) ∧ Aside0 (kq ≤ k) ∧ Aside0 (Below w.heap.size w w'))
 case atStart => exact ⟨(0), (by first | rfl | (simp; done) | (simp [*]; done)), H', ⟨Nat.le_refl _⟩, ⟨RFn.bel⟩⟩
 case round =>
  clear H'
  obtain ⟨x8_1, rfl, HA, HK1, HB⟩ := hrel
  cases gk with
  | zero => exact absurd HA.out (by simp [law09_Few.l0])
  | succ k1 =>
   have H := HA.out
   clear HA
   simp only [law09_Few.l0] at H
   by_cases c2 : x8_1 < (l0.length : Int)
   ·rw [if_pos c2] at H
    have c2b0 : decide (x8_1 < (l0.length : Int)) = true := decide_eq_true c2
    clear c2
    by_cases c3 : 0 ≤ x8_1
    ·rw [if_pos c3] at H
     have c3b0 : decide (0 ≤ x8_1) = true := decide_eq_true c3
     clear c3
     by_cases c4 : x8_1 < (l0.length : Int)
     ·rw [if_pos c4] at H
      have c4b0 : decide (x8_1 < (l0.length : Int)) = true := decide_eq_true c4
      clear c4
      by_cases c5 : (((rd_T54 l0 x8_1).f0.f0).size : Int) > 40
      ·rw [if_pos c5] at H
       have c5b0 : decide (40 < (((rd_T54 l0 x8_1).f0.f0).size : Int)) = true := decide_eq_true c5
       have c5b1 : decide (40 < ((rd_T54 l0 x8_1).f0.f0).size) = true := decide_eq_true (by omega)
       clear c5
       obtain rfl := Option.some.inj H
       have p118 : 0 ≤ (x8_1 : Int) := RFn.od
       have q118 : x8_1 < (l0.length : Int) := RFn.od
       obtain ⟨ad118, e118, hx118_0, hx118_1, hx118_2, hx118_3, hx118_4, hx118_5⟩ := at_T54 HR0.out x8_1 p118 q118
       cases e118
       replace hx118_0 := RFn.hb HB hx118_0
       replace hx118_1 := RFn.hb HB hx118_1
       replace hx118_2 := RFn.hb HB hx118_2
       replace hx118_3 := RFn.hb HB hx118_3
       replace hx118_4 := RFn.hb HB hx118_4
       replace hx118_5 := RFn.hb HB hx118_5
       replace p118 := eq_true p118
       replace q118 := eq_true q118
       go_wp2_with (first | ((with_reducible refine gate_dst (N := 4) rfl ?_); (try (refine gate_guard (by rfl) ?_; dsimp only)); refine box_event ?hg (N := 4) ?hd (cs := #[.string (⟨#[]⟩ : ByteArray), .string (⟨#[]⟩ : ByteArray), .string (⟨#[]⟩ : ByteArray), .string (⟨#[]⟩ : ByteArray), .int .i64 0, .int .i64 0]) (t := 54) ?hr ?_; (case hd => rfl); (case hg => rfl); (case hr => first | (go_simp; done) | (go_simp; rfl)); intro gb119 hg w6 hbox hb; have n0_ := Aside0.mk (below_step (RFn.bel) hb); have n1_ := Aside0.mk (hbox); have n2_ := Aside0.mk ((by rw [hg]; exact (below_size (RFn.bel)) : w.heap.size ≤ gb119)); have n3_ := Aside0.mk ((by rw [hg]; exact (below_size (RFn.bel)) : w.heap.size ≤ gb119)); clear HB; have HB := n0_; have BK119 := n1_; have GW119 := n2_; have GE119 := n3_; clear n0_ n1_ n2_ n3_; clear hb hbox hg; obtain ⟨hcz7_0, hcz7_1, hcz7_2, hcz7_3, hcz7_4, hcz7_5⟩ := RFn.bc6 BK119; obtain ⟨hfz7_0, hfz7_1, hfz7_2, hfz7_3, hfz7_4, hfz7_5⟩ := RFn.bf6 BK119) | ((with_reducible refine gate_dst (N := 5) rfl ?_); (try (refine gate_guard (by rfl) ?_; dsimp only)); refine box_event ?hg (N := 5) ?hd (cs := #[.string (⟨#[]⟩ : ByteArray), .string (⟨#[]⟩ : ByteArray), .string (⟨#[]⟩ : ByteArray), .string (⟨#[]⟩ : ByteArray), .int .i64 0]) (t := 52) ?hr ?_; (case hd => rfl); (case hg => rfl); (case hr => first | (go_simp; done) | (go_simp; rfl)); intro gb120 hg w8 hbox hb; have n0_ := Aside0.mk (blk_below (g := gb119) (o := .cells #[.string ((rd_T54 l0 x8_1).f0.f0), .string ((rd_T54 l0 x8_1).f0.f1), .string ((rd_T54 l0 x8_1).f0.f2), .string ((rd_T54 l0 x8_1).f0.f3), .int .i64 ((rd_T54 l0 x8_1).f0.f4), .int .i64 ((rd_T54 l0 x8_1).f1)] 54 (0, 0)) (by refine RFn.d3 ?_; refine blk_put (cs := #[.string ((rd_T54 l0 x8_1).f0.f0), .string ((rd_T54 l0 x8_1).f0.f1), .string ((rd_T54 l0 x8_1).f0.f2), .string ((rd_T54 l0 x8_1).f0.f3), .int .i64 ((rd_T54 l0 x8_1).f0.f4), .int .i64 0]) ?_ 5 _ rfl; refine RFn.d3 ?_; refine blk_put (cs := #[.string ((rd_T54 l0 x8_1).f0.f0), .string ((rd_T54 l0 x8_1).f0.f1), .string ((rd_T54 l0 x8_1).f0.f2), .string ((rd_T54 l0 x8_1).f0.f3), .int .i64 0, .int .i64 0]) ?_ 4 _ rfl; refine RFn.d3 ?_; refine blk_put (cs := #[.string ((rd_T54 l0 x8_1).f0.f0), .string ((rd_T54 l0 x8_1).f0.f1), .string ((rd_T54 l0 x8_1).f0.f2), .string (⟨#[]⟩ : ByteArray), .int .i64 0, .int .i64 0]) ?_ 3 _ rfl; refine RFn.d3 ?_; refine blk_put (cs := #[.string ((rd_T54 l0 x8_1).f0.f0), .string ((rd_T54 l0 x8_1).f0.f1), .string (⟨#[]⟩ : ByteArray), .string (⟨#[]⟩ : ByteArray), .int .i64 0, .int .i64 0]) ?_ 2 _ rfl; refine RFn.d3 ?_; refine blk_put (cs := #[.string ((rd_T54 l0 x8_1).f0.f0), .string (⟨#[]⟩ : ByteArray), .string (⟨#[]⟩ : ByteArray), .string (⟨#[]⟩ : ByteArray), .int .i64 0, .int .i64 0]) ?_ 1 _ rfl; refine RFn.d3 ?_; refine blk_put (cs := #[.string (⟨#[]⟩ : ByteArray), .string (⟨#[]⟩ : ByteArray), .string (⟨#[]⟩ : ByteArray), .string (⟨#[]⟩ : ByteArray), .int .i64 0, .int .i64 0]) ?_ 0 _ rfl; refine RFn.d3 ?_; exact BK119.out) hb); have n1_ := Aside0.mk (below_step RFn.bels hb); have n2_ := Aside0.mk (hbox); have n3_ := Aside0.mk ((by rw [hg]; exact (below_size RFn.bels) : w.heap.size ≤ gb120)); have n4_ := Aside0.mk ((by rw [hg]; exact (below_size RFn.bels) : w.heap.size ≤ gb120)); have n5_ := Aside0.mk ((by rw [hg]; exact Nat.ne_of_lt (blk_lt (g := gb119) (o := .cells #[.string ((rd_T54 l0 x8_1).f0.f0), .string ((rd_T54 l0 x8_1).f0.f1), .string ((rd_T54 l0 x8_1).f0.f2), .string ((rd_T54 l0 x8_1).f0.f3), .int .i64 ((rd_T54 l0 x8_1).f0.f4), .int .i64 ((rd_T54 l0 x8_1).f1)] 54 (0, 0)) (by refine RFn.d3 ?_; refine blk_put (cs := #[.string ((rd_T54 l0 x8_1).f0.f0), .string ((rd_T54 l0 x8_1).f0.f1), .string ((rd_T54 l0 x8_1).f0.f2), .string ((rd_T54 l0 x8_1).f0.f3), .int .i64 ((rd_T54 l0 x8_1).f0.f4), .int .i64 0]) ?_ 5 _ rfl; refine RFn.d3 ?_; refine blk_put (cs := #[.string ((rd_T54 l0 x8_1).f0.f0), .string ((rd_T54 l0 x8_1).f0.f1), .string ((rd_T54 l0 x8_1).f0.f2), .string ((rd_T54 l0 x8_1).f0.f3), .int .i64 0, .int .i64 0]) ?_ 4 _ rfl; refine RFn.d3 ?_; refine blk_put (cs := #[.string ((rd_T54 l0 x8_1).f0.f0), .string ((rd_T54 l0 x8_1).f0.f1), .string ((rd_T54 l0 x8_1).f0.f2), .string (⟨#[]⟩ : ByteArray), .int .i64 0, .int .i64 0]) ?_ 3 _ rfl; refine RFn.d3 ?_; refine blk_put (cs := #[.string ((rd_T54 l0 x8_1).f0.f0), .string ((rd_T54 l0 x8_1).f0.f1), .string (⟨#[]⟩ : ByteArray), .string (⟨#[]⟩ : ByteArray), .int .i64 0, .int .i64 0]) ?_ 2 _ rfl; refine RFn.d3 ?_; refine blk_put (cs := #[.string ((rd_T54 l0 x8_1).f0.f0), .string (⟨#[]⟩ : ByteArray), .string (⟨#[]⟩ : ByteArray), .string (⟨#[]⟩ : ByteArray), .int .i64 0, .int .i64 0]) ?_ 1 _ rfl; refine RFn.d3 ?_; refine blk_put (cs := #[.string (⟨#[]⟩ : ByteArray), .string (⟨#[]⟩ : ByteArray), .string (⟨#[]⟩ : ByteArray), .string (⟨#[]⟩ : ByteArray), .int .i64 0, .int .i64 0]) ?_ 0 _ rfl; refine RFn.d3 ?_; exact BK119.out)) : gb119 ≠ gb120)); have n6_ := Aside0.mk ((by rw [hg]; exact Nat.ne_of_gt (blk_lt (g := gb119) (o := .cells #[.string ((rd_T54 l0 x8_1).f0.f0), .string ((rd_T54 l0 x8_1).f0.f1), .string ((rd_T54 l0 x8_1).f0.f2), .string ((rd_T54 l0 x8_1).f0.f3), .int .i64 ((rd_T54 l0 x8_1).f0.f4), .int .i64 ((rd_T54 l0 x8_1).f1)] 54 (0, 0)) (by refine RFn.d3 ?_; refine blk_put (cs := #[.string ((rd_T54 l0 x8_1).f0.f0), .string ((rd_T54 l0 x8_1).f0.f1), .string ((rd_T54 l0 x8_1).f0.f2), .string ((rd_T54 l0 x8_1).f0.f3), .int .i64 ((rd_T54 l0 x8_1).f0.f4), .int .i64 0]) ?_ 5 _ rfl; refine RFn.d3 ?_; refine blk_put (cs := #[.string ((rd_T54 l0 x8_1).f0.f0), .string ((rd_T54 l0 x8_1).f0.f1), .string ((rd_T54 l0 x8_1).f0.f2), .string ((rd_T54 l0 x8_1).f0.f3), .int .i64 0, .int .i64 0]) ?_ 4 _ rfl; refine RFn.d3 ?_; refine blk_put (cs := #[.string ((rd_T54 l0 x8_1).f0.f0), .string ((rd_T54 l0 x8_1).f0.f1), .string ((rd_T54 l0 x8_1).f0.f2), .string (⟨#[]⟩ : ByteArray), .int .i64 0, .int .i64 0]) ?_ 3 _ rfl; refine RFn.d3 ?_; refine blk_put (cs := #[.string ((rd_T54 l0 x8_1).f0.f0), .string ((rd_T54 l0 x8_1).f0.f1), .string (⟨#[]⟩ : ByteArray), .string (⟨#[]⟩ : ByteArray), .int .i64 0, .int .i64 0]) ?_ 2 _ rfl; refine RFn.d3 ?_; refine blk_put (cs := #[.string ((rd_T54 l0 x8_1).f0.f0), .string (⟨#[]⟩ : ByteArray), .string (⟨#[]⟩ : ByteArray), .string (⟨#[]⟩ : ByteArray), .int .i64 0, .int .i64 0]) ?_ 1 _ rfl; refine RFn.d3 ?_; refine blk_put (cs := #[.string (⟨#[]⟩ : ByteArray), .string (⟨#[]⟩ : ByteArray), .string (⟨#[]⟩ : ByteArray), .string (⟨#[]⟩ : ByteArray), .int .i64 0, .int .i64 0]) ?_ 0 _ rfl; refine RFn.d3 ?_; exact BK119.out)) : gb120 ≠ gb119)); clear BK119; clear HB; have BK119 := n0_; have HB := n1_; have BK120 := n2_; have GW120 := n3_; have GE120 := n4_; have NB119_120 := n5_; have NB120_119 := n6_; clear n0_ n1_ n2_ n3_ n4_ n5_ n6_; clear hb hbox hg; have hnb9 := NB120_119.out; have hnc9 := NB119_120.out; obtain ⟨hcz10_0, hcz10_1, hcz10_2, hcz10_3, hcz10_4⟩ := RFn.bc5 BK120; obtain ⟨hfz10_0, hfz10_1, hfz10_2, hfz10_3, hfz10_4⟩ := RFn.bf5 BK120))
       go_ret
       exact ⟨by first | rfl | (simp [errW_none, errW_some] <;> rfl) | (simp [*, errW_none, errW_some] <;> rfl), RFn.bels⟩
      ·rw [if_neg c5] at H
       have c5b0 : decide (40 < (((rd_T54 l0 x8_1).f0.f0).size : Int)) = false := decide_eq_false c5
       have c5b1 : decide (40 < ((rd_T54 l0 x8_1).f0.f0).size) = false := decide_eq_false (by omega)
       clear c5
       by_cases c11 : (((rd_T54 l0 x8_1).f0.f1).size : Int) > 40
       ·rw [if_pos c11] at H
        have c11b0 : decide (40 < (((rd_T54 l0 x8_1).f0.f1).size : Int)) = true := decide_eq_true c11
        have c11b1 : decide (40 < ((rd_T54 l0 x8_1).f0.f1).size) = true := decide_eq_true (by omega)
        clear c11
        obtain rfl := Option.some.inj H
        have p118 : 0 ≤ (x8_1 : Int) := RFn.od
        have q118 : x8_1 < (l0.length : Int) := RFn.od
        obtain ⟨ad118, e118, hx118_0, hx118_1, hx118_2, hx118_3, hx118_4, hx118_5⟩ := at_T54 HR0.out x8_1 p118 q118
        cases e118
        replace hx118_0 := RFn.hb HB hx118_0
        replace hx118_1 := RFn.hb HB hx118_1
        replace hx118_2 := RFn.hb HB hx118_2
        replace hx118_3 := RFn.hb HB hx118_3
        replace hx118_4 := RFn.hb HB hx118_4
        replace hx118_5 := RFn.hb HB hx118_5
        replace p118 := eq_true p118
        replace q118 := eq_true q118
        go_wp2_with (first | ((with_reducible refine gate_dst (N := 4) rfl ?_); (try (refine gate_guard (by rfl) ?_; dsimp only)); refine box_event ?hg (N := 4) ?hd (cs := #[.string (⟨#[]⟩ : ByteArray), .string (⟨#[]⟩ : ByteArray), .string (⟨#[]⟩ : ByteArray), .string (⟨#[]⟩ : ByteArray), .int .i64 0, .int .i64 0]) (t := 54) ?hr ?_; (case hd => rfl); (case hg => rfl); (case hr => first | (go_simp; done) | (go_simp; rfl)); intro gb119 hg w12 hbox hb; have n0_ := Aside0.mk (below_step (RFn.bel) hb); have n1_ := Aside0.mk (hbox); have n2_ := Aside0.mk ((by rw [hg]; exact (below_size (RFn.bel)) : w.heap.size ≤ gb119)); have n3_ := Aside0.mk ((by rw [hg]; exact (below_size (RFn.bel)) : w.heap.size ≤ gb119)); clear HB; have HB := n0_; have BK119 := n1_; have GW119 := n2_; have GE119 := n3_; clear n0_ n1_ n2_ n3_; clear hb hbox hg; obtain ⟨hcz13_0, hcz13_1, hcz13_2, hcz13_3, hcz13_4, hcz13_5⟩ := RFn.bc6 BK119; obtain ⟨hfz13_0, hfz13_1, hfz13_2, hfz13_3, hfz13_4, hfz13_5⟩ := RFn.bf6 BK119) | ((with_reducible refine gate_dst (N := 5) rfl ?_); (try (refine gate_guard (by rfl) ?_; dsimp only)); refine box_event ?hg (N := 5) ?hd (cs := #[.string (⟨#[]⟩ : ByteArray), .string (⟨#[]⟩ : ByteArray), .string (⟨#[]⟩ : ByteArray), .string (⟨#[]⟩ : ByteArray), .int .i64 0]) (t := 52) ?hr ?_; (case hd => rfl); (case hg => rfl); (case hr => first | (go_simp; done) | (go_simp; rfl)); intro gb120 hg w14 hbox hb; have n0_ := Aside0.mk (blk_below (g := gb119) (o := .cells #[.string ((rd_T54 l0 x8_1).f0.f0), .string ((rd_T54 l0 x8_1).f0.f1), .string ((rd_T54 l0 x8_1).f0.f2), .string ((rd_T54 l0 x8_1).f0.f3), .int .i64 ((rd_T54 l0 x8_1).f0.f4), .int .i64 ((rd_T54 l0 x8_1).f1)] 54 (0, 0)) (by refine RFn.d3 ?_; refine blk_put (cs := #[.string ((rd_T54 l0 x8_1).f0.f0), .string ((rd_T54 l0 x8_1).f0.f1), .string ((rd_T54 l0 x8_1).f0.f2), .string ((rd_T54 l0 x8_1).f0.f3), .int .i64 ((rd_T54 l0 x8_1).f0.f4), .int .i64 0]) ?_ 5 _ rfl; refine RFn.d3 ?_; refine blk_put (cs := #[.string ((rd_T54 l0 x8_1).f0.f0), .string ((rd_T54 l0 x8_1).f0.f1), .string ((rd_T54 l0 x8_1).f0.f2), .string ((rd_T54 l0 x8_1).f0.f3), .int .i64 0, .int .i64 0]) ?_ 4 _ rfl; refine RFn.d3 ?_; refine blk_put (cs := #[.string ((rd_T54 l0 x8_1).f0.f0), .string ((rd_T54 l0 x8_1).f0.f1), .string ((rd_T54 l0 x8_1).f0.f2), .string (⟨#[]⟩ : ByteArray), .int .i64 0, .int .i64 0]) ?_ 3 _ rfl; refine RFn.d3 ?_; refine blk_put (cs := #[.string ((rd_T54 l0 x8_1).f0.f0), .string ((rd_T54 l0 x8_1).f0.f1), .string (⟨#[]⟩ : ByteArray), .string (⟨#[]⟩ : ByteArray), .int .i64 0, .int .i64 0]) ?_ 2 _ rfl; refine RFn.d3 ?_; refine blk_put (cs := #[.string ((rd_T54 l0 x8_1).f0.f0), .string (⟨#[]⟩ : ByteArray), .string (⟨#[]⟩ : ByteArray), .string (⟨#[]⟩ : ByteArray), .int .i64 0, .int .i64 0]) ?_ 1 _ rfl; refine RFn.d3 ?_; refine blk_put (cs := #[.string (⟨#[]⟩ : ByteArray), .string (⟨#[]⟩ : ByteArray), .string (⟨#[]⟩ : ByteArray), .string (⟨#[]⟩ : ByteArray), .int .i64 0, .int .i64 0]) ?_ 0 _ rfl; refine RFn.d3 ?_; exact BK119.out) hb); have n1_ := Aside0.mk (below_step RFn.bels hb); have n2_ := Aside0.mk (hbox); have n3_ := Aside0.mk ((by rw [hg]; exact (below_size RFn.bels) : w.heap.size ≤ gb120)); have n4_ := Aside0.mk ((by rw [hg]; exact (below_size RFn.bels) : w.heap.size ≤ gb120)); have n5_ := Aside0.mk ((by rw [hg]; exact Nat.ne_of_lt (blk_lt (g := gb119) (o := .cells #[.string ((rd_T54 l0 x8_1).f0.f0), .string ((rd_T54 l0 x8_1).f0.f1), .string ((rd_T54 l0 x8_1).f0.f2), .string ((rd_T54 l0 x8_1).f0.f3), .int .i64 ((rd_T54 l0 x8_1).f0.f4), .int .i64 ((rd_T54 l0 x8_1).f1)] 54 (0, 0)) (by refine RFn.d3 ?_; refine blk_put (cs := #[.string ((rd_T54 l0 x8_1).f0.f0), .string ((rd_T54 l0 x8_1).f0.f1), .string ((rd_T54 l0 x8_1).f0.f2), .string ((rd_T54 l0 x8_1).f0.f3), .int .i64 ((rd_T54 l0 x8_1).f0.f4), .int .i64 0]) ?_ 5 _ rfl; refine RFn.d3 ?_; refine blk_put (cs := #[.string ((rd_T54 l0 x8_1).f0.f0), .string ((rd_T54 l0 x8_1).f0.f1), .string ((rd_T54 l0 x8_1).f0.f2), .string ((rd_T54 l0 x8_1).f0.f3), .int .i64 0, .int .i64 0]) ?_ 4 _ rfl; refine RFn.d3 ?_; refine blk_put (cs := #[.string ((rd_T54 l0 x8_1).f0.f0), .string ((rd_T54 l0 x8_1).f0.f1), .string ((rd_T54 l0 x8_1).f0.f2), .string (⟨#[]⟩ : ByteArray), .int .i64 0, .int .i64 0]) ?_ 3 _ rfl; refine RFn.d3 ?_; refine blk_put (cs := #[.string ((rd_T54 l0 x8_1).f0.f0), .string ((rd_T54 l0 x8_1).f0.f1), .string (⟨#[]⟩ : ByteArray), .string (⟨#[]⟩ : ByteArray), .int .i64 0, .int .i64 0]) ?_ 2 _ rfl; refine RFn.d3 ?_; refine blk_put (cs := #[.string ((rd_T54 l0 x8_1).f0.f0), .string (⟨#[]⟩ : ByteArray), .string (⟨#[]⟩ : ByteArray), .string (⟨#[]⟩ : ByteArray), .int .i64 0, .int .i64 0]) ?_ 1 _ rfl; refine RFn.d3 ?_; refine blk_put (cs := #[.string (⟨#[]⟩ : ByteArray), .string (⟨#[]⟩ : ByteArray), .string (⟨#[]⟩ : ByteArray), .string (⟨#[]⟩ : ByteArray), .int .i64 0, .int .i64 0]) ?_ 0 _ rfl; refine RFn.d3 ?_; exact BK119.out)) : gb119 ≠ gb120)); have n6_ := Aside0.mk ((by rw [hg]; exact Nat.ne_of_gt (blk_lt (g := gb119) (o := .cells #[.string ((rd_T54 l0 x8_1).f0.f0), .string ((rd_T54 l0 x8_1).f0.f1), .string ((rd_T54 l0 x8_1).f0.f2), .string ((rd_T54 l0 x8_1).f0.f3), .int .i64 ((rd_T54 l0 x8_1).f0.f4), .int .i64 ((rd_T54 l0 x8_1).f1)] 54 (0, 0)) (by refine RFn.d3 ?_; refine blk_put (cs := #[.string ((rd_T54 l0 x8_1).f0.f0), .string ((rd_T54 l0 x8_1).f0.f1), .string ((rd_T54 l0 x8_1).f0.f2), .string ((rd_T54 l0 x8_1).f0.f3), .int .i64 ((rd_T54 l0 x8_1).f0.f4), .int .i64 0]) ?_ 5 _ rfl; refine RFn.d3 ?_; refine blk_put (cs := #[.string ((rd_T54 l0 x8_1).f0.f0), .string ((rd_T54 l0 x8_1).f0.f1), .string ((rd_T54 l0 x8_1).f0.f2), .string ((rd_T54 l0 x8_1).f0.f3), .int .i64 0, .int .i64 0]) ?_ 4 _ rfl; refine RFn.d3 ?_; refine blk_put (cs := #[.string ((rd_T54 l0 x8_1).f0.f0), .string ((rd_T54 l0 x8_1).f0.f1), .string ((rd_T54 l0 x8_1).f0.f2), .string (⟨#[]⟩ : ByteArray), .int .i64 0, .int .i64 0]) ?_ 3 _ rfl; refine RFn.d3 ?_; refine blk_put (cs := #[.string ((rd_T54 l0 x8_1).f0.f0), .string ((rd_T54 l0 x8_1).f0.f1), .string (⟨#[]⟩ : ByteArray), .string (⟨#[]⟩ : ByteArray), .int .i64 0, .int .i64 0]) ?_ 2 _ rfl; refine RFn.d3 ?_; refine blk_put (cs := #[.string ((rd_T54 l0 x8_1).f0.f0), .string (⟨#[]⟩ : ByteArray), .string (⟨#[]⟩ : ByteArray), .string (⟨#[]⟩ : ByteArray), .int .i64 0, .int .i64 0]) ?_ 1 _ rfl; refine RFn.d3 ?_; refine blk_put (cs := #[.string (⟨#[]⟩ : ByteArray), .string (⟨#[]⟩ : ByteArray), .string (⟨#[]⟩ : ByteArray), .string (⟨#[]⟩ : ByteArray), .int .i64 0, .int .i64 0]) ?_ 0 _ rfl; refine RFn.d3 ?_; exact BK119.out)) : gb120 ≠ gb119)); clear BK119; clear HB; have BK119 := n0_; have HB := n1_; have BK120 := n2_; have GW120 := n3_; have GE120 := n4_; have NB119_120 := n5_; have NB120_119 := n6_; clear n0_ n1_ n2_ n3_ n4_ n5_ n6_; clear hb hbox hg; have hnb15 := NB120_119.out; have hnc15 := NB119_120.out; obtain ⟨hcz16_0, hcz16_1, hcz16_2, hcz16_3, hcz16_4⟩ := RFn.bc5 BK120; obtain ⟨hfz16_0, hfz16_1, hfz16_2, hfz16_3, hfz16_4⟩ := RFn.bf5 BK120))
        go_ret
        exact ⟨by first | rfl | (simp [errW_none, errW_some] <;> rfl) | (simp [*, errW_none, errW_some] <;> rfl), RFn.bels⟩
       ·rw [if_neg c11] at H
        have c11b0 : decide (40 < (((rd_T54 l0 x8_1).f0.f1).size : Int)) = false := decide_eq_false c11
        have c11b1 : decide (40 < ((rd_T54 l0 x8_1).f0.f1).size) = false := decide_eq_false (by omega)
        clear c11
        by_cases c17 : (((rd_T54 l0 x8_1).f0.f2).size : Int) > 40
        ·rw [if_pos c17] at H
         have c17b0 : decide (40 < (((rd_T54 l0 x8_1).f0.f2).size : Int)) = true := decide_eq_true c17
         have c17b1 : decide (40 < ((rd_T54 l0 x8_1).f0.f2).size) = true := decide_eq_true (by omega)
         clear c17
         obtain rfl := Option.some.inj H
         have p118 : 0 ≤ (x8_1 : Int) := RFn.od
         have q118 : x8_1 < (l0.length : Int) := RFn.od
         obtain ⟨ad118, e118, hx118_0, hx118_1, hx118_2, hx118_3, hx118_4, hx118_5⟩ := at_T54 HR0.out x8_1 p118 q118
         cases e118
         replace hx118_0 := RFn.hb HB hx118_0
         replace hx118_1 := RFn.hb HB hx118_1
         replace hx118_2 := RFn.hb HB hx118_2
         replace hx118_3 := RFn.hb HB hx118_3
         replace hx118_4 := RFn.hb HB hx118_4
         replace hx118_5 := RFn.hb HB hx118_5
         replace p118 := eq_true p118
         replace q118 := eq_true q118
         go_wp2_with (first | ((with_reducible refine gate_dst (N := 4) rfl ?_); (try (refine gate_guard (by rfl) ?_; dsimp only)); refine box_event ?hg (N := 4) ?hd (cs := #[.string (⟨#[]⟩ : ByteArray), .string (⟨#[]⟩ : ByteArray), .string (⟨#[]⟩ : ByteArray), .string (⟨#[]⟩ : ByteArray), .int .i64 0, .int .i64 0]) (t := 54) ?hr ?_; (case hd => rfl); (case hg => rfl); (case hr => first | (go_simp; done) | (go_simp; rfl)); intro gb119 hg w18 hbox hb; have n0_ := Aside0.mk (below_step (RFn.bel) hb); have n1_ := Aside0.mk (hbox); have n2_ := Aside0.mk ((by rw [hg]; exact (below_size (RFn.bel)) : w.heap.size ≤ gb119)); have n3_ := Aside0.mk ((by rw [hg]; exact (below_size (RFn.bel)) : w.heap.size ≤ gb119)); clear HB; have HB := n0_; have BK119 := n1_; have GW119 := n2_; have GE119 := n3_; clear n0_ n1_ n2_ n3_; clear hb hbox hg; obtain ⟨hcz19_0, hcz19_1, hcz19_2, hcz19_3, hcz19_4, hcz19_5⟩ := RFn.bc6 BK119; obtain ⟨hfz19_0, hfz19_1, hfz19_2, hfz19_3, hfz19_4, hfz19_5⟩ := RFn.bf6 BK119) | ((with_reducible refine gate_dst (N := 5) rfl ?_); (try (refine gate_guard (by rfl) ?_; dsimp only)); refine box_event ?hg (N := 5) ?hd (cs := #[.string (⟨#[]⟩ : ByteArray), .string (⟨#[]⟩ : ByteArray), .string (⟨#[]⟩ : ByteArray), .string (⟨#[]⟩ : ByteArray), .int .i64 0]) (t := 52) ?hr ?_; (case hd => rfl); (case hg => rfl); (case hr => first | (go_simp; done) | (go_simp; rfl)); intro gb120 hg w20 hbox hb; have n0_ := Aside0.mk (blk_below (g := gb119) (o := .cells #[.string ((rd_T54 l0 x8_1).f0.f0), .string ((rd_T54 l0 x8_1).f0.f1), .string ((rd_T54 l0 x8_1).f0.f2), .string ((rd_T54 l0 x8_1).f0.f3), .int .i64 ((rd_T54 l0 x8_1).f0.f4), .int .i64 ((rd_T54 l0 x8_1).f1)] 54 (0, 0)) (by refine RFn.d3 ?_; refine blk_put (cs := #[.string ((rd_T54 l0 x8_1).f0.f0), .string ((rd_T54 l0 x8_1).f0.f1), .string ((rd_T54 l0 x8_1).f0.f2), .string ((rd_T54 l0 x8_1).f0.f3), .int .i64 ((rd_T54 l0 x8_1).f0.f4), .int .i64 0]) ?_ 5 _ rfl; refine RFn.d3 ?_; refine blk_put (cs := #[.string ((rd_T54 l0 x8_1).f0.f0), .string ((rd_T54 l0 x8_1).f0.f1), .string ((rd_T54 l0 x8_1).f0.f2), .string ((rd_T54 l0 x8_1).f0.f3), .int .i64 0, .int .i64 0]) ?_ 4 _ rfl; refine RFn.d3 ?_; refine blk_put (cs := #[.string ((rd_T54 l0 x8_1).f0.f0), .string ((rd_T54 l0 x8_1).f0.f1), .string ((rd_T54 l0 x8_1).f0.f2), .string (⟨#[]⟩ : ByteArray), .int .i64 0, .int .i64 0]) ?_ 3 _ rfl; refine RFn.d3 ?_; refine blk_put (cs := #[.string ((rd_T54 l0 x8_1).f0.f0), .string ((rd_T54 l0 x8_1).f0.f1), .string (⟨#[]⟩ : ByteArray), .string (⟨#[]⟩ : ByteArray), .int .i64 0, .int .i64 0]) ?_ 2 _ rfl; refine RFn.d3 ?_; refine blk_put (cs := #[.string ((rd_T54 l0 x8_1).f0.f0), .string (⟨#[]⟩ : ByteArray), .string (⟨#[]⟩ : ByteArray), .string (⟨#[]⟩ : ByteArray), .int .i64 0, .int .i64 0]) ?_ 1 _ rfl; refine RFn.d3 ?_; refine blk_put (cs := #[.string (⟨#[]⟩ : ByteArray), .string (⟨#[]⟩ : ByteArray), .string (⟨#[]⟩ : ByteArray), .string (⟨#[]⟩ : ByteArray), .int .i64 0, .int .i64 0]) ?_ 0 _ rfl; refine RFn.d3 ?_; exact BK119.out) hb); have n1_ := Aside0.mk (below_step RFn.bels hb); have n2_ := Aside0.mk (hbox); have n3_ := Aside0.mk ((by rw [hg]; exact (below_size RFn.bels) : w.heap.size ≤ gb120)); have n4_ := Aside0.mk ((by rw [hg]; exact (below_size RFn.bels) : w.heap.size ≤ gb120)); have n5_ := Aside0.mk ((by rw [hg]; exact Nat.ne_of_lt (blk_lt (g := gb119) (o := .cells #[.string ((rd_T54 l0 x8_1).f0.f0), .string ((rd_T54 l0 x8_1).f0.f1), .string ((rd_T54 l0 x8_1).f0.f2), .string ((rd_T54 l0 x8_1).f0.f3), .int .i64 ((rd_T54 l0 x8_1).f0.f4), .int .i64 ((rd_T54 l0 x8_1).f1)] 54 (0, 0)) (by refine RFn.d3 ?_; refine blk_put (cs := #[.string ((rd_T54 l0 x8_1).f0.f0), .string ((rd_T54 l0 x8_1).f0.f1), .string ((rd_T54 l0 x8_1).f0.f2), .string ((rd_T54 l0 x8_1).f0.f3), .int .i64 ((rd_T54 l0 x8_1).f0.f4), .int .i64 0]) ?_ 5 _ rfl; refine RFn.d3 ?_; refine blk_put (cs := #[.string ((rd_T54 l0 x8_1).f0.f0), .string ((rd_T54 l0 x8_1).f0.f1), .string ((rd_T54 l0 x8_1).f0.f2), .string ((rd_T54 l0 x8_1).f0.f3), .int .i64 0, .int .i64 0]) ?_ 4 _ rfl; refine RFn.d3 ?_; refine blk_put (cs := #[.string ((rd_T54 l0 x8_1).f0.f0), .string ((rd_T54 l0 x8_1).f0.f1), .string ((rd_T54 l0 x8_1).f0.f2), .string (⟨#[]⟩ : ByteArray), .int .i64 0, .int .i64 0]) ?_ 3 _ rfl; refine RFn.d3 ?_; refine blk_put (cs := #[.string ((rd_T54 l0 x8_1).f0.f0), .string ((rd_T54 l0 x8_1).f0.f1), .string (⟨#[]⟩ : ByteArray), .string (⟨#[]⟩ : ByteArray), .int .i64 0, .int .i64 0]) ?_ 2 _ rfl; refine RFn.d3 ?_; refine blk_put (cs := #[.string ((rd_T54 l0 x8_1).f0.f0), .string (⟨#[]⟩ : ByteArray), .string (⟨#[]⟩ : ByteArray), .string (⟨#[]⟩ : ByteArray), .int .i64 0, .int .i64 0]) ?_ 1 _ rfl; refine RFn.d3 ?_; refine blk_put (cs := #[.string (⟨#[]⟩ : ByteArray), .string (⟨#[]⟩ : ByteArray), .string (⟨#[]⟩ : ByteArray), .string (⟨#[]⟩ : ByteArray), .int .i64 0, .int .i64 0]) ?_ 0 _ rfl; refine RFn.d3 ?_; exact BK119.out)) : gb119 ≠ gb120)); have n6_ := Aside0.mk ((by rw [hg]; exact Nat.ne_of_gt (blk_lt (g := gb119) (o := .cells #[.string ((rd_T54 l0 x8_1).f0.f0), .string ((rd_T54 l0 x8_1).f0.f1), .string ((rd_T54 l0 x8_1).f0.f2), .string ((rd_T54 l0 x8_1).f0.f3), .int .i64 ((rd_T54 l0 x8_1).f0.f4), .int .i64 ((rd_T54 l0 x8_1).f1)] 54 (0, 0)) (by refine RFn.d3 ?_; refine blk_put (cs := #[.string ((rd_T54 l0 x8_1).f0.f0), .string ((rd_T54 l0 x8_1).f0.f1), .string ((rd_T54 l0 x8_1).f0.f2), .string ((rd_T54 l0 x8_1).f0.f3), .int .i64 ((rd_T54 l0 x8_1).f0.f4), .int .i64 0]) ?_ 5 _ rfl; refine RFn.d3 ?_; refine blk_put (cs := #[.string ((rd_T54 l0 x8_1).f0.f0), .string ((rd_T54 l0 x8_1).f0.f1), .string ((rd_T54 l0 x8_1).f0.f2), .string ((rd_T54 l0 x8_1).f0.f3), .int .i64 0, .int .i64 0]) ?_ 4 _ rfl; refine RFn.d3 ?_; refine blk_put (cs := #[.string ((rd_T54 l0 x8_1).f0.f0), .string ((rd_T54 l0 x8_1).f0.f1), .string ((rd_T54 l0 x8_1).f0.f2), .string (⟨#[]⟩ : ByteArray), .int .i64 0, .int .i64 0]) ?_ 3 _ rfl; refine RFn.d3 ?_; refine blk_put (cs := #[.string ((rd_T54 l0 x8_1).f0.f0), .string ((rd_T54 l0 x8_1).f0.f1), .string (⟨#[]⟩ : ByteArray), .string (⟨#[]⟩ : ByteArray), .int .i64 0, .int .i64 0]) ?_ 2 _ rfl; refine RFn.d3 ?_; refine blk_put (cs := #[.string ((rd_T54 l0 x8_1).f0.f0), .string (⟨#[]⟩ : ByteArray), .string (⟨#[]⟩ : ByteArray), .string (⟨#[]⟩ : ByteArray), .int .i64 0, .int .i64 0]) ?_ 1 _ rfl; refine RFn.d3 ?_; refine blk_put (cs := #[.string (⟨#[]⟩ : ByteArray), .string (⟨#[]⟩ : ByteArray), .string (⟨#[]⟩ : ByteArray), .string (⟨#[]⟩ : ByteArray), .int .i64 0, .int .i64 0]) ?_ 0 _ rfl; refine RFn.d3 ?_; exact BK119.out)) : gb120 ≠ gb119)); clear BK119; clear HB; have BK119 := n0_; have HB := n1_; have BK120 := n2_; have GW120 := n3_; have GE120 := n4_; have NB119_120 := n5_; have NB120_119 := n6_; clear n0_ n1_ n2_ n3_ n4_ n5_ n6_; clear hb hbox hg; have hnb21 := NB120_119.out; have hnc21 := NB119_120.out; obtain ⟨hcz22_0, hcz22_1, hcz22_2, hcz22_3, hcz22_4⟩ := RFn.bc5 BK120; obtain ⟨hfz22_0, hfz22_1, hfz22_2, hfz22_3, hfz22_4⟩ := RFn.bf5 BK120))
         go_ret
         exact ⟨by first | rfl | (simp [errW_none, errW_some] <;> rfl) | (simp [*, errW_none, errW_some] <;> rfl), RFn.bels⟩
        ·rw [if_neg c17] at H
         have c17b0 : decide (40 < (((rd_T54 l0 x8_1).f0.f2).size : Int)) = false := decide_eq_false c17
         have c17b1 : decide (40 < ((rd_T54 l0 x8_1).f0.f2).size) = false := decide_eq_false (by omega)
         clear c17
         by_cases c23 : (((rd_T54 l0 x8_1).f0.f3).size : Int) > 40
         ·rw [if_pos c23] at H
          have c23b0 : decide (40 < (((rd_T54 l0 x8_1).f0.f3).size : Int)) = true := decide_eq_true c23
          have c23b1 : decide (40 < ((rd_T54 l0 x8_1).f0.f3).size) = true := decide_eq_true (by omega)
          clear c23
          obtain rfl := Option.some.inj H
          have p118 : 0 ≤ (x8_1 : Int) := RFn.od
          have q118 : x8_1 < (l0.length : Int) := RFn.od
          obtain ⟨ad118, e118, hx118_0, hx118_1, hx118_2, hx118_3, hx118_4, hx118_5⟩ := at_T54 HR0.out x8_1 p118 q118
          cases e118
          replace hx118_0 := RFn.hb HB hx118_0
          replace hx118_1 := RFn.hb HB hx118_1
          replace hx118_2 := RFn.hb HB hx118_2
          replace hx118_3 := RFn.hb HB hx118_3
          replace hx118_4 := RFn.hb HB hx118_4
          replace hx118_5 := RFn.hb HB hx118_5
          replace p118 := eq_true p118
          replace q118 := eq_true q118
          go_wp2_with (first | ((with_reducible refine gate_dst (N := 4) rfl ?_); (try (refine gate_guard (by rfl) ?_; dsimp only)); refine box_event ?hg (N := 4) ?hd (cs := #[.string (⟨#[]⟩ : ByteArray), .string (⟨#[]⟩ : ByteArray), .string (⟨#[]⟩ : ByteArray), .string (⟨#[]⟩ : ByteArray), .int .i64 0, .int .i64 0]) (t := 54) ?hr ?_; (case hd => rfl); (case hg => rfl); (case hr => first | (go_simp; done) | (go_simp; rfl)); intro gb119 hg w24 hbox hb; have n0_ := Aside0.mk (below_step (RFn.bel) hb); have n1_ := Aside0.mk (hbox); have n2_ := Aside0.mk ((by rw [hg]; exact (below_size (RFn.bel)) : w.heap.size ≤ gb119)); have n3_ := Aside0.mk ((by rw [hg]; exact (below_size (RFn.bel)) : w.heap.size ≤ gb119)); clear HB; have HB := n0_; have BK119 := n1_; have GW119 := n2_; have GE119 := n3_; clear n0_ n1_ n2_ n3_; clear hb hbox hg; obtain ⟨hcz25_0, hcz25_1, hcz25_2, hcz25_3, hcz25_4, hcz25_5⟩ := RFn.bc6 BK119; obtain ⟨hfz25_0, hfz25_1, hfz25_2, hfz25_3, hfz25_4, hfz25_5⟩ := RFn.bf6 BK119) | ((with_reducible refine gate_dst (N := 5) rfl ?_); (try (refine gate_guard (by rfl) ?_; dsimp only)); refine box_event ?hg (N := 5) ?hd (cs := #[.string (⟨#[]⟩ : ByteArray), .string (⟨#[]⟩ : ByteArray), .string (⟨#[]⟩ : ByteArray), .string (⟨#[]⟩ : ByteArray), .int .i64 0]) (t := 52) ?hr ?_; (case hd => rfl); (case hg => rfl); (case hr => first | (go_simp; done) | (go_simp; rfl)); intro gb120 hg w26 hbox hb; have n0_ := Aside0.mk (blk_below (g := gb119) (o := .cells #[.string ((rd_T54 l0 x8_1).f0.f0), .string ((rd_T54 l0 x8_1).f0.f1), .string ((rd_T54 l0 x8_1).f0.f2), .string ((rd_T54 l0 x8_1).f0.f3), .int .i64 ((rd_T54 l0 x8_1).f0.f4), .int .i64 ((rd_T54 l0 x8_1).f1)] 54 (0, 0)) (by refine RFn.d3 ?_; refine blk_put (cs := #[.string ((rd_T54 l0 x8_1).f0.f0), .string ((rd_T54 l0 x8_1).f0.f1), .string ((rd_T54 l0 x8_1).f0.f2), .string ((rd_T54 l0 x8_1).f0.f3), .int .i64 ((rd_T54 l0 x8_1).f0.f4), .int .i64 0]) ?_ 5 _ rfl; refine RFn.d3 ?_; refine blk_put (cs := #[.string ((rd_T54 l0 x8_1).f0.f0), .string ((rd_T54 l0 x8_1).f0.f1), .string ((rd_T54 l0 x8_1).f0.f2), .string ((rd_T54 l0 x8_1).f0.f3), .int .i64 0, .int .i64 0]) ?_ 4 _ rfl; refine RFn.d3 ?_; refine blk_put (cs := #[.string ((rd_T54 l0 x8_1).f0.f0), .string ((rd_T54 l0 x8_1).f0.f1), .string ((rd_T54 l0 x8_1).f0.f2), .string (⟨#[]⟩ : ByteArray), .int .i64 0, .int .i64 0]) ?_ 3 _ rfl; refine RFn.d3 ?_; refine blk_put (cs := #[.string ((rd_T54 l0 x8_1).f0.f0), .string ((rd_T54 l0 x8_1).f0.f1), .string (⟨#[]⟩ : ByteArray), .string (⟨#[]⟩ : ByteArray), .int .i64 0, .int .i64 0]) ?_ 2 _ rfl; refine RFn.d3 ?_; refine blk_put (cs := #[.string ((rd_T54 l0 x8_1).f0.f0), .string (⟨#[]⟩ : ByteArray), .string (⟨#[]⟩ : ByteArray), .string (⟨#[]⟩ : ByteArray), .int .i64 0, .int .i64 0]) ?_ 1 _ rfl; refine RFn.d3 ?_; refine blk_put (cs := #[.string (⟨#[]⟩ : ByteArray), .string (⟨#[]⟩ : ByteArray), .string (⟨#[]⟩ : ByteArray), .string (⟨#[]⟩ : ByteArray), .int .i64 0, .int .i64 0]) ?_ 0 _ rfl; refine RFn.d3 ?_; exact BK119.out) hb); have n1_ := Aside0.mk (below_step RFn.bels hb); have n2_ := Aside0.mk (hbox); have n3_ := Aside0.mk ((by rw [hg]; exact (below_size RFn.bels) : w.heap.size ≤ gb120)); have n4_ := Aside0.mk ((by rw [hg]; exact (below_size RFn.bels) : w.heap.size ≤ gb120)); have n5_ := Aside0.mk ((by rw [hg]; exact Nat.ne_of_lt (blk_lt (g := gb119) (o := .cells #[.string ((rd_T54 l0 x8_1).f0.f0), .string ((rd_T54 l0 x8_1).f0.f1), .string ((rd_T54 l0 x8_1).f0.f2), .string ((rd_T54 l0 x8_1).f0.f3), .int .i64 ((rd_T54 l0 x8_1).f0.f4), .int .i64 ((rd_T54 l0 x8_1).f1)] 54 (0, 0)) (by refine RFn.d3 ?_; refine blk_put (cs := #[.string ((rd_T54 l0 x8_1).f0.f0), .string ((rd_T54 l0 x8_1).f0.f1), .string ((rd_T54 l0 x8_1).f0.f2), .string ((rd_T54 l0 x8_1).f0.f3), .int .i64 ((rd_T54 l0 x8_1).f0.f4), .int .i64 0]) ?_ 5 _ rfl; refine RFn.d3 ?_; refine blk_put (cs := #[.string ((rd_T54 l0 x8_1).f0.f0), .string ((rd_T54 l0 x8_1).f0.f1), .string ((rd_T54 l0 x8_1).f0.f2), .string ((rd_T54 l0 x8_1).f0.f3), .int .i64 0, .int .i64 0]) ?_ 4 _ rfl; refine RFn.d3 ?_; refine blk_put (cs := #[.string ((rd_T54 l0 x8_1).f0.f0), .string ((rd_T54 l0 x8_1).f0.f1), .string ((rd_T54 l0 x8_1).f0.f2), .string (⟨#[]⟩ : ByteArray), .int .i64 0, .int .i64 0]) ?_ 3 _ rfl; refine RFn.d3 ?_; refine blk_put (cs := #[.string ((rd_T54 l0 x8_1).f0.f0), .string ((rd_T54 l0 x8_1).f0.f1), .string (⟨#[]⟩ : ByteArray), .string (⟨#[]⟩ : ByteArray), .int .i64 0, .int .i64 0]) ?_ 2 _ rfl; refine RFn.d3 ?_; refine blk_put (cs := #[.string ((rd_T54 l0 x8_1).f0.f0), .string (⟨#[]⟩ : ByteArray), .string (⟨#[]⟩ : ByteArray), .string (⟨#[]⟩ : ByteArray), .int .i64 0, .int .i64 0]) ?_ 1 _ rfl; refine RFn.d3 ?_; refine blk_put (cs := #[.string (⟨#[]⟩ : ByteArray), .string (⟨#[]⟩ : ByteArray), .string (⟨#[]⟩ : ByteArray), .string (⟨#[]⟩ : ByteArray), .int .i64 0, .int .i64 0]) ?_ 0 _ rfl; refine RFn.d3 ?_; exact BK119.out)) : gb119 ≠ gb120)); have n6_ := Aside0.mk ((by rw [hg]; exact Nat.ne_of_gt (blk_lt (g := gb119) (o := .cells #[.string ((rd_T54 l0 x8_1).f0.f0), .string ((rd_T54 l0 x8_1).f0.f1), .string ((rd_T54 l0 x8_1).f0.f2), .string ((rd_T54 l0 x8_1).f0.f3), .int .i64 ((rd_T54 l0 x8_1).f0.f4), .int .i64 ((rd_T54 l0 x8_1).f1)] 54 (0, 0)) (by refine RFn.d3 ?_; refine blk_put (cs := #[.string ((rd_T54 l0 x8_1).f0.f0), .string ((rd_T54 l0 x8_1).f0.f1), .string ((rd_T54 l0 x8_1).f0.f2), .string ((rd_T54 l0 x8_1).f0.f3), .int .i64 ((rd_T54 l0 x8_1).f0.f4), .int .i64 0]) ?_ 5 _ rfl; refine RFn.d3 ?_; refine blk_put (cs := #[.string ((rd_T54 l0 x8_1).f0.f0), .string ((rd_T54 l0 x8_1).f0.f1), .string ((rd_T54 l0 x8_1).f0.f2), .string ((rd_T54 l0 x8_1).f0.f3), .int .i64 0, .int .i64 0]) ?_ 4 _ rfl; refine RFn.d3 ?_; refine blk_put (cs := #[.string ((rd_T54 l0 x8_1).f0.f0), .string ((rd_T54 l0 x8_1).f0.f1), .string ((rd_T54 l0 x8_1).f0.f2), .string (⟨#[]⟩ : ByteArray), .int .i64 0, .int .i64 0]) ?_ 3 _ rfl; refine RFn.d3 ?_; refine blk_put (cs := #[.string ((rd_T54 l0 x8_1).f0.f0), .string ((rd_T54 l0 x8_1).f0.f1), .string (⟨#[]⟩ : ByteArray), .string (⟨#[]⟩ : ByteArray), .int .i64 0, .int .i64 0]) ?_ 2 _ rfl; refine RFn.d3 ?_; refine blk_put (cs := #[.string ((rd_T54 l0 x8_1).f0.f0), .string (⟨#[]⟩ : ByteArray), .string (⟨#[]⟩ : ByteArray), .string (⟨#[]⟩ : ByteArray), .int .i64 0, .int .i64 0]) ?_ 1 _ rfl; refine RFn.d3 ?_; refine blk_put (cs := #[.string (⟨#[]⟩ : ByteArray), .string (⟨#[]⟩ : ByteArray), .string (⟨#[]⟩ : ByteArray), .string (⟨#[]⟩ : ByteArray), .int .i64 0, .int .i64 0]) ?_ 0 _ rfl; refine RFn.d3 ?_; exact BK119.out)) : gb120 ≠ gb119)); clear BK119; clear HB; have BK119 := n0_; have HB := n1_; have BK120 := n2_; have GW120 := n3_; have GE120 := n4_; have NB119_120 := n5_; have NB120_119 := n6_; clear n0_ n1_ n2_ n3_ n4_ n5_ n6_; clear hb hbox hg; have hnb27 := NB120_119.out; have hnc27 := NB119_120.out; obtain ⟨hcz28_0, hcz28_1, hcz28_2, hcz28_3, hcz28_4⟩ := RFn.bc5 BK120; obtain ⟨hfz28_0, hfz28_1, hfz28_2, hfz28_3, hfz28_4⟩ := RFn.bf5 BK120))
          go_ret
          exact ⟨by first | rfl | (simp [errW_none, errW_some] <;> rfl) | (simp [*, errW_none, errW_some] <;> rfl), RFn.bels⟩
         ·rw [if_neg c23] at H
          have c23b0 : decide (40 < (((rd_T54 l0 x8_1).f0.f3).size : Int)) = false := decide_eq_false c23
          have c23b1 : decide (40 < ((rd_T54 l0 x8_1).f0.f3).size) = false := decide_eq_false (by omega)
          clear c23
          have H' := Aside0.mk H
          clear H
          have p118 : 0 ≤ (x8_1 : Int) := RFn.od
          have q118 : x8_1 < (l0.length : Int) := RFn.od
          obtain ⟨ad118, e118, hx118_0, hx118_1, hx118_2, hx118_3, hx118_4, hx118_5⟩ := at_T54 HR0.out x8_1 p118 q118
          cases e118
          replace hx118_0 := RFn.hb HB hx118_0
          replace hx118_1 := RFn.hb HB hx118_1
          replace hx118_2 := RFn.hb HB hx118_2
          replace hx118_3 := RFn.hb HB hx118_3
          replace hx118_4 := RFn.hb HB hx118_4
          replace hx118_5 := RFn.hb HB hx118_5
          replace p118 := eq_true p118
          replace q118 := eq_true q118
          go_wp2_with (first | ((with_reducible refine gate_dst (N := 4) rfl ?_); (try (refine gate_guard (by rfl) ?_; dsimp only)); refine box_event ?hg (N := 4) ?hd (cs := #[.string (⟨#[]⟩ : ByteArray), .string (⟨#[]⟩ : ByteArray), .string (⟨#[]⟩ : ByteArray), .string (⟨#[]⟩ : ByteArray), .int .i64 0, .int .i64 0]) (t := 54) ?hr ?_; (case hd => rfl); (case hg => rfl); (case hr => first | (go_simp; done) | (go_simp; rfl)); intro gb119 hg w29 hbox hb; have n0_ := Aside0.mk (below_step (RFn.bel) hb); have n1_ := Aside0.mk (hbox); have n2_ := Aside0.mk ((by rw [hg]; exact (below_size (RFn.bel)) : w.heap.size ≤ gb119)); have n3_ := Aside0.mk ((by rw [hg]; exact (below_size (RFn.bel)) : w.heap.size ≤ gb119)); clear HB; have HB := n0_; have BK119 := n1_; have GW119 := n2_; have GE119 := n3_; clear n0_ n1_ n2_ n3_; clear hb hbox hg; obtain ⟨hcz30_0, hcz30_1, hcz30_2, hcz30_3, hcz30_4, hcz30_5⟩ := RFn.bc6 BK119; obtain ⟨hfz30_0, hfz30_1, hfz30_2, hfz30_3, hfz30_4, hfz30_5⟩ := RFn.bf6 BK119) | ((with_reducible refine gate_dst (N := 5) rfl ?_); (try (refine gate_guard (by rfl) ?_; dsimp only)); refine box_event ?hg (N := 5) ?hd (cs := #[.string (⟨#[]⟩ : ByteArray), .string (⟨#[]⟩ : ByteArray), .string (⟨#[]⟩ : ByteArray), .string (⟨#[]⟩ : ByteArray), .int .i64 0]) (t := 52) ?hr ?_; (case hd => rfl); (case hg => rfl); (case hr => first | (go_simp; done) | (go_simp; rfl)); intro gb120 hg w31 hbox hb; have n0_ := Aside0.mk (blk_below (g := gb119) (o := .cells #[.string ((rd_T54 l0 x8_1).f0.f0), .string ((rd_T54 l0 x8_1).f0.f1), .string ((rd_T54 l0 x8_1).f0.f2), .string ((rd_T54 l0 x8_1).f0.f3), .int .i64 ((rd_T54 l0 x8_1).f0.f4), .int .i64 ((rd_T54 l0 x8_1).f1)] 54 (0, 0)) (by refine RFn.d3 ?_; refine blk_put (cs := #[.string ((rd_T54 l0 x8_1).f0.f0), .string ((rd_T54 l0 x8_1).f0.f1), .string ((rd_T54 l0 x8_1).f0.f2), .string ((rd_T54 l0 x8_1).f0.f3), .int .i64 ((rd_T54 l0 x8_1).f0.f4), .int .i64 0]) ?_ 5 _ rfl; refine RFn.d3 ?_; refine blk_put (cs := #[.string ((rd_T54 l0 x8_1).f0.f0), .string ((rd_T54 l0 x8_1).f0.f1), .string ((rd_T54 l0 x8_1).f0.f2), .string ((rd_T54 l0 x8_1).f0.f3), .int .i64 0, .int .i64 0]) ?_ 4 _ rfl; refine RFn.d3 ?_; refine blk_put (cs := #[.string ((rd_T54 l0 x8_1).f0.f0), .string ((rd_T54 l0 x8_1).f0.f1), .string ((rd_T54 l0 x8_1).f0.f2), .string (⟨#[]⟩ : ByteArray), .int .i64 0, .int .i64 0]) ?_ 3 _ rfl; refine RFn.d3 ?_; refine blk_put (cs := #[.string ((rd_T54 l0 x8_1).f0.f0), .string ((rd_T54 l0 x8_1).f0.f1), .string (⟨#[]⟩ : ByteArray), .string (⟨#[]⟩ : ByteArray), .int .i64 0, .int .i64 0]) ?_ 2 _ rfl; refine RFn.d3 ?_; refine blk_put (cs := #[.string ((rd_T54 l0 x8_1).f0.f0), .string (⟨#[]⟩ : ByteArray), .string (⟨#[]⟩ : ByteArray), .string (⟨#[]⟩ : ByteArray), .int .i64 0, .int .i64 0]) ?_ 1 _ rfl; refine RFn.d3 ?_; refine blk_put (cs := #[.string (⟨#[]⟩ : ByteArray), .string (⟨#[]⟩ : ByteArray), .string (⟨#[]⟩ : ByteArray), .string (⟨#[]⟩ : ByteArray), .int .i64 0, .int .i64 0]) ?_ 0 _ rfl; refine RFn.d3 ?_; exact BK119.out) hb); have n1_ := Aside0.mk (below_step RFn.bels hb); have n2_ := Aside0.mk (hbox); have n3_ := Aside0.mk ((by rw [hg]; exact (below_size RFn.bels) : w.heap.size ≤ gb120)); have n4_ := Aside0.mk ((by rw [hg]; exact (below_size RFn.bels) : w.heap.size ≤ gb120)); have n5_ := Aside0.mk ((by rw [hg]; exact Nat.ne_of_lt (blk_lt (g := gb119) (o := .cells #[.string ((rd_T54 l0 x8_1).f0.f0), .string ((rd_T54 l0 x8_1).f0.f1), .string ((rd_T54 l0 x8_1).f0.f2), .string ((rd_T54 l0 x8_1).f0.f3), .int .i64 ((rd_T54 l0 x8_1).f0.f4), .int .i64 ((rd_T54 l0 x8_1).f1)] 54 (0, 0)) (by refine RFn.d3 ?_; refine blk_put (cs := #[.string ((rd_T54 l0 x8_1).f0.f0), .string ((rd_T54 l0 x8_1).f0.f1), .string ((rd_T54 l0 x8_1).f0.f2), .string ((rd_T54 l0 x8_1).f0.f3), .int .i64 ((rd_T54 l0 x8_1).f0.f4), .int .i64 0]) ?_ 5 _ rfl; refine RFn.d3 ?_; refine blk_put (cs := #[.string ((rd_T54 l0 x8_1).f0.f0), .string ((rd_T54 l0 x8_1).f0.f1), .string ((rd_T54 l0 x8_1).f0.f2), .string ((rd_T54 l0 x8_1).f0.f3), .int .i64 0, .int .i64 0]) ?_ 4 _ rfl; refine RFn.d3 ?_; refine blk_put (cs := #[.string ((rd_T54 l0 x8_1).f0.f0), .string ((rd_T54 l0 x8_1).f0.f1), .string ((rd_T54 l0 x8_1).f0.f2), .string (⟨#[]⟩ : ByteArray), .int .i64 0, .int .i64 0]) ?_ 3 _ rfl; refine RFn.d3 ?_; refine blk_put (cs := #[.string ((rd_T54 l0 x8_1).f0.f0), .string ((rd_T54 l0 x8_1).f0.f1), .string (⟨#[]⟩ : ByteArray), .string (⟨#[]⟩ : ByteArray), .int .i64 0, .int .i64 0]) ?_ 2 _ rfl; refine RFn.d3 ?_; refine blk_put (cs := #[.string ((rd_T54 l0 x8_1).f0.f0), .string (⟨#[]⟩ : ByteArray), .string (⟨#[]⟩ : ByteArray), .string (⟨#[]⟩ : ByteArray), .int .i64 0, .int .i64 0]) ?_ 1 _ rfl; refine RFn.d3 ?_; refine blk_put (cs := #[.string (⟨#[]⟩ : ByteArray), .string (⟨#[]⟩ : ByteArray), .string (⟨#[]⟩ : ByteArray), .string (⟨#[]⟩ : ByteArray), .int .i64 0, .int .i64 0]) ?_ 0 _ rfl; refine RFn.d3 ?_; exact BK119.out)) : gb119 ≠ gb120)); have n6_ := Aside0.mk ((by rw [hg]; exact Nat.ne_of_gt (blk_lt (g := gb119) (o := .cells #[.string ((rd_T54 l0 x8_1).f0.f0), .string ((rd_T54 l0 x8_1).f0.f1), .string ((rd_T54 l0 x8_1).f0.f2), .string ((rd_T54 l0 x8_1).f0.f3), .int .i64 ((rd_T54 l0 x8_1).f0.f4), .int .i64 ((rd_T54 l0 x8_1).f1)] 54 (0, 0)) (by refine RFn.d3 ?_; refine blk_put (cs := #[.string ((rd_T54 l0 x8_1).f0.f0), .string ((rd_T54 l0 x8_1).f0.f1), .string ((rd_T54 l0 x8_1).f0.f2), .string ((rd_T54 l0 x8_1).f0.f3), .int .i64 ((rd_T54 l0 x8_1).f0.f4), .int .i64 0]) ?_ 5 _ rfl; refine RFn.d3 ?_; refine blk_put (cs := #[.string ((rd_T54 l0 x8_1).f0.f0), .string ((rd_T54 l0 x8_1).f0.f1), .string ((rd_T54 l0 x8_1).f0.f2), .string ((rd_T54 l0 x8_1).f0.f3), .int .i64 0, .int .i64 0]) ?_ 4 _ rfl; refine RFn.d3 ?_; refine blk_put (cs := #[.string ((rd_T54 l0 x8_1).f0.f0), .string ((rd_T54 l0 x8_1).f0.f1), .string ((rd_T54 l0 x8_1).f0.f2), .string (⟨#[]⟩ : ByteArray), .int .i64 0, .int .i64 0]) ?_ 3 _ rfl; refine RFn.d3 ?_; refine blk_put (cs := #[.string ((rd_T54 l0 x8_1).f0.f0), .string ((rd_T54 l0 x8_1).f0.f1), .string (⟨#[]⟩ : ByteArray), .string (⟨#[]⟩ : ByteArray), .int .i64 0, .int .i64 0]) ?_ 2 _ rfl; refine RFn.d3 ?_; refine blk_put (cs := #[.string ((rd_T54 l0 x8_1).f0.f0), .string (⟨#[]⟩ : ByteArray), .string (⟨#[]⟩ : ByteArray), .string (⟨#[]⟩ : ByteArray), .int .i64 0, .int .i64 0]) ?_ 1 _ rfl; refine RFn.d3 ?_; refine blk_put (cs := #[.string (⟨#[]⟩ : ByteArray), .string (⟨#[]⟩ : ByteArray), .string (⟨#[]⟩ : ByteArray), .string (⟨#[]⟩ : ByteArray), .int .i64 0, .int .i64 0]) ?_ 0 _ rfl; refine RFn.d3 ?_; exact BK119.out)) : gb120 ≠ gb119)); clear BK119; clear HB; have BK119 := n0_; have HB := n1_; have BK120 := n2_; have GW120 := n3_; have GE120 := n4_; have NB119_120 := n5_; have NB120_119 := n6_; clear n0_ n1_ n2_ n3_ n4_ n5_ n6_; clear hb hbox hg; have hnb32 := NB120_119.out; have hnc32 := NB119_120.out; obtain ⟨hcz33_0, hcz33_1, hcz33_2, hcz33_3, hcz33_4⟩ := RFn.bc5 BK120; obtain ⟨hfz33_0, hfz33_1, hfz33_2, hfz33_3, hfz33_4⟩ := RFn.bf5 BK120))
          go_roundg k1
          case measure => have := HK1.out; omega
          case rel => exact ⟨(wrap64 (x8_1 + 1)), (by first | rfl | (simp; done) | (simp [*]; done)), H', ⟨RFn.lk HK1⟩, ⟨RFn.bels⟩⟩
     ·rw [if_neg c4] at H
      exact absurd H (by simp)
    ·rw [if_neg c3] at H
     exact absurd H (by simp)
   ·rw [if_neg c2] at H
    have c2b0 : decide (x8_1 < (l0.length : Int)) = false := decide_eq_false c2
    clear c2
    obtain rfl := Option.some.inj H
    go_wp2
    go_ret
    exact ⟨by first | rfl | (simp [errW_none, errW_some] <;> rfl) | (simp [*, errW_none, errW_some] <;> rfl), RFn.bel⟩
/-! ### law09_Theirs: function 11 -/
def law09_Theirs.l0 : Nat → List (S50) → List (S54) → Int → Int → Option ((List (S50)))
 | 0, _, _, _, _ => none
 | k + 1, x3, x6, x7, x8 => if x8 < x7 then (if 0 ≤ x8 then (if x8 < (x6.length : Int) then (if x3.length < 1759218604441 then (law09_Theirs.l0 k (x3 ++ [(⟨(⟨(rd_T54 x6 x8).f0.f0, (rd_T54 x6 x8).f0.f1, (rd_T54 x6 x8).f0.f2, (rd_T54 x6 x8).f0.f3, (rd_T54 x6 x8).f0.f4⟩ : S48), (rd_T54 x6 x8).f1⟩ : S50)]) x6 x7 (wrap64 (x8 + 1))) else (none)) else (none)) else (none)) else (some x3)
def law09_Theirs.f (k : Nat) (l0 : List (S54)) : Option ((List (S50))) := law09_Theirs.l0 k ([] : List (S50)) l0 (l0.length : Int) 0
theorem law09_Theirs.mono_l : ∀ k, (∀ y0 y1 y2 y3, LeO (law09_Theirs.l0 k y0 y1 y2 y3) (law09_Theirs.l0 (k + 1) y0 y1 y2 y3))
 | 0 => fun _ _ _ _ r h => by simp [law09_Theirs.l0] at h
 | k + 1 => by
  have ih0 := law09_Theirs.mono_l k
  ·intro y0 y1 y2 y3
   unfold law09_Theirs.l0
   repeat' with_reducible first | exact LeO.refl _ | apply ih0 | exact LeO.none _ | apply LeO.ite | refine LeO.bind ?_ fun _ => ?_
theorem law09_Theirs.mono : ∀ a0 k, LeO (law09_Theirs.f k a0) (law09_Theirs.f (k + 1) a0) := by
 intro a0 k
 have ih0 := law09_Theirs.mono_l k
 unfold law09_Theirs.f
 repeat' with_reducible first | exact LeO.refl _ | apply ih0 | exact LeO.none _ | apply LeO.ite | refine LeO.bind ?_ fun _ => ?_
set_option maxHeartbeats 8000000 in
set_option maxRecDepth 100000 in
theorem law09_Theirs.calls (k : Nat) (A0 : Option Addr) (c0 : Nat) (l0 : List (S54)) (r : List (S50)) (w : World) (hr0 : Kd.C k54 w A0 l0.length l0) (hc0 : l0.length ≤ c0) (h : law09_Theirs.f k l0 = some r) :
  Calls Tryz.prog 11 #[.slice A0 l0.length c0] w fun e w' => ∃ v0_ : Value, e = .returned (v0_) ∧ Kd.R k50 50 w' w.heap.size (fun _ => True) v0_ r ∧ Below w.heap.size w w' := by
 have hu54 := Tryz.underlying54
 have hu52 := Tryz.underlying52
 have hu50 := Tryz.underlying50
 have HR0 := Aside0.mk hr0
 have HC0 := Aside0.mk hc0
 clear hr0 hc0
 have HB := Aside0.mk (Below.refl w.heap.size w)
 have H : (law09_Theirs.l0 k ([] : List (S50)) l0 (l0.length : Int) 0) = some r := h
 clear h
 have H' := Aside0.mk H
 clear H
 go_enter Tryz.func11, Tryz.ntmps11
 go_wp2
 go_loopg [3, 8] k (fun kq v3 v8 w' => ∃ (x3_1 : List (S50)) (x8_1 : Int), v8 = .int .i64 x8_1 ∧ Aside0 (law09_Theirs.l0 kq x3_1 l0 (l0.length : Int) x8_1 = some r) ∧ Aside0 (kq ≤ k) ∧ Aside0 (Kd.R k50 50 w' w.heap.size (fun _ => True) v3 x3_1) ∧ Aside0 (Below w.heap.size w w'))
 case atStart => exact ⟨(([] : List (S50))), (0), (by first | rfl | (simp; done) | (simp [*]; done)), H', ⟨Nat.le_refl _⟩, ⟨RFn.kn⟩, ⟨RFn.bel⟩⟩
 case round =>
  clear H'
  obtain ⟨x3_1, x8_1, rfl, HA, HK1, HO_3, HB⟩ := hrel
  cases gk with
  | zero => exact absurd HA.out (by simp [law09_Theirs.l0])
  | succ k1 =>
   have H := HA.out
   clear HA
   simp only [law09_Theirs.l0] at H
   by_cases c2 : x8_1 < (l0.length : Int)
   ·rw [if_pos c2] at H
    have c2b0 : decide (x8_1 < (l0.length : Int)) = true := decide_eq_true c2
    clear c2
    by_cases c3 : 0 ≤ x8_1
    ·rw [if_pos c3] at H
     have c3b0 : decide (0 ≤ x8_1) = true := decide_eq_true c3
     clear c3
     by_cases c4 : x8_1 < (l0.length : Int)
     ·rw [if_pos c4] at H
      have c4b0 : decide (x8_1 < (l0.length : Int)) = true := decide_eq_true c4
      clear c4
      by_cases c5 : x3_1.length < 1759218604441
      ·rw [if_pos c5] at H
       have LMc5 := Aside0.mk c5
       clear c5
       obtain ⟨y123, hy123⟩ : ∃ y_ : List (S50), y_ = (x3_1 ++ [(⟨(⟨(rd_T54 l0 x8_1).f0.f0, (rd_T54 l0 x8_1).f0.f1, (rd_T54 l0 x8_1).f0.f2, (rd_T54 l0 x8_1).f0.f3, (rd_T54 l0 x8_1).f0.f4⟩ : S48), (rd_T54 l0 x8_1).f1⟩ : S50)]) := ⟨_, rfl⟩
       replace H : (law09_Theirs.l0 k1 y123 l0 (l0.length : Int) (wrap64 (x8_1 + 1))) = some r := RFn.rp H hy123
       have Ny123 := Aside0.mk hy123
       clear hy123
       have H' := Aside0.mk H
       clear H
       have p121 : 0 ≤ (x8_1 : Int) := RFn.od
       have q121 : x8_1 < (l0.length : Int) := RFn.od
       obtain ⟨ad121, e121, hx121_0, hx121_1, hx121_2, hx121_3, hx121_4, hx121_5⟩ := at_T54 HR0.out x8_1 p121 q121
       cases e121
       replace hx121_0 := RFn.hb HB hx121_0
       replace hx121_1 := RFn.hb HB hx121_1
       replace hx121_2 := RFn.hb HB hx121_2
       replace hx121_3 := RFn.hb HB hx121_3
       replace hx121_4 := RFn.hb HB hx121_4
       replace hx121_5 := RFn.hb HB hx121_5
       replace p121 := eq_true p121
       replace q121 := eq_true q121
       go_wp2_with (first | ((with_reducible refine gate_dst (N := 5) rfl ?_); refine box_event ?hg (N := 5) ?hd (cs := #[.string (⟨#[]⟩ : ByteArray), .string (⟨#[]⟩ : ByteArray), .string (⟨#[]⟩ : ByteArray), .string (⟨#[]⟩ : ByteArray), .int .i64 0, .int .i64 0]) (t := 54) ?hr ?_; (case hd => rfl); (case hg => rfl); (case hr => first | (go_simp; done) | (go_simp; rfl)); intro gb122 hg w6 hbox hb; have n0_ := Aside0.mk (Kd.R_below (RFn.mR HO_3) hb); have n1_ := Aside0.mk (below_step (RFn.bel) hb); have n2_ := Aside0.mk (hbox); have n3_ := Aside0.mk ((by rw [hg]; exact (below_size (RFn.bel)) : w.heap.size ≤ gb122)); have n4_ := Aside0.mk ((by rw [hg]; exact (below_size (RFn.bel)) : w.heap.size ≤ gb122)); clear HO_3; clear HB; have HO_3 := n0_; have HB := n1_; have BK122 := n2_; have GW122 := n3_; have GE122 := n4_; clear n0_ n1_ n2_ n3_ n4_; clear hb hbox hg; obtain ⟨hcz7_0, hcz7_1, hcz7_2, hcz7_3, hcz7_4, hcz7_5⟩ := RFn.bc6 BK122; obtain ⟨hfz7_0, hfz7_1, hfz7_2, hfz7_3, hfz7_4, hfz7_5⟩ := RFn.bf6 BK122) | ((with_reducible refine gate_builtin (b := .append) (xs := #[.tmp 12, .tmp 18]) rfl ?_); at_builtin; refine Kd.R_append k50 (w0 := w) w.heap.size rfl (.tmp 12) (.tmp 18) 28 50 (.agg #[(.string ⟨#[]⟩), (.string ⟨#[]⟩), (.string ⟨#[]⟩), (.string ⟨#[]⟩), (.int .i64 0), (.int .i64 0)]) 80 rfl Tryz.underlying28 info50 rfl (by decide) (by omega) u3 x3_1 (⟨(⟨(rd_T54 l0 x8_1).f0.f0, (rd_T54 l0 x8_1).f0.f1, (rd_T54 l0 x8_1).f0.f2, (rd_T54 l0 x8_1).f0.f3, (rd_T54 l0 x8_1).f0.f4⟩ : S48), (rd_T54 l0 x8_1).f1⟩ : S50) [.string ((rd_T54 l0 x8_1).f0.f0), .string ((rd_T54 l0 x8_1).f0.f1), .string ((rd_T54 l0 x8_1).f0.f2), .string ((rd_T54 l0 x8_1).f0.f3), .int .i64 ((rd_T54 l0 x8_1).f0.f4), .int .i64 ((rd_T54 l0 x8_1).f1)] (fun _ => True) (fun _ => False) rfl (by first | (go_simp; done) | (go_simp; rfl)) ?aP (fun _ hk => hk.elim) ?aF ?aO ?aB ?aS ?aL ?_; (case aP => exact k50_mkM _ _ _ (⟨(⟨(rd_T54 l0 x8_1).f0.f0, (rd_T54 l0 x8_1).f0.f1, (rd_T54 l0 x8_1).f0.f2, (rd_T54 l0 x8_1).f0.f3, (rd_T54 l0 x8_1).f0.f4⟩ : S48), (rd_T54 l0 x8_1).f1⟩ : S50)); (case aB => exact RFn.bels); (case aF => exact (fun _ _ => trivial)); (case aO => exact (by (with_reducible repeat (first | apply Kd.R_alloc | apply Kd.R_drewN | apply Kd.R_drew)); exact Kd.R_mono (Kd.R_far (p := ⟨gb122, 5, none⟩) (Kd.R_far (p := ⟨gb122, 4, none⟩) (Kd.R_far (p := ⟨gb122, 3, none⟩) (Kd.R_far (p := ⟨gb122, 2, none⟩) (Kd.R_far (p := ⟨gb122, 1, none⟩) (Kd.R_far (p := ⟨gb122, 0, none⟩) (Kd.R_types HO_3.out BK122.out (by decide)) (fun _ hk => hk.2) (.string ((rd_T54 l0 x8_1).f0.f0))) (fun _ hk => hk.2) (.string ((rd_T54 l0 x8_1).f0.f1))) (fun _ hk => hk.2) (.string ((rd_T54 l0 x8_1).f0.f2))) (fun _ hk => hk.2) (.string ((rd_T54 l0 x8_1).f0.f3))) (fun _ hk => hk.2) (.int .i64 ((rd_T54 l0 x8_1).f0.f4))) (fun _ hk => hk.2) (.int .i64 ((rd_T54 l0 x8_1).f1))) (fun _ hk => by first | exact trivial | exact trivial))); (case aS => exact (below_size RFn.bels)); (case aL => have := LMc5.out; omega); intro v124 w8 ho hb hg hat; rw [← Ny123.out] at ho; have n0_ := Aside0.mk (blk_grown (g := gb122) (o := .cells #[.string ((rd_T54 l0 x8_1).f0.f0), .string ((rd_T54 l0 x8_1).f0.f1), .string ((rd_T54 l0 x8_1).f0.f2), .string ((rd_T54 l0 x8_1).f0.f3), .int .i64 ((rd_T54 l0 x8_1).f0.f4), .int .i64 ((rd_T54 l0 x8_1).f1)] 54 (0, 0)) (by refine RFn.d3 ?_; refine blk_put (cs := #[.string ((rd_T54 l0 x8_1).f0.f0), .string ((rd_T54 l0 x8_1).f0.f1), .string ((rd_T54 l0 x8_1).f0.f2), .string ((rd_T54 l0 x8_1).f0.f3), .int .i64 ((rd_T54 l0 x8_1).f0.f4), .int .i64 0]) ?_ 5 _ rfl; refine RFn.d3 ?_; refine blk_put (cs := #[.string ((rd_T54 l0 x8_1).f0.f0), .string ((rd_T54 l0 x8_1).f0.f1), .string ((rd_T54 l0 x8_1).f0.f2), .string ((rd_T54 l0 x8_1).f0.f3), .int .i64 0, .int .i64 0]) ?_ 4 _ rfl; refine RFn.d3 ?_; refine blk_put (cs := #[.string ((rd_T54 l0 x8_1).f0.f0), .string ((rd_T54 l0 x8_1).f0.f1), .string ((rd_T54 l0 x8_1).f0.f2), .string (⟨#[]⟩ : ByteArray), .int .i64 0, .int .i64 0]) ?_ 3 _ rfl; refine RFn.d3 ?_; refine blk_put (cs := #[.string ((rd_T54 l0 x8_1).f0.f0), .string ((rd_T54 l0 x8_1).f0.f1), .string (⟨#[]⟩ : ByteArray), .string (⟨#[]⟩ : ByteArray), .int .i64 0, .int .i64 0]) ?_ 2 _ rfl; refine RFn.d3 ?_; refine blk_put (cs := #[.string ((rd_T54 l0 x8_1).f0.f0), .string (⟨#[]⟩ : ByteArray), .string (⟨#[]⟩ : ByteArray), .string (⟨#[]⟩ : ByteArray), .int .i64 0, .int .i64 0]) ?_ 1 _ rfl; refine RFn.d3 ?_; refine blk_put (cs := #[.string (⟨#[]⟩ : ByteArray), .string (⟨#[]⟩ : ByteArray), .string (⟨#[]⟩ : ByteArray), .string (⟨#[]⟩ : ByteArray), .int .i64 0, .int .i64 0]) ?_ 0 _ rfl; refine RFn.d3 ?_; exact BK122.out) hg (Kd.R_ne HO_3.out BK122.out (by decide))); have n1_ := Aside0.mk (hb); have n2_ := Aside0.mk (ho); clear BK122; clear HB; clear HO_3; have BK122 := n0_; have HB := n1_; have HO125 := n2_; clear n0_ n1_ n2_; clear ho hb hg hat))
       go_roundg k1
       case measure => have := HK1.out; omega
       case rel => exact ⟨(y123), (wrap64 (x8_1 + 1)), (by first | rfl | (simp; done) | (simp [*]; done)), H', ⟨RFn.lk HK1⟩, ⟨RFn.mR HO125⟩, ⟨RFn.bels⟩⟩
      ·rw [if_neg c5] at H
       exact absurd H (by simp)
     ·rw [if_neg c4] at H
      exact absurd H (by simp)
    ·rw [if_neg c3] at H
     exact absurd H (by simp)
   ·rw [if_neg c2] at H
    have c2b0 : decide (x8_1 < (l0.length : Int)) = false := decide_eq_false c2
    clear c2
    obtain rfl := Option.some.inj H
    go_wp2
    go_ret
    exact ⟨_, by first | rfl | (simp [errW_none, errW_some] <;> rfl) | (simp [*, errW_none, errW_some] <;> rfl), RFn.mR HO_3, RFn.bel⟩
/-! ### ref09_text: function 55 -/
def ref09_text.f (a0 : ByteArray) (a1 : ByteArray) : Option (Int) := if (Op.bytesLess a0.toList a1.toList) = true then (some (-1)) else (if (Op.bytesLess a1.toList a0.toList) = true then (some 1) else (some 0))
set_option maxHeartbeats 8000000 in
set_option maxRecDepth 100000 in
theorem ref09_text.calls (a0 : ByteArray) (a1 : ByteArray) (r : Int) (w : World) (h : ref09_text.f a0 a1 = some r) :
  Calls Tryz.prog 55 #[.string a0, .string a1] w fun e w' => e = .returned (.int .i64 r) ∧ Drawn0 w w' := by
 have H : (if (Op.bytesLess a0.toList a1.toList) = true then (some (-1)) else (if (Op.bytesLess a1.toList a0.toList) = true then (some 1) else (some 0))) = some r := h
 clear h
 by_cases c3 : (Op.bytesLess a0.toList a1.toList) = true
 ·rw [if_pos c3] at H
  have c3b0 : (Op.bytesLess a0.toList a1.toList) = true := c3
  clear c3
  obtain rfl := Option.some.inj H
  go_enter Tryz.func55, Tryz.ntmps55
  go_wp2
  go_ret
  exact ⟨by first | rfl | (simp; done) | (simp [*]; done), by repeat (first | exact Drawn0.refl _ | apply Drawn0.step)⟩
 ·rw [if_neg c3] at H
  have c3b0 : (Op.bytesLess a0.toList a1.toList) = false := by simpa using c3
  clear c3
  by_cases c4 : (Op.bytesLess a1.toList a0.toList) = true
  ·rw [if_pos c4] at H
   have c4b0 : (Op.bytesLess a1.toList a0.toList) = true := c4
   clear c4
   obtain rfl := Option.some.inj H
   go_enter Tryz.func55, Tryz.ntmps55
   go_wp2
   go_ret
   exact ⟨by first | rfl | (simp; done) | (simp [*]; done), by repeat (first | exact Drawn0.refl _ | apply Drawn0.step)⟩
  ·rw [if_neg c4] at H
   have c4b0 : (Op.bytesLess a1.toList a0.toList) = false := by simpa using c4
   clear c4
   obtain rfl := Option.some.inj H
   go_enter Tryz.func55, Tryz.ntmps55
   go_wp2
   go_ret
   exact ⟨by first | rfl | (simp; done) | (simp [*]; done), by repeat (first | exact Drawn0.refl _ | apply Drawn0.step)⟩
/-! ### ref09_Cmp: function 39 -/
def ref09_Cmp.l0 : Nat → List Int → Int → ByteArray → ByteArray → ByteArray → ByteArray → Int → ByteArray → ByteArray → ByteArray → ByteArray → Int → Option (Int)
 | 0, _, _, _, _, _, _, _, _, _, _, _, _ => none
 | k + 1, x5, x6, x127000, x127001, x127002, x127003, x127004, x128000, x128001, x128002, x128003, x128004 => if x6 < 4 then (if 0 ≤ x6 then (if x6 < (x5.length : Int) then (if (rd x5 x6) = 0 then (ref09_Cmp.l0 k x5 (wrap64 (x6 + 1)) x127000 x127001 x127002 x127003 x127004 x128000 x128001 x128002 x128003 x128004) else (some (rd x5 x6))) else (none)) else (none)) else (if x127004 < x128004 then (some (-1)) else (if x127004 > x128004 then (some 1) else (some 0)))
def ref09_Cmp.f (k : Nat) (a0_0 : ByteArray) (a0_1 : ByteArray) (a0_2 : ByteArray) (a0_3 : ByteArray) (a0_4 : Int) (a1_0 : ByteArray) (a1_1 : ByteArray) (a1_2 : ByteArray) (a1_3 : ByteArray) (a1_4 : Int) : Option (Int) := (ref09_text.f a0_0 a1_0).bind fun t128 => ((ref09_text.f a0_1 a1_1).bind fun t129 => ((ref09_text.f a0_2 a1_2).bind fun t130 => ((ref09_text.f a0_3 a1_3).bind fun t131 => (ref09_Cmp.l0 k (([t128, t129, t130, t131] : List Int)) 0 a0_0 a0_1 a0_2 a0_3 a0_4 a1_0 a1_1 a1_2 a1_3 a1_4))))
theorem ref09_Cmp.mono_l : ∀ k, (∀ y0 y1 y2 y3 y4 y5 y6 y7 y8 y9 y10 y11, LeO (ref09_Cmp.l0 k y0 y1 y2 y3 y4 y5 y6 y7 y8 y9 y10 y11) (ref09_Cmp.l0 (k + 1) y0 y1 y2 y3 y4 y5 y6 y7 y8 y9 y10 y11))
 | 0 => fun _ _ _ _ _ _ _ _ _ _ _ _ r h => by simp [ref09_Cmp.l0] at h
 | k + 1 => by
  have ih0 := ref09_Cmp.mono_l k
  ·intro y0 y1 y2 y3 y4 y5 y6 y7 y8 y9 y10 y11
   unfold ref09_Cmp.l0
   repeat' with_reducible first | exact LeO.refl _ | apply ih0 | exact LeO.none _ | apply LeO.ite | refine LeO.bind ?_ fun _ => ?_
theorem ref09_Cmp.mono : ∀ a0 a1 a2 a3 a4 a5 a6 a7 a8 a9 k, LeO (ref09_Cmp.f k a0 a1 a2 a3 a4 a5 a6 a7 a8 a9) (ref09_Cmp.f (k + 1) a0 a1 a2 a3 a4 a5 a6 a7 a8 a9) := by
 intro a0 a1 a2 a3 a4 a5 a6 a7 a8 a9 k
 have ih0 := ref09_Cmp.mono_l k
 unfold ref09_Cmp.f
 repeat' with_reducible first | exact LeO.refl _ | apply ih0 | exact LeO.none _ | apply LeO.ite | refine LeO.bind ?_ fun _ => ?_
def ref09_Cmp.T1 : Bool × List (List Nat × List Nat) := (true, [([], []), ([0], [0]), ([], []), ([2], [2]), ([1, 3], [1, 3]), ([], []), ([5], [5]), ([], []), ([7], [7]), ([6, 8, 4], [6, 8]), ([], []), ([10], [10]), ([], []), ([12], [12]), ([11, 13, 9], [11, 13]), ([], []), ([15], [15]), ([], []), ([17], [17]), ([16, 18, 14], [16, 18]), ([4, 9, 14, 19], [4, 9, 14, 19]), ([20, 19, 0, 1, 2, 3, 4, 5, 6, 7, 8, 9, 10, 11, 12, 13, 14, 15, 16, 17, 18, 19, 20], [20])])
def ref09_Cmp.B1 : List Nat := [0, 1, 0, 4, 15, 0, 32, 0, 128, 511, 0, 1024, 0, 4096, 16383, 0, 32768, 0, 131072, 524287, 1048575, 2097151]
theorem ref09_Cmp.tab1 : rtab .any (opsOf Tryz.f39 1) = ref09_Cmp.T1 := by kernel_rfl
theorem ref09_Cmp.bits1 : waitsOk ref09_Cmp.T1.2 ref09_Cmp.B1 = true := by kernel_rfl
set_option maxHeartbeats 8000000 in
set_option maxRecDepth 100000 in
theorem ref09_Cmp.calls (k : Nat) (a0_0 : ByteArray) (a0_1 : ByteArray) (a0_2 : ByteArray) (a0_3 : ByteArray) (a0_4 : Int) (a1_0 : ByteArray) (a1_1 : ByteArray) (a1_2 : ByteArray) (a1_3 : ByteArray) (a1_4 : Int) (r : Int) (w : World) (h : ref09_Cmp.f k a0_0 a0_1 a0_2 a0_3 a0_4 a1_0 a1_1 a1_2 a1_3 a1_4 = some r) :
  Calls Tryz.prog 39 #[.agg #[.string a0_0, .string a0_1, .string a0_2, .string a0_3, .int .i64 a0_4], .agg #[.string a1_0, .string a1_1, .string a1_2, .string a1_3, .int .i64 a1_4]] w fun e w' => e = .returned (.int .i64 r) ∧ Below w.heap.size w w' := by
 have hu52 := Tryz.underlying52
 have HB := Aside0.mk (Below.refl w.heap.size w)
 have H : ((ref09_text.f a0_0 a1_0).bind fun t128 => ((ref09_text.f a0_1 a1_1).bind fun t129 => ((ref09_text.f a0_2 a1_2).bind fun t130 => ((ref09_text.f a0_3 a1_3).bind fun t131 => (ref09_Cmp.l0 k (([t128, t129, t130, t131] : List Int)) 0 a0_0 a0_1 a0_2 a0_3 a0_4 a1_0 a1_1 a1_2 a1_3 a1_4))))) = some r := h
 clear h
 obtain ⟨t128, A3, H⟩ := RFn.bn H
 obtain ⟨t129, A4, H⟩ := RFn.bn H
 obtain ⟨t130, A5, H⟩ := RFn.bn H
 obtain ⟨t131, A6, H⟩ := RFn.bn H
 obtain ⟨y132, hy132⟩ : ∃ y_ : List Int, y_ = (([t128, t129, t130, t131] : List Int)) := ⟨_, rfl⟩
 replace H : (ref09_Cmp.l0 k y132 0 a0_0 a0_1 a0_2 a0_3 a0_4 a1_0 a1_1 a1_2 a1_3 a1_4) = some r := RFn.rp H hy132
 have Ny132 := Aside0.mk hy132
 clear hy132
 have H' := Aside0.mk H
 clear H
 go_enter Tryz.func39, Tryz.ntmps39
 try go_wp2_with (first | ((with_reducible refine gate_dst (N := 2) rfl ?_); refine box_event ?hg (N := 2) ?hd (cs := #[.string a0_0, .string a0_1, .string a0_2, .string a0_3, .int .i64 a0_4]) (t := 52) ?hr ?_; (case hd => rfl); (case hg => rfl); (case hr => first | (go_simp; done) | (go_simp; rfl)); intro gb126 hg w7 hbox hb; have n0_ := Aside0.mk (below_step (RFn.bel) hb); have n1_ := Aside0.mk (hbox); have n2_ := Aside0.mk ((by rw [hg]; exact (below_size (RFn.bel)) : w.heap.size ≤ gb126)); have n3_ := Aside0.mk ((by rw [hg]; exact (below_size (RFn.bel)) : w.heap.size ≤ gb126)); clear HB; have HB := n0_; have BK126 := n1_; have GW126 := n2_; have GE126 := n3_; clear n0_ n1_ n2_ n3_; clear hb hbox hg) | ((with_reducible refine gate_dst (N := 3) rfl ?_); refine box_event ?hg (N := 3) ?hd (cs := #[.string a1_0, .string a1_1, .string a1_2, .string a1_3, .int .i64 a1_4]) (t := 52) ?hr ?_; (case hd => rfl); (case hg => rfl); (case hr => first | (go_simp; done) | (go_simp; rfl)); intro gb127 hg w8 hbox hb; have n0_ := Aside0.mk (blk_below (g := gb126) RFn.blk hb); have n1_ := Aside0.mk (below_step RFn.bels hb); have n2_ := Aside0.mk (hbox); have n3_ := Aside0.mk ((by rw [hg]; exact (below_size RFn.bels) : w.heap.size ≤ gb127)); have n4_ := Aside0.mk ((by rw [hg]; exact (below_size RFn.bels) : w.heap.size ≤ gb127)); have n5_ := Aside0.mk ((by rw [hg]; exact Nat.ne_of_lt (blk_lt (g := gb126) RFn.blk) : gb126 ≠ gb127)); have n6_ := Aside0.mk ((by rw [hg]; exact Nat.ne_of_gt (blk_lt (g := gb126) RFn.blk) : gb127 ≠ gb126)); clear BK126; clear HB; have BK126 := n0_; have HB := n1_; have BK127 := n2_; have GW127 := n3_; have GE127 := n4_; have NB126_127 := n5_; have NB127_126 := n6_; clear n0_ n1_ n2_ n3_ n4_ n5_ n6_; clear hb hbox hg))
 have n0_ := Aside0.mk (blk_drew BK126.out)
 have n1_ := Aside0.mk (blk_drew BK127.out)
 have n2_ := Aside0.mk (below_drew1 HB.out)
 clear BK126
 clear BK127
 clear HB
 have BK126 := n0_
 have BK127 := n1_
 have HB := n2_
 clear n0_ n1_ n2_
 refine start_ (n := 22) (S := fun w' => w'.cell? ⟨gb126, 0, none⟩ = some (.string a0_0) ∧ w'.cell? ⟨gb126, 1, none⟩ = some (.string a0_1) ∧ w'.cell? ⟨gb126, 2, none⟩ = some (.string a0_2) ∧ w'.cell? ⟨gb126, 3, none⟩ = some (.string a0_3) ∧ w'.cell? ⟨gb126, 4, none⟩ = some (.int .i64 a0_4) ∧ w'.cell? ⟨gb127, 0, none⟩ = some (.string a1_0) ∧ w'.cell? ⟨gb127, 1, none⟩ = some (.string a1_1) ∧ w'.cell? ⟨gb127, 2, none⟩ = some (.string a1_2) ∧ w'.cell? ⟨gb127, 3, none⟩ = some (.string a1_3) ∧ w'.cell? ⟨gb127, 4, none⟩ = some (.int .i64 a1_4)) (ds := []) (bz 22 0) (by kernel_rfl) rfl rfl (RFn.bd5 BK126 BK127) (fun hHeld => ?_); refine with_tabW ref09_Cmp.tab1 ref09_Cmp.bits1 (fun HT_ HW_ => ?_)
 generalize w8.drew = w9 at BK126 BK127 HB hHeld ⊢
 refine RFn.pA (i := 0) (N := some 7) (bz 22 1) HT_ ?_
 refine RFn.pA (i := 2) (N := some 9) (bz 22 5) HT_ ?_
 refine RFn.pA (i := 5) (N := some 12) (bz 22 37) HT_ ?_
 refine RFn.pA (i := 7) (N := some 14) (bz 22 165) HT_ ?_
 refine RFn.pA (i := 10) (N := some 17) (bz 22 1189) HT_ ?_
 refine RFn.pA (i := 12) (N := some 19) (bz 22 5285) HT_ ?_
 refine RFn.pA (i := 15) (N := some 22) (bz 22 38053) HT_ ?_
 refine RFn.pA (i := 17) (N := some 24) (bz 22 169125) HT_ ?_
 refine RFn.tA (i := 1) (N := some 8) (bz 22 169127) rfl HT_ HW_ hHeld (by rintro w' ⟨s0, s1, s2, s3, s4, s5, s6, s7, s8, s9⟩; go_simp; with_reducible rfl) ?_
 refine RFn.tA (i := 3) (N := some 10) (bz 22 169135) rfl HT_ HW_ hHeld (by rintro w' ⟨s0, s1, s2, s3, s4, s5, s6, s7, s8, s9⟩; go_simp; with_reducible rfl) ?_
 refine RFn.tA (i := 6) (N := some 13) (bz 22 169199) rfl HT_ HW_ hHeld (by rintro w' ⟨s0, s1, s2, s3, s4, s5, s6, s7, s8, s9⟩; go_simp; with_reducible rfl) ?_
 refine RFn.tA (i := 8) (N := some 15) (bz 22 169455) rfl HT_ HW_ hHeld (by rintro w' ⟨s0, s1, s2, s3, s4, s5, s6, s7, s8, s9⟩; go_simp; with_reducible rfl) ?_
 refine RFn.tA (i := 11) (N := some 18) (bz 22 171503) rfl HT_ HW_ hHeld (by rintro w' ⟨s0, s1, s2, s3, s4, s5, s6, s7, s8, s9⟩; go_simp; with_reducible rfl) ?_
 refine RFn.tA (i := 13) (N := some 20) (bz 22 179695) rfl HT_ HW_ hHeld (by rintro w' ⟨s0, s1, s2, s3, s4, s5, s6, s7, s8, s9⟩; go_simp; with_reducible rfl) ?_
 refine RFn.tA (i := 16) (N := some 23) (bz 22 245231) rfl HT_ HW_ hHeld (by rintro w' ⟨s0, s1, s2, s3, s4, s5, s6, s7, s8, s9⟩; go_simp; with_reducible rfl) ?_
 refine RFn.tA (i := 18) (N := some 25) (bz 22 507375) rfl HT_ HW_ hHeld (by rintro w' ⟨s0, s1, s2, s3, s4, s5, s6, s7, s8, s9⟩; go_simp; with_reducible rfl) ?_
 refine RFn.o1 (i := 4) (N := some 11) (bz 22 507391) HT_ fun K hK => ?_
 refine RFn.gA Tryz.func55 #[.string a0_0, .string a1_0] rfl ?_
 with_reducible refine (ref09_text.calls a0_0 a1_0 t128 _ A3.out).mono ?_
 rintro e w' ⟨rfl, ⟨nd, rfl⟩⟩
 refine ⟨_, rfl, ?_⟩
 refine hK.out _ _ (RFn.bd5 BK126 BK127) (fun hHeld => ?_)
 clear hK K
 refine RFn.nm (some 11) ?_
 refine RFn.o1 (i := 9) (N := some 16) (bz 22 507903) HT_ fun K hK => ?_
 refine RFn.gA Tryz.func55 #[.string a0_1, .string a1_1] rfl ?_
 with_reducible refine (ref09_text.calls a0_1 a1_1 t129 _ A4.out).mono ?_
 rintro e w' ⟨rfl, ⟨nd, rfl⟩⟩
 refine ⟨_, rfl, ?_⟩
 refine hK.out _ _ (RFn.bd5 BK126 BK127) (fun hHeld => ?_)
 clear hK K
 refine RFn.nm (some 16) ?_
 refine RFn.o1 (i := 14) (N := some 21) (bz 22 524287) HT_ fun K hK => ?_
 refine RFn.gA Tryz.func55 #[.string a0_2, .string a1_2] rfl ?_
 with_reducible refine (ref09_text.calls a0_2 a1_2 t130 _ A5.out).mono ?_
 rintro e w' ⟨rfl, ⟨nd, rfl⟩⟩
 refine ⟨_, rfl, ?_⟩
 refine hK.out _ _ (RFn.bd5 BK126 BK127) (fun hHeld => ?_)
 clear hK K
 refine RFn.nm (some 21) ?_
 refine RFn.o1 (i := 19) (N := some 26) (bz 22 1048575) HT_ fun K hK => ?_
 refine RFn.gA Tryz.func55 #[.string a0_3, .string a1_3] rfl ?_
 with_reducible refine (ref09_text.calls a0_3 a1_3 t131 _ A6.out).mono ?_
 rintro e w' ⟨rfl, ⟨nd, rfl⟩⟩
 refine ⟨_, rfl, ?_⟩
 refine hK.out _ _ (RFn.bd5 BK126 BK127) (fun hHeld => ?_)
 clear hK K
 refine RFn.nm (some 26) ?_
 refine RFn.o1 (i := 20) (N := some 27) (bz 22 2097151) HT_ fun K hK => ?_
 refine Kd.R_lit_step (Kd.int .i64) _ 3 ?hg (N := 27) ?hd (xs := ([t128, t129, t130, t131] : List Int)) (inner := [.int .i64 t128, .int .i64 t129, .int .i64 t130, .int .i64 t131]) (ok := fun _ => True) (okp := fun _ => True) ?hr ?hp (fun _ hk => hk) trivial (Below.refl _ _) (Nat.le_refl _) (by simp) ?_; (case hd => rfl); (case hg => rfl); (case hr => first | (go_simp; done) | (go_simp; rfl)); (case hp => exact (Reps.one (show Kd.M (Kd.int .i64) _ _ _ t128 [.int .i64 t128] from rfl) (Reps.one (show Kd.M (Kd.int .i64) _ _ _ t129 [.int .i64 t129] from rfl) (Reps.one (show Kd.M (Kd.int .i64) _ _ _ t130 [.int .i64 t130] from rfl) (Reps.one (show Kd.M (Kd.int .i64) _ _ _ t131 [.int .i64 t131] from rfl) (Reps.none _ _))))))
 intro v133 w10 ho11 hb hg_ hnew_
 clear hg_ hnew_
 (first | rw [← Ny132.out] at ho11 | (simp only [Int.reduceToNat] at ho11; rw [← Ny132.out] at ho11))
 have n0_ := Aside0.mk (Kd.R_lower ho11 (below_size RFn.bels))
 have n1_ := Aside0.mk (blk_below (g := gb126) RFn.blk hb)
 have n2_ := Aside0.mk (blk_below (g := gb127) RFn.blk hb)
 have n3_ := Aside0.mk (below_step RFn.bels hb)
 clear BK126
 clear BK127
 clear HB
 have HO134 := n0_
 have BK126 := n1_
 have BK127 := n2_
 have HB := n3_
 clear n0_ n1_ n2_ n3_
 clear hb ho11
 refine hK.out _ _ (RFn.bd5 BK126 BK127) (fun hHeld => ?_)
 clear hK K
 refine RFn.nm (some 27) ?_
 refine RFn.pA (i := 21) (N := some 5) (bz 22 4194303) HT_ ?_
 refine RFn.dn HT_ ?_
 try go_wp2
 go_loopg [6] k (fun kq v6 w' => ∃ (x6_1 : Int), v6 = .int .i64 x6_1 ∧ Aside0 (ref09_Cmp.l0 kq y132 x6_1 a0_0 a0_1 a0_2 a0_3 a0_4 a1_0 a1_1 a1_2 a1_3 a1_4 = some r) ∧ Aside0 (kq ≤ k) ∧ Aside0 (Kd.R (Kd.int .i64) 3 w' w.heap.size (fun _ => True) v133 y132) ∧ Aside0 (w'.heap[gb126]? = some (.cells #[.string a0_0, .string a0_1, .string a0_2, .string a0_3, .int .i64 a0_4] 52 (0, 0))) ∧ Aside0 (w'.heap[gb127]? = some (.cells #[.string a1_0, .string a1_1, .string a1_2, .string a1_3, .int .i64 a1_4] 52 (0, 0))) ∧ Aside0 (Below w.heap.size w w'))
 case atStart => exact ⟨(0), (by first | rfl | (simp; done) | (simp [*]; done)), H', ⟨Nat.le_refl _⟩, ⟨RFn.mR HO134⟩, ⟨RFn.mB BK126⟩, ⟨RFn.mB BK127⟩, ⟨RFn.bels⟩⟩
 case round =>
  clear H'
  obtain ⟨x6_1, rfl, HA, HK1, HO_5, BK126, BK127, HB⟩ := hrel
  cases gk with
  | zero => exact absurd HA.out (by simp [ref09_Cmp.l0])
  | succ k1 =>
   have H := HA.out
   clear HA
   simp only [ref09_Cmp.l0] at H
   by_cases c12 : x6_1 < 4
   ·rw [if_pos c12] at H
    have c12b0 : decide (x6_1 < 4) = true := decide_eq_true c12
    clear c12
    by_cases c13 : 0 ≤ x6_1
    ·rw [if_pos c13] at H
     have c13b0 : decide (0 ≤ x6_1) = true := decide_eq_true c13
     clear c13
     by_cases c14 : x6_1 < (y132.length : Int)
     ·rw [if_pos c14] at H
      have c14b0 : decide (x6_1 < (y132.length : Int)) = true := decide_eq_true c14
      clear c14
      by_cases c15 : (rd y132 x6_1) = 0
      ·rw [if_pos c15] at H
       have c15b0 : ((rd y132 x6_1) == 0) = true := beq_iff_eq.mpr c15
       have c15b1 : ((rd y132 x6_1) != 0) = false := bne_eq_false_iff_eq.mpr c15
       clear c15
       have H' := Aside0.mk H
       clear H
       obtain ⟨Ao16, co16, eo16⟩ := Kd.R_slice HO_5.out
       subst eo16
       have p135 : 0 ≤ (x6_1 : Int) := RFn.od
       have q135 : x6_1 < (y132.length : Int) := RFn.od
       obtain ⟨ad135, e135, hx135_0⟩ := Kd.at_int (Kd.R_reads' HO_5.out).2.2 x6_1 p135 q135
       cases e135
       replace p135 := eq_true p135
       replace q135 := eq_true q135
       go_wp2
       go_roundg k1
       case measure => have := HK1.out; omega
       case rel => exact ⟨(wrap64 (x6_1 + 1)), (by first | rfl | (simp; done) | (simp [*]; done)), H', ⟨RFn.lk HK1⟩, ⟨RFn.mR HO_5⟩, ⟨RFn.mB BK126⟩, ⟨RFn.mB BK127⟩, ⟨RFn.bels⟩⟩
      ·rw [if_neg c15] at H
       have c15b0 : ((rd y132 x6_1) == 0) = false := beq_eq_false_iff_ne.mpr c15
       have c15b1 : ((rd y132 x6_1) != 0) = true := bne_iff_ne.mpr c15
       obtain rfl := Option.some.inj H
       obtain ⟨Ao17, co17, eo17⟩ := Kd.R_slice HO_5.out
       subst eo17
       have p135 : 0 ≤ (x6_1 : Int) := RFn.od
       have q135 : x6_1 < (y132.length : Int) := RFn.od
       obtain ⟨ad135, e135, hx135_0⟩ := Kd.at_int (Kd.R_reads' HO_5.out).2.2 x6_1 p135 q135
       cases e135
       replace p135 := eq_true p135
       replace q135 := eq_true q135
       have p136 : 0 ≤ (x6_1 : Int) := RFn.od
       have q136 : x6_1 < (y132.length : Int) := RFn.od
       obtain ⟨ad136, e136, hx136_0⟩ := Kd.at_int (Kd.R_reads' HO_5.out).2.2 x6_1 p136 q136
       obtain rfl : ad135 = ad136 := (by injection e136)
       replace p136 := eq_true p136
       replace q136 := eq_true q136
       go_wp2
       go_ret
       exact ⟨by first | rfl | (simp [errW_none, errW_some] <;> rfl) | (simp [*, errW_none, errW_some] <;> rfl), RFn.bels⟩
     ·rw [if_neg c14] at H
      exact absurd H (by simp)
    ·rw [if_neg c13] at H
     exact absurd H (by simp)
   ·rw [if_neg c12] at H
    have c12b0 : decide (x6_1 < 4) = false := decide_eq_false c12
    clear c12
    by_cases c18 : a0_4 < a1_4
    ·rw [if_pos c18] at H
     have c18b0 : decide (a0_4 < a1_4) = true := decide_eq_true c18
     clear c18
     obtain rfl := Option.some.inj H
     have hnb19 := NB126_127.out
     have hnc19 := NB127_126.out
     obtain ⟨hcz20_0, hcz20_1, hcz20_2, hcz20_3, hcz20_4⟩ := RFn.bc5 BK126
     obtain ⟨hfz20_0, hfz20_1, hfz20_2, hfz20_3, hfz20_4⟩ := RFn.bf5 BK126
     obtain ⟨hcz21_0, hcz21_1, hcz21_2, hcz21_3, hcz21_4⟩ := RFn.bc5 BK127
     obtain ⟨hfz21_0, hfz21_1, hfz21_2, hfz21_3, hfz21_4⟩ := RFn.bf5 BK127
     go_wp2
     go_ret
     exact ⟨by first | rfl | (simp [errW_none, errW_some] <;> rfl) | (simp [*, errW_none, errW_some] <;> rfl), RFn.bels⟩
    ·rw [if_neg c18] at H
     have c18b0 : decide (a0_4 < a1_4) = false := decide_eq_false c18
     clear c18
     by_cases c22 : a0_4 > a1_4
     ·rw [if_pos c22] at H
      have c22b0 : decide (a1_4 < a0_4) = true := decide_eq_true c22
      clear c22
      obtain rfl := Option.some.inj H
      have hnb23 := NB126_127.out
      have hnc23 := NB127_126.out
      obtain ⟨hcz24_0, hcz24_1, hcz24_2, hcz24_3, hcz24_4⟩ := RFn.bc5 BK126
      obtain ⟨hfz24_0, hfz24_1, hfz24_2, hfz24_3, hfz24_4⟩ := RFn.bf5 BK126
      obtain ⟨hcz25_0, hcz25_1, hcz25_2, hcz25_3, hcz25_4⟩ := RFn.bc5 BK127
      obtain ⟨hfz25_0, hfz25_1, hfz25_2, hfz25_3, hfz25_4⟩ := RFn.bf5 BK127
      go_wp2
      go_ret
      exact ⟨by first | rfl | (simp [errW_none, errW_some] <;> rfl) | (simp [*, errW_none, errW_some] <;> rfl), RFn.bels⟩
     ·rw [if_neg c22] at H
      have c22b0 : decide (a1_4 < a0_4) = false := decide_eq_false c22
      clear c22
      obtain rfl := Option.some.inj H
      have hnb26 := NB126_127.out
      have hnc26 := NB127_126.out
      obtain ⟨hcz27_0, hcz27_1, hcz27_2, hcz27_3, hcz27_4⟩ := RFn.bc5 BK126
      obtain ⟨hfz27_0, hfz27_1, hfz27_2, hfz27_3, hfz27_4⟩ := RFn.bf5 BK126
      obtain ⟨hcz28_0, hcz28_1, hcz28_2, hcz28_3, hcz28_4⟩ := RFn.bc5 BK127
      obtain ⟨hfz28_0, hfz28_1, hfz28_2, hfz28_3, hfz28_4⟩ := RFn.bf5 BK127
      go_wp2
      go_ret
      exact ⟨by first | rfl | (simp [errW_none, errW_some] <;> rfl) | (simp [*, errW_none, errW_some] <;> rfl), RFn.bels⟩
/-! ### ref09_Right: function 22 -/
def ref09_Right.l0 : Nat → List (S54) → Int → Option (Bool)
 | 0, _, _ => none
 | k + 1, x0, x3 => if x3 < (x0.length : Int) then (if 0 ≤ x3 then (if ((rd_T54 x0 x3).f1) = 0 then (some false) else (if x3 > 0 then (if 0 ≤ (wrap64 (x3 - 1)) then (if (wrap64 (x3 - 1)) < (x0.length : Int) then ((ref09_Cmp.f k ((rd_T54 x0 (wrap64 (x3 - 1))).f0.f0) ((rd_T54 x0 (wrap64 (x3 - 1))).f0.f1) ((rd_T54 x0 (wrap64 (x3 - 1))).f0.f2) ((rd_T54 x0 (wrap64 (x3 - 1))).f0.f3) ((rd_T54 x0 (wrap64 (x3 - 1))).f0.f4) ((rd_T54 x0 x3).f0.f0) ((rd_T54 x0 x3).f0.f1) ((rd_T54 x0 x3).f0.f2) ((rd_T54 x0 x3).f0.f3) ((rd_T54 x0 x3).f0.f4)).bind fun t140 => (if t140 ≥ 0 then (some false) else (ref09_Right.l0 k x0 (wrap64 (x3 + 1))))) else (none)) else (none)) else (ref09_Right.l0 k x0 (wrap64 (x3 + 1))))) else (none)) else (some (decide ((x0.length : Int) ≤ 2000)))
def ref09_Right.f (k : Nat) (l0 : List (S54)) : Option (Bool) := ref09_Right.l0 k l0 0
theorem ref09_Right.mono_l : ∀ k, (∀ y0 y1, LeO (ref09_Right.l0 k y0 y1) (ref09_Right.l0 (k + 1) y0 y1))
 | 0 => fun _ _ r h => by simp [ref09_Right.l0] at h
 | k + 1 => by
  have ih0 := ref09_Right.mono_l k
  ·intro y0 y1
   unfold ref09_Right.l0
   repeat' with_reducible first | exact LeO.refl _ | apply ih0 | apply ref09_Cmp.mono | exact LeO.none _ | apply LeO.ite | refine LeO.bind ?_ fun _ => ?_
theorem ref09_Right.mono : ∀ a0 k, LeO (ref09_Right.f k a0) (ref09_Right.f (k + 1) a0) := by
 intro a0 k
 have ih0 := ref09_Right.mono_l k
 unfold ref09_Right.f
 repeat' with_reducible first | exact LeO.refl _ | apply ih0 | apply ref09_Cmp.mono | exact LeO.none _ | apply LeO.ite | refine LeO.bind ?_ fun _ => ?_
def ref09_Right.T4 : Bool × List (List Nat × List Nat) := (true, [([], []), ([], []), ([0, 1], [0, 1]), ([2], [2]), ([3], [3]), ([4], [4]), ([5], [5]), ([6], [6]), ([7, 6], [6, 7]), ([8, 6, 6], [6, 8]), ([9], [9]), ([9], [9]), ([11, 9], [9, 11]), ([10, 12, 9], [9, 10, 12]), ([13, 9], [9, 13]), ([14, 9], [9, 14]), ([9], [9]), ([9], [9]), ([16, 17, 9], [9, 16, 17]), ([18, 9], [9, 18]), ([19, 9], [9, 19]), ([15, 20, 9, 9], [9, 15, 20]), ([21, 9], [9, 21]), ([9, 22, 6], [6, 9, 22]), ([6, 23], [6, 23])])
def ref09_Right.B4 : List Nat := [0, 0, 3, 7, 15, 31, 63, 127, 255, 511, 1023, 1023, 3071, 8191, 16383, 32767, 1023, 1023, 197631, 459775, 984063, 2097151, 4194303, 8388607, 16777215]
theorem ref09_Right.tab4 : rtab .any (opsOf Tryz.f22 4) = ref09_Right.T4 := by kernel_rfl
theorem ref09_Right.bits4 : waitsOk ref09_Right.T4.2 ref09_Right.B4 = true := by kernel_rfl
set_option maxHeartbeats 8000000 in
set_option maxRecDepth 100000 in
theorem ref09_Right.calls (k : Nat) (A0 : Option Addr) (c0 : Nat) (l0 : List (S54)) (r : Bool) (w : World) (hr0 : Kd.C k54 w A0 l0.length l0) (hc0 : l0.length ≤ c0) (h : ref09_Right.f k l0 = some r) :
  Calls Tryz.prog 22 #[.slice A0 l0.length c0] w fun e w' => e = .returned (.bool r) ∧ Below w.heap.size w w' := by
 have hu52 := Tryz.underlying52
 have HR0 := Aside0.mk hr0
 have HC0 := Aside0.mk hc0
 clear hr0 hc0
 have HB := Aside0.mk (Below.refl w.heap.size w)
 have H : (ref09_Right.l0 k l0 0) = some r := h
 clear h
 have H' := Aside0.mk H
 clear H
 go_enter Tryz.func22, Tryz.ntmps22
 go_wp2
 go_loopg [3] k (fun kq v3 w' => ∃ (x3_1 : Int), v3 = .int .i64 x3_1 ∧ Aside0 (ref09_Right.l0 kq l0 x3_1 = some r) ∧ Aside0 (kq ≤ k) ∧ Aside0 (Below w.heap.size w w'))
 case atStart => exact ⟨(0), (by first | rfl | (simp; done) | (simp [*]; done)), H', ⟨Nat.le_refl _⟩, ⟨RFn.bel⟩⟩
 case round =>
  clear H'
  obtain ⟨x3_1, rfl, HA, HK1, HB⟩ := hrel
  cases gk with
  | zero => exact absurd HA.out (by simp [ref09_Right.l0])
  | succ k1 =>
   have H := HA.out
   clear HA
   simp only [ref09_Right.l0] at H
   by_cases c2 : x3_1 < (l0.length : Int)
   ·rw [if_pos c2] at H
    have c2b0 : decide (x3_1 < (l0.length : Int)) = true := decide_eq_true c2
    clear c2
    by_cases c3 : 0 ≤ x3_1
    ·rw [if_pos c3] at H
     have c3b0 : decide (0 ≤ x3_1) = true := decide_eq_true c3
     clear c3
     by_cases c4 : ((rd_T54 l0 x3_1).f1) = 0
     ·rw [if_pos c4] at H
      have c4b0 : (((rd_T54 l0 x3_1).f1) == 0) = true := beq_iff_eq.mpr c4
      have c4b1 : (((rd_T54 l0 x3_1).f1) != 0) = false := bne_eq_false_iff_eq.mpr c4
      clear c4
      obtain rfl := Option.some.inj H
      try go_wp2
      have n0_ := Aside0.mk (below_drew1 HB.out)
      clear HB
      have HB := n0_
      clear n0_
      have p137 : 0 ≤ (x3_1 : Int) := RFn.od
      have q137 : x3_1 < (l0.length : Int) := RFn.od
      obtain ⟨ad137, e137, hx137_0, hx137_1, hx137_2, hx137_3, hx137_4, hx137_5⟩ := at_T54 HR0.out x3_1 p137 q137
      have hw137_5 := hx137_5
      have hw137_4 := hx137_4
      have hw137_3 := hx137_3
      have hw137_2 := hx137_2
      have hw137_1 := hx137_1
      have hw137_0 := hx137_0
      cases e137
      replace hx137_0 := RFn.hb HB hx137_0
      replace hx137_1 := RFn.hb HB hx137_1
      replace hx137_2 := RFn.hb HB hx137_2
      replace hx137_3 := RFn.hb HB hx137_3
      replace hx137_4 := RFn.hb HB hx137_4
      replace hx137_5 := RFn.hb HB hx137_5
      replace p137 := eq_true p137
      replace q137 := eq_true q137
      refine start_ (n := 25) (S := fun w' => w'.cell? (ad137.add ((x3_1).toNat * 6)) = some (.string ((rd_T54 l0 x3_1).f0.f0)) ∧ w'.cell? ⟨(ad137.add ((x3_1).toNat * 6)).block, (ad137.add ((x3_1).toNat * 6)).off + 1, none⟩ = some (.string ((rd_T54 l0 x3_1).f0.f1)) ∧ w'.cell? ⟨(ad137.add ((x3_1).toNat * 6)).block, (ad137.add ((x3_1).toNat * 6)).off + 2, none⟩ = some (.string ((rd_T54 l0 x3_1).f0.f2)) ∧ w'.cell? ⟨(ad137.add ((x3_1).toNat * 6)).block, (ad137.add ((x3_1).toNat * 6)).off + 3, none⟩ = some (.string ((rd_T54 l0 x3_1).f0.f3)) ∧ w'.cell? ⟨(ad137.add ((x3_1).toNat * 6)).block, (ad137.add ((x3_1).toNat * 6)).off + 4, none⟩ = some (.int .i64 ((rd_T54 l0 x3_1).f0.f4)) ∧ w'.cell? ⟨(ad137.add ((x3_1).toNat * 6)).block, (ad137.add ((x3_1).toNat * 6)).off + 5, none⟩ = some (.int .i64 ((rd_T54 l0 x3_1).f1))) (ds := []) (bz 25 0) (by kernel_rfl) rfl rfl ⟨(RFn.hb HB hw137_0), (RFn.hb HB hw137_1), (RFn.hb HB hw137_2), (RFn.hb HB hw137_3), (RFn.hb HB hw137_4), (RFn.hb HB hw137_5)⟩ (fun hHeld => ?_); refine with_tabW ref09_Right.tab4 ref09_Right.bits4 (fun HT_ HW_ => ?_)
      generalize wr.drew = w5 at HB hx137_0 hx137_1 hx137_2 hx137_3 hx137_4 hx137_5 hHeld ⊢
      refine RFn.pA (i := 0) (N := some 10) (bz 25 1) HT_ ?_
      refine RFn.pA (i := 1) (N := some 11) (bz 25 3) HT_ ?_
      refine RFn.pA (i := 2) (N := some 12) (bz 25 7) HT_ ?_
      refine RFn.pA (i := 3) (N := some 13) (bz 25 15) HT_ ?_
      refine RFn.tA (i := 4) (N := some 14) (bz 25 31) rfl HT_ HW_ hHeld (by rintro w' ⟨s0, s1, s2, s3, s4, s5⟩; go_simp; with_reducible rfl) ?_
      refine RFn.pA (i := 5) (N := some 15) (bz 25 63) HT_ ?_
      refine RFn.pA (i := 6) (N := some 16) (bz 25 127) HT_ ?_
      refine RFn.pU (i := 7) (N := some 17) (bz 25 255) HT_ ?_
      refine RFn.pU (i := 8) (N := some 18) (bz 25 511) HT_ ?_
      refine RFn.pU (i := 9) (N := some 19) (bz 25 1023) HT_ ?_
      refine RFn.pU (i := 10) (N := some 20) (bz 25 2047) HT_ ?_
      refine RFn.pU (i := 11) (N := some 21) (bz 25 4095) HT_ ?_
      refine RFn.pU (i := 12) (N := some 22) (bz 25 8191) HT_ ?_
      refine RFn.pU (i := 13) (N := some 23) (bz 25 16383) HT_ ?_
      refine RFn.pU (i := 14) (N := some 24) (bz 25 32767) HT_ ?_
      refine RFn.pU (i := 15) (N := some 25) (bz 25 65535) HT_ ?_
      refine RFn.pU (i := 16) (N := some 26) (bz 25 131071) HT_ ?_
      refine RFn.pU (i := 17) (N := some 27) (bz 25 262143) HT_ ?_
      refine RFn.pU (i := 18) (N := some 28) (bz 25 524287) HT_ ?_
      refine RFn.pU (i := 19) (N := some 29) (bz 25 1048575) HT_ ?_
      refine RFn.pU (i := 20) (N := some 30) (bz 25 2097151) HT_ ?_
      refine RFn.pU (i := 21) (N := some 31) (bz 25 4194303) HT_ ?_
      refine RFn.pU (i := 22) (N := some 32) (bz 25 8388607) HT_ ?_
      refine RFn.pU (i := 23) (N := some 33) (bz 25 16777215) HT_ ?_
      refine RFn.pA (i := 24) (N := some 34) (bz 25 33554431) HT_ ?_
      refine RFn.dn HT_ ?_
      try go_wp2
      go_ret
      exact ⟨by first | rfl | (simp [errW_none, errW_some] <;> rfl) | (simp [*, errW_none, errW_some] <;> rfl), RFn.bel⟩
     ·rw [if_neg c4] at H
      have c4b0 : (((rd_T54 l0 x3_1).f1) == 0) = false := beq_eq_false_iff_ne.mpr c4
      have c4b1 : (((rd_T54 l0 x3_1).f1) != 0) = true := bne_iff_ne.mpr c4
      by_cases c6 : x3_1 > 0
      ·rw [if_pos c6] at H
       have c6b0 : decide (0 < x3_1) = true := decide_eq_true c6
       clear c6
       obtain ⟨ji7, hji7⟩ : ∃ j_ : Int, (wrap64 (x3_1 - 1)) = j_ := ⟨_, rfl⟩
       replace H : (if 0 ≤ (ji7) then (if (ji7) < (l0.length : Int) then ((ref09_Cmp.f k1 ((rd_T54 l0 (ji7)).f0.f0) ((rd_T54 l0 (ji7)).f0.f1) ((rd_T54 l0 (ji7)).f0.f2) ((rd_T54 l0 (ji7)).f0.f3) ((rd_T54 l0 (ji7)).f0.f4) ((rd_T54 l0 x3_1).f0.f0) ((rd_T54 l0 x3_1).f0.f1) ((rd_T54 l0 x3_1).f0.f2) ((rd_T54 l0 x3_1).f0.f3) ((rd_T54 l0 x3_1).f0.f4)).bind fun t140 => (if t140 ≥ 0 then (some false) else (ref09_Right.l0 k1 l0 (wrap64 (x3_1 + 1))))) else (none)) else (none)) = some r := by first | (rw [hji7] at H; exact H) | (simp only [hji7] at H ⊢; exact H)
       have hji7w : (IntKind.i64.wrap (x3_1 - 1)) = ji7 := (i64_w _).trans hji7
       by_cases c8 : 0 ≤ (ji7)
       ·rw [if_pos c8] at H
        have c8b0 : decide (0 ≤ (ji7)) = true := decide_eq_true c8
        clear c8
        by_cases c9 : (ji7) < (l0.length : Int)
        ·rw [if_pos c9] at H
         have c9b0 : decide ((ji7) < (l0.length : Int)) = true := decide_eq_true c9
         clear c9
         obtain ⟨t140, A10, H⟩ := RFn.bn H
         by_cases c11 : t140 ≥ 0
         ·rw [if_pos c11] at H
          have c11b0 : decide (0 ≤ t140) = true := decide_eq_true c11
          clear c11
          obtain rfl := Option.some.inj H
          try go_wp2
          have n0_ := Aside0.mk (below_drew1 HB.out)
          clear HB
          have HB := n0_
          clear n0_
          have p137 : 0 ≤ (x3_1 : Int) := RFn.od
          have q137 : x3_1 < (l0.length : Int) := RFn.od
          obtain ⟨ad137, e137, hx137_0, hx137_1, hx137_2, hx137_3, hx137_4, hx137_5⟩ := at_T54 HR0.out x3_1 p137 q137
          have hw137_5 := hx137_5
          have hw137_4 := hx137_4
          have hw137_3 := hx137_3
          have hw137_2 := hx137_2
          have hw137_1 := hx137_1
          have hw137_0 := hx137_0
          cases e137
          replace hx137_0 := RFn.hb HB hx137_0
          replace hx137_1 := RFn.hb HB hx137_1
          replace hx137_2 := RFn.hb HB hx137_2
          replace hx137_3 := RFn.hb HB hx137_3
          replace hx137_4 := RFn.hb HB hx137_4
          replace hx137_5 := RFn.hb HB hx137_5
          replace p137 := eq_true p137
          replace q137 := eq_true q137
          have p138 : 0 ≤ ((ji7) : Int) := RFn.od
          have q138 : (ji7) < (l0.length : Int) := RFn.od
          obtain ⟨ad138, e138, hx138_0, hx138_1, hx138_2, hx138_3, hx138_4, hx138_5⟩ := at_T54 HR0.out (ji7) p138 q138
          have hw138_5 := hx138_5
          have hw138_4 := hx138_4
          have hw138_3 := hx138_3
          have hw138_2 := hx138_2
          have hw138_1 := hx138_1
          have hw138_0 := hx138_0
          obtain rfl : ad137 = ad138 := (by injection e138)
          replace hx138_0 := RFn.hb HB hx138_0
          replace hx138_1 := RFn.hb HB hx138_1
          replace hx138_2 := RFn.hb HB hx138_2
          replace hx138_3 := RFn.hb HB hx138_3
          replace hx138_4 := RFn.hb HB hx138_4
          replace hx138_5 := RFn.hb HB hx138_5
          replace p138 := eq_true p138
          replace q138 := eq_true q138
          have p139 : 0 ≤ (x3_1 : Int) := RFn.od
          have q139 : x3_1 < (l0.length : Int) := RFn.od
          obtain ⟨ad139, e139, hx139_0, hx139_1, hx139_2, hx139_3, hx139_4, hx139_5⟩ := at_T54 HR0.out x3_1 p139 q139
          have hw139_5 := hx139_5
          have hw139_4 := hx139_4
          have hw139_3 := hx139_3
          have hw139_2 := hx139_2
          have hw139_1 := hx139_1
          have hw139_0 := hx139_0
          obtain rfl : ad137 = ad139 := (by injection e139)
          replace hx139_0 := RFn.hb HB hx139_0
          replace hx139_1 := RFn.hb HB hx139_1
          replace hx139_2 := RFn.hb HB hx139_2
          replace hx139_3 := RFn.hb HB hx139_3
          replace hx139_4 := RFn.hb HB hx139_4
          replace hx139_5 := RFn.hb HB hx139_5
          replace p139 := eq_true p139
          replace q139 := eq_true q139
          refine start_ (n := 25) (S := fun w' => w'.cell? (ad137.add ((x3_1).toNat * 6)) = some (.string ((rd_T54 l0 x3_1).f0.f0)) ∧ w'.cell? ⟨(ad137.add ((x3_1).toNat * 6)).block, (ad137.add ((x3_1).toNat * 6)).off + 1, none⟩ = some (.string ((rd_T54 l0 x3_1).f0.f1)) ∧ w'.cell? ⟨(ad137.add ((x3_1).toNat * 6)).block, (ad137.add ((x3_1).toNat * 6)).off + 2, none⟩ = some (.string ((rd_T54 l0 x3_1).f0.f2)) ∧ w'.cell? ⟨(ad137.add ((x3_1).toNat * 6)).block, (ad137.add ((x3_1).toNat * 6)).off + 3, none⟩ = some (.string ((rd_T54 l0 x3_1).f0.f3)) ∧ w'.cell? ⟨(ad137.add ((x3_1).toNat * 6)).block, (ad137.add ((x3_1).toNat * 6)).off + 4, none⟩ = some (.int .i64 ((rd_T54 l0 x3_1).f0.f4)) ∧ w'.cell? ⟨(ad137.add ((x3_1).toNat * 6)).block, (ad137.add ((x3_1).toNat * 6)).off + 5, none⟩ = some (.int .i64 ((rd_T54 l0 x3_1).f1)) ∧ w'.cell? (ad137.add (((ji7)).toNat * 6)) = some (.string ((rd_T54 l0 (ji7)).f0.f0)) ∧ w'.cell? ⟨(ad137.add (((ji7)).toNat * 6)).block, (ad137.add (((ji7)).toNat * 6)).off + 1, none⟩ = some (.string ((rd_T54 l0 (ji7)).f0.f1)) ∧ w'.cell? ⟨(ad137.add (((ji7)).toNat * 6)).block, (ad137.add (((ji7)).toNat * 6)).off + 2, none⟩ = some (.string ((rd_T54 l0 (ji7)).f0.f2)) ∧ w'.cell? ⟨(ad137.add (((ji7)).toNat * 6)).block, (ad137.add (((ji7)).toNat * 6)).off + 3, none⟩ = some (.string ((rd_T54 l0 (ji7)).f0.f3)) ∧ w'.cell? ⟨(ad137.add (((ji7)).toNat * 6)).block, (ad137.add (((ji7)).toNat * 6)).off + 4, none⟩ = some (.int .i64 ((rd_T54 l0 (ji7)).f0.f4)) ∧ w'.cell? ⟨(ad137.add (((ji7)).toNat * 6)).block, (ad137.add (((ji7)).toNat * 6)).off + 5, none⟩ = some (.int .i64 ((rd_T54 l0 (ji7)).f1)) ∧ w'.cell? (ad137.add ((x3_1).toNat * 6)) = some (.string ((rd_T54 l0 x3_1).f0.f0)) ∧ w'.cell? ⟨(ad137.add ((x3_1).toNat * 6)).block, (ad137.add ((x3_1).toNat * 6)).off + 1, none⟩ = some (.string ((rd_T54 l0 x3_1).f0.f1)) ∧ w'.cell? ⟨(ad137.add ((x3_1).toNat * 6)).block, (ad137.add ((x3_1).toNat * 6)).off + 2, none⟩ = some (.string ((rd_T54 l0 x3_1).f0.f2)) ∧ w'.cell? ⟨(ad137.add ((x3_1).toNat * 6)).block, (ad137.add ((x3_1).toNat * 6)).off + 3, none⟩ = some (.string ((rd_T54 l0 x3_1).f0.f3)) ∧ w'.cell? ⟨(ad137.add ((x3_1).toNat * 6)).block, (ad137.add ((x3_1).toNat * 6)).off + 4, none⟩ = some (.int .i64 ((rd_T54 l0 x3_1).f0.f4)) ∧ w'.cell? ⟨(ad137.add ((x3_1).toNat * 6)).block, (ad137.add ((x3_1).toNat * 6)).off + 5, none⟩ = some (.int .i64 ((rd_T54 l0 x3_1).f1))) (ds := []) (bz 25 0) (by kernel_rfl) rfl rfl ⟨(RFn.hb HB hw137_0), (RFn.hb HB hw137_1), (RFn.hb HB hw137_2), (RFn.hb HB hw137_3), (RFn.hb HB hw137_4), (RFn.hb HB hw137_5), (RFn.hb HB hw138_0), (RFn.hb HB hw138_1), (RFn.hb HB hw138_2), (RFn.hb HB hw138_3), (RFn.hb HB hw138_4), (RFn.hb HB hw138_5), (RFn.hb HB hw139_0), (RFn.hb HB hw139_1), (RFn.hb HB hw139_2), (RFn.hb HB hw139_3), (RFn.hb HB hw139_4), (RFn.hb HB hw139_5)⟩ (fun hHeld => ?_); refine with_tabW ref09_Right.tab4 ref09_Right.bits4 (fun HT_ HW_ => ?_)
          generalize wr.drew = w12 at HB hx137_0 hx137_1 hx137_2 hx137_3 hx137_4 hx137_5 hx138_0 hx138_1 hx138_2 hx138_3 hx138_4 hx138_5 hx139_0 hx139_1 hx139_2 hx139_3 hx139_4 hx139_5 hHeld ⊢
          refine RFn.pA (i := 0) (N := some 10) (bz 25 1) HT_ ?_
          refine RFn.pA (i := 1) (N := some 11) (bz 25 3) HT_ ?_
          refine RFn.pA (i := 2) (N := some 12) (bz 25 7) HT_ ?_
          refine RFn.pA (i := 3) (N := some 13) (bz 25 15) HT_ ?_
          refine RFn.tA (i := 4) (N := some 14) (bz 25 31) rfl HT_ HW_ hHeld (by rintro w' ⟨s0, s1, s2, s3, s4, s5, s6, s7, s8, s9, s10, s11, s12, s13, s14, s15, s16, s17⟩; go_simp; with_reducible rfl) ?_
          refine RFn.pA (i := 5) (N := some 15) (bz 25 63) HT_ ?_
          refine RFn.pA (i := 6) (N := some 16) (bz 25 127) HT_ ?_
          refine RFn.pA (i := 7) (N := some 17) (bz 25 255) HT_ ?_
          refine RFn.pA (i := 8) (N := some 18) (bz 25 511) HT_ ?_
          refine RFn.pA (i := 9) (N := some 19) (bz 25 1023) HT_ ?_
          refine RFn.pA (i := 10) (N := some 20) (bz 25 2047) HT_ ?_
          refine RFn.pA (i := 11) (N := some 21) (bz 25 4095) HT_ ?_
          refine RFn.pA (i := 12) (N := some 22) (bz 25 8191) HT_ ?_
          refine RFn.pA (i := 13) (N := some 23) (bz 25 16383) HT_ ?_
          refine RFn.pA (i := 14) (N := some 24) (bz 25 32767) HT_ ?_
          refine RFn.pA (i := 16) (N := some 26) (bz 25 98303) HT_ ?_
          refine RFn.pA (i := 17) (N := some 27) (bz 25 229375) HT_ ?_
          refine RFn.pA (i := 18) (N := some 28) (bz 25 491519) HT_ ?_
          refine RFn.pA (i := 19) (N := some 29) (bz 25 1015807) HT_ ?_
          refine RFn.tA (i := 15) (N := some 25) (bz 25 1048575) rfl HT_ HW_ hHeld (by rintro w' ⟨s0, s1, s2, s3, s4, s5, s6, s7, s8, s9, s10, s11, s12, s13, s14, s15, s16, s17⟩; go_simp; with_reducible rfl) ?_
          refine RFn.tA (i := 20) (N := some 30) (bz 25 2097151) rfl HT_ HW_ hHeld (by rintro w' ⟨s0, s1, s2, s3, s4, s5, s6, s7, s8, s9, s10, s11, s12, s13, s14, s15, s16, s17⟩; go_simp; with_reducible rfl) ?_
          refine RFn.o1 (i := 21) (N := some 31) (bz 25 4194303) HT_ fun K hK => ?_
          refine goes_ Tryz.func39 (by kernel_rfl) rfl #[.agg #[.string ((rd_T54 l0 (ji7)).f0.f0), .string ((rd_T54 l0 (ji7)).f0.f1), .string ((rd_T54 l0 (ji7)).f0.f2), .string ((rd_T54 l0 (ji7)).f0.f3), .int .i64 ((rd_T54 l0 (ji7)).f0.f4)], .agg #[.string ((rd_T54 l0 x3_1).f0.f0), .string ((rd_T54 l0 x3_1).f0.f1), .string ((rd_T54 l0 x3_1).f0.f2), .string ((rd_T54 l0 x3_1).f0.f3), .int .i64 ((rd_T54 l0 x3_1).f0.f4)]] (by rfl) rfl rfl (by (try simp only [List.map_toArray, List.map_cons, List.map_nil]); first | done | (simp only [hji7]; rfl) | rfl | (simp only [List.length_drop, List.length_take]; rfl)) ?_
          with_reducible refine (ref09_Cmp.calls k1 ((rd_T54 l0 (ji7)).f0.f0) ((rd_T54 l0 (ji7)).f0.f1) ((rd_T54 l0 (ji7)).f0.f2) ((rd_T54 l0 (ji7)).f0.f3) ((rd_T54 l0 (ji7)).f0.f4) ((rd_T54 l0 x3_1).f0.f0) ((rd_T54 l0 x3_1).f0.f1) ((rd_T54 l0 x3_1).f0.f2) ((rd_T54 l0 x3_1).f0.f3) ((rd_T54 l0 x3_1).f0.f4) t140 _ A10.out).mono ?_
          rintro e w13 ⟨rfl, hb⟩
          refine ⟨_, rfl, ?_⟩
          have n0_ := Aside0.mk (below_step (RFn.bel) hb)
          clear HB
          have HB := n0_
          clear n0_
          (try clear hb)
          refine hK.out _ _ ⟨(RFn.hb HB hw137_0), (RFn.hb HB hw137_1), (RFn.hb HB hw137_2), (RFn.hb HB hw137_3), (RFn.hb HB hw137_4), (RFn.hb HB hw137_5), (RFn.hb HB hw138_0), (RFn.hb HB hw138_1), (RFn.hb HB hw138_2), (RFn.hb HB hw138_3), (RFn.hb HB hw138_4), (RFn.hb HB hw138_5), (RFn.hb HB hw139_0), (RFn.hb HB hw139_1), (RFn.hb HB hw139_2), (RFn.hb HB hw139_3), (RFn.hb HB hw139_4), (RFn.hb HB hw139_5)⟩ (fun hHeld => ?_)
          clear hK K
          refine RFn.nm (some 31) ?_
          refine RFn.pA (i := 22) (N := some 32) (bz 25 8388607) HT_ ?_
          refine RFn.pA (i := 23) (N := some 33) (bz 25 16777215) HT_ ?_
          refine RFn.pA (i := 24) (N := some 34) (bz 25 33554431) HT_ ?_
          refine RFn.dn HT_ ?_
          try go_wp2
          go_ret
          exact ⟨by first | rfl | (simp [errW_none, errW_some] <;> rfl) | (simp only [← hji7]; first | rfl | (simp [errW_none, errW_some] <;> rfl)) | (simp [*, errW_none, errW_some] <;> rfl), RFn.bel⟩
         ·rw [if_neg c11] at H
          have c11b0 : decide (0 ≤ t140) = false := decide_eq_false c11
          clear c11
          have H' := Aside0.mk H
          clear H
          try go_wp2
          have n0_ := Aside0.mk (below_drew1 HB.out)
          clear HB
          have HB := n0_
          clear n0_
          have p137 : 0 ≤ (x3_1 : Int) := RFn.od
          have q137 : x3_1 < (l0.length : Int) := RFn.od
          obtain ⟨ad137, e137, hx137_0, hx137_1, hx137_2, hx137_3, hx137_4, hx137_5⟩ := at_T54 HR0.out x3_1 p137 q137
          have hw137_5 := hx137_5
          have hw137_4 := hx137_4
          have hw137_3 := hx137_3
          have hw137_2 := hx137_2
          have hw137_1 := hx137_1
          have hw137_0 := hx137_0
          cases e137
          replace hx137_0 := RFn.hb HB hx137_0
          replace hx137_1 := RFn.hb HB hx137_1
          replace hx137_2 := RFn.hb HB hx137_2
          replace hx137_3 := RFn.hb HB hx137_3
          replace hx137_4 := RFn.hb HB hx137_4
          replace hx137_5 := RFn.hb HB hx137_5
          replace p137 := eq_true p137
          replace q137 := eq_true q137
          have p138 : 0 ≤ ((ji7) : Int) := RFn.od
          have q138 : (ji7) < (l0.length : Int) := RFn.od
          obtain ⟨ad138, e138, hx138_0, hx138_1, hx138_2, hx138_3, hx138_4, hx138_5⟩ := at_T54 HR0.out (ji7) p138 q138
          have hw138_5 := hx138_5
          have hw138_4 := hx138_4
          have hw138_3 := hx138_3
          have hw138_2 := hx138_2
          have hw138_1 := hx138_1
          have hw138_0 := hx138_0
          obtain rfl : ad137 = ad138 := (by injection e138)
          replace hx138_0 := RFn.hb HB hx138_0
          replace hx138_1 := RFn.hb HB hx138_1
          replace hx138_2 := RFn.hb HB hx138_2
          replace hx138_3 := RFn.hb HB hx138_3
          replace hx138_4 := RFn.hb HB hx138_4
          replace hx138_5 := RFn.hb HB hx138_5
          replace p138 := eq_true p138
          replace q138 := eq_true q138
          have p139 : 0 ≤ (x3_1 : Int) := RFn.od
          have q139 : x3_1 < (l0.length : Int) := RFn.od
          obtain ⟨ad139, e139, hx139_0, hx139_1, hx139_2, hx139_3, hx139_4, hx139_5⟩ := at_T54 HR0.out x3_1 p139 q139
          have hw139_5 := hx139_5
          have hw139_4 := hx139_4
          have hw139_3 := hx139_3
          have hw139_2 := hx139_2
          have hw139_1 := hx139_1
          have hw139_0 := hx139_0
          obtain rfl : ad137 = ad139 := (by injection e139)
          replace hx139_0 := RFn.hb HB hx139_0
          replace hx139_1 := RFn.hb HB hx139_1
          replace hx139_2 := RFn.hb HB hx139_2
          replace hx139_3 := RFn.hb HB hx139_3
          replace hx139_4 := RFn.hb HB hx139_4
          replace hx139_5 := RFn.hb HB hx139_5
          replace p139 := eq_true p139
          replace q139 := eq_true q139
          refine start_ (n := 25) (S := fun w' => w'.cell? (ad137.add ((x3_1).toNat * 6)) = some (.string ((rd_T54 l0 x3_1).f0.f0)) ∧ w'.cell? ⟨(ad137.add ((x3_1).toNat * 6)).block, (ad137.add ((x3_1).toNat * 6)).off + 1, none⟩ = some (.string ((rd_T54 l0 x3_1).f0.f1)) ∧ w'.cell? ⟨(ad137.add ((x3_1).toNat * 6)).block, (ad137.add ((x3_1).toNat * 6)).off + 2, none⟩ = some (.string ((rd_T54 l0 x3_1).f0.f2)) ∧ w'.cell? ⟨(ad137.add ((x3_1).toNat * 6)).block, (ad137.add ((x3_1).toNat * 6)).off + 3, none⟩ = some (.string ((rd_T54 l0 x3_1).f0.f3)) ∧ w'.cell? ⟨(ad137.add ((x3_1).toNat * 6)).block, (ad137.add ((x3_1).toNat * 6)).off + 4, none⟩ = some (.int .i64 ((rd_T54 l0 x3_1).f0.f4)) ∧ w'.cell? ⟨(ad137.add ((x3_1).toNat * 6)).block, (ad137.add ((x3_1).toNat * 6)).off + 5, none⟩ = some (.int .i64 ((rd_T54 l0 x3_1).f1)) ∧ w'.cell? (ad137.add (((ji7)).toNat * 6)) = some (.string ((rd_T54 l0 (ji7)).f0.f0)) ∧ w'.cell? ⟨(ad137.add (((ji7)).toNat * 6)).block, (ad137.add (((ji7)).toNat * 6)).off + 1, none⟩ = some (.string ((rd_T54 l0 (ji7)).f0.f1)) ∧ w'.cell? ⟨(ad137.add (((ji7)).toNat * 6)).block, (ad137.add (((ji7)).toNat * 6)).off + 2, none⟩ = some (.string ((rd_T54 l0 (ji7)).f0.f2)) ∧ w'.cell? ⟨(ad137.add (((ji7)).toNat * 6)).block, (ad137.add (((ji7)).toNat * 6)).off + 3, none⟩ = some (.string ((rd_T54 l0 (ji7)).f0.f3)) ∧ w'.cell? ⟨(ad137.add (((ji7)).toNat * 6)).block, (ad137.add (((ji7)).toNat * 6)).off + 4, none⟩ = some (.int .i64 ((rd_T54 l0 (ji7)).f0.f4)) ∧ w'.cell? ⟨(ad137.add (((ji7)).toNat * 6)).block, (ad137.add (((ji7)).toNat * 6)).off + 5, none⟩ = some (.int .i64 ((rd_T54 l0 (ji7)).f1)) ∧ w'.cell? (ad137.add ((x3_1).toNat * 6)) = some (.string ((rd_T54 l0 x3_1).f0.f0)) ∧ w'.cell? ⟨(ad137.add ((x3_1).toNat * 6)).block, (ad137.add ((x3_1).toNat * 6)).off + 1, none⟩ = some (.string ((rd_T54 l0 x3_1).f0.f1)) ∧ w'.cell? ⟨(ad137.add ((x3_1).toNat * 6)).block, (ad137.add ((x3_1).toNat * 6)).off + 2, none⟩ = some (.string ((rd_T54 l0 x3_1).f0.f2)) ∧ w'.cell? ⟨(ad137.add ((x3_1).toNat * 6)).block, (ad137.add ((x3_1).toNat * 6)).off + 3, none⟩ = some (.string ((rd_T54 l0 x3_1).f0.f3)) ∧ w'.cell? ⟨(ad137.add ((x3_1).toNat * 6)).block, (ad137.add ((x3_1).toNat * 6)).off + 4, none⟩ = some (.int .i64 ((rd_T54 l0 x3_1).f0.f4)) ∧ w'.cell? ⟨(ad137.add ((x3_1).toNat * 6)).block, (ad137.add ((x3_1).toNat * 6)).off + 5, none⟩ = some (.int .i64 ((rd_T54 l0 x3_1).f1))) (ds := []) (bz 25 0) (by kernel_rfl) rfl rfl ⟨(RFn.hb HB hw137_0), (RFn.hb HB hw137_1), (RFn.hb HB hw137_2), (RFn.hb HB hw137_3), (RFn.hb HB hw137_4), (RFn.hb HB hw137_5), (RFn.hb HB hw138_0), (RFn.hb HB hw138_1), (RFn.hb HB hw138_2), (RFn.hb HB hw138_3), (RFn.hb HB hw138_4), (RFn.hb HB hw138_5), (RFn.hb HB hw139_0), (RFn.hb HB hw139_1), (RFn.hb HB hw139_2), (RFn.hb HB hw139_3), (RFn.hb HB hw139_4), (RFn.hb HB hw139_5)⟩ (fun hHeld => ?_); refine with_tabW ref09_Right.tab4 ref09_Right.bits4 (fun HT_ HW_ => ?_)
          generalize wr.drew = w14 at HB hx137_0 hx137_1 hx137_2 hx137_3 hx137_4 hx137_5 hx138_0 hx138_1 hx138_2 hx138_3 hx138_4 hx138_5 hx139_0 hx139_1 hx139_2 hx139_3 hx139_4 hx139_5 hHeld ⊢
          refine RFn.pA (i := 0) (N := some 10) (bz 25 1) HT_ ?_
          refine RFn.pA (i := 1) (N := some 11) (bz 25 3) HT_ ?_
          refine RFn.pA (i := 2) (N := some 12) (bz 25 7) HT_ ?_
          refine RFn.pA (i := 3) (N := some 13) (bz 25 15) HT_ ?_
          refine RFn.tA (i := 4) (N := some 14) (bz 25 31) rfl HT_ HW_ hHeld (by rintro w' ⟨s0, s1, s2, s3, s4, s5, s6, s7, s8, s9, s10, s11, s12, s13, s14, s15, s16, s17⟩; go_simp; with_reducible rfl) ?_
          refine RFn.pA (i := 5) (N := some 15) (bz 25 63) HT_ ?_
          refine RFn.pA (i := 6) (N := some 16) (bz 25 127) HT_ ?_
          refine RFn.pA (i := 7) (N := some 17) (bz 25 255) HT_ ?_
          refine RFn.pA (i := 8) (N := some 18) (bz 25 511) HT_ ?_
          refine RFn.pA (i := 9) (N := some 19) (bz 25 1023) HT_ ?_
          refine RFn.pA (i := 10) (N := some 20) (bz 25 2047) HT_ ?_
          refine RFn.pA (i := 11) (N := some 21) (bz 25 4095) HT_ ?_
          refine RFn.pA (i := 12) (N := some 22) (bz 25 8191) HT_ ?_
          refine RFn.pA (i := 13) (N := some 23) (bz 25 16383) HT_ ?_
          refine RFn.pA (i := 14) (N := some 24) (bz 25 32767) HT_ ?_
          refine RFn.pA (i := 16) (N := some 26) (bz 25 98303) HT_ ?_
          refine RFn.pA (i := 17) (N := some 27) (bz 25 229375) HT_ ?_
          refine RFn.pA (i := 18) (N := some 28) (bz 25 491519) HT_ ?_
          refine RFn.pA (i := 19) (N := some 29) (bz 25 1015807) HT_ ?_
          refine RFn.tA (i := 15) (N := some 25) (bz 25 1048575) rfl HT_ HW_ hHeld (by rintro w' ⟨s0, s1, s2, s3, s4, s5, s6, s7, s8, s9, s10, s11, s12, s13, s14, s15, s16, s17⟩; go_simp; with_reducible rfl) ?_
          refine RFn.tA (i := 20) (N := some 30) (bz 25 2097151) rfl HT_ HW_ hHeld (by rintro w' ⟨s0, s1, s2, s3, s4, s5, s6, s7, s8, s9, s10, s11, s12, s13, s14, s15, s16, s17⟩; go_simp; with_reducible rfl) ?_
          refine RFn.o1 (i := 21) (N := some 31) (bz 25 4194303) HT_ fun K hK => ?_
          refine goes_ Tryz.func39 (by kernel_rfl) rfl #[.agg #[.string ((rd_T54 l0 (ji7)).f0.f0), .string ((rd_T54 l0 (ji7)).f0.f1), .string ((rd_T54 l0 (ji7)).f0.f2), .string ((rd_T54 l0 (ji7)).f0.f3), .int .i64 ((rd_T54 l0 (ji7)).f0.f4)], .agg #[.string ((rd_T54 l0 x3_1).f0.f0), .string ((rd_T54 l0 x3_1).f0.f1), .string ((rd_T54 l0 x3_1).f0.f2), .string ((rd_T54 l0 x3_1).f0.f3), .int .i64 ((rd_T54 l0 x3_1).f0.f4)]] (by rfl) rfl rfl (by (try simp only [List.map_toArray, List.map_cons, List.map_nil]); first | done | (simp only [hji7]; rfl) | rfl | (simp only [List.length_drop, List.length_take]; rfl)) ?_
          with_reducible refine (ref09_Cmp.calls k1 ((rd_T54 l0 (ji7)).f0.f0) ((rd_T54 l0 (ji7)).f0.f1) ((rd_T54 l0 (ji7)).f0.f2) ((rd_T54 l0 (ji7)).f0.f3) ((rd_T54 l0 (ji7)).f0.f4) ((rd_T54 l0 x3_1).f0.f0) ((rd_T54 l0 x3_1).f0.f1) ((rd_T54 l0 x3_1).f0.f2) ((rd_T54 l0 x3_1).f0.f3) ((rd_T54 l0 x3_1).f0.f4) t140 _ A10.out).mono ?_
          rintro e w15 ⟨rfl, hb⟩
          refine ⟨_, rfl, ?_⟩
          have n0_ := Aside0.mk (below_step (RFn.bel) hb)
          clear HB
          have HB := n0_
          clear n0_
          (try clear hb)
          refine hK.out _ _ ⟨(RFn.hb HB hw137_0), (RFn.hb HB hw137_1), (RFn.hb HB hw137_2), (RFn.hb HB hw137_3), (RFn.hb HB hw137_4), (RFn.hb HB hw137_5), (RFn.hb HB hw138_0), (RFn.hb HB hw138_1), (RFn.hb HB hw138_2), (RFn.hb HB hw138_3), (RFn.hb HB hw138_4), (RFn.hb HB hw138_5), (RFn.hb HB hw139_0), (RFn.hb HB hw139_1), (RFn.hb HB hw139_2), (RFn.hb HB hw139_3), (RFn.hb HB hw139_4), (RFn.hb HB hw139_5)⟩ (fun hHeld => ?_)
          clear hK K
          refine RFn.nm (some 31) ?_
          refine RFn.pA (i := 22) (N := some 32) (bz 25 8388607) HT_ ?_
          refine RFn.pA (i := 23) (N := some 33) (bz 25 16777215) HT_ ?_
          refine RFn.pA (i := 24) (N := some 34) (bz 25 33554431) HT_ ?_
          refine RFn.dn HT_ ?_
          try go_wp2
          go_roundg k1
          case measure => have := HK1.out; omega
          case rel => exact ⟨(wrap64 (x3_1 + 1)), (by first | rfl | (simp; done) | (simp [*]; done)), H', ⟨RFn.lk HK1⟩, ⟨RFn.bel⟩⟩
        ·rw [if_neg c9] at H
         exact absurd H (by simp)
       ·rw [if_neg c8] at H
        exact absurd H (by simp)
      ·rw [if_neg c6] at H
       have c6b0 : decide (0 < x3_1) = false := decide_eq_false c6
       clear c6
       have H' := Aside0.mk H
       clear H
       try go_wp2
       have n0_ := Aside0.mk (below_drew1 HB.out)
       clear HB
       have HB := n0_
       clear n0_
       have p137 : 0 ≤ (x3_1 : Int) := RFn.od
       have q137 : x3_1 < (l0.length : Int) := RFn.od
       obtain ⟨ad137, e137, hx137_0, hx137_1, hx137_2, hx137_3, hx137_4, hx137_5⟩ := at_T54 HR0.out x3_1 p137 q137
       have hw137_5 := hx137_5
       have hw137_4 := hx137_4
       have hw137_3 := hx137_3
       have hw137_2 := hx137_2
       have hw137_1 := hx137_1
       have hw137_0 := hx137_0
       cases e137
       replace hx137_0 := RFn.hb HB hx137_0
       replace hx137_1 := RFn.hb HB hx137_1
       replace hx137_2 := RFn.hb HB hx137_2
       replace hx137_3 := RFn.hb HB hx137_3
       replace hx137_4 := RFn.hb HB hx137_4
       replace hx137_5 := RFn.hb HB hx137_5
       replace p137 := eq_true p137
       replace q137 := eq_true q137
       refine start_ (n := 25) (S := fun w' => w'.cell? (ad137.add ((x3_1).toNat * 6)) = some (.string ((rd_T54 l0 x3_1).f0.f0)) ∧ w'.cell? ⟨(ad137.add ((x3_1).toNat * 6)).block, (ad137.add ((x3_1).toNat * 6)).off + 1, none⟩ = some (.string ((rd_T54 l0 x3_1).f0.f1)) ∧ w'.cell? ⟨(ad137.add ((x3_1).toNat * 6)).block, (ad137.add ((x3_1).toNat * 6)).off + 2, none⟩ = some (.string ((rd_T54 l0 x3_1).f0.f2)) ∧ w'.cell? ⟨(ad137.add ((x3_1).toNat * 6)).block, (ad137.add ((x3_1).toNat * 6)).off + 3, none⟩ = some (.string ((rd_T54 l0 x3_1).f0.f3)) ∧ w'.cell? ⟨(ad137.add ((x3_1).toNat * 6)).block, (ad137.add ((x3_1).toNat * 6)).off + 4, none⟩ = some (.int .i64 ((rd_T54 l0 x3_1).f0.f4)) ∧ w'.cell? ⟨(ad137.add ((x3_1).toNat * 6)).block, (ad137.add ((x3_1).toNat * 6)).off + 5, none⟩ = some (.int .i64 ((rd_T54 l0 x3_1).f1))) (ds := []) (bz 25 0) (by kernel_rfl) rfl rfl ⟨(RFn.hb HB hw137_0), (RFn.hb HB hw137_1), (RFn.hb HB hw137_2), (RFn.hb HB hw137_3), (RFn.hb HB hw137_4), (RFn.hb HB hw137_5)⟩ (fun hHeld => ?_); refine with_tabW ref09_Right.tab4 ref09_Right.bits4 (fun HT_ HW_ => ?_)
       generalize wr.drew = w16 at HB hx137_0 hx137_1 hx137_2 hx137_3 hx137_4 hx137_5 hHeld ⊢
       refine RFn.pA (i := 0) (N := some 10) (bz 25 1) HT_ ?_
       refine RFn.pA (i := 1) (N := some 11) (bz 25 3) HT_ ?_
       refine RFn.pA (i := 2) (N := some 12) (bz 25 7) HT_ ?_
       refine RFn.pA (i := 3) (N := some 13) (bz 25 15) HT_ ?_
       refine RFn.tA (i := 4) (N := some 14) (bz 25 31) rfl HT_ HW_ hHeld (by rintro w' ⟨s0, s1, s2, s3, s4, s5⟩; go_simp; with_reducible rfl) ?_
       refine RFn.pA (i := 5) (N := some 15) (bz 25 63) HT_ ?_
       refine RFn.pA (i := 6) (N := some 16) (bz 25 127) HT_ ?_
       refine RFn.pA (i := 7) (N := some 17) (bz 25 255) HT_ ?_
       refine RFn.pA (i := 8) (N := some 18) (bz 25 511) HT_ ?_
       refine RFn.pA (i := 9) (N := some 19) (bz 25 1023) HT_ ?_
       refine RFn.pU (i := 10) (N := some 20) (bz 25 2047) HT_ ?_
       refine RFn.pU (i := 11) (N := some 21) (bz 25 4095) HT_ ?_
       refine RFn.pU (i := 12) (N := some 22) (bz 25 8191) HT_ ?_
       refine RFn.pU (i := 13) (N := some 23) (bz 25 16383) HT_ ?_
       refine RFn.pU (i := 14) (N := some 24) (bz 25 32767) HT_ ?_
       refine RFn.pU (i := 15) (N := some 25) (bz 25 65535) HT_ ?_
       refine RFn.pU (i := 16) (N := some 26) (bz 25 131071) HT_ ?_
       refine RFn.pU (i := 17) (N := some 27) (bz 25 262143) HT_ ?_
       refine RFn.pU (i := 18) (N := some 28) (bz 25 524287) HT_ ?_
       refine RFn.pU (i := 19) (N := some 29) (bz 25 1048575) HT_ ?_
       refine RFn.pU (i := 20) (N := some 30) (bz 25 2097151) HT_ ?_
       refine RFn.pU (i := 21) (N := some 31) (bz 25 4194303) HT_ ?_
       refine RFn.pU (i := 22) (N := some 32) (bz 25 8388607) HT_ ?_
       refine RFn.pA (i := 23) (N := some 33) (bz 25 16777215) HT_ ?_
       refine RFn.pA (i := 24) (N := some 34) (bz 25 33554431) HT_ ?_
       refine RFn.dn HT_ ?_
       try go_wp2
       go_roundg k1
       case measure => have := HK1.out; omega
       case rel => exact ⟨(wrap64 (x3_1 + 1)), (by first | rfl | (simp; done) | (simp [*]; done)), H', ⟨RFn.lk HK1⟩, ⟨RFn.bel⟩⟩
    ·rw [if_neg c3] at H
     exact absurd H (by simp)
   ·rw [if_neg c2] at H
    have c2b0 : decide (x3_1 < (l0.length : Int)) = false := decide_eq_false c2
    clear c2
    obtain rfl := Option.some.inj H
    go_wp2
    go_ret
    exact ⟨by first | rfl | (simp [errW_none, errW_some] <;> rfl) | (simp [*, errW_none, errW_some] <;> rfl), RFn.bel⟩
end Go.Proofs.YtjbdkdmoacdbpaaGreatDoor.Q
