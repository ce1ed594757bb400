/- printed by a program of this session (wip/tools/pr.sh): it is not a print of the kit -/
import Derived.Test.YtjbdkdmoacdbpaaGreatDoorXLayCompare
import Derived.Test.YtjbdkdmoacdbpaaGreatDoorQx0
import Derived.Test.YtjbdkdmoacdbpaaGreatDoorQx3
namespace Go.Proofs.YtjbdkdmoacdbpaaGreatDoor.Q
open Go.RowKit Go.Proofs.YtjbdkdmoacdbpaaGreatDoorW.PrintWords Go.Proofs.YtjbdkdmoacdbpaaGreatDoorW.PrintLast Go.Proofs.YtjbdkdmoacdbpaaGreatDoorW.PrintMore
attribute [local go_sem] max2_int min2_int max_two min_two max_three min_three max_four min_four RFn.gtr_str   -- for this text's walks alone
set_option linter.unusedVariables false
set_option linter.unusedSimpArgs false
-- NOT PRINTED: function 6 (law10_CodecLines)
/-! ### law10_body: function 18 -/
def law10_body.l0 : Nat → ByteArray → List (S50) → Int → Int → Option (ByteArray)
 | 0, _, _, _, _ => none
 | k + 1, x3, x8, x9, x10 => if x10 < x9 then (if 0 ≤ x10 then (if x10 < (x8.length : Int) then ((codec_Print.f (([(⟨(⟨(rd_T50 x8 x10).f0.f0, (rd_T50 x8 x10).f0.f1, (rd_T50 x8 x10).f0.f2, (rd_T50 x8 x10).f0.f3, (rd_T50 x8 x10).f0.f4⟩ : S48), (rd_T50 x8 x10).f1⟩ : S50)] : List (S50)))).bind fun bt293 => (if (bt293.1.size : Int) > 7 then (if 7 ≤ (bt293.1.size : Int) then (if x3.size + (bt293.1.extract 7 bt293.1.size).size ≤ 9223372036854775807 then (law10_body.l0 k (x3 ++ (bt293.1.extract 7 bt293.1.size)) x8 x9 (wrap64 (x10 + 1))) else (none)) else (none)) else (law10_body.l0 k x3 x8 x9 (wrap64 (x10 + 1))))) else (none)) else (none)) else (some x3)
def law10_body.f (k : Nat) (l0 : List (S50)) : Option (ByteArray) := law10_body.l0 k (⟨#[]⟩ : ByteArray) l0 (l0.length : Int) 0
theorem law10_body.mono_l : ∀ k, (∀ y0 y1 y2 y3, LeO (law10_body.l0 k y0 y1 y2 y3) (law10_body.l0 (k + 1) y0 y1 y2 y3))
 | 0 => fun _ _ _ _ r h => by simp [law10_body.l0] at h
 | k + 1 => by
  have ih0 := law10_body.mono_l k
  ·intro y0 y1 y2 y3
   unfold law10_body.l0
   repeat' with_reducible first | exact LeO.refl _ | apply ih0 | exact LeO.none _ | apply LeO.ite | refine LeO.bind ?_ fun _ => ?_
theorem law10_body.mono : ∀ a0 k, LeO (law10_body.f k a0) (law10_body.f (k + 1) a0) := by
 intro a0 k
 have ih0 := law10_body.mono_l k
 unfold law10_body.f
 repeat' with_reducible first | exact LeO.refl _ | apply ih0 | exact LeO.none _ | apply LeO.ite | refine LeO.bind ?_ fun _ => ?_
set_option maxHeartbeats 8000000 in
set_option maxRecDepth 100000 in
theorem law10_body.calls (k : Nat) (A0 : Option Addr) (c0 : Nat) (l0 : List (S50)) (r : ByteArray) (w : World) (hr0 : Kd.C k50 w A0 l0.length l0) (hc0 : l0.length ≤ c0) (h : law10_body.f k l0 = some r) (hLd_ : Go.Proofs.YtjbdkdmoacdbpaaGreatDoor.X.LaidW w) :
  Calls Tryz.prog 18 #[.slice A0 l0.length c0] w fun e w' => e = .returned (.string r) ∧ Below w.heap.size w w' := by
 have hu50 := Tryz.underlying50
 have HR0 := Aside0.mk hr0
 have HC0 := Aside0.mk hc0
 clear hr0 hc0
 have HB := Aside0.mk (Below.refl w.heap.size w)
 have H : (law10_body.l0 k (⟨#[]⟩ : ByteArray) l0 (l0.length : Int) 0) = some r := h
 clear h
 have H' := Aside0.mk H
 clear H
 go_enter Tryz.func18, Tryz.ntmps18
 go_wp2
 go_loopg [3, 10] k (fun kq v3 v10 w' => ∃ (x3_1 : ByteArray) (x10_1 : Int), v3 = .string x3_1 ∧ v10 = .int .i64 x10_1 ∧ Aside0 (law10_body.l0 kq x3_1 l0 (l0.length : Int) x10_1 = some r) ∧ Aside0 (kq ≤ k) ∧ Aside0 (Below w.heap.size w w'))
 case atStart => exact ⟨((⟨#[]⟩ : ByteArray)), (0), (by first | rfl | (simp; done) | (simp [*]; done)), (by first | rfl | (simp; done) | (simp [*]; done)), H', ⟨Nat.le_refl _⟩, ⟨RFn.bel⟩⟩
 case round =>
  clear H'
  obtain ⟨x3_1, x10_1, rfl, rfl, HA, HK1, HB⟩ := hrel
  cases gk with
  | zero => exact absurd HA.out (by simp [law10_body.l0])
  | succ k1 =>
   have H := HA.out
   clear HA
   simp only [law10_body.l0] at H
   by_cases c2 : x10_1 < (l0.length : Int)
   ·rw [if_pos c2] at H
    have c2b0 : decide (x10_1 < (l0.length : Int)) = true := decide_eq_true c2
    clear c2
    by_cases c3 : 0 ≤ x10_1
    ·rw [if_pos c3] at H
     have c3b0 : decide (0 ≤ x10_1) = true := decide_eq_true c3
     clear c3
     by_cases c4 : x10_1 < (l0.length : Int)
     ·rw [if_pos c4] at H
      have c4b0 : decide (x10_1 < (l0.length : Int)) = true := decide_eq_true c4
      clear c4
      obtain ⟨y290, hy290⟩ : ∃ y_ : List (S50), y_ = (([(⟨(⟨(rd_T50 l0 x10_1).f0.f0, (rd_T50 l0 x10_1).f0.f1, (rd_T50 l0 x10_1).f0.f2, (rd_T50 l0 x10_1).f0.f3, (rd_T50 l0 x10_1).f0.f4⟩ : S48), (rd_T50 l0 x10_1).f1⟩ : S50)] : List (S50))) := ⟨_, rfl⟩
      replace H : ((codec_Print.f y290).bind fun bt293 => (if (bt293.1.size : Int) > 7 then (if 7 ≤ (bt293.1.size : Int) then (if x3_1.size + (bt293.1.extract 7 bt293.1.size).size ≤ 9223372036854775807 then (law10_body.l0 k1 (x3_1 ++ (bt293.1.extract 7 bt293.1.size)) l0 (l0.length : Int) (wrap64 (x10_1 + 1))) else (none)) else (none)) else (law10_body.l0 k1 x3_1 l0 (l0.length : Int) (wrap64 (x10_1 + 1))))) = some r := RFn.rp H hy290
      have Ny290 := Aside0.mk hy290
      clear hy290
      obtain ⟨⟨t293, t294⟩, A5, H⟩ := RFn.bn H
      by_cases c6 : (t293.size : Int) > 7
      ·rw [if_pos c6] at H
       have c6b0 : decide (7 < (t293.size : Int)) = true := decide_eq_true c6
       have c6b1 : decide (7 < t293.size) = true := decide_eq_true (by omega)
       clear c6
       by_cases c7 : 7 ≤ (t293.size : Int)
       ·rw [if_pos c7] at H
        have c7b0 := eq_true c7
        have c7b1 : decide (7 ≤ (t293.size : Int)) = true := decide_eq_true c7
        clear c7
        by_cases c8 : x3_1.size + (t293.extract 7 t293.size).size ≤ 9223372036854775807
        ·rw [if_pos c8] at H
         have c8b0 := eq_true c8
         have c8b1 : decide (x3_1.size + (t293.extract 7 t293.size).size ≤ 9223372036854775807) = true := decide_eq_true c8
         (try (have c8b1x := c8b1; simp only [ByteArray.size_extract, Nat.min_self] at c8b1x))
         try have c8b2 : (9223372036854775807 < x3_1.size + (t293.extract 7 t293.size).size) = False := eq_false (Nat.not_lt.2 c8)
         have H' := Aside0.mk H
         clear H
         have p288 : 0 ≤ (x10_1 : Int) := RFn.od
         have q288 : x10_1 < (l0.length : Int) := RFn.od
         obtain ⟨ad288, e288, hx288_0, hx288_1, hx288_2, hx288_3, hx288_4, hx288_5⟩ := at_T50 HR0.out x10_1 p288 q288
         cases e288
         replace hx288_0 := RFn.hb HB hx288_0
         replace hx288_1 := RFn.hb HB hx288_1
         replace hx288_2 := RFn.hb HB hx288_2
         replace hx288_3 := RFn.hb HB hx288_3
         replace hx288_4 := RFn.hb HB hx288_4
         replace hx288_5 := RFn.hb HB hx288_5
         replace p288 := eq_true p288
         replace q288 := eq_true q288
         go_wp2_with (first | ((with_reducible refine gate_dst (N := 5) rfl ?_); refine box_event ?hg (N := 5) ?hd (cs := #[.string (⟨#[]⟩ : ByteArray), .string (⟨#[]⟩ : ByteArray), .string (⟨#[]⟩ : ByteArray), .string (⟨#[]⟩ : ByteArray), .int .i64 0, .int .i64 0]) (t := 50) ?hr ?_; (case hd => rfl); (case hg => rfl); (case hr => first | (go_simp; done) | (go_simp; rfl)); intro gb289 hg w9 hbox hb; have n0_ := Aside0.mk (below_step (RFn.bel) hb); have n1_ := Aside0.mk (hbox); have n2_ := Aside0.mk ((by rw [hg]; exact (below_size (RFn.bel)) : w.heap.size ≤ gb289)); have n3_ := Aside0.mk ((by rw [hg]; exact (below_size (RFn.bel)) : w.heap.size ≤ gb289)); clear HB; have HB := n0_; have BK289 := n1_; have GW289 := n2_; have GE289 := n3_; clear n0_ n1_ n2_ n3_; clear hb hbox hg; obtain ⟨hcz10_0, hcz10_1, hcz10_2, hcz10_3, hcz10_4, hcz10_5⟩ := RFn.bc6 BK289; obtain ⟨hfz10_0, hfz10_1, hfz10_2, hfz10_3, hfz10_4, hfz10_5⟩ := RFn.bf6 BK289) | ((with_reducible refine gate_dst (N := 16) rfl ?_); refine Kd.R_lit k50 _ 50 ?hg (N := 16) ?hd (xs := ([(⟨(⟨(rd_T50 l0 x10_1).f0.f0, (rd_T50 l0 x10_1).f0.f1, (rd_T50 l0 x10_1).f0.f2, (rd_T50 l0 x10_1).f0.f3, (rd_T50 l0 x10_1).f0.f4⟩ : S48), (rd_T50 l0 x10_1).f1⟩ : S50)] : List (S50))) (inner := [.string ((rd_T50 l0 x10_1).f0.f0), .string ((rd_T50 l0 x10_1).f0.f1), .string ((rd_T50 l0 x10_1).f0.f2), .string ((rd_T50 l0 x10_1).f0.f3), .int .i64 ((rd_T50 l0 x10_1).f0.f4), .int .i64 ((rd_T50 l0 x10_1).f1)]) (ok := fun _ => True) (okp := fun _ => True) ?hr ?hp (fun _ hk => hk) trivial (Below.refl _ _) (Nat.le_refl _) (by simp) ?_; (case hd => rfl); (case hg => rfl); (case hr => first | (go_simp; done) | (go_simp; rfl)); (case hp => exact (Reps.c6 (show Kd.M k50 _ _ _ (⟨(⟨(rd_T50 l0 x10_1).f0.f0, (rd_T50 l0 x10_1).f0.f1, (rd_T50 l0 x10_1).f0.f2, (rd_T50 l0 x10_1).f0.f3, (rd_T50 l0 x10_1).f0.f4⟩ : S48), (rd_T50 l0 x10_1).f1⟩ : S50) [.string ((rd_T50 l0 x10_1).f0.f0), .string ((rd_T50 l0 x10_1).f0.f1), .string ((rd_T50 l0 x10_1).f0.f2), .string ((rd_T50 l0 x10_1).f0.f3), .int .i64 ((rd_T50 l0 x10_1).f0.f4), .int .i64 ((rd_T50 l0 x10_1).f1)] from (k50_mkM _ _ _ (⟨(⟨(rd_T50 l0 x10_1).f0.f0, (rd_T50 l0 x10_1).f0.f1, (rd_T50 l0 x10_1).f0.f2, (rd_T50 l0 x10_1).f0.f3, (rd_T50 l0 x10_1).f0.f4⟩ : S48), (rd_T50 l0 x10_1).f1⟩ : S50) )) (Reps.none _ _))); intro v291 w11 ho12 hb hg_ hnew_; clear hg_ hnew_; (first | rw [← Ny290.out] at ho12 | (simp only [Int.reduceToNat] at ho12; rw [← Ny290.out] at ho12)); have n0_ := Aside0.mk (Kd.R_lower (Kd.R_newB ho12 (g := gb289) (o := .cells #[.string ((rd_T50 l0 x10_1).f0.f0), .string ((rd_T50 l0 x10_1).f0.f1), .string ((rd_T50 l0 x10_1).f0.f2), .string ((rd_T50 l0 x10_1).f0.f3), .int .i64 ((rd_T50 l0 x10_1).f0.f4), .int .i64 ((rd_T50 l0 x10_1).f1)] 50 (0, 0)) (by refine RFn.d3 ?_; refine blk_put (cs := #[.string ((rd_T50 l0 x10_1).f0.f0), .string ((rd_T50 l0 x10_1).f0.f1), .string ((rd_T50 l0 x10_1).f0.f2), .string ((rd_T50 l0 x10_1).f0.f3), .int .i64 ((rd_T50 l0 x10_1).f0.f4), .int .i64 0]) ?_ 5 _ rfl; refine RFn.d3 ?_; refine blk_put (cs := #[.string ((rd_T50 l0 x10_1).f0.f0), .string ((rd_T50 l0 x10_1).f0.f1), .string ((rd_T50 l0 x10_1).f0.f2), .string ((rd_T50 l0 x10_1).f0.f3), .int .i64 0, .int .i64 0]) ?_ 4 _ rfl; refine RFn.d3 ?_; refine blk_put (cs := #[.string ((rd_T50 l0 x10_1).f0.f0), .string ((rd_T50 l0 x10_1).f0.f1), .string ((rd_T50 l0 x10_1).f0.f2), .string (⟨#[]⟩ : ByteArray), .int .i64 0, .int .i64 0]) ?_ 3 _ rfl; refine RFn.d3 ?_; refine blk_put (cs := #[.string ((rd_T50 l0 x10_1).f0.f0), .string ((rd_T50 l0 x10_1).f0.f1), .string (⟨#[]⟩ : ByteArray), .string (⟨#[]⟩ : ByteArray), .int .i64 0, .int .i64 0]) ?_ 2 _ rfl; refine RFn.d3 ?_; refine blk_put (cs := #[.string ((rd_T50 l0 x10_1).f0.f0), .string (⟨#[]⟩ : ByteArray), .string (⟨#[]⟩ : ByteArray), .string (⟨#[]⟩ : ByteArray), .int .i64 0, .int .i64 0]) ?_ 1 _ rfl; refine RFn.d3 ?_; refine blk_put (cs := #[.string (⟨#[]⟩ : ByteArray), .string (⟨#[]⟩ : ByteArray), .string (⟨#[]⟩ : ByteArray), .string (⟨#[]⟩ : ByteArray), .int .i64 0, .int .i64 0]) ?_ 0 _ rfl; refine RFn.d3 ?_; exact BK289.out)) (below_size RFn.bels)); have n1_ := Aside0.mk (blk_below (g := gb289) (o := .cells #[.string ((rd_T50 l0 x10_1).f0.f0), .string ((rd_T50 l0 x10_1).f0.f1), .string ((rd_T50 l0 x10_1).f0.f2), .string ((rd_T50 l0 x10_1).f0.f3), .int .i64 ((rd_T50 l0 x10_1).f0.f4), .int .i64 ((rd_T50 l0 x10_1).f1)] 50 (0, 0)) (by refine RFn.d3 ?_; refine blk_put (cs := #[.string ((rd_T50 l0 x10_1).f0.f0), .string ((rd_T50 l0 x10_1).f0.f1), .string ((rd_T50 l0 x10_1).f0.f2), .string ((rd_T50 l0 x10_1).f0.f3), .int .i64 ((rd_T50 l0 x10_1).f0.f4), .int .i64 0]) ?_ 5 _ rfl; refine RFn.d3 ?_; refine blk_put (cs := #[.string ((rd_T50 l0 x10_1).f0.f0), .string ((rd_T50 l0 x10_1).f0.f1), .string ((rd_T50 l0 x10_1).f0.f2), .string ((rd_T50 l0 x10_1).f0.f3), .int .i64 0, .int .i64 0]) ?_ 4 _ rfl; refine RFn.d3 ?_; refine blk_put (cs := #[.string ((rd_T50 l0 x10_1).f0.f0), .string ((rd_T50 l0 x10_1).f0.f1), .string ((rd_T50 l0 x10_1).f0.f2), .string (⟨#[]⟩ : ByteArray), .int .i64 0, .int .i64 0]) ?_ 3 _ rfl; refine RFn.d3 ?_; refine blk_put (cs := #[.string ((rd_T50 l0 x10_1).f0.f0), .string ((rd_T50 l0 x10_1).f0.f1), .string (⟨#[]⟩ : ByteArray), .string (⟨#[]⟩ : ByteArray), .int .i64 0, .int .i64 0]) ?_ 2 _ rfl; refine RFn.d3 ?_; refine blk_put (cs := #[.string ((rd_T50 l0 x10_1).f0.f0), .string (⟨#[]⟩ : ByteArray), .string (⟨#[]⟩ : ByteArray), .string (⟨#[]⟩ : ByteArray), .int .i64 0, .int .i64 0]) ?_ 1 _ rfl; refine RFn.d3 ?_; refine blk_put (cs := #[.string (⟨#[]⟩ : ByteArray), .string (⟨#[]⟩ : ByteArray), .string (⟨#[]⟩ : ByteArray), .string (⟨#[]⟩ : ByteArray), .int .i64 0, .int .i64 0]) ?_ 0 _ rfl; refine RFn.d3 ?_; exact BK289.out) hb); have n2_ := Aside0.mk (below_step RFn.bels hb); clear BK289; clear HB; have HO292 := n0_; have BK289 := n1_; have HB := n2_; clear n0_ n1_ n2_; clear hb ho12; obtain ⟨Ao13, co13, eo13⟩ := Kd.R_slice HO292.out; subst eo13) | ((with_reducible refine gate_callee (f := 10) rfl ?_); refine RFn.goesM (some 17) Tryz.func10 #[.slice Ao13 y290.length co13] rfl ?_; (with_reducible refine (codec_Print.calls _ _ y290 t293 t294 _ ?side1 ?side2 A5.out (Go.Proofs.YtjbdkdmoacdbpaaGreatDoor.X.LaidW.below hLd_ RFn.bels)).mono ?_); (case side1 => exact RFn.mC (Kd.R_reads' HO292.out).2.2); (case side2 => exact (Kd.R_reads' HO292.out).2.1); rintro e w14 ⟨rfl, hb⟩; refine ⟨_, rfl, ?_⟩; have n0_ := Aside0.mk (Kd.R_below (RFn.mR HO292) hb); have n1_ := Aside0.mk (blk_below (g := gb289) RFn.blk hb); have n2_ := Aside0.mk (below_step RFn.bels hb); clear HO292; clear BK289; clear HB; have HO292 := n0_; have BK289 := n1_; have HB := n2_; clear n0_ n1_ n2_; (try clear hb); (try clear hk)))
         go_roundg k1
         case measure => have := HK1.out; omega
         case rel => exact ⟨(x3_1 ++ (t293.extract 7 t293.size)), (wrap64 (x10_1 + 1)), (by first | rfl | (simp; done) | (simp [*]; done)), (by first | rfl | (simp; done) | (simp [*]; done)), H', ⟨RFn.lk HK1⟩, ⟨RFn.bels⟩⟩
        ·rw [if_neg c8] at H
         exact absurd H (by simp)
       ·rw [if_neg c7] at H
        exact absurd H (by simp)
      ·rw [if_neg c6] at H
       have c6b0 : decide (7 < (t293.size : Int)) = false := decide_eq_false c6
       have c6b1 : decide (7 < t293.size) = false := decide_eq_false (by omega)
       clear c6
       have H' := Aside0.mk H
       clear H
       have p288 : 0 ≤ (x10_1 : Int) := RFn.od
       have q288 : x10_1 < (l0.length : Int) := RFn.od
       obtain ⟨ad288, e288, hx288_0, hx288_1, hx288_2, hx288_3, hx288_4, hx288_5⟩ := at_T50 HR0.out x10_1 p288 q288
       cases e288
       replace hx288_0 := RFn.hb HB hx288_0
       replace hx288_1 := RFn.hb HB hx288_1
       replace hx288_2 := RFn.hb HB hx288_2
       replace hx288_3 := RFn.hb HB hx288_3
       replace hx288_4 := RFn.hb HB hx288_4
       replace hx288_5 := RFn.hb HB hx288_5
       replace p288 := eq_true p288
       replace q288 := eq_true q288
       go_wp2_with (first | ((with_reducible refine gate_dst (N := 5) rfl ?_); refine box_event ?hg (N := 5) ?hd (cs := #[.string (⟨#[]⟩ : ByteArray), .string (⟨#[]⟩ : ByteArray), .string (⟨#[]⟩ : ByteArray), .string (⟨#[]⟩ : ByteArray), .int .i64 0, .int .i64 0]) (t := 50) ?hr ?_; (case hd => rfl); (case hg => rfl); (case hr => first | (go_simp; done) | (go_simp; rfl)); intro gb289 hg w15 hbox hb; have n0_ := Aside0.mk (below_step (RFn.bel) hb); have n1_ := Aside0.mk (hbox); have n2_ := Aside0.mk ((by rw [hg]; exact (below_size (RFn.bel)) : w.heap.size ≤ gb289)); have n3_ := Aside0.mk ((by rw [hg]; exact (below_size (RFn.bel)) : w.heap.size ≤ gb289)); clear HB; have HB := n0_; have BK289 := n1_; have GW289 := n2_; have GE289 := n3_; clear n0_ n1_ n2_ n3_; clear hb hbox hg; obtain ⟨hcz16_0, hcz16_1, hcz16_2, hcz16_3, hcz16_4, hcz16_5⟩ := RFn.bc6 BK289; obtain ⟨hfz16_0, hfz16_1, hfz16_2, hfz16_3, hfz16_4, hfz16_5⟩ := RFn.bf6 BK289) | ((with_reducible refine gate_dst (N := 16) rfl ?_); refine Kd.R_lit k50 _ 50 ?hg (N := 16) ?hd (xs := ([(⟨(⟨(rd_T50 l0 x10_1).f0.f0, (rd_T50 l0 x10_1).f0.f1, (rd_T50 l0 x10_1).f0.f2, (rd_T50 l0 x10_1).f0.f3, (rd_T50 l0 x10_1).f0.f4⟩ : S48), (rd_T50 l0 x10_1).f1⟩ : S50)] : List (S50))) (inner := [.string ((rd_T50 l0 x10_1).f0.f0), .string ((rd_T50 l0 x10_1).f0.f1), .string ((rd_T50 l0 x10_1).f0.f2), .string ((rd_T50 l0 x10_1).f0.f3), .int .i64 ((rd_T50 l0 x10_1).f0.f4), .int .i64 ((rd_T50 l0 x10_1).f1)]) (ok := fun _ => True) (okp := fun _ => True) ?hr ?hp (fun _ hk => hk) trivial (Below.refl _ _) (Nat.le_refl _) (by simp) ?_; (case hd => rfl); (case hg => rfl); (case hr => first | (go_simp; done) | (go_simp; rfl)); (case hp => exact (Reps.c6 (show Kd.M k50 _ _ _ (⟨(⟨(rd_T50 l0 x10_1).f0.f0, (rd_T50 l0 x10_1).f0.f1, (rd_T50 l0 x10_1).f0.f2, (rd_T50 l0 x10_1).f0.f3, (rd_T50 l0 x10_1).f0.f4⟩ : S48), (rd_T50 l0 x10_1).f1⟩ : S50) [.string ((rd_T50 l0 x10_1).f0.f0), .string ((rd_T50 l0 x10_1).f0.f1), .string ((rd_T50 l0 x10_1).f0.f2), .string ((rd_T50 l0 x10_1).f0.f3), .int .i64 ((rd_T50 l0 x10_1).f0.f4), .int .i64 ((rd_T50 l0 x10_1).f1)] from (k50_mkM _ _ _ (⟨(⟨(rd_T50 l0 x10_1).f0.f0, (rd_T50 l0 x10_1).f0.f1, (rd_T50 l0 x10_1).f0.f2, (rd_T50 l0 x10_1).f0.f3, (rd_T50 l0 x10_1).f0.f4⟩ : S48), (rd_T50 l0 x10_1).f1⟩ : S50) )) (Reps.none _ _))); intro v291 w17 ho18 hb hg_ hnew_; clear hg_ hnew_; (first | rw [← Ny290.out] at ho18 | (simp only [Int.reduceToNat] at ho18; rw [← Ny290.out] at ho18)); have n0_ := Aside0.mk (Kd.R_lower (Kd.R_newB ho18 (g := gb289) (o := .cells #[.string ((rd_T50 l0 x10_1).f0.f0), .string ((rd_T50 l0 x10_1).f0.f1), .string ((rd_T50 l0 x10_1).f0.f2), .string ((rd_T50 l0 x10_1).f0.f3), .int .i64 ((rd_T50 l0 x10_1).f0.f4), .int .i64 ((rd_T50 l0 x10_1).f1)] 50 (0, 0)) (by refine RFn.d3 ?_; refine blk_put (cs := #[.string ((rd_T50 l0 x10_1).f0.f0), .string ((rd_T50 l0 x10_1).f0.f1), .string ((rd_T50 l0 x10_1).f0.f2), .string ((rd_T50 l0 x10_1).f0.f3), .int .i64 ((rd_T50 l0 x10_1).f0.f4), .int .i64 0]) ?_ 5 _ rfl; refine RFn.d3 ?_; refine blk_put (cs := #[.string ((rd_T50 l0 x10_1).f0.f0), .string ((rd_T50 l0 x10_1).f0.f1), .string ((rd_T50 l0 x10_1).f0.f2), .string ((rd_T50 l0 x10_1).f0.f3), .int .i64 0, .int .i64 0]) ?_ 4 _ rfl; refine RFn.d3 ?_; refine blk_put (cs := #[.string ((rd_T50 l0 x10_1).f0.f0), .string ((rd_T50 l0 x10_1).f0.f1), .string ((rd_T50 l0 x10_1).f0.f2), .string (⟨#[]⟩ : ByteArray), .int .i64 0, .int .i64 0]) ?_ 3 _ rfl; refine RFn.d3 ?_; refine blk_put (cs := #[.string ((rd_T50 l0 x10_1).f0.f0), .string ((rd_T50 l0 x10_1).f0.f1), .string (⟨#[]⟩ : ByteArray), .string (⟨#[]⟩ : ByteArray), .int .i64 0, .int .i64 0]) ?_ 2 _ rfl; refine RFn.d3 ?_; refine blk_put (cs := #[.string ((rd_T50 l0 x10_1).f0.f0), .string (⟨#[]⟩ : ByteArray), .string (⟨#[]⟩ : ByteArray), .string (⟨#[]⟩ : ByteArray), .int .i64 0, .int .i64 0]) ?_ 1 _ rfl; refine RFn.d3 ?_; refine blk_put (cs := #[.string (⟨#[]⟩ : ByteArray), .string (⟨#[]⟩ : ByteArray), .string (⟨#[]⟩ : ByteArray), .string (⟨#[]⟩ : ByteArray), .int .i64 0, .int .i64 0]) ?_ 0 _ rfl; refine RFn.d3 ?_; exact BK289.out)) (below_size RFn.bels)); have n1_ := Aside0.mk (blk_below (g := gb289) (o := .cells #[.string ((rd_T50 l0 x10_1).f0.f0), .string ((rd_T50 l0 x10_1).f0.f1), .string ((rd_T50 l0 x10_1).f0.f2), .string ((rd_T50 l0 x10_1).f0.f3), .int .i64 ((rd_T50 l0 x10_1).f0.f4), .int .i64 ((rd_T50 l0 x10_1).f1)] 50 (0, 0)) (by refine RFn.d3 ?_; refine blk_put (cs := #[.string ((rd_T50 l0 x10_1).f0.f0), .string ((rd_T50 l0 x10_1).f0.f1), .string ((rd_T50 l0 x10_1).f0.f2), .string ((rd_T50 l0 x10_1).f0.f3), .int .i64 ((rd_T50 l0 x10_1).f0.f4), .int .i64 0]) ?_ 5 _ rfl; refine RFn.d3 ?_; refine blk_put (cs := #[.string ((rd_T50 l0 x10_1).f0.f0), .string ((rd_T50 l0 x10_1).f0.f1), .string ((rd_T50 l0 x10_1).f0.f2), .string ((rd_T50 l0 x10_1).f0.f3), .int .i64 0, .int .i64 0]) ?_ 4 _ rfl; refine RFn.d3 ?_; refine blk_put (cs := #[.string ((rd_T50 l0 x10_1).f0.f0), .string ((rd_T50 l0 x10_1).f0.f1), .string ((rd_T50 l0 x10_1).f0.f2), .string (⟨#[]⟩ : ByteArray), .int .i64 0, .int .i64 0]) ?_ 3 _ rfl; refine RFn.d3 ?_; refine blk_put (cs := #[.string ((rd_T50 l0 x10_1).f0.f0), .string ((rd_T50 l0 x10_1).f0.f1), .string (⟨#[]⟩ : ByteArray), .string (⟨#[]⟩ : ByteArray), .int .i64 0, .int .i64 0]) ?_ 2 _ rfl; refine RFn.d3 ?_; refine blk_put (cs := #[.string ((rd_T50 l0 x10_1).f0.f0), .string (⟨#[]⟩ : ByteArray), .string (⟨#[]⟩ : ByteArray), .string (⟨#[]⟩ : ByteArray), .int .i64 0, .int .i64 0]) ?_ 1 _ rfl; refine RFn.d3 ?_; refine blk_put (cs := #[.string (⟨#[]⟩ : ByteArray), .string (⟨#[]⟩ : ByteArray), .string (⟨#[]⟩ : ByteArray), .string (⟨#[]⟩ : ByteArray), .int .i64 0, .int .i64 0]) ?_ 0 _ rfl; refine RFn.d3 ?_; exact BK289.out) hb); have n2_ := Aside0.mk (below_step RFn.bels hb); clear BK289; clear HB; have HO292 := n0_; have BK289 := n1_; have HB := n2_; clear n0_ n1_ n2_; clear hb ho18; obtain ⟨Ao19, co19, eo19⟩ := Kd.R_slice HO292.out; subst eo19) | ((with_reducible refine gate_callee (f := 10) rfl ?_); refine RFn.goesM (some 17) Tryz.func10 #[.slice Ao19 y290.length co19] rfl ?_; (with_reducible refine (codec_Print.calls _ _ y290 t293 t294 _ ?side1 ?side2 A5.out (Go.Proofs.YtjbdkdmoacdbpaaGreatDoor.X.LaidW.below hLd_ RFn.bels)).mono ?_); (case side1 => exact RFn.mC (Kd.R_reads' HO292.out).2.2); (case side2 => exact (Kd.R_reads' HO292.out).2.1); rintro e w20 ⟨rfl, hb⟩; refine ⟨_, rfl, ?_⟩; have n0_ := Aside0.mk (Kd.R_below (RFn.mR HO292) hb); have n1_ := Aside0.mk (blk_below (g := gb289) RFn.blk hb); have n2_ := Aside0.mk (below_step RFn.bels hb); clear HO292; clear BK289; clear HB; have HO292 := n0_; have BK289 := n1_; have HB := n2_; clear n0_ n1_ n2_; (try clear hb); (try clear hk)))
       go_roundg k1
       case measure => have := HK1.out; omega
       case rel => exact ⟨(x3_1), (wrap64 (x10_1 + 1)), (by first | rfl | (simp; done) | (simp [*]; done)), (by first | rfl | (simp; done) | (simp [*]; done)), H', ⟨RFn.lk HK1⟩, ⟨RFn.bels⟩⟩
     ·rw [if_neg c4] at H
      exact absurd H (by simp)
    ·rw [if_neg c3] at H
     exact absurd H (by simp)
   ·rw [if_neg c2] at H
    have c2b0 : decide (x10_1 < (l0.length : Int)) = false := decide_eq_false c2
    clear c2
    obtain rfl := Option.some.inj H
    go_wp2
    go_ret
    exact ⟨by first | rfl | (simp [errW_none, errW_some] <;> rfl) | (simp [*, errW_none, errW_some] <;> rfl), RFn.bel⟩
end Go.Proofs.YtjbdkdmoacdbpaaGreatDoor.Q
