/- printed by a program of this session (wip/tools/pr.sh): it is not a print of the kit -/
import Derived.Test.YtgheapbhakamaaaQx0
import Derived.Test.YtgheapbhakamaaaQx1
namespace Go.Proofs.Ytgheapbhakamaaa.Q
open Go.RowKit Go.Proofs.YtgheapbhakamaaaW.PrintWords Go.Proofs.YtgheapbhakamaaaW.PrintLast Go.Proofs.YtgheapbhakamaaaW.PrintMore
attribute [local go_sem] max2_int min2_int max_two min_two max_three min_three max_four min_four RFn.gtr_str   -- for this text's walks alone
set_option linter.unusedVariables false
set_option linter.unusedSimpArgs false
attribute [local go_sem high] eqA24
/-! ### ref09_Get: function 26 -/
def ref09_Get.l0 : Nat → List (S28) → Int → ByteArray → ByteArray → ByteArray → ByteArray → Int → Option (Int)
 | 0, _, _, _, _, _, _, _ => none
 | k + 1, x0, x5, x374000, x374001, x374002, x374003, x374004 => if x5 < (x0.length : Int) then (if 0 ≤ x5 then (if ((((rd_T28 x0 x5).f0.f0).toList) == x374000.toList && ((((rd_T28 x0 x5).f0.f1).toList) == x374001.toList && ((((rd_T28 x0 x5).f0.f2).toList) == x374002.toList && ((((rd_T28 x0 x5).f0.f3).toList) == x374003.toList && (((rd_T28 x0 x5).f0.f4) == x374004))))) = true then (some ((rd_T28 x0 x5).f1)) else (ref09_Get.l0 k x0 (wrap64 (x5 + 1)) x374000 x374001 x374002 x374003 x374004)) else (none)) else (some 0)
def ref09_Get.f (k : Nat) (l0 : List (S28)) (a1_0 : ByteArray) (a1_1 : ByteArray) (a1_2 : ByteArray) (a1_3 : ByteArray) (a1_4 : Int) : Option (Int) := ref09_Get.l0 k l0 0 a1_0 a1_1 a1_2 a1_3 a1_4
theorem ref09_Get.mono_l : ∀ k, (∀ y0 y1 y2 y3 y4 y5 y6, LeO (ref09_Get.l0 k y0 y1 y2 y3 y4 y5 y6) (ref09_Get.l0 (k + 1) y0 y1 y2 y3 y4 y5 y6))
 | 0 => fun _ _ _ _ _ _ _ r h => by simp [ref09_Get.l0] at h
 | k + 1 => by
  have ih0 := ref09_Get.mono_l k
  ·intro y0 y1 y2 y3 y4 y5 y6
   unfold ref09_Get.l0
   repeat' first | exact LeO.refl _ | with_reducible first | apply ih0 | exact LeO.none _ | apply LeO.ite | refine LeO.bind ?_ fun _ => ?_
theorem ref09_Get.mono : ∀ a0 a1 a2 a3 a4 a5 k, LeO (ref09_Get.f k a0 a1 a2 a3 a4 a5) (ref09_Get.f (k + 1) a0 a1 a2 a3 a4 a5) := by
 intro a0 a1 a2 a3 a4 a5 k
 have ih0 := ref09_Get.mono_l k
 unfold ref09_Get.f
 repeat' first | exact LeO.refl _ | with_reducible first | apply ih0 | exact LeO.none _ | apply LeO.ite | refine LeO.bind ?_ fun _ => ?_
set_option maxHeartbeats 8000000 in
set_option maxRecDepth 100000 in
theorem ref09_Get.calls (k : Nat) (A0 : Option Addr) (c0 : Nat) (l0 : List (S28)) (a1_0 : ByteArray) (a1_1 : ByteArray) (a1_2 : ByteArray) (a1_3 : ByteArray) (a1_4 : Int) (r : Int) (w : World) (hr0 : Kd.C k28 w A0 l0.length l0) (hc0 : l0.length ≤ c0) (h : ref09_Get.f k l0 a1_0 a1_1 a1_2 a1_3 a1_4 = some r) :
  Calls Try.prog 26 #[.slice A0 l0.length c0, .agg #[.string a1_0, .string a1_1, .string a1_2, .string a1_3, .int .i64 a1_4]] w fun e w' => e = .returned (.int .i64 r) ∧ Below w.heap.size w w' := by
 have hu24 := Try.underlying24
 have HR0 := Aside0.mk hr0
 have HC0 := Aside0.mk hc0
 clear hr0 hc0
 have HB := Aside0.mk (Below.refl w.heap.size w)
 have H : (ref09_Get.l0 k l0 0 a1_0 a1_1 a1_2 a1_3 a1_4) = some r := h
 clear h
 have H' := Aside0.mk H
 clear H
 go_enter Try.func26, Try.ntmps26
 go_wp2_with (first | ((with_reducible refine gate_dst (N := 3) rfl ?_); refine box_event ?hg (N := 3) ?hd (cs := #[.string a1_0, .string a1_1, .string a1_2, .string a1_3, .int .i64 a1_4]) (t := 24) ?hr ?_; (case hd => rfl); (case hg => rfl); (case hr => first | (go_simp; done) | (go_simp; rfl)); intro gb373 hg w3 hbox hb; have n0_ := Aside0.mk (below_step (RFn.bel) hb); have n1_ := Aside0.mk (hbox); have n2_ := Aside0.mk ((by rw [hg]; exact (below_size (RFn.bel)) : w.heap.size ≤ gb373)); have n3_ := Aside0.mk ((by rw [hg]; exact (below_size (RFn.bel)) : w.heap.size ≤ gb373)); clear HB; have HB := n0_; have BK373 := n1_; have GW373 := n2_; have GE373 := n3_; clear n0_ n1_ n2_ n3_; clear hb hbox hg))
 repeat (go_quiet (first | ((with_reducible refine gate_dst (N := 3) rfl ?_); refine box_event ?hg (N := 3) ?hd (cs := #[.string a1_0, .string a1_1, .string a1_2, .string a1_3, .int .i64 a1_4]) (t := 24) ?hr ?_; (case hd => rfl); (case hg => rfl); (case hr => first | (go_simp; done) | (go_simp; rfl)); intro gb373 hg w3 hbox hb; have n0_ := Aside0.mk (below_step (RFn.bel) hb); have n1_ := Aside0.mk (hbox); have n2_ := Aside0.mk ((by rw [hg]; exact (below_size (RFn.bel)) : w.heap.size ≤ gb373)); have n3_ := Aside0.mk ((by rw [hg]; exact (below_size (RFn.bel)) : w.heap.size ≤ gb373)); clear HB; have HB := n0_; have BK373 := n1_; have GW373 := n2_; have GE373 := n3_; clear n0_ n1_ n2_ n3_; clear hb hbox hg)); try go_wp2_with (first | ((with_reducible refine gate_dst (N := 3) rfl ?_); refine box_event ?hg (N := 3) ?hd (cs := #[.string a1_0, .string a1_1, .string a1_2, .string a1_3, .int .i64 a1_4]) (t := 24) ?hr ?_; (case hd => rfl); (case hg => rfl); (case hr => first | (go_simp; done) | (go_simp; rfl)); intro gb373 hg w3 hbox hb; have n0_ := Aside0.mk (below_step (RFn.bel) hb); have n1_ := Aside0.mk (hbox); have n2_ := Aside0.mk ((by rw [hg]; exact (below_size (RFn.bel)) : w.heap.size ≤ gb373)); have n3_ := Aside0.mk ((by rw [hg]; exact (below_size (RFn.bel)) : w.heap.size ≤ gb373)); clear HB; have HB := n0_; have BK373 := n1_; have GW373 := n2_; have GE373 := n3_; clear n0_ n1_ n2_ n3_; clear hb hbox hg)))
 go_loopg [5] k (fun kq v5 w' => ∃ (x5_1 : Int), v5 = .int .i64 x5_1 ∧ Aside0 (ref09_Get.l0 kq l0 x5_1 a1_0 a1_1 a1_2 a1_3 a1_4 = some r) ∧ Aside0 (kq ≤ k) ∧ Aside0 (w'.heap[gb373]? = some (.cells #[.string a1_0, .string a1_1, .string a1_2, .string a1_3, .int .i64 a1_4] 24 (0, 0))) ∧ Aside0 (Below w.heap.size w w'))
 case atStart => exact ⟨(0), (by first | rfl | (simp; done) | (simp [*]; done)), H', ⟨Nat.le_refl _⟩, ⟨RFn.mB BK373⟩, ⟨RFn.bels⟩⟩
 case round =>
  clear H'
  try clear c2
  try clear p2
  obtain ⟨x5_1, rfl, HA, HK1, BK373, HB⟩ := hrel
  cases gk with
  | zero => exact absurd HA.out (by simp [ref09_Get.l0])
  | succ k1 =>
   have H := HA.out
   clear HA
   simp only [ref09_Get.l0] at H
   by_cases c4 : x5_1 < (l0.length : Int)
   ·rw [if_pos c4] at H
    have c4b0 : decide (x5_1 < (l0.length : Int)) = true := decide_eq_true c4
    clear c4
    by_cases c5 : 0 ≤ x5_1
    ·rw [if_pos c5] at H
     have c5b0 : decide (0 ≤ x5_1) = true := decide_eq_true c5
     clear c5
     by_cases c6 : ((((rd_T28 l0 x5_1).f0.f0).toList) == a1_0.toList && ((((rd_T28 l0 x5_1).f0.f1).toList) == a1_1.toList && ((((rd_T28 l0 x5_1).f0.f2).toList) == a1_2.toList && ((((rd_T28 l0 x5_1).f0.f3).toList) == a1_3.toList && (((rd_T28 l0 x5_1).f0.f4) == a1_4))))) = true
     ·rw [if_pos c6] at H
      have c6b0 : ((((rd_T28 l0 x5_1).f0.f0).toList) == a1_0.toList && ((((rd_T28 l0 x5_1).f0.f1).toList) == a1_1.toList && ((((rd_T28 l0 x5_1).f0.f2).toList) == a1_2.toList && ((((rd_T28 l0 x5_1).f0.f3).toList) == a1_3.toList && (((rd_T28 l0 x5_1).f0.f4) == a1_4))))) = true := c6
      (try (have c6b1 : decide ((((rd_T28 l0 x5_1).f0.f0).toList) = a1_0.toList && ((((rd_T28 l0 x5_1).f0.f1).toList) == a1_1.toList && ((((rd_T28 l0 x5_1).f0.f2).toList) == a1_2.toList && ((((rd_T28 l0 x5_1).f0.f3).toList) == a1_3.toList && (((rd_T28 l0 x5_1).f0.f4) == a1_4))))) = true := by simpa using c6))
      (try (have c6b2 : ((((rd_T28 l0 x5_1).f0.f0).toList) == a1_0.toList && ((((rd_T28 l0 x5_1).f0.f1).toList) == a1_1.toList && ((((rd_T28 l0 x5_1).f0.f2).toList) == a1_2.toList && ((((rd_T28 l0 x5_1).f0.f3).toList) == a1_3.toList && (((rd_T28 l0 x5_1).f0.f4) == a1_4))))) = true := by simpa using c6))
      clear c6
      obtain rfl := Option.some.inj H
      have p374 : 0 ≤ (x5_1 : Int) := RFn.od
      have q374 : x5_1 < (l0.length : Int) := RFn.od
      obtain ⟨ad374, e374, hx374_0, hx374_1, hx374_2, hx374_3, hx374_4, hx374_5⟩ := at_T28 HR0.out x5_1 p374 q374
      cases e374
      replace hx374_0 := RFn.hb HB hx374_0
      replace hx374_1 := RFn.hb HB hx374_1
      replace hx374_2 := RFn.hb HB hx374_2
      replace hx374_3 := RFn.hb HB hx374_3
      replace hx374_4 := RFn.hb HB hx374_4
      replace hx374_5 := RFn.hb HB hx374_5
      replace p374 := eq_true p374
      replace q374 := eq_true q374
      obtain ⟨hcz7_0, hcz7_1, hcz7_2, hcz7_3, hcz7_4⟩ := RFn.bc5 BK373
      obtain ⟨hfz7_0, hfz7_1, hfz7_2, hfz7_3, hfz7_4⟩ := RFn.bf5 BK373
      have p375 : 0 ≤ (x5_1 : Int) := RFn.od
      have q375 : x5_1 < (l0.length : Int) := RFn.od
      obtain ⟨ad375, e375, hx375_0, hx375_1, hx375_2, hx375_3, hx375_4, hx375_5⟩ := at_T28 HR0.out x5_1 p375 q375
      obtain rfl : ad374 = ad375 := (by injection e375)
      replace hx375_0 := RFn.hb HB hx375_0
      replace hx375_1 := RFn.hb HB hx375_1
      replace hx375_2 := RFn.hb HB hx375_2
      replace hx375_3 := RFn.hb HB hx375_3
      replace hx375_4 := RFn.hb HB hx375_4
      replace hx375_5 := RFn.hb HB hx375_5
      replace p375 := eq_true p375
      replace q375 := eq_true q375
      go_wp2
      repeat (go_quiet (fail); try go_wp2)
      go_ret
      exact ⟨by first | rfl | (simp [errW_none, errW_some] <;> rfl) | (simp [*, errW_none, errW_some] <;> rfl), RFn.bels⟩
     ·rw [if_neg c6] at H
      have c6b0 : ((((rd_T28 l0 x5_1).f0.f0).toList) == a1_0.toList && ((((rd_T28 l0 x5_1).f0.f1).toList) == a1_1.toList && ((((rd_T28 l0 x5_1).f0.f2).toList) == a1_2.toList && ((((rd_T28 l0 x5_1).f0.f3).toList) == a1_3.toList && (((rd_T28 l0 x5_1).f0.f4) == a1_4))))) = false := by simpa using c6
      (try (have c6b1 : decide ((((rd_T28 l0 x5_1).f0.f0).toList) = a1_0.toList && ((((rd_T28 l0 x5_1).f0.f1).toList) == a1_1.toList && ((((rd_T28 l0 x5_1).f0.f2).toList) == a1_2.toList && ((((rd_T28 l0 x5_1).f0.f3).toList) == a1_3.toList && (((rd_T28 l0 x5_1).f0.f4) == a1_4))))) = false := by simpa using c6))
      (try (have c6b2 : ((((rd_T28 l0 x5_1).f0.f0).toList) == a1_0.toList && ((((rd_T28 l0 x5_1).f0.f1).toList) == a1_1.toList && ((((rd_T28 l0 x5_1).f0.f2).toList) == a1_2.toList && ((((rd_T28 l0 x5_1).f0.f3).toList) == a1_3.toList && (((rd_T28 l0 x5_1).f0.f4) == a1_4))))) = false := by simpa using c6))
      (try (have c6b3 : ¬ ((((rd_T28 l0 x5_1).f0.f0).toList) = a1_0.toList && ((((rd_T28 l0 x5_1).f0.f1).toList) == a1_1.toList && ((((rd_T28 l0 x5_1).f0.f2).toList) == a1_2.toList && ((((rd_T28 l0 x5_1).f0.f3).toList) == a1_3.toList && (((rd_T28 l0 x5_1).f0.f4) == a1_4))))) := by simpa using c6))
      clear c6
      have H' := Aside0.mk H
      clear H
      have p374 : 0 ≤ (x5_1 : Int) := RFn.od
      have q374 : x5_1 < (l0.length : Int) := RFn.od
      obtain ⟨ad374, e374, hx374_0, hx374_1, hx374_2, hx374_3, hx374_4, hx374_5⟩ := at_T28 HR0.out x5_1 p374 q374
      cases e374
      replace hx374_0 := RFn.hb HB hx374_0
      replace hx374_1 := RFn.hb HB hx374_1
      replace hx374_2 := RFn.hb HB hx374_2
      replace hx374_3 := RFn.hb HB hx374_3
      replace hx374_4 := RFn.hb HB hx374_4
      replace hx374_5 := RFn.hb HB hx374_5
      replace p374 := eq_true p374
      replace q374 := eq_true q374
      obtain ⟨hcz8_0, hcz8_1, hcz8_2, hcz8_3, hcz8_4⟩ := RFn.bc5 BK373
      obtain ⟨hfz8_0, hfz8_1, hfz8_2, hfz8_3, hfz8_4⟩ := RFn.bf5 BK373
      go_wp2
      repeat (go_quiet (fail); try go_wp2)
      go_roundg k1
      case measure => have := HK1.out; omega
      case rel => exact ⟨(wrap64 (x5_1 + 1)), (by first | rfl | (simp; done) | (simp [*]; done)), H', ⟨RFn.lk HK1⟩, ⟨RFn.mB BK373⟩, ⟨RFn.bels⟩⟩
    ·rw [if_neg c5] at H
     exact absurd H (by simp)
   ·rw [if_neg c4] at H
    have c4b0 : decide (x5_1 < (l0.length : Int)) = false := decide_eq_false c4
    clear c4
    obtain rfl := Option.some.inj H
    go_wp2
    repeat (go_quiet (fail); try go_wp2)
    go_ret
    exact ⟨by first | rfl | (simp [errW_none, errW_some] <;> rfl) | (simp [*, errW_none, errW_some] <;> rfl), RFn.bels⟩
/-! ### ref09_Pick: function 28 -/
def ref09_Pick.l0 : Nat → List (S28) → ByteArray → Int → List (S28) → Int → Option ((List (S28)))
 | 0, _, _, _, _, _ => none
 | k + 1, x0, x1, x2, x7, x8 => if x8 < (x0.length : Int) then (if x1.toList = ([] : List UInt8) then (if x2 < 0 then (if 0 ≤ x8 then (if x7.length < 1759218604441 then (ref09_Pick.l0 k x0 x1 x2 (x7 ++ [(⟨(⟨(rd_T28 x0 x8).f0.f0, (rd_T28 x0 x8).f0.f1, (rd_T28 x0 x8).f0.f2, (rd_T28 x0 x8).f0.f3, (rd_T28 x0 x8).f0.f4⟩ : S24), (rd_T28 x0 x8).f1⟩ : S28)]) (wrap64 (x8 + 1))) else (none)) else (none)) else (if 0 ≤ x8 then (if ((rd_T28 x0 x8).f0.f4) = x2 then (if x7.length < 1759218604441 then (ref09_Pick.l0 k x0 x1 x2 (x7 ++ [(⟨(⟨(rd_T28 x0 x8).f0.f0, (rd_T28 x0 x8).f0.f1, (rd_T28 x0 x8).f0.f2, (rd_T28 x0 x8).f0.f3, (rd_T28 x0 x8).f0.f4⟩ : S24), (rd_T28 x0 x8).f1⟩ : S28)]) (wrap64 (x8 + 1))) else (none)) else (ref09_Pick.l0 k x0 x1 x2 x7 (wrap64 (x8 + 1)))) else (none))) else (if 0 ≤ x8 then (if ((rd_T28 x0 x8).f0.f0).toList = x1.toList then (if x2 < 0 then (if x7.length < 1759218604441 then (ref09_Pick.l0 k x0 x1 x2 (x7 ++ [(⟨(⟨(rd_T28 x0 x8).f0.f0, (rd_T28 x0 x8).f0.f1, (rd_T28 x0 x8).f0.f2, (rd_T28 x0 x8).f0.f3, (rd_T28 x0 x8).f0.f4⟩ : S24), (rd_T28 x0 x8).f1⟩ : S28)]) (wrap64 (x8 + 1))) else (none)) else (if ((rd_T28 x0 x8).f0.f4) = x2 then (if x7.length < 1759218604441 then (ref09_Pick.l0 k x0 x1 x2 (x7 ++ [(⟨(⟨(rd_T28 x0 x8).f0.f0, (rd_T28 x0 x8).f0.f1, (rd_T28 x0 x8).f0.f2, (rd_T28 x0 x8).f0.f3, (rd_T28 x0 x8).f0.f4⟩ : S24), (rd_T28 x0 x8).f1⟩ : S28)]) (wrap64 (x8 + 1))) else (none)) else (ref09_Pick.l0 k x0 x1 x2 x7 (wrap64 (x8 + 1))))) else (ref09_Pick.l0 k x0 x1 x2 x7 (wrap64 (x8 + 1)))) else (none))) else (some x7)
def ref09_Pick.f (k : Nat) (l0 : List (S28)) (a1 : ByteArray) (a2 : Int) : Option ((List (S28))) := ref09_Pick.l0 k l0 a1 a2 ([] : List (S28)) 0
theorem ref09_Pick.mono_l : ∀ k, (∀ y0 y1 y2 y3 y4, LeO (ref09_Pick.l0 k y0 y1 y2 y3 y4) (ref09_Pick.l0 (k + 1) y0 y1 y2 y3 y4))
 | 0 => fun _ _ _ _ _ r h => by simp [ref09_Pick.l0] at h
 | k + 1 => by
  have ih0 := ref09_Pick.mono_l k
  ·intro y0 y1 y2 y3 y4
   unfold ref09_Pick.l0
   repeat' first | exact LeO.refl _ | with_reducible first | apply ih0 | exact LeO.none _ | apply LeO.ite | refine LeO.bind ?_ fun _ => ?_
theorem ref09_Pick.mono : ∀ a0 a1 a2 k, LeO (ref09_Pick.f k a0 a1 a2) (ref09_Pick.f (k + 1) a0 a1 a2) := by
 intro a0 a1 a2 k
 have ih0 := ref09_Pick.mono_l k
 unfold ref09_Pick.f
 repeat' first | exact LeO.refl _ | with_reducible first | apply ih0 | exact LeO.none _ | apply LeO.ite | refine LeO.bind ?_ fun _ => ?_
set_option maxHeartbeats 8000000 in
set_option maxRecDepth 100000 in
theorem ref09_Pick.calls (k : Nat) (A0 : Option Addr) (c0 : Nat) (l0 : List (S28)) (a1 : ByteArray) (a2 : Int) (r : List (S28)) (w : World) (hr0 : Kd.C k28 w A0 l0.length l0) (hc0 : l0.length ≤ c0) (h : ref09_Pick.f k l0 a1 a2 = some r) :
  Calls Try.prog 28 #[.slice A0 l0.length c0, .string a1, .int .i64 a2] w fun e w' => ∃ v0_ : Value, e = .returned (v0_) ∧ Kd.R k28 28 w' w.heap.size (fun _ => True) v0_ r ∧ Below w.heap.size w w' := by
 have hu28 := Try.underlying28
 have HR0 := Aside0.mk hr0
 have HC0 := Aside0.mk hc0
 clear hr0 hc0
 have HB := Aside0.mk (Below.refl w.heap.size w)
 have H : (ref09_Pick.l0 k l0 a1 a2 ([] : List (S28)) 0) = some r := h
 clear h
 have H' := Aside0.mk H
 clear H
 go_enter Try.func28, Try.ntmps28
 go_wp2
 go_loopg [7, 8] k (fun kq v7 v8 w' => ∃ (x7_1 : List (S28)) (x8_1 : Int), v8 = .int .i64 x8_1 ∧ Aside0 (ref09_Pick.l0 kq l0 a1 a2 x7_1 x8_1 = some r) ∧ Aside0 (kq ≤ k) ∧ Aside0 (Kd.R k28 28 w' w.heap.size (fun _ => True) v7 x7_1) ∧ Aside0 (Below w.heap.size w w'))
 case atStart => exact ⟨(([] : List (S28))), (0), (by first | rfl | (simp; done) | (simp [*]; done)), H', ⟨Nat.le_refl _⟩, ⟨RFn.kn⟩, ⟨RFn.bel⟩⟩
 case round =>
  clear H'
  try clear c2
  try clear p2
  obtain ⟨x7_1, x8_1, rfl, HA, HK1, HO_7, HB⟩ := hrel
  cases gk with
  | zero => exact absurd HA.out (by simp [ref09_Pick.l0])
  | succ k1 =>
   have H := HA.out
   clear HA
   simp only [ref09_Pick.l0] at H
   by_cases c4 : x8_1 < (l0.length : Int)
   ·rw [if_pos c4] at H
    have c4b0 : decide (x8_1 < (l0.length : Int)) = true := decide_eq_true c4
    clear c4
    by_cases c5 : a1.toList = ([] : List UInt8)
    ·rw [if_pos c5] at H
     have c5b0 : (a1.toList == ([] : List UInt8)) = true := beq_iff_eq.mpr c5
     have c5b1 : (a1.toList != ([] : List UInt8)) = false := bne_eq_false_iff_eq.mpr c5
     clear c5
     by_cases c6 : a2 < 0
     ·rw [if_pos c6] at H
      have c6b0 : decide (a2 < 0) = true := decide_eq_true c6
      clear c6
      by_cases c7 : 0 ≤ x8_1
      ·rw [if_pos c7] at H
       have c7b0 : decide (0 ≤ x8_1) = true := decide_eq_true c7
       clear c7
       by_cases c8 : x7_1.length < 1759218604441
       ·rw [if_pos c8] at H
        have LMc8 := Aside0.mk c8
        clear c8
        obtain ⟨y377, hy377⟩ : ∃ y_ : List (S28), y_ = (x7_1 ++ [(⟨(⟨(rd_T28 l0 x8_1).f0.f0, (rd_T28 l0 x8_1).f0.f1, (rd_T28 l0 x8_1).f0.f2, (rd_T28 l0 x8_1).f0.f3, (rd_T28 l0 x8_1).f0.f4⟩ : S24), (rd_T28 l0 x8_1).f1⟩ : S28)]) := ⟨_, rfl⟩
        replace H : (ref09_Pick.l0 k1 l0 a1 a2 y377 (wrap64 (x8_1 + 1))) = some r := RFn.rp H hy377
        have Ny377 := Aside0.mk hy377
        clear hy377
        have H' := Aside0.mk H
        clear H
        have p376 : 0 ≤ (x8_1 : Int) := RFn.od
        have q376 : x8_1 < (l0.length : Int) := RFn.od
        obtain ⟨ad376, e376, hx376_0, hx376_1, hx376_2, hx376_3, hx376_4, hx376_5⟩ := at_T28 HR0.out x8_1 p376 q376
        cases e376
        replace hx376_0 := RFn.hb HB hx376_0
        replace hx376_1 := RFn.hb HB hx376_1
        replace hx376_2 := RFn.hb HB hx376_2
        replace hx376_3 := RFn.hb HB hx376_3
        replace hx376_4 := RFn.hb HB hx376_4
        replace hx376_5 := RFn.hb HB hx376_5
        replace p376 := eq_true p376
        replace q376 := eq_true q376
        go_wp2_with (first | ((with_reducible refine gate_builtin (b := .append) (xs := #[.tmp 41, .tmp 46]) rfl ?_); at_builtin; refine Kd.R_append k28 (w0 := w) w.heap.size rfl (.tmp 41) (.tmp 46) 22 28 (.agg #[(.string ⟨#[]⟩), (.string ⟨#[]⟩), (.string ⟨#[]⟩), (.string ⟨#[]⟩), (.int .i64 0), (.int .i64 0)]) 80 rfl Try.underlying22 info28 rfl (by decide) (by omega) u7 x7_1 (⟨(⟨(rd_T28 l0 x8_1).f0.f0, (rd_T28 l0 x8_1).f0.f1, (rd_T28 l0 x8_1).f0.f2, (rd_T28 l0 x8_1).f0.f3, (rd_T28 l0 x8_1).f0.f4⟩ : S24), (rd_T28 l0 x8_1).f1⟩ : S28) [.string ((rd_T28 l0 x8_1).f0.f0), .string ((rd_T28 l0 x8_1).f0.f1), .string ((rd_T28 l0 x8_1).f0.f2), .string ((rd_T28 l0 x8_1).f0.f3), .int .i64 ((rd_T28 l0 x8_1).f0.f4), .int .i64 ((rd_T28 l0 x8_1).f1)] (fun _ => True) (fun _ => False) rfl rfl ?aP (fun _ hk => hk.elim) ?aF ?aO ?aB ?aS ?aL ?_; (case aP => exact k28_mkM _ _ _ (⟨(⟨(rd_T28 l0 x8_1).f0.f0, (rd_T28 l0 x8_1).f0.f1, (rd_T28 l0 x8_1).f0.f2, (rd_T28 l0 x8_1).f0.f3, (rd_T28 l0 x8_1).f0.f4⟩ : S24), (rd_T28 l0 x8_1).f1⟩ : S28)); (case aB => exact (RFn.bel)); (case aF => exact (fun _ _ => trivial)); (case aO => exact (RFn.mR HO_7)); (case aS => exact (below_size (RFn.bel))); (case aL => have := LMc8.out; omega); intro v378 w9 ho hb hg hat; rw [← Ny377.out] at ho; have n0_ := Aside0.mk (hb); have n1_ := Aside0.mk (ho); clear HB; clear HO_7; have HB := n0_; have HO379 := n1_; clear n0_ n1_; clear ho hb hg hat))
        go_roundg k1
        case measure => have := HK1.out; omega
        case rel => exact ⟨(y377), (wrap64 (x8_1 + 1)), (by first | rfl | (simp; done) | (simp [*]; done)), H', ⟨RFn.lk HK1⟩, ⟨RFn.mR HO379⟩, ⟨RFn.bel⟩⟩
       ·rw [if_neg c8] at H
        exact absurd H (by simp)
      ·rw [if_neg c7] at H
       exact absurd H (by simp)
     ·rw [if_neg c6] at H
      have c6b0 : decide (a2 < 0) = false := decide_eq_false c6
      clear c6
      by_cases c10 : 0 ≤ x8_1
      ·rw [if_pos c10] at H
       have c10b0 : decide (0 ≤ x8_1) = true := decide_eq_true c10
       clear c10
       by_cases c11 : ((rd_T28 l0 x8_1).f0.f4) = a2
       ·rw [if_pos c11] at H
        have c11b0 : (((rd_T28 l0 x8_1).f0.f4) == a2) = true := beq_iff_eq.mpr c11
        have c11b1 : (((rd_T28 l0 x8_1).f0.f4) != a2) = false := bne_eq_false_iff_eq.mpr c11
        clear c11
        by_cases c12 : x7_1.length < 1759218604441
        ·rw [if_pos c12] at H
         have LMc12 := Aside0.mk c12
         clear c12
         obtain ⟨y382, hy382⟩ : ∃ y_ : List (S28), y_ = (x7_1 ++ [(⟨(⟨(rd_T28 l0 x8_1).f0.f0, (rd_T28 l0 x8_1).f0.f1, (rd_T28 l0 x8_1).f0.f2, (rd_T28 l0 x8_1).f0.f3, (rd_T28 l0 x8_1).f0.f4⟩ : S24), (rd_T28 l0 x8_1).f1⟩ : S28)]) := ⟨_, rfl⟩
         replace H : (ref09_Pick.l0 k1 l0 a1 a2 y382 (wrap64 (x8_1 + 1))) = some r := RFn.rp H hy382
         have Ny382 := Aside0.mk hy382
         clear hy382
         have H' := Aside0.mk H
         clear H
         have p380 : 0 ≤ (x8_1 : Int) := RFn.od
         have q380 : x8_1 < (l0.length : Int) := RFn.od
         obtain ⟨ad380, e380, hx380_0, hx380_1, hx380_2, hx380_3, hx380_4, hx380_5⟩ := at_T28 HR0.out x8_1 p380 q380
         cases e380
         replace hx380_0 := RFn.hb HB hx380_0
         replace hx380_1 := RFn.hb HB hx380_1
         replace hx380_2 := RFn.hb HB hx380_2
         replace hx380_3 := RFn.hb HB hx380_3
         replace hx380_4 := RFn.hb HB hx380_4
         replace hx380_5 := RFn.hb HB hx380_5
         replace p380 := eq_true p380
         replace q380 := eq_true q380
         have p381 : 0 ≤ (x8_1 : Int) := RFn.od
         have q381 : x8_1 < (l0.length : Int) := RFn.od
         obtain ⟨ad381, e381, hx381_0, hx381_1, hx381_2, hx381_3, hx381_4, hx381_5⟩ := at_T28 HR0.out x8_1 p381 q381
         obtain rfl : ad380 = ad381 := (by injection e381)
         replace hx381_0 := RFn.hb HB hx381_0
         replace hx381_1 := RFn.hb HB hx381_1
         replace hx381_2 := RFn.hb HB hx381_2
         replace hx381_3 := RFn.hb HB hx381_3
         replace hx381_4 := RFn.hb HB hx381_4
         replace hx381_5 := RFn.hb HB hx381_5
         replace p381 := eq_true p381
         replace q381 := eq_true q381
         go_wp2_with (first | ((with_reducible refine gate_builtin (b := .append) (xs := #[.tmp 41, .tmp 46]) rfl ?_); at_builtin; refine Kd.R_append k28 (w0 := w) w.heap.size rfl (.tmp 41) (.tmp 46) 22 28 (.agg #[(.string ⟨#[]⟩), (.string ⟨#[]⟩), (.string ⟨#[]⟩), (.string ⟨#[]⟩), (.int .i64 0), (.int .i64 0)]) 80 rfl Try.underlying22 info28 rfl (by decide) (by omega) u7 x7_1 (⟨(⟨(rd_T28 l0 x8_1).f0.f0, (rd_T28 l0 x8_1).f0.f1, (rd_T28 l0 x8_1).f0.f2, (rd_T28 l0 x8_1).f0.f3, (rd_T28 l0 x8_1).f0.f4⟩ : S24), (rd_T28 l0 x8_1).f1⟩ : S28) [.string ((rd_T28 l0 x8_1).f0.f0), .string ((rd_T28 l0 x8_1).f0.f1), .string ((rd_T28 l0 x8_1).f0.f2), .string ((rd_T28 l0 x8_1).f0.f3), .int .i64 ((rd_T28 l0 x8_1).f0.f4), .int .i64 ((rd_T28 l0 x8_1).f1)] (fun _ => True) (fun _ => False) rfl rfl ?aP (fun _ hk => hk.elim) ?aF ?aO ?aB ?aS ?aL ?_; (case aP => exact k28_mkM _ _ _ (⟨(⟨(rd_T28 l0 x8_1).f0.f0, (rd_T28 l0 x8_1).f0.f1, (rd_T28 l0 x8_1).f0.f2, (rd_T28 l0 x8_1).f0.f3, (rd_T28 l0 x8_1).f0.f4⟩ : S24), (rd_T28 l0 x8_1).f1⟩ : S28)); (case aB => exact (RFn.bel)); (case aF => exact (fun _ _ => trivial)); (case aO => exact (RFn.mR HO_7)); (case aS => exact (below_size (RFn.bel))); (case aL => have := LMc12.out; omega); intro v383 w13 ho hb hg hat; rw [← Ny382.out] at ho; have n0_ := Aside0.mk (hb); have n1_ := Aside0.mk (ho); clear HB; clear HO_7; have HB := n0_; have HO384 := n1_; clear n0_ n1_; clear ho hb hg hat))
         go_roundg k1
         case measure => have := HK1.out; omega
         case rel => exact ⟨(y382), (wrap64 (x8_1 + 1)), (by first | rfl | (simp; done) | (simp [*]; done)), H', ⟨RFn.lk HK1⟩, ⟨RFn.mR HO384⟩, ⟨RFn.bel⟩⟩
        ·rw [if_neg c12] at H
         exact absurd H (by simp)
       ·rw [if_neg c11] at H
        have c11b0 : (((rd_T28 l0 x8_1).f0.f4) == a2) = false := beq_eq_false_iff_ne.mpr c11
        have c11b1 : (((rd_T28 l0 x8_1).f0.f4) != a2) = true := bne_iff_ne.mpr c11
        have H' := Aside0.mk H
        clear H
        have p380 : 0 ≤ (x8_1 : Int) := RFn.od
        have q380 : x8_1 < (l0.length : Int) := RFn.od
        obtain ⟨ad380, e380, hx380_0, hx380_1, hx380_2, hx380_3, hx380_4, hx380_5⟩ := at_T28 HR0.out x8_1 p380 q380
        cases e380
        replace hx380_0 := RFn.hb HB hx380_0
        replace hx380_1 := RFn.hb HB hx380_1
        replace hx380_2 := RFn.hb HB hx380_2
        replace hx380_3 := RFn.hb HB hx380_3
        replace hx380_4 := RFn.hb HB hx380_4
        replace hx380_5 := RFn.hb HB hx380_5
        replace p380 := eq_true p380
        replace q380 := eq_true q380
        go_wp2
        go_roundg k1
        case measure => have := HK1.out; omega
        case rel => exact ⟨(x7_1), (wrap64 (x8_1 + 1)), (by first | rfl | (simp; done) | (simp [*]; done)), H', ⟨RFn.lk HK1⟩, ⟨RFn.mR HO_7⟩, ⟨RFn.bel⟩⟩
      ·rw [if_neg c10] at H
       exact absurd H (by simp)
    ·rw [if_neg c5] at H
     have c5b0 : (a1.toList == ([] : List UInt8)) = false := beq_eq_false_iff_ne.mpr c5
     have c5b1 : (a1.toList != ([] : List UInt8)) = true := bne_iff_ne.mpr c5
     by_cases c14 : 0 ≤ x8_1
     ·rw [if_pos c14] at H
      have c14b0 : decide (0 ≤ x8_1) = true := decide_eq_true c14
      clear c14
      by_cases c15 : ((rd_T28 l0 x8_1).f0.f0).toList = a1.toList
      ·rw [if_pos c15] at H
       have c15b0 : (((rd_T28 l0 x8_1).f0.f0).toList == a1.toList) = true := beq_iff_eq.mpr c15
       have c15b1 : (((rd_T28 l0 x8_1).f0.f0).toList != a1.toList) = false := bne_eq_false_iff_eq.mpr c15
       clear c15
       by_cases c16 : a2 < 0
       ·rw [if_pos c16] at H
        have c16b0 : decide (a2 < 0) = true := decide_eq_true c16
        clear c16
        by_cases c17 : x7_1.length < 1759218604441
        ·rw [if_pos c17] at H
         have LMc17 := Aside0.mk c17
         clear c17
         obtain ⟨y387, hy387⟩ : ∃ y_ : List (S28), y_ = (x7_1 ++ [(⟨(⟨(rd_T28 l0 x8_1).f0.f0, (rd_T28 l0 x8_1).f0.f1, (rd_T28 l0 x8_1).f0.f2, (rd_T28 l0 x8_1).f0.f3, (rd_T28 l0 x8_1).f0.f4⟩ : S24), (rd_T28 l0 x8_1).f1⟩ : S28)]) := ⟨_, rfl⟩
         replace H : (ref09_Pick.l0 k1 l0 a1 a2 y387 (wrap64 (x8_1 + 1))) = some r := RFn.rp H hy387
         have Ny387 := Aside0.mk hy387
         clear hy387
         have H' := Aside0.mk H
         clear H
         have p385 : 0 ≤ (x8_1 : Int) := RFn.od
         have q385 : x8_1 < (l0.length : Int) := RFn.od
         obtain ⟨ad385, e385, hx385_0, hx385_1, hx385_2, hx385_3, hx385_4, hx385_5⟩ := at_T28 HR0.out x8_1 p385 q385
         cases e385
         replace hx385_0 := RFn.hb HB hx385_0
         replace hx385_1 := RFn.hb HB hx385_1
         replace hx385_2 := RFn.hb HB hx385_2
         replace hx385_3 := RFn.hb HB hx385_3
         replace hx385_4 := RFn.hb HB hx385_4
         replace hx385_5 := RFn.hb HB hx385_5
         replace p385 := eq_true p385
         replace q385 := eq_true q385
         have p386 : 0 ≤ (x8_1 : Int) := RFn.od
         have q386 : x8_1 < (l0.length : Int) := RFn.od
         obtain ⟨ad386, e386, hx386_0, hx386_1, hx386_2, hx386_3, hx386_4, hx386_5⟩ := at_T28 HR0.out x8_1 p386 q386
         obtain rfl : ad385 = ad386 := (by injection e386)
         replace hx386_0 := RFn.hb HB hx386_0
         replace hx386_1 := RFn.hb HB hx386_1
         replace hx386_2 := RFn.hb HB hx386_2
         replace hx386_3 := RFn.hb HB hx386_3
         replace hx386_4 := RFn.hb HB hx386_4
         replace hx386_5 := RFn.hb HB hx386_5
         replace p386 := eq_true p386
         replace q386 := eq_true q386
         go_wp2_with (first | ((with_reducible refine gate_builtin (b := .append) (xs := #[.tmp 41, .tmp 46]) rfl ?_); at_builtin; refine Kd.R_append k28 (w0 := w) w.heap.size rfl (.tmp 41) (.tmp 46) 22 28 (.agg #[(.string ⟨#[]⟩), (.string ⟨#[]⟩), (.string ⟨#[]⟩), (.string ⟨#[]⟩), (.int .i64 0), (.int .i64 0)]) 80 rfl Try.underlying22 info28 rfl (by decide) (by omega) u7 x7_1 (⟨(⟨(rd_T28 l0 x8_1).f0.f0, (rd_T28 l0 x8_1).f0.f1, (rd_T28 l0 x8_1).f0.f2, (rd_T28 l0 x8_1).f0.f3, (rd_T28 l0 x8_1).f0.f4⟩ : S24), (rd_T28 l0 x8_1).f1⟩ : S28) [.string ((rd_T28 l0 x8_1).f0.f0), .string ((rd_T28 l0 x8_1).f0.f1), .string ((rd_T28 l0 x8_1).f0.f2), .string ((rd_T28 l0 x8_1).f0.f3), .int .i64 ((rd_T28 l0 x8_1).f0.f4), .int .i64 ((rd_T28 l0 x8_1).f1)] (fun _ => True) (fun _ => False) rfl rfl ?aP (fun _ hk => hk.elim) ?aF ?aO ?aB ?aS ?aL ?_; (case aP => exact k28_mkM _ _ _ (⟨(⟨(rd_T28 l0 x8_1).f0.f0, (rd_T28 l0 x8_1).f0.f1, (rd_T28 l0 x8_1).f0.f2, (rd_T28 l0 x8_1).f0.f3, (rd_T28 l0 x8_1).f0.f4⟩ : S24), (rd_T28 l0 x8_1).f1⟩ : S28)); (case aB => exact (RFn.bel)); (case aF => exact (fun _ _ => trivial)); (case aO => exact (RFn.mR HO_7)); (case aS => exact (below_size (RFn.bel))); (case aL => have := LMc17.out; omega); intro v388 w18 ho hb hg hat; rw [← Ny387.out] at ho; have n0_ := Aside0.mk (hb); have n1_ := Aside0.mk (ho); clear HB; clear HO_7; have HB := n0_; have HO389 := n1_; clear n0_ n1_; clear ho hb hg hat))
         go_roundg k1
         case measure => have := HK1.out; omega
         case rel => exact ⟨(y387), (wrap64 (x8_1 + 1)), (by first | rfl | (simp; done) | (simp [*]; done)), H', ⟨RFn.lk HK1⟩, ⟨RFn.mR HO389⟩, ⟨RFn.bel⟩⟩
        ·rw [if_neg c17] at H
         exact absurd H (by simp)
       ·rw [if_neg c16] at H
        have c16b0 : decide (a2 < 0) = false := decide_eq_false c16
        clear c16
        by_cases c19 : ((rd_T28 l0 x8_1).f0.f4) = a2
        ·rw [if_pos c19] at H
         have c19b0 : (((rd_T28 l0 x8_1).f0.f4) == a2) = true := beq_iff_eq.mpr c19
         have c19b1 : (((rd_T28 l0 x8_1).f0.f4) != a2) = false := bne_eq_false_iff_eq.mpr c19
         clear c19
         by_cases c20 : x7_1.length < 1759218604441
         ·rw [if_pos c20] at H
          have LMc20 := Aside0.mk c20
          clear c20
          obtain ⟨y392, hy392⟩ : ∃ y_ : List (S28), y_ = (x7_1 ++ [(⟨(⟨(rd_T28 l0 x8_1).f0.f0, (rd_T28 l0 x8_1).f0.f1, (rd_T28 l0 x8_1).f0.f2, (rd_T28 l0 x8_1).f0.f3, (rd_T28 l0 x8_1).f0.f4⟩ : S24), (rd_T28 l0 x8_1).f1⟩ : S28)]) := ⟨_, rfl⟩
          replace H : (ref09_Pick.l0 k1 l0 a1 a2 y392 (wrap64 (x8_1 + 1))) = some r := RFn.rp H hy392
          have Ny392 := Aside0.mk hy392
          clear hy392
          have H' := Aside0.mk H
          clear H
          have p385 : 0 ≤ (x8_1 : Int) := RFn.od
          have q385 : x8_1 < (l0.length : Int) := RFn.od
          obtain ⟨ad385, e385, hx385_0, hx385_1, hx385_2, hx385_3, hx385_4, hx385_5⟩ := at_T28 HR0.out x8_1 p385 q385
          cases e385
          replace hx385_0 := RFn.hb HB hx385_0
          replace hx385_1 := RFn.hb HB hx385_1
          replace hx385_2 := RFn.hb HB hx385_2
          replace hx385_3 := RFn.hb HB hx385_3
          replace hx385_4 := RFn.hb HB hx385_4
          replace hx385_5 := RFn.hb HB hx385_5
          replace p385 := eq_true p385
          replace q385 := eq_true q385
          have p390 : 0 ≤ (x8_1 : Int) := RFn.od
          have q390 : x8_1 < (l0.length : Int) := RFn.od
          obtain ⟨ad390, e390, hx390_0, hx390_1, hx390_2, hx390_3, hx390_4, hx390_5⟩ := at_T28 HR0.out x8_1 p390 q390
          obtain rfl : ad385 = ad390 := (by injection e390)
          replace hx390_0 := RFn.hb HB hx390_0
          replace hx390_1 := RFn.hb HB hx390_1
          replace hx390_2 := RFn.hb HB hx390_2
          replace hx390_3 := RFn.hb HB hx390_3
          replace hx390_4 := RFn.hb HB hx390_4
          replace hx390_5 := RFn.hb HB hx390_5
          replace p390 := eq_true p390
          replace q390 := eq_true q390
          have p391 : 0 ≤ (x8_1 : Int) := RFn.od
          have q391 : x8_1 < (l0.length : Int) := RFn.od
          obtain ⟨ad391, e391, hx391_0, hx391_1, hx391_2, hx391_3, hx391_4, hx391_5⟩ := at_T28 HR0.out x8_1 p391 q391
          obtain rfl : ad385 = ad391 := (by injection e391)
          replace hx391_0 := RFn.hb HB hx391_0
          replace hx391_1 := RFn.hb HB hx391_1
          replace hx391_2 := RFn.hb HB hx391_2
          replace hx391_3 := RFn.hb HB hx391_3
          replace hx391_4 := RFn.hb HB hx391_4
          replace hx391_5 := RFn.hb HB hx391_5
          replace p391 := eq_true p391
          replace q391 := eq_true q391
          go_wp2_with (first | ((with_reducible refine gate_builtin (b := .append) (xs := #[.tmp 41, .tmp 46]) rfl ?_); at_builtin; refine Kd.R_append k28 (w0 := w) w.heap.size rfl (.tmp 41) (.tmp 46) 22 28 (.agg #[(.string ⟨#[]⟩), (.string ⟨#[]⟩), (.string ⟨#[]⟩), (.string ⟨#[]⟩), (.int .i64 0), (.int .i64 0)]) 80 rfl Try.underlying22 info28 rfl (by decide) (by omega) u7 x7_1 (⟨(⟨(rd_T28 l0 x8_1).f0.f0, (rd_T28 l0 x8_1).f0.f1, (rd_T28 l0 x8_1).f0.f2, (rd_T28 l0 x8_1).f0.f3, (rd_T28 l0 x8_1).f0.f4⟩ : S24), (rd_T28 l0 x8_1).f1⟩ : S28) [.string ((rd_T28 l0 x8_1).f0.f0), .string ((rd_T28 l0 x8_1).f0.f1), .string ((rd_T28 l0 x8_1).f0.f2), .string ((rd_T28 l0 x8_1).f0.f3), .int .i64 ((rd_T28 l0 x8_1).f0.f4), .int .i64 ((rd_T28 l0 x8_1).f1)] (fun _ => True) (fun _ => False) rfl rfl ?aP (fun _ hk => hk.elim) ?aF ?aO ?aB ?aS ?aL ?_; (case aP => exact k28_mkM _ _ _ (⟨(⟨(rd_T28 l0 x8_1).f0.f0, (rd_T28 l0 x8_1).f0.f1, (rd_T28 l0 x8_1).f0.f2, (rd_T28 l0 x8_1).f0.f3, (rd_T28 l0 x8_1).f0.f4⟩ : S24), (rd_T28 l0 x8_1).f1⟩ : S28)); (case aB => exact (RFn.bel)); (case aF => exact (fun _ _ => trivial)); (case aO => exact (RFn.mR HO_7)); (case aS => exact (below_size (RFn.bel))); (case aL => have := LMc20.out; omega); intro v393 w21 ho hb hg hat; rw [← Ny392.out] at ho; have n0_ := Aside0.mk (hb); have n1_ := Aside0.mk (ho); clear HB; clear HO_7; have HB := n0_; have HO394 := n1_; clear n0_ n1_; clear ho hb hg hat))
          go_roundg k1
          case measure => have := HK1.out; omega
          case rel => exact ⟨(y392), (wrap64 (x8_1 + 1)), (by first | rfl | (simp; done) | (simp [*]; done)), H', ⟨RFn.lk HK1⟩, ⟨RFn.mR HO394⟩, ⟨RFn.bel⟩⟩
         ·rw [if_neg c20] at H
          exact absurd H (by simp)
        ·rw [if_neg c19] at H
         have c19b0 : (((rd_T28 l0 x8_1).f0.f4) == a2) = false := beq_eq_false_iff_ne.mpr c19
         have c19b1 : (((rd_T28 l0 x8_1).f0.f4) != a2) = true := bne_iff_ne.mpr c19
         have H' := Aside0.mk H
         clear H
         have p385 : 0 ≤ (x8_1 : Int) := RFn.od
         have q385 : x8_1 < (l0.length : Int) := RFn.od
         obtain ⟨ad385, e385, hx385_0, hx385_1, hx385_2, hx385_3, hx385_4, hx385_5⟩ := at_T28 HR0.out x8_1 p385 q385
         cases e385
         replace hx385_0 := RFn.hb HB hx385_0
         replace hx385_1 := RFn.hb HB hx385_1
         replace hx385_2 := RFn.hb HB hx385_2
         replace hx385_3 := RFn.hb HB hx385_3
         replace hx385_4 := RFn.hb HB hx385_4
         replace hx385_5 := RFn.hb HB hx385_5
         replace p385 := eq_true p385
         replace q385 := eq_true q385
         have p390 : 0 ≤ (x8_1 : Int) := RFn.od
         have q390 : x8_1 < (l0.length : Int) := RFn.od
         obtain ⟨ad390, e390, hx390_0, hx390_1, hx390_2, hx390_3, hx390_4, hx390_5⟩ := at_T28 HR0.out x8_1 p390 q390
         obtain rfl : ad385 = ad390 := (by injection e390)
         replace hx390_0 := RFn.hb HB hx390_0
         replace hx390_1 := RFn.hb HB hx390_1
         replace hx390_2 := RFn.hb HB hx390_2
         replace hx390_3 := RFn.hb HB hx390_3
         replace hx390_4 := RFn.hb HB hx390_4
         replace hx390_5 := RFn.hb HB hx390_5
         replace p390 := eq_true p390
         replace q390 := eq_true q390
         go_wp2
         go_roundg k1
         case measure => have := HK1.out; omega
         case rel => exact ⟨(x7_1), (wrap64 (x8_1 + 1)), (by first | rfl | (simp; done) | (simp [*]; done)), H', ⟨RFn.lk HK1⟩, ⟨RFn.mR HO_7⟩, ⟨RFn.bel⟩⟩
      ·rw [if_neg c15] at H
       have c15b0 : (((rd_T28 l0 x8_1).f0.f0).toList == a1.toList) = false := beq_eq_false_iff_ne.mpr c15
       have c15b1 : (((rd_T28 l0 x8_1).f0.f0).toList != a1.toList) = true := bne_iff_ne.mpr c15
       have H' := Aside0.mk H
       clear H
       have p385 : 0 ≤ (x8_1 : Int) := RFn.od
       have q385 : x8_1 < (l0.length : Int) := RFn.od
       obtain ⟨ad385, e385, hx385_0, hx385_1, hx385_2, hx385_3, hx385_4, hx385_5⟩ := at_T28 HR0.out x8_1 p385 q385
       cases e385
       replace hx385_0 := RFn.hb HB hx385_0
       replace hx385_1 := RFn.hb HB hx385_1
       replace hx385_2 := RFn.hb HB hx385_2
       replace hx385_3 := RFn.hb HB hx385_3
       replace hx385_4 := RFn.hb HB hx385_4
       replace hx385_5 := RFn.hb HB hx385_5
       replace p385 := eq_true p385
       replace q385 := eq_true q385
       go_wp2
       go_roundg k1
       case measure => have := HK1.out; omega
       case rel => exact ⟨(x7_1), (wrap64 (x8_1 + 1)), (by first | rfl | (simp; done) | (simp [*]; done)), H', ⟨RFn.lk HK1⟩, ⟨RFn.mR HO_7⟩, ⟨RFn.bel⟩⟩
     ·rw [if_neg c14] at H
      exact absurd H (by simp)
   ·rw [if_neg c4] at H
    have c4b0 : decide (x8_1 < (l0.length : Int)) = false := decide_eq_false c4
    clear c4
    obtain rfl := Option.some.inj H
    go_wp2
    go_ret
    exact ⟨_, by first | rfl | (simp [errW_none, errW_some] <;> rfl) | (simp [*, errW_none, errW_some] <;> rfl), RFn.mR HO_7, RFn.bel⟩
end Go.Proofs.Ytgheapbhakamaaa.Q
