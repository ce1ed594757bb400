/- printed by a program of this session (wip/tools/pr.sh): it is not a print of the kit -/
import Derived.Test.YtgheapbhakamaaaQx0
import Derived.Test.YtgheapbhakamaaaQx3
import Derived.Test.YtgheapbhakamaaaQx5
namespace Go.Proofs.Ytgheapbhakamaaa.Q
open Go.RowKit Go.Proofs.YtgheapbhakamaaaW.PrintWords Go.Proofs.YtgheapbhakamaaaW.PrintLast Go.Proofs.YtgheapbhakamaaaW.PrintMore
attribute [local go_sem] max2_int min2_int max_two min_two max_three min_three max_four min_four RFn.gtr_str   -- for this text's walks alone
set_option linter.unusedVariables false
set_option linter.unusedSimpArgs false
/-! ### fact_any: function 42 -/
def fact_any.f (a0 : ByteArray) (a1 : ByteArray) : Option (Bool) := if a0.toList = ([] : List UInt8) then (some true) else (some (a0.toList == a1.toList))
set_option maxHeartbeats 8000000 in
set_option maxRecDepth 100000 in
theorem fact_any.calls (a0 : ByteArray) (a1 : ByteArray) (r : Bool) (w : World) (h : fact_any.f a0 a1 = some r) :
  Calls Try.prog 42 #[.string a0, .string a1] w fun e w' => e = .returned (.bool r) ∧ Drawn0 w w' := by
 have H : (if a0.toList = ([] : List UInt8) then (some true) else (some (a0.toList == a1.toList))) = some r := h
 clear h
 by_cases c3 : a0.toList = ([] : List UInt8)
 ·rw [if_pos c3] at H
  have c3b0 : (a0.toList == ([] : List UInt8)) = true := beq_iff_eq.mpr c3
  have c3b1 : (a0.toList != ([] : List UInt8)) = false := bne_eq_false_iff_eq.mpr c3
  clear c3
  obtain rfl := Option.some.inj H
  go_enter Try.func42, Try.ntmps42
  go_wp2
  go_ret
  exact ⟨by first | rfl | (simp; done) | (simp [*]; done), by repeat (first | exact Drawn0.refl _ | apply Drawn0.step)⟩
 ·rw [if_neg c3] at H
  have c3b0 : (a0.toList == ([] : List UInt8)) = false := beq_eq_false_iff_ne.mpr c3
  have c3b1 : (a0.toList != ([] : List UInt8)) = true := bne_iff_ne.mpr c3
  obtain rfl := Option.some.inj H
  go_enter Try.func42, Try.ntmps42
  go_wp2
  go_ret
  exact ⟨by first | rfl | (simp; done) | (simp [*]; done), by repeat (first | exact Drawn0.refl _ | apply Drawn0.step)⟩
/-! ### fact_Sum: function 23 -/
mutual
def fact_Sum.l0 : Nat → ByteArray → ByteArray → ByteArray → Int → List (S60) → Int → Int → Option (Int × Int)
 | 0, _, _, _, _, _, _, _ => none
 | k + 1, x1, x2, x3, x8, x12, x13, x14 => if x14 < x13 then (if 0 ≤ x14 then (if x14 < (x12.length : Int) then ((fact_any.f x1 ((rd_T60 x12 x14).f0.f0)).bind fun t164 => (if t164 = true then ((fact_any.f x2 ((rd_T60 x12 x14).f0.f1)).bind fun t165 => (if t165 = true then ((fact_any.f x3 ((rd_T60 x12 x14).f0.f2)).bind fun t166 => (fact_Sum.j1 k x1 x2 x3 x8 x12 x13 x14 (!t166) ((rd_T60 x12 x14).f0.f0) ((rd_T60 x12 x14).f0.f1) ((rd_T60 x12 x14).f0.f2) ((rd_T60 x12 x14).f0.f3) ((rd_T60 x12 x14).f0.f4) ((rd_T60 x12 x14).f1))) else (fact_Sum.j1 k x1 x2 x3 x8 x12 x13 x14 true ((rd_T60 x12 x14).f0.f0) ((rd_T60 x12 x14).f0.f1) ((rd_T60 x12 x14).f0.f2) ((rd_T60 x12 x14).f0.f3) ((rd_T60 x12 x14).f0.f4) ((rd_T60 x12 x14).f1)))) else (fact_Sum.j1 k x1 x2 x3 x8 x12 x13 x14 true ((rd_T60 x12 x14).f0.f0) ((rd_T60 x12 x14).f0.f1) ((rd_T60 x12 x14).f0.f2) ((rd_T60 x12 x14).f0.f3) ((rd_T60 x12 x14).f0.f4) ((rd_T60 x12 x14).f1)))) else (none)) else (none)) else (some (x8, 0))
def fact_Sum.j1 : Nat → ByteArray → ByteArray → ByteArray → Int → List (S60) → Int → Int → Bool → ByteArray → ByteArray → ByteArray → ByteArray → Int → Int → Option (Int × Int)
 | 0, _, _, _, _, _, _, _, _, _, _, _, _, _, _ => none
 | k + 1, x1, x2, x3, x8, x12, x13, x14, x39, x164000, x164001, x164002, x164003, x164004, x164005 => if x39 = true then (fact_Sum.l0 k x1 x2 x3 x8 x12 x13 (wrap64 (x14 + 1))) else ((cent_Add.f x8 x164005).bind fun bt167 => (if bt167.2 = 0 then (fact_Sum.l0 k x1 x2 x3 bt167.1 x12 x13 (wrap64 (x14 + 1))) else (some (0, bt167.2))))
end
def fact_Sum.f (k : Nat) (l0 : List (S60)) (a1 : ByteArray) (a2 : ByteArray) (a3 : ByteArray) : Option (Int × Int) := fact_Sum.l0 k a1 a2 a3 0 l0 (l0.length : Int) 0
theorem fact_Sum.mono_l : ∀ k, (∀ y0 y1 y2 y3 y4 y5 y6, LeO (fact_Sum.l0 k y0 y1 y2 y3 y4 y5 y6) (fact_Sum.l0 (k + 1) y0 y1 y2 y3 y4 y5 y6)) ∧ (∀ y0 y1 y2 y3 y4 y5 y6 y7 y8 y9 y10 y11 y12 y13, LeO (fact_Sum.j1 k y0 y1 y2 y3 y4 y5 y6 y7 y8 y9 y10 y11 y12 y13) (fact_Sum.j1 (k + 1) y0 y1 y2 y3 y4 y5 y6 y7 y8 y9 y10 y11 y12 y13))
 | 0 => ⟨fun _ _ _ _ _ _ _ r h => by simp [fact_Sum.l0] at h, fun _ _ _ _ _ _ _ _ _ _ _ _ _ _ r h => by simp [fact_Sum.j1] at h⟩
 | k + 1 => by
  obtain ⟨ih0, ih1⟩ := fact_Sum.mono_l k
  refine ⟨?_, ?_⟩
  ·intro y0 y1 y2 y3 y4 y5 y6
   unfold fact_Sum.l0
   repeat' first | exact LeO.refl _ | with_reducible first | apply ih0 | apply ih1 | exact LeO.none _ | apply LeO.ite | refine LeO.bind ?_ fun _ => ?_
  ·intro y0 y1 y2 y3 y4 y5 y6 y7 y8 y9 y10 y11 y12 y13
   unfold fact_Sum.j1
   repeat' first | exact LeO.refl _ | with_reducible first | apply ih0 | apply ih1 | exact LeO.none _ | apply LeO.ite | refine LeO.bind ?_ fun _ => ?_
theorem fact_Sum.mono : ∀ a0 a1 a2 a3 k, LeO (fact_Sum.f k a0 a1 a2 a3) (fact_Sum.f (k + 1) a0 a1 a2 a3) := by
 intro a0 a1 a2 a3 k
 obtain ⟨ih0, ih1⟩ := fact_Sum.mono_l k
 unfold fact_Sum.f
 repeat' first | exact LeO.refl _ | with_reducible first | apply ih0 | apply ih1 | exact LeO.none _ | apply LeO.ite | refine LeO.bind ?_ fun _ => ?_
set_option maxHeartbeats 8000000 in
set_option maxRecDepth 100000 in
theorem fact_Sum.calls (k : Nat) (A0 : Option Addr) (c0 : Nat) (l0 : List (S60)) (a1 : ByteArray) (a2 : ByteArray) (a3 : ByteArray) (r1 : Int) (r2 : Int) (w : World) (hr0 : Kd.C k60 w A0 l0.length l0) (hc0 : l0.length ≤ c0) (h : fact_Sum.f k l0 a1 a2 a3 = some (r1, r2)) :
  Calls Try.prog 23 #[.slice A0 l0.length c0, .string a1, .string a2, .string a3] w fun e w' => e = .returned (.tuple #[.int .i64 r1, .int .i64 r2]) ∧ Below w.heap.size w w' := by
 have hu60 := Try.underlying60
 have HR0 := Aside0.mk hr0
 have HC0 := Aside0.mk hc0
 clear hr0 hc0
 have HB := Aside0.mk (Below.refl w.heap.size w)
 have H : (fact_Sum.l0 k a1 a2 a3 0 l0 (l0.length : Int) 0) = some (r1, r2) := h
 clear h
 have H' := Aside0.mk H
 clear H
 go_enter Try.func23, Try.ntmps23
 go_wp2
 go_loopg [8, 14] k (fun kq v8 v14 w' => ∃ (x8_1 : Int) (x14_1 : Int), v8 = .int .i64 x8_1 ∧ v14 = .int .i64 x14_1 ∧ Aside0 (fact_Sum.l0 kq a1 a2 a3 x8_1 l0 (l0.length : Int) x14_1 = some (r1, r2)) ∧ Aside0 (kq ≤ k) ∧ Aside0 (Below w.heap.size w w'))
 case atStart => exact ⟨(0), (0), (by first | rfl | (simp; done) | (simp [*]; done)), (by first | rfl | (simp; done) | (simp [*]; done)), H', ⟨Nat.le_refl _⟩, ⟨RFn.bel⟩⟩
 case round =>
  clear H'
  try clear c2
  try clear p2
  obtain ⟨x8_1, x14_1, rfl, rfl, HA, HK1, HB⟩ := hrel
  cases gk with
  | zero => exact absurd HA.out (by simp [fact_Sum.l0])
  | succ k1 =>
   have H := HA.out
   clear HA
   simp only [fact_Sum.l0] at H
   by_cases c5 : x14_1 < (l0.length : Int)
   ·rw [if_pos c5] at H
    have c5b0 : decide (x14_1 < (l0.length : Int)) = true := decide_eq_true c5
    clear c5
    by_cases c6 : 0 ≤ x14_1
    ·rw [if_pos c6] at H
     have c6b0 : decide (0 ≤ x14_1) = true := decide_eq_true c6
     clear c6
     by_cases c7 : x14_1 < (l0.length : Int)
     ·rw [if_pos c7] at H
      have c7b0 : decide (x14_1 < (l0.length : Int)) = true := decide_eq_true c7
      clear c7
      have HC8 := Aside0.mk H
      clear H
      have p162 : 0 ≤ (x14_1 : Int) := RFn.od
      have q162 : x14_1 < (l0.length : Int) := RFn.od
      obtain ⟨ad162, e162, hx162_0, hx162_1, hx162_2, hx162_3, hx162_4, hx162_5⟩ := at_T60 HR0.out x14_1 p162 q162
      cases e162
      replace hx162_0 := RFn.hb HB hx162_0
      replace hx162_1 := RFn.hb HB hx162_1
      replace hx162_2 := RFn.hb HB hx162_2
      replace hx162_3 := RFn.hb HB hx162_3
      replace hx162_4 := RFn.hb HB hx162_4
      replace hx162_5 := RFn.hb HB hx162_5
      replace p162 := eq_true p162
      replace q162 := eq_true q162
      go_upto_region 4 with (first | ((with_reducible refine gate_dst (N := 11) rfl ?_); refine box_event ?hg (N := 11) ?hd (cs := #[.string (⟨#[]⟩ : ByteArray), .string (⟨#[]⟩ : ByteArray), .string (⟨#[]⟩ : ByteArray), .string (⟨#[]⟩ : ByteArray), .int .i64 0, .int .i64 0]) (t := 60) ?hr ?_; (case hd => rfl); (case hg => rfl); (case hr => first | (go_simp; done) | (go_simp; rfl)); intro gb163 hg w9 hbox hb; have n0_ := Aside0.mk (below_step (RFn.bel) hb); have n1_ := Aside0.mk (hbox); have n2_ := Aside0.mk ((by rw [hg]; exact (below_size (RFn.bel)) : w.heap.size ≤ gb163)); have n3_ := Aside0.mk ((by rw [hg]; exact (below_size (RFn.bel)) : w.heap.size ≤ gb163)); clear HB; have HB := n0_; have BK163 := n1_; have GW163 := n2_; have GE163 := n3_; clear n0_ n1_ n2_ n3_; clear hb hbox hg; obtain ⟨hcz10_0, hcz10_1, hcz10_2, hcz10_3, hcz10_4, hcz10_5⟩ := RFn.bc6 BK163; obtain ⟨hfz10_0, hfz10_1, hfz10_2, hfz10_3, hfz10_4, hfz10_5⟩ := RFn.bf6 BK163))
      (try simp only [Act.put, List.setIfInBounds_toArray, List.set_cons_zero, List.set_cons_succ])
      go_cut [39] (fun v39 wc => ∃ (kq : Nat) (x39_7 : Bool), v39 = .bool x39_7 ∧ Aside0 (fact_Sum.j1 kq a1 a2 a3 x8_1 l0 (l0.length : Int) x14_1 x39_7 ((rd_T60 l0 x14_1).f0.f0) ((rd_T60 l0 x14_1).f0.f1) ((rd_T60 l0 x14_1).f0.f2) ((rd_T60 l0 x14_1).f0.f3) ((rd_T60 l0 x14_1).f0.f4) ((rd_T60 l0 x14_1).f1) = some (r1, r2)) ∧ Aside0 (kq ≤ k1) ∧ Aside0 (wc.heap[gb163]? = some (.cells #[.string ((rd_T60 l0 x14_1).f0.f0), .string ((rd_T60 l0 x14_1).f0.f1), .string ((rd_T60 l0 x14_1).f0.f2), .string ((rd_T60 l0 x14_1).f0.f3), .int .i64 ((rd_T60 l0 x14_1).f0.f4), .int .i64 ((rd_T60 l0 x14_1).f1)] 60 (0, 0))) ∧ Aside0 (Below w.heap.size w wc))
      case first =>
       have H := HC8.out
       clear HC8
       obtain ⟨t164, A11, H⟩ := RFn.bn H
       by_cases c12 : t164 = true
       ·subst c12
        have H1 : ((fact_any.f a2 ((rd_T60 l0 x14_1).f0.f1)).bind fun t165 => (if t165 = true then ((fact_any.f a3 ((rd_T60 l0 x14_1).f0.f2)).bind fun t166 => (fact_Sum.j1 k1 a1 a2 a3 x8_1 l0 (l0.length : Int) x14_1 (!t166) ((rd_T60 l0 x14_1).f0.f0) ((rd_T60 l0 x14_1).f0.f1) ((rd_T60 l0 x14_1).f0.f2) ((rd_T60 l0 x14_1).f0.f3) ((rd_T60 l0 x14_1).f0.f4) ((rd_T60 l0 x14_1).f1))) else (fact_Sum.j1 k1 a1 a2 a3 x8_1 l0 (l0.length : Int) x14_1 true ((rd_T60 l0 x14_1).f0.f0) ((rd_T60 l0 x14_1).f0.f1) ((rd_T60 l0 x14_1).f0.f2) ((rd_T60 l0 x14_1).f0.f3) ((rd_T60 l0 x14_1).f0.f4) ((rd_T60 l0 x14_1).f1)))) = some (r1, r2) := by rw [if_pos rfl] at H; exact H
        clear H
        have H := H1
        clear H1
        obtain ⟨t165, A13, H⟩ := RFn.bn H
        by_cases c14 : t165 = true
        ·subst c14
         have H1 : ((fact_any.f a3 ((rd_T60 l0 x14_1).f0.f2)).bind fun t166 => (fact_Sum.j1 k1 a1 a2 a3 x8_1 l0 (l0.length : Int) x14_1 (!t166) ((rd_T60 l0 x14_1).f0.f0) ((rd_T60 l0 x14_1).f0.f1) ((rd_T60 l0 x14_1).f0.f2) ((rd_T60 l0 x14_1).f0.f3) ((rd_T60 l0 x14_1).f0.f4) ((rd_T60 l0 x14_1).f1))) = some (r1, r2) := by rw [if_pos rfl] at H; exact H
         clear H
         have H := H1
         clear H1
         obtain ⟨t166, A15, H⟩ := RFn.bn H
         have H' := Aside0.mk H
         clear H
         obtain ⟨hcz16_0, hcz16_1, hcz16_2, hcz16_3, hcz16_4, hcz16_5⟩ := RFn.bc6 BK163
         obtain ⟨hfz16_0, hfz16_1, hfz16_2, hfz16_3, hfz16_4, hfz16_5⟩ := RFn.bf6 BK163
         go_wp2_with (first | ((with_reducible refine gate_callee (f := 42) rfl ?_); refine RFn.goesM (some 22) Try.func42 #[.string a1, .string ((rd_T60 l0 x14_1).f0.f0)] rfl ?_; (with_reducible refine (fact_any.calls a1 ((rd_T60 l0 x14_1).f0.f0) true _ A11.out).mono ?_); rintro e w' ⟨rfl, ⟨nd, rfl⟩⟩; refine ⟨_, rfl, ?_⟩) | (go_at_call 42; (with_reducible refine (fact_any.calls a2 ((rd_T60 l0 x14_1).f0.f1) true _ A13.out).mono ?_); rintro e w' ⟨rfl, ⟨nd, rfl⟩⟩) | (go_at_call 42; (with_reducible refine (fact_any.calls a3 ((rd_T60 l0 x14_1).f0.f2) t166 _ A15.out).mono ?_); rintro e w' ⟨rfl, ⟨nd, rfl⟩⟩))
         go_meet
         case rel => exact ⟨_, (!t166), (by first | rfl | (simp; done) | (simp [*]; done)), H', ⟨by have := HK1.out; first | omega | exact Nat.le_refl _⟩, ⟨by refine RFn.d3 ?_; refine blk_put (cs := #[.string ((rd_T60 l0 x14_1).f0.f0), .string ((rd_T60 l0 x14_1).f0.f1), .string ((rd_T60 l0 x14_1).f0.f2), .string ((rd_T60 l0 x14_1).f0.f3), .int .i64 ((rd_T60 l0 x14_1).f0.f4), .int .i64 0]) ?_ 5 _ rfl; refine RFn.d3 ?_; refine blk_put (cs := #[.string ((rd_T60 l0 x14_1).f0.f0), .string ((rd_T60 l0 x14_1).f0.f1), .string ((rd_T60 l0 x14_1).f0.f2), .string ((rd_T60 l0 x14_1).f0.f3), .int .i64 0, .int .i64 0]) ?_ 4 _ rfl; refine RFn.d3 ?_; refine blk_put (cs := #[.string ((rd_T60 l0 x14_1).f0.f0), .string ((rd_T60 l0 x14_1).f0.f1), .string ((rd_T60 l0 x14_1).f0.f2), .string (⟨#[]⟩ : ByteArray), .int .i64 0, .int .i64 0]) ?_ 3 _ rfl; refine RFn.d3 ?_; refine blk_put (cs := #[.string ((rd_T60 l0 x14_1).f0.f0), .string ((rd_T60 l0 x14_1).f0.f1), .string (⟨#[]⟩ : ByteArray), .string (⟨#[]⟩ : ByteArray), .int .i64 0, .int .i64 0]) ?_ 2 _ rfl; refine RFn.d3 ?_; refine blk_put (cs := #[.string ((rd_T60 l0 x14_1).f0.f0), .string (⟨#[]⟩ : ByteArray), .string (⟨#[]⟩ : ByteArray), .string (⟨#[]⟩ : ByteArray), .int .i64 0, .int .i64 0]) ?_ 1 _ rfl; refine RFn.d3 ?_; refine blk_put (cs := #[.string (⟨#[]⟩ : ByteArray), .string (⟨#[]⟩ : ByteArray), .string (⟨#[]⟩ : ByteArray), .string (⟨#[]⟩ : ByteArray), .int .i64 0, .int .i64 0]) ?_ 0 _ rfl; refine RFn.d3 ?_; exact BK163.out⟩, ⟨RFn.bels⟩⟩
        ·replace c14 := Bool.eq_false_iff.mpr c14
         subst c14
         have H1 : (fact_Sum.j1 k1 a1 a2 a3 x8_1 l0 (l0.length : Int) x14_1 true ((rd_T60 l0 x14_1).f0.f0) ((rd_T60 l0 x14_1).f0.f1) ((rd_T60 l0 x14_1).f0.f2) ((rd_T60 l0 x14_1).f0.f3) ((rd_T60 l0 x14_1).f0.f4) ((rd_T60 l0 x14_1).f1)) = some (r1, r2) := by rw [if_neg (show ¬ (false = true) by decide)] at H; exact H
         clear H
         have H := H1
         clear H1
         have H' := Aside0.mk H
         clear H
         obtain ⟨hcz17_0, hcz17_1, hcz17_2, hcz17_3, hcz17_4, hcz17_5⟩ := RFn.bc6 BK163
         obtain ⟨hfz17_0, hfz17_1, hfz17_2, hfz17_3, hfz17_4, hfz17_5⟩ := RFn.bf6 BK163
         go_wp2_with (first | ((with_reducible refine gate_callee (f := 42) rfl ?_); refine RFn.goesM (some 22) Try.func42 #[.string a1, .string ((rd_T60 l0 x14_1).f0.f0)] rfl ?_; (with_reducible refine (fact_any.calls a1 ((rd_T60 l0 x14_1).f0.f0) true _ A11.out).mono ?_); rintro e w' ⟨rfl, ⟨nd, rfl⟩⟩; refine ⟨_, rfl, ?_⟩) | (go_at_call 42; (with_reducible refine (fact_any.calls a2 ((rd_T60 l0 x14_1).f0.f1) false _ A13.out).mono ?_); rintro e w' ⟨rfl, ⟨nd, rfl⟩⟩))
         go_meet
         case rel => exact ⟨_, (true), (by first | rfl | (simp; done) | (simp [*]; done)), H', ⟨by have := HK1.out; first | omega | exact Nat.le_refl _⟩, ⟨by refine RFn.d3 ?_; refine blk_put (cs := #[.string ((rd_T60 l0 x14_1).f0.f0), .string ((rd_T60 l0 x14_1).f0.f1), .string ((rd_T60 l0 x14_1).f0.f2), .string ((rd_T60 l0 x14_1).f0.f3), .int .i64 ((rd_T60 l0 x14_1).f0.f4), .int .i64 0]) ?_ 5 _ rfl; refine RFn.d3 ?_; refine blk_put (cs := #[.string ((rd_T60 l0 x14_1).f0.f0), .string ((rd_T60 l0 x14_1).f0.f1), .string ((rd_T60 l0 x14_1).f0.f2), .string ((rd_T60 l0 x14_1).f0.f3), .int .i64 0, .int .i64 0]) ?_ 4 _ rfl; refine RFn.d3 ?_; refine blk_put (cs := #[.string ((rd_T60 l0 x14_1).f0.f0), .string ((rd_T60 l0 x14_1).f0.f1), .string ((rd_T60 l0 x14_1).f0.f2), .string (⟨#[]⟩ : ByteArray), .int .i64 0, .int .i64 0]) ?_ 3 _ rfl; refine RFn.d3 ?_; refine blk_put (cs := #[.string ((rd_T60 l0 x14_1).f0.f0), .string ((rd_T60 l0 x14_1).f0.f1), .string (⟨#[]⟩ : ByteArray), .string (⟨#[]⟩ : ByteArray), .int .i64 0, .int .i64 0]) ?_ 2 _ rfl; refine RFn.d3 ?_; refine blk_put (cs := #[.string ((rd_T60 l0 x14_1).f0.f0), .string (⟨#[]⟩ : ByteArray), .string (⟨#[]⟩ : ByteArray), .string (⟨#[]⟩ : ByteArray), .int .i64 0, .int .i64 0]) ?_ 1 _ rfl; refine RFn.d3 ?_; refine blk_put (cs := #[.string (⟨#[]⟩ : ByteArray), .string (⟨#[]⟩ : ByteArray), .string (⟨#[]⟩ : ByteArray), .string (⟨#[]⟩ : ByteArray), .int .i64 0, .int .i64 0]) ?_ 0 _ rfl; refine RFn.d3 ?_; exact BK163.out⟩, ⟨RFn.bels⟩⟩
       ·replace c12 := Bool.eq_false_iff.mpr c12
        subst c12
        have H1 : (fact_Sum.j1 k1 a1 a2 a3 x8_1 l0 (l0.length : Int) x14_1 true ((rd_T60 l0 x14_1).f0.f0) ((rd_T60 l0 x14_1).f0.f1) ((rd_T60 l0 x14_1).f0.f2) ((rd_T60 l0 x14_1).f0.f3) ((rd_T60 l0 x14_1).f0.f4) ((rd_T60 l0 x14_1).f1)) = some (r1, r2) := by rw [if_neg (show ¬ (false = true) by decide)] at H; exact H
        clear H
        have H := H1
        clear H1
        have H' := Aside0.mk H
        clear H
        obtain ⟨hcz18_0, hcz18_1, hcz18_2, hcz18_3, hcz18_4, hcz18_5⟩ := RFn.bc6 BK163
        obtain ⟨hfz18_0, hfz18_1, hfz18_2, hfz18_3, hfz18_4, hfz18_5⟩ := RFn.bf6 BK163
        go_wp2_with (first | ((with_reducible refine gate_callee (f := 42) rfl ?_); refine RFn.goesM (some 22) Try.func42 #[.string a1, .string ((rd_T60 l0 x14_1).f0.f0)] rfl ?_; (with_reducible refine (fact_any.calls a1 ((rd_T60 l0 x14_1).f0.f0) false _ A11.out).mono ?_); rintro e w' ⟨rfl, ⟨nd, rfl⟩⟩; refine ⟨_, rfl, ?_⟩))
        go_meet
        case rel => exact ⟨_, (true), (by first | rfl | (simp; done) | (simp [*]; done)), H', ⟨by have := HK1.out; first | omega | exact Nat.le_refl _⟩, ⟨by refine RFn.d3 ?_; refine blk_put (cs := #[.string ((rd_T60 l0 x14_1).f0.f0), .string ((rd_T60 l0 x14_1).f0.f1), .string ((rd_T60 l0 x14_1).f0.f2), .string ((rd_T60 l0 x14_1).f0.f3), .int .i64 ((rd_T60 l0 x14_1).f0.f4), .int .i64 0]) ?_ 5 _ rfl; refine RFn.d3 ?_; refine blk_put (cs := #[.string ((rd_T60 l0 x14_1).f0.f0), .string ((rd_T60 l0 x14_1).f0.f1), .string ((rd_T60 l0 x14_1).f0.f2), .string ((rd_T60 l0 x14_1).f0.f3), .int .i64 0, .int .i64 0]) ?_ 4 _ rfl; refine RFn.d3 ?_; refine blk_put (cs := #[.string ((rd_T60 l0 x14_1).f0.f0), .string ((rd_T60 l0 x14_1).f0.f1), .string ((rd_T60 l0 x14_1).f0.f2), .string (⟨#[]⟩ : ByteArray), .int .i64 0, .int .i64 0]) ?_ 3 _ rfl; refine RFn.d3 ?_; refine blk_put (cs := #[.string ((rd_T60 l0 x14_1).f0.f0), .string ((rd_T60 l0 x14_1).f0.f1), .string (⟨#[]⟩ : ByteArray), .string (⟨#[]⟩ : ByteArray), .int .i64 0, .int .i64 0]) ?_ 2 _ rfl; refine RFn.d3 ?_; refine blk_put (cs := #[.string ((rd_T60 l0 x14_1).f0.f0), .string (⟨#[]⟩ : ByteArray), .string (⟨#[]⟩ : ByteArray), .string (⟨#[]⟩ : ByteArray), .int .i64 0, .int .i64 0]) ?_ 1 _ rfl; refine RFn.d3 ?_; refine blk_put (cs := #[.string (⟨#[]⟩ : ByteArray), .string (⟨#[]⟩ : ByteArray), .string (⟨#[]⟩ : ByteArray), .string (⟨#[]⟩ : ByteArray), .int .i64 0, .int .i64 0]) ?_ 0 _ rfl; refine RFn.d3 ?_; exact BK163.out⟩, ⟨RFn.bels⟩⟩
      case rest =>
       clear HC8
       try clear c1
       try clear p1
       try clear q1
       try clear hx1
       try clear c2
       try clear p2
       try clear c4
       try clear c5
       try clear c5b0
       try clear c6
       try clear c6b0
       try clear c7
       try clear c7b0
       try clear c12
       try clear c14
       try clear p16
       try clear q16
       try clear hx16
       try clear hcz10_0
       try clear hcz10_1
       try clear hcz10_2
       try clear hcz10_3
       try clear hcz10_4
       try clear hcz10_5
       try clear hcz16_0
       try clear hcz16_1
       try clear hcz16_2
       try clear hcz16_3
       try clear hcz16_4
       try clear hcz16_5
       try clear hcz17_0
       try clear hcz17_1
       try clear hcz17_2
       try clear hcz17_3
       try clear hcz17_4
       try clear hcz17_5
       try clear hcz18_0
       try clear hcz18_1
       try clear hcz18_2
       try clear hcz18_3
       try clear hcz18_4
       try clear hcz18_5
       try clear hfz10_0
       try clear hfz10_1
       try clear hfz10_2
       try clear hfz10_3
       try clear hfz10_4
       try clear hfz10_5
       try clear hfz16_0
       try clear hfz16_1
       try clear hfz16_2
       try clear hfz16_3
       try clear hfz16_4
       try clear hfz16_5
       try clear hfz17_0
       try clear hfz17_1
       try clear hfz17_2
       try clear hfz17_3
       try clear hfz17_4
       try clear hfz17_5
       try clear hfz18_0
       try clear hfz18_1
       try clear hfz18_2
       try clear hfz18_3
       try clear hfz18_4
       try clear hfz18_5
       try clear hx162_0
       try clear hx162_1
       try clear hx162_2
       try clear hx162_3
       try clear hx162_4
       try clear hx162_5
       try clear p162
       try clear p2
       try clear q162
       obtain ⟨kq, x39_7, rfl, HA, HJ7, BK163, HB⟩ := hcut
       cases kq with
       | zero => exact absurd HA.out (by simp [fact_Sum.j1])
       | succ kj7 =>
        have H := HA.out
        clear HA
        simp only [fact_Sum.j1] at H
        by_cases c19 : x39_7 = true
        ·subst c19
         have H1 : (fact_Sum.l0 kj7 a1 a2 a3 x8_1 l0 (l0.length : Int) (wrap64 (x14_1 + 1))) = some (r1, r2) := by rw [if_pos rfl] at H; exact H
         clear H
         have H := H1
         clear H1
         have H' := Aside0.mk H
         clear H
         go_wp2
         go_roundg kj7
         case measure => have := HK1.out; have := HJ7.out; omega
         case rel => exact ⟨(x8_1), (wrap64 (x14_1 + 1)), (by first | rfl | (simp; done) | (simp [*]; done)), (by first | rfl | (simp; done) | (simp [*]; done)), H', ⟨by have := HK1.out; have := HJ7.out; omega⟩, ⟨RFn.bels⟩⟩
        ·replace c19 := Bool.eq_false_iff.mpr c19
         subst c19
         have H1 : ((cent_Add.f x8_1 ((rd_T60 l0 x14_1).f1)).bind fun bt167 => (if bt167.2 = 0 then (fact_Sum.l0 kj7 a1 a2 a3 bt167.1 l0 (l0.length : Int) (wrap64 (x14_1 + 1))) else (some (0, bt167.2)))) = some (r1, r2) := by rw [if_neg (show ¬ (false = true) by decide)] at H; exact H
         clear H
         have H := H1
         clear H1
         obtain ⟨⟨t167, t168⟩, A20, H⟩ := RFn.bn H
         by_cases c21 : t168 = 0
         ·rw [if_pos c21] at H
          have c21b0 : (t168 == 0) = true := beq_iff_eq.mpr c21
          have c21b1 : (t168 != 0) = false := bne_eq_false_iff_eq.mpr c21
          clear c21
          have H' := Aside0.mk H
          clear H
          obtain ⟨hcz22_0, hcz22_1, hcz22_2, hcz22_3, hcz22_4, hcz22_5⟩ := RFn.bc6 BK163
          obtain ⟨hfz22_0, hfz22_1, hfz22_2, hfz22_3, hfz22_4, hfz22_5⟩ := RFn.bf6 BK163
          go_wp2_with (first | ((with_reducible refine gate_callee (f := 34) rfl ?_); refine RFn.goesM (some 44) Try.func34 #[.int .i64 x8_1, .int .i64 ((rd_T60 l0 x14_1).f1)] rfl ?_; (with_reducible refine (cent_Add.calls x8_1 ((rd_T60 l0 x14_1).f1) t167 t168 _ A20.out).mono ?_); rintro e w' ⟨rfl, ⟨nd, rfl⟩⟩; refine ⟨_, rfl, ?_⟩))
          go_roundg kj7
          case measure => have := HK1.out; have := HJ7.out; omega
          case rel => exact ⟨(t167), (wrap64 (x14_1 + 1)), (by first | rfl | (simp; done) | (simp [*]; done)), (by first | rfl | (simp; done) | (simp [*]; done)), H', ⟨by have := HK1.out; have := HJ7.out; omega⟩, ⟨RFn.bels⟩⟩
         ·rw [if_neg c21] at H
          have c21b0 : (t168 == 0) = false := beq_eq_false_iff_ne.mpr c21
          have c21b1 : (t168 != 0) = true := bne_iff_ne.mpr c21
          simp only [Option.some.injEq, Prod.mk.injEq] at H
          obtain ⟨rfl, rfl⟩ := H
          obtain ⟨hcz23_0, hcz23_1, hcz23_2, hcz23_3, hcz23_4, hcz23_5⟩ := RFn.bc6 BK163
          obtain ⟨hfz23_0, hfz23_1, hfz23_2, hfz23_3, hfz23_4, hfz23_5⟩ := RFn.bf6 BK163
          go_wp2_with (first | ((with_reducible refine gate_callee (f := 34) rfl ?_); refine RFn.goesM (some 44) Try.func34 #[.int .i64 x8_1, .int .i64 ((rd_T60 l0 x14_1).f1)] rfl ?_; (with_reducible refine (cent_Add.calls x8_1 ((rd_T60 l0 x14_1).f1) t167 t168 _ A20.out).mono ?_); rintro e w' ⟨rfl, ⟨nd, rfl⟩⟩; refine ⟨_, rfl, ?_⟩))
          go_ret2
          exact ⟨by first | rfl | (simp [errW_none, errW_some] <;> rfl) | (simp [*, errW_none, errW_some] <;> rfl), RFn.bels⟩
     ·rw [if_neg c7] at H
      exact absurd H (by simp)
    ·rw [if_neg c6] at H
     exact absurd H (by simp)
   ·rw [if_neg c5] at H
    have c5b0 : decide (x14_1 < (l0.length : Int)) = false := decide_eq_false c5
    clear c5
    simp only [Option.some.injEq, Prod.mk.injEq] at H
    obtain ⟨rfl, rfl⟩ := H
    go_wp2
    go_ret2
    exact ⟨by first | rfl | (simp [errW_none, errW_some] <;> rfl) | (simp [*, errW_none, errW_some] <;> rfl), RFn.bel⟩
/-! ### fact_Get_1: function 44 -/
def fact_Get_1.f (k : Nat) (a0_0 : ByteArray) (a0_1 : ByteArray) (a0_2 : ByteArray) (a0_3 : ByteArray) (a0_4 : Int) (a0_5 : Int) (a1_0 : ByteArray) (a1_1 : ByteArray) (a1_2 : ByteArray) (a1_3 : ByteArray) (a1_4 : Int) : Option (Int) := (fact_Cmp.f k a0_0 a0_1 a0_2 a0_3 a0_4 a1_0 a1_1 a1_2 a1_3 a1_4).bind fun t171 => (some t171)
theorem fact_Get_1.mono : ∀ a0 a1 a2 a3 a4 a5 a6 a7 a8 a9 a10 k, LeO (fact_Get_1.f k a0 a1 a2 a3 a4 a5 a6 a7 a8 a9 a10) (fact_Get_1.f (k + 1) a0 a1 a2 a3 a4 a5 a6 a7 a8 a9 a10) := by
 intro a0 a1 a2 a3 a4 a5 a6 a7 a8 a9 a10 k
 unfold fact_Get_1.f
 repeat' first | exact LeO.refl _ | with_reducible first | apply fact_Cmp.mono | exact LeO.none _ | apply LeO.ite | refine LeO.bind ?_ fun _ => ?_
set_option maxHeartbeats 8000000 in
set_option maxRecDepth 100000 in
theorem fact_Get_1.calls (k : Nat) (a0_0 : ByteArray) (a0_1 : ByteArray) (a0_2 : ByteArray) (a0_3 : ByteArray) (a0_4 : Int) (a0_5 : Int) (a1_0 : ByteArray) (a1_1 : ByteArray) (a1_2 : ByteArray) (a1_3 : ByteArray) (a1_4 : Int) (r : Int) (w : World) (h : fact_Get_1.f k a0_0 a0_1 a0_2 a0_3 a0_4 a0_5 a1_0 a1_1 a1_2 a1_3 a1_4 = some r) :
  Calls Try.prog 44 #[.agg #[.string a0_0, .string a0_1, .string a0_2, .string a0_3, .int .i64 a0_4, .int .i64 a0_5], .agg #[.string a1_0, .string a1_1, .string a1_2, .string a1_3, .int .i64 a1_4]] w fun e w' => e = .returned (.int .i64 r) ∧ Below w.heap.size w w' := by
 have hu60 := Try.underlying60
 have hu40 := Try.underlying40
 have HB := Aside0.mk (Below.refl w.heap.size w)
 have H : ((fact_Cmp.f k a0_0 a0_1 a0_2 a0_3 a0_4 a1_0 a1_1 a1_2 a1_3 a1_4).bind fun t171 => (some t171)) = some r := h
 clear h
 obtain ⟨t171, A3, H⟩ := RFn.bn H
 obtain rfl := Option.some.inj H
 go_enter Try.func44, Try.ntmps44
 go_wp2_with (first | ((with_reducible refine gate_dst (N := 2) rfl ?_); refine box_event ?hg (N := 2) ?hd (cs := #[.string a0_0, .string a0_1, .string a0_2, .string a0_3, .int .i64 a0_4, .int .i64 a0_5]) (t := 60) ?hr ?_; (case hd => rfl); (case hg => rfl); (case hr => first | (go_simp; done) | (go_simp; rfl)); intro gb169 hg w4 hbox hb; have n0_ := Aside0.mk (below_step (RFn.bel) hb); have n1_ := Aside0.mk (hbox); have n2_ := Aside0.mk ((by rw [hg]; exact (below_size (RFn.bel)) : w.heap.size ≤ gb169)); have n3_ := Aside0.mk ((by rw [hg]; exact (below_size (RFn.bel)) : w.heap.size ≤ gb169)); clear HB; have HB := n0_; have BK169 := n1_; have GW169 := n2_; have GE169 := n3_; clear n0_ n1_ n2_ n3_; clear hb hbox hg) | ((with_reducible refine gate_dst (N := 3) rfl ?_); refine box_event ?hg (N := 3) ?hd (cs := #[.string a1_0, .string a1_1, .string a1_2, .string a1_3, .int .i64 a1_4]) (t := 40) ?hr ?_; (case hd => rfl); (case hg => rfl); (case hr => first | (go_simp; done) | (go_simp; rfl)); intro gb170 hg w5 hbox hb; have n0_ := Aside0.mk (blk_below (g := gb169) RFn.blk hb); have n1_ := Aside0.mk (below_step RFn.bels hb); have n2_ := Aside0.mk (hbox); have n3_ := Aside0.mk ((by rw [hg]; exact (below_size RFn.bels) : w.heap.size ≤ gb170)); have n4_ := Aside0.mk ((by rw [hg]; exact (below_size RFn.bels) : w.heap.size ≤ gb170)); have n5_ := Aside0.mk ((by rw [hg]; exact Nat.ne_of_lt (blk_lt (g := gb169) RFn.blk) : gb169 ≠ gb170)); have n6_ := Aside0.mk ((by rw [hg]; exact Nat.ne_of_gt (blk_lt (g := gb169) RFn.blk) : gb170 ≠ gb169)); clear BK169; clear HB; have BK169 := n0_; have HB := n1_; have BK170 := n2_; have GW170 := n3_; have GE170 := n4_; have NB169_170 := n5_; have NB170_169 := n6_; clear n0_ n1_ n2_ n3_ n4_ n5_ n6_; clear hb hbox hg; have hnb6 := NB169_170.out; have hnc6 := NB170_169.out; obtain ⟨hcz7_0, hcz7_1, hcz7_2, hcz7_3, hcz7_4, hcz7_5⟩ := RFn.bc6 BK169; obtain ⟨hfz7_0, hfz7_1, hfz7_2, hfz7_3, hfz7_4, hfz7_5⟩ := RFn.bf6 BK169; obtain ⟨hcz8_0, hcz8_1, hcz8_2, hcz8_3, hcz8_4⟩ := RFn.bc5 BK170; obtain ⟨hfz8_0, hfz8_1, hfz8_2, hfz8_3, hfz8_4⟩ := RFn.bf5 BK170) | ((with_reducible refine gate_callee (f := 17) rfl ?_); refine RFn.goesM (some 8) Try.func17 #[.agg #[.string a0_0, .string a0_1, .string a0_2, .string a0_3, .int .i64 a0_4], .agg #[.string a1_0, .string a1_1, .string a1_2, .string a1_3, .int .i64 a1_4]] rfl ?_; (with_reducible refine (fact_Cmp.calls k a0_0 a0_1 a0_2 a0_3 a0_4 a1_0 a1_1 a1_2 a1_3 a1_4 t171 _ A3.out).mono ?_); rintro e w9 ⟨rfl, hb⟩; refine ⟨_, rfl, ?_⟩; have n0_ := Aside0.mk (blk_below (g := gb169) RFn.blk hb); have n1_ := Aside0.mk (blk_below (g := gb170) RFn.blk hb); have n2_ := Aside0.mk (below_step RFn.bels hb); clear BK169; clear BK170; clear HB; have BK169 := n0_; have BK170 := n1_; have HB := n2_; clear n0_ n1_ n2_; (try clear hb); (try clear hb2); (try clear hk); (try clear hi)))
 go_ret
 exact ⟨by first | rfl | (simp [errW_none, errW_some] <;> rfl) | (simp [*, errW_none, errW_some] <;> rfl), RFn.bels⟩
/-! ### fact_Key: function 43 -/
def fact_Key.l0 : Nat → List (S60) → Int → Int → Int → ByteArray → ByteArray → ByteArray → ByteArray → Int → Option (Int × Bool)
 | 0, _, _, _, _, _, _, _, _, _ => none
 | k + 1, x0, x8, x9, x10, x173000, x173001, x173002, x173003, x173004 => if x9 < x10 then (if 0 ≤ (wrap64 ((IntKind.u64.wrap (wrap64 (x9 + x10))) / 2)) then (if (wrap64 ((IntKind.u64.wrap (wrap64 (x9 + x10))) / 2)) < (x0.length : Int) then ((fact_Get_1.f k ((rd_T60 x0 (wrap64 ((IntKind.u64.wrap (wrap64 (x9 + x10))) / 2))).f0.f0) ((rd_T60 x0 (wrap64 ((IntKind.u64.wrap (wrap64 (x9 + x10))) / 2))).f0.f1) ((rd_T60 x0 (wrap64 ((IntKind.u64.wrap (wrap64 (x9 + x10))) / 2))).f0.f2) ((rd_T60 x0 (wrap64 ((IntKind.u64.wrap (wrap64 (x9 + x10))) / 2))).f0.f3) ((rd_T60 x0 (wrap64 ((IntKind.u64.wrap (wrap64 (x9 + x10))) / 2))).f0.f4) ((rd_T60 x0 (wrap64 ((IntKind.u64.wrap (wrap64 (x9 + x10))) / 2))).f1) x173000 x173001 x173002 x173003 x173004).bind fun t174 => (if t174 < 0 then (fact_Key.l0 k x0 x8 (wrap64 ((wrap64 ((IntKind.u64.wrap (wrap64 (x9 + x10))) / 2)) + 1)) x10 x173000 x173001 x173002 x173003 x173004) else (fact_Key.l0 k x0 x8 x9 (wrap64 ((IntKind.u64.wrap (wrap64 (x9 + x10))) / 2)) x173000 x173001 x173002 x173003 x173004))) else (none)) else (none)) else (if x9 < x8 then (if 0 ≤ x9 then (if x9 < (x0.length : Int) then ((fact_Get_1.f k ((rd_T60 x0 x9).f0.f0) ((rd_T60 x0 x9).f0.f1) ((rd_T60 x0 x9).f0.f2) ((rd_T60 x0 x9).f0.f3) ((rd_T60 x0 x9).f0.f4) ((rd_T60 x0 x9).f1) x173000 x173001 x173002 x173003 x173004).bind fun t176 => (some (x9, (t176 == 0)))) else (none)) else (none)) else (some (x9, false)))
def fact_Key.f (k : Nat) (l0 : List (S60)) (a1_0 : ByteArray) (a1_1 : ByteArray) (a1_2 : ByteArray) (a1_3 : ByteArray) (a1_4 : Int)  : Option (Int × Bool) := fact_Key.l0 k l0 (l0.length : Int) 0 (l0.length : Int) a1_0 a1_1 a1_2 a1_3 a1_4
theorem fact_Key.mono_l : ∀ k, (∀ y0 y1 y2 y3 y4 y5 y6 y7 y8, LeO (fact_Key.l0 k y0 y1 y2 y3 y4 y5 y6 y7 y8) (fact_Key.l0 (k + 1) y0 y1 y2 y3 y4 y5 y6 y7 y8))
 | 0 => fun _ _ _ _ _ _ _ _ _ r h => by simp [fact_Key.l0] at h
 | k + 1 => by
  have ih0 := fact_Key.mono_l k
  ·intro y0 y1 y2 y3 y4 y5 y6 y7 y8
   unfold fact_Key.l0
   repeat' first | exact LeO.refl _ | with_reducible first | apply ih0 | apply fact_Get_1.mono | exact LeO.none _ | apply LeO.ite | refine LeO.bind ?_ fun _ => ?_
theorem fact_Key.mono : ∀ a0 a1 a2 a3 a4 a5 k, LeO (fact_Key.f k a0 a1 a2 a3 a4 a5) (fact_Key.f (k + 1) a0 a1 a2 a3 a4 a5) := by
 intro a0 a1 a2 a3 a4 a5 k
 have ih0 := fact_Key.mono_l k
 unfold fact_Key.f
 repeat' first | exact LeO.refl _ | with_reducible first | apply ih0 | apply fact_Get_1.mono | exact LeO.none _ | apply LeO.ite | refine LeO.bind ?_ fun _ => ?_
def fact_Key.T5 : Bool × List (List Nat × List Nat) := (true, [([], []), ([], []), ([], []), ([1, 2], [1, 2]), ([3], [3]), ([], []), ([0, 4, 5], [0, 4, 5]), ([6], [6])])
def fact_Key.B5 : List Nat := [0, 0, 0, 6, 14, 0, 63, 127]
theorem fact_Key.tab5 : rtab .any (opsOf Try.f43 5) = fact_Key.T5 := by kernel_rfl
theorem fact_Key.bits5 : waitsOk fact_Key.T5.2 fact_Key.B5 = true := by kernel_rfl
def fact_Key.T8 : Bool × List (List Nat × List Nat) := (true, [([], []), ([], []), ([], []), ([1, 2], [1, 2]), ([3], [3]), ([4], [4]), ([4], [4]), ([4], [4]), ([6, 7, 4], [4, 6, 7]), ([8, 4], [4, 8]), ([4], [4]), ([5, 9, 10, 4, 4], [4, 5, 9, 10]), ([11, 4], [4, 11]), ([4, 12], [4, 12]), ([0, 11, 0], [0]), ([13, 14, 0, 1, 2, 3, 4, 5, 6, 7, 8, 9, 10, 11, 12, 13, 14], [13])])
def fact_Key.B8 : List Nat := [0, 0, 0, 6, 14, 30, 30, 30, 222, 478, 30, 2046, 4094, 8190, 4095, 32767]
theorem fact_Key.tab8 : rtab .any (opsOf Try.f43 8) = fact_Key.T8 := by kernel_rfl
theorem fact_Key.bits8 : waitsOk fact_Key.T8.2 fact_Key.B8 = true := by kernel_rfl
set_option maxHeartbeats 8000000 in
set_option maxRecDepth 100000 in
theorem fact_Key.calls (k : Nat) (A0 : Option Addr) (c0 : Nat) (l0 : List (S60)) (a1_0 : ByteArray) (a1_1 : ByteArray) (a1_2 : ByteArray) (a1_3 : ByteArray) (a1_4 : Int)  (r1 : Int) (r2 : Bool) (w : World) (hr0 : Kd.C k60 w A0 l0.length l0) (hc0 : l0.length ≤ c0) (h : fact_Key.f k l0 a1_0 a1_1 a1_2 a1_3 a1_4 = some (r1, r2)) :
  Calls Try.prog 43 #[.slice A0 l0.length c0, .agg #[.string a1_0, .string a1_1, .string a1_2, .string a1_3, .int .i64 a1_4], .func (.func 44) #[] #[]] w fun e w' => e = .returned (.tuple #[.int .i64 r1, .bool r2]) ∧ Below w.heap.size w w' := by
 have hu40 := Try.underlying40
 have hu60 := Try.underlying60
 have HR0 := Aside0.mk hr0
 have HC0 := Aside0.mk hc0
 clear hr0 hc0
 have HB := Aside0.mk (Below.refl w.heap.size w)
 have H : (fact_Key.l0 k l0 (l0.length : Int) 0 (l0.length : Int) a1_0 a1_1 a1_2 a1_3 a1_4) = some (r1, r2) := h
 clear h
 have H' := Aside0.mk H
 clear H
 go_enter Try.func43, Try.ntmps43
 go_wp2_with (first | ((with_reducible refine gate_dst (N := 4) rfl ?_); refine box_event ?hg (N := 4) ?hd (cs := #[.string a1_0, .string a1_1, .string a1_2, .string a1_3, .int .i64 a1_4]) (t := 40) ?hr ?_; (case hd => rfl); (case hg => rfl); (case hr => first | (go_simp; done) | (go_simp; rfl)); intro gb172 hg w4 hbox hb; have n0_ := Aside0.mk (below_step (RFn.bel) hb); have n1_ := Aside0.mk (hbox); have n2_ := Aside0.mk ((by rw [hg]; exact (below_size (RFn.bel)) : w.heap.size ≤ gb172)); have n3_ := Aside0.mk ((by rw [hg]; exact (below_size (RFn.bel)) : w.heap.size ≤ gb172)); clear HB; have HB := n0_; have BK172 := n1_; have GW172 := n2_; have GE172 := n3_; clear n0_ n1_ n2_ n3_; clear hb hbox hg))
 go_loopg [9, 10] k (fun kq v9 v10 w' => ∃ (x9_1 : Int) (x10_1 : Int), v9 = .int .i64 x9_1 ∧ v10 = .int .i64 x10_1 ∧ Aside0 (fact_Key.l0 kq l0 (l0.length : Int) x9_1 x10_1 a1_0 a1_1 a1_2 a1_3 a1_4 = some (r1, r2)) ∧ Aside0 (kq ≤ k) ∧ Aside0 (w'.heap[gb172]? = some (.cells #[.string a1_0, .string a1_1, .string a1_2, .string a1_3, .int .i64 a1_4] 40 (0, 0))) ∧ Aside0 (Below w.heap.size w w'))
 case atStart => exact ⟨(0), ((l0.length : Int)), (by first | rfl | (simp; done) | (simp [*]; done)), (by first | rfl | (simp; done) | (simp [*]; done)), H', ⟨Nat.le_refl _⟩, ⟨RFn.mB BK172⟩, ⟨RFn.bels⟩⟩
 case round =>
  clear H'
  try clear p2
  try clear c4
  obtain ⟨x9_1, x10_1, rfl, rfl, HA, HK1, BK172, HB⟩ := hrel
  cases gk with
  | zero => exact absurd HA.out (by simp [fact_Key.l0])
  | succ k1 =>
   have H := HA.out
   clear HA
   simp only [fact_Key.l0] at H
   by_cases c5 : x9_1 < x10_1
   ·rw [if_pos c5] at H
    have c5b0 : decide (x9_1 < x10_1) = true := decide_eq_true c5
    clear c5
    obtain ⟨ji6, hji6⟩ : ∃ j_ : Int, (wrap64 ((IntKind.u64.wrap (wrap64 (x9_1 + x10_1))) / 2)) = j_ := ⟨_, rfl⟩
    replace H : (if 0 ≤ (ji6) then (if (ji6) < (l0.length : Int) then ((fact_Get_1.f k1 ((rd_T60 l0 (ji6)).f0.f0) ((rd_T60 l0 (ji6)).f0.f1) ((rd_T60 l0 (ji6)).f0.f2) ((rd_T60 l0 (ji6)).f0.f3) ((rd_T60 l0 (ji6)).f0.f4) ((rd_T60 l0 (ji6)).f1) a1_0 a1_1 a1_2 a1_3 a1_4).bind fun t174 => (if t174 < 0 then (fact_Key.l0 k1 l0 (l0.length : Int) (wrap64 ((ji6) + 1)) x10_1 a1_0 a1_1 a1_2 a1_3 a1_4) else (fact_Key.l0 k1 l0 (l0.length : Int) x9_1 ji6 a1_0 a1_1 a1_2 a1_3 a1_4))) else (none)) else (none)) = some (r1, r2) := by first | (rw [hji6] at H; exact H) | (simp only [hji6] at H ⊢; exact H)
    have hji6w : (IntKind.i64.wrap ((IntKind.u64.wrap (wrap64 (x9_1 + x10_1))) / 2)) = ji6 := (i64_w _).trans hji6
    by_cases c7 : 0 ≤ (ji6)
    ·rw [if_pos c7] at H
     have c7b0 : decide (0 ≤ (ji6)) = true := decide_eq_true c7
     clear c7
     by_cases c8 : (ji6) < (l0.length : Int)
     ·rw [if_pos c8] at H
      have c8b0 : decide ((ji6) < (l0.length : Int)) = true := decide_eq_true c8
      clear c8
      obtain ⟨t174, A9, H⟩ := RFn.bn H
      by_cases c10 : t174 < 0
      ·rw [if_pos c10] at H
       have c10b0 : decide (t174 < 0) = true := decide_eq_true c10
       clear c10
       have H' := Aside0.mk H
       clear H
       try go_wp2
       have n0_ := Aside0.mk (blk_drew BK172.out)
       have n1_ := Aside0.mk (below_drew1 HB.out)
       clear BK172
       clear HB
       have BK172 := n0_
       have HB := n1_
       clear n0_ n1_
       have p173 : 0 ≤ ((ji6) : Int) := RFn.od
       have q173 : (ji6) < (l0.length : Int) := RFn.od
       obtain ⟨ad173, e173, hx173_0, hx173_1, hx173_2, hx173_3, hx173_4, hx173_5⟩ := at_T60 HR0.out (ji6) p173 q173
       have hw173_5 := hx173_5
       have hw173_4 := hx173_4
       have hw173_3 := hx173_3
       have hw173_2 := hx173_2
       have hw173_1 := hx173_1
       have hw173_0 := hx173_0
       cases e173
       replace hx173_0 := RFn.hb HB hx173_0
       replace hx173_1 := RFn.hb HB hx173_1
       replace hx173_2 := RFn.hb HB hx173_2
       replace hx173_3 := RFn.hb HB hx173_3
       replace hx173_4 := RFn.hb HB hx173_4
       replace hx173_5 := RFn.hb HB hx173_5
       replace p173 := eq_true p173
       replace q173 := eq_true q173
       refine start_ (n := 8) (S := fun w' => w'.cell? ⟨gb172, 0, none⟩ = some (.string a1_0) ∧ w'.cell? ⟨gb172, 1, none⟩ = some (.string a1_1) ∧ w'.cell? ⟨gb172, 2, none⟩ = some (.string a1_2) ∧ w'.cell? ⟨gb172, 3, none⟩ = some (.string a1_3) ∧ w'.cell? ⟨gb172, 4, none⟩ = some (.int .i64 a1_4) ∧ w'.cell? (ad173.add (((ji6)).toNat * 6)) = some (.string ((rd_T60 l0 (ji6)).f0.f0)) ∧ w'.cell? ⟨(ad173.add (((ji6)).toNat * 6)).block, (ad173.add (((ji6)).toNat * 6)).off + 1, none⟩ = some (.string ((rd_T60 l0 (ji6)).f0.f1)) ∧ w'.cell? ⟨(ad173.add (((ji6)).toNat * 6)).block, (ad173.add (((ji6)).toNat * 6)).off + 2, none⟩ = some (.string ((rd_T60 l0 (ji6)).f0.f2)) ∧ w'.cell? ⟨(ad173.add (((ji6)).toNat * 6)).block, (ad173.add (((ji6)).toNat * 6)).off + 3, none⟩ = some (.string ((rd_T60 l0 (ji6)).f0.f3)) ∧ w'.cell? ⟨(ad173.add (((ji6)).toNat * 6)).block, (ad173.add (((ji6)).toNat * 6)).off + 4, none⟩ = some (.int .i64 ((rd_T60 l0 (ji6)).f0.f4)) ∧ w'.cell? ⟨(ad173.add (((ji6)).toNat * 6)).block, (ad173.add (((ji6)).toNat * 6)).off + 5, none⟩ = some (.int .i64 ((rd_T60 l0 (ji6)).f1))) (ds := []) (bs 8 0) (by kernel_rfl) rfl rfl ⟨(blk_cell BK172.out 0).trans rfl, (blk_cell BK172.out 1).trans rfl, (blk_cell BK172.out 2).trans rfl, (blk_cell BK172.out 3).trans rfl, (blk_cell BK172.out 4).trans rfl, (RFn.hb HB hw173_0), (RFn.hb HB hw173_1), (RFn.hb HB hw173_2), (RFn.hb HB hw173_3), (RFn.hb HB hw173_4), (RFn.hb HB hw173_5)⟩ (fun hHeld => ?_); refine with_tabW fact_Key.tab5 fact_Key.bits5 (fun HT_ HW_ => ?_)
       generalize wr.drew = w11 at BK172 HB hx173_0 hx173_1 hx173_2 hx173_3 hx173_4 hx173_5 hHeld ⊢
       refine RFn.pA (i := 0) (N := some 24) (bs 8 1) HT_ ?_
       refine RFn.pA (i := 1) (N := some 25) (bs 8 3) HT_ ?_
       refine RFn.pA (i := 2) (N := some 26) (bs 8 7) HT_ ?_
       refine RFn.pA (i := 3) (N := some 27) (bs 8 15) HT_ ?_
       refine RFn.tA (i := 4) (N := some 28) (bs 8 31) rfl HT_ HW_ hHeld (by rintro w' ⟨s0, s1, s2, s3, s4, s5, s6, s7, s8, s9, s10⟩; go_simp; with_reducible rfl) ?_
       refine RFn.tA (i := 5) (N := some 29) (bs 8 63) rfl HT_ HW_ hHeld (by rintro w' ⟨s0, s1, s2, s3, s4, s5, s6, s7, s8, s9, s10⟩; go_simp; with_reducible rfl) ?_
       refine RFn.o1 (i := 6) (N := some 30) (bs 8 127) HT_ fun K hK => ?_
       refine RFn.goesT Try.func44 (by kernel_rfl) rfl #[.agg #[.string ((rd_T60 l0 (ji6)).f0.f0), .string ((rd_T60 l0 (ji6)).f0.f1), .string ((rd_T60 l0 (ji6)).f0.f2), .string ((rd_T60 l0 (ji6)).f0.f3), .int .i64 ((rd_T60 l0 (ji6)).f0.f4), .int .i64 ((rd_T60 l0 (ji6)).f1)], .agg #[.string a1_0, .string a1_1, .string a1_2, .string a1_3, .int .i64 a1_4]] (by rfl) rfl rfl rfl (by (try simp only [List.map_toArray, List.map_cons, List.map_nil]); first | done | (simp only [hji6]; rfl) | rfl | (simp only [List.length_drop, List.length_take]; rfl)) ?_
       with_reducible refine (fact_Get_1.calls k1 ((rd_T60 l0 (ji6)).f0.f0) ((rd_T60 l0 (ji6)).f0.f1) ((rd_T60 l0 (ji6)).f0.f2) ((rd_T60 l0 (ji6)).f0.f3) ((rd_T60 l0 (ji6)).f0.f4) ((rd_T60 l0 (ji6)).f1) a1_0 a1_1 a1_2 a1_3 a1_4 t174 _ A9.out).mono ?_
       rintro e w12 ⟨rfl, hb⟩
       refine ⟨_, rfl, ?_⟩
       have n0_ := Aside0.mk (blk_below (g := gb172) RFn.blk hb)
       have n1_ := Aside0.mk (below_step RFn.bels hb)
       clear BK172
       clear HB
       have BK172 := n0_
       have HB := n1_
       clear n0_ n1_
       (try clear hb)
       (try clear hb2)
       (try clear hk)
       (try clear hi)
       refine hK.out _ _ ⟨(blk_cell BK172.out 0).trans rfl, (blk_cell BK172.out 1).trans rfl, (blk_cell BK172.out 2).trans rfl, (blk_cell BK172.out 3).trans rfl, (blk_cell BK172.out 4).trans rfl, (RFn.hb HB hw173_0), (RFn.hb HB hw173_1), (RFn.hb HB hw173_2), (RFn.hb HB hw173_3), (RFn.hb HB hw173_4), (RFn.hb HB hw173_5)⟩ (fun hHeld => ?_)
       clear hK K
       refine RFn.nm (some 30) ?_
       refine RFn.pA (i := 7) (N := some 31) (bs 8 255) HT_ ?_
       refine RFn.dn HT_ ?_
       try go_wp2
       go_roundg k1
       case measure => have := HK1.out; omega
       case rel => exact ⟨(wrap64 ((ji6) + 1)), (x10_1), (by first | rfl | (simp; done) | (simp only [← hji6] <;> (first | rfl | simp)) | (simp [*]; done)), (by first | rfl | (simp; done) | (simp [*]; done)), H', ⟨RFn.lk HK1⟩, ⟨RFn.mB BK172⟩, ⟨RFn.bels⟩⟩
      ·rw [if_neg c10] at H
       have c10b0 : decide (t174 < 0) = false := decide_eq_false c10
       clear c10
       have H' := Aside0.mk H
       clear H
       try go_wp2
       have n0_ := Aside0.mk (blk_drew BK172.out)
       have n1_ := Aside0.mk (below_drew1 HB.out)
       clear BK172
       clear HB
       have BK172 := n0_
       have HB := n1_
       clear n0_ n1_
       have p173 : 0 ≤ ((ji6) : Int) := RFn.od
       have q173 : (ji6) < (l0.length : Int) := RFn.od
       obtain ⟨ad173, e173, hx173_0, hx173_1, hx173_2, hx173_3, hx173_4, hx173_5⟩ := at_T60 HR0.out (ji6) p173 q173
       have hw173_5 := hx173_5
       have hw173_4 := hx173_4
       have hw173_3 := hx173_3
       have hw173_2 := hx173_2
       have hw173_1 := hx173_1
       have hw173_0 := hx173_0
       cases e173
       replace hx173_0 := RFn.hb HB hx173_0
       replace hx173_1 := RFn.hb HB hx173_1
       replace hx173_2 := RFn.hb HB hx173_2
       replace hx173_3 := RFn.hb HB hx173_3
       replace hx173_4 := RFn.hb HB hx173_4
       replace hx173_5 := RFn.hb HB hx173_5
       replace p173 := eq_true p173
       replace q173 := eq_true q173
       refine start_ (n := 8) (S := fun w' => w'.cell? ⟨gb172, 0, none⟩ = some (.string a1_0) ∧ w'.cell? ⟨gb172, 1, none⟩ = some (.string a1_1) ∧ w'.cell? ⟨gb172, 2, none⟩ = some (.string a1_2) ∧ w'.cell? ⟨gb172, 3, none⟩ = some (.string a1_3) ∧ w'.cell? ⟨gb172, 4, none⟩ = some (.int .i64 a1_4) ∧ w'.cell? (ad173.add (((ji6)).toNat * 6)) = some (.string ((rd_T60 l0 (ji6)).f0.f0)) ∧ w'.cell? ⟨(ad173.add (((ji6)).toNat * 6)).block, (ad173.add (((ji6)).toNat * 6)).off + 1, none⟩ = some (.string ((rd_T60 l0 (ji6)).f0.f1)) ∧ w'.cell? ⟨(ad173.add (((ji6)).toNat * 6)).block, (ad173.add (((ji6)).toNat * 6)).off + 2, none⟩ = some (.string ((rd_T60 l0 (ji6)).f0.f2)) ∧ w'.cell? ⟨(ad173.add (((ji6)).toNat * 6)).block, (ad173.add (((ji6)).toNat * 6)).off + 3, none⟩ = some (.string ((rd_T60 l0 (ji6)).f0.f3)) ∧ w'.cell? ⟨(ad173.add (((ji6)).toNat * 6)).block, (ad173.add (((ji6)).toNat * 6)).off + 4, none⟩ = some (.int .i64 ((rd_T60 l0 (ji6)).f0.f4)) ∧ w'.cell? ⟨(ad173.add (((ji6)).toNat * 6)).block, (ad173.add (((ji6)).toNat * 6)).off + 5, none⟩ = some (.int .i64 ((rd_T60 l0 (ji6)).f1))) (ds := []) (bs 8 0) (by kernel_rfl) rfl rfl ⟨(blk_cell BK172.out 0).trans rfl, (blk_cell BK172.out 1).trans rfl, (blk_cell BK172.out 2).trans rfl, (blk_cell BK172.out 3).trans rfl, (blk_cell BK172.out 4).trans rfl, (RFn.hb HB hw173_0), (RFn.hb HB hw173_1), (RFn.hb HB hw173_2), (RFn.hb HB hw173_3), (RFn.hb HB hw173_4), (RFn.hb HB hw173_5)⟩ (fun hHeld => ?_); refine with_tabW fact_Key.tab5 fact_Key.bits5 (fun HT_ HW_ => ?_)
       generalize wr.drew = w13 at BK172 HB hx173_0 hx173_1 hx173_2 hx173_3 hx173_4 hx173_5 hHeld ⊢
       refine RFn.pA (i := 0) (N := some 24) (bs 8 1) HT_ ?_
       refine RFn.pA (i := 1) (N := some 25) (bs 8 3) HT_ ?_
       refine RFn.pA (i := 2) (N := some 26) (bs 8 7) HT_ ?_
       refine RFn.pA (i := 3) (N := some 27) (bs 8 15) HT_ ?_
       refine RFn.tA (i := 4) (N := some 28) (bs 8 31) rfl HT_ HW_ hHeld (by rintro w' ⟨s0, s1, s2, s3, s4, s5, s6, s7, s8, s9, s10⟩; go_simp; with_reducible rfl) ?_
       refine RFn.tA (i := 5) (N := some 29) (bs 8 63) rfl HT_ HW_ hHeld (by rintro w' ⟨s0, s1, s2, s3, s4, s5, s6, s7, s8, s9, s10⟩; go_simp; with_reducible rfl) ?_
       refine RFn.o1 (i := 6) (N := some 30) (bs 8 127) HT_ fun K hK => ?_
       refine RFn.goesT Try.func44 (by kernel_rfl) rfl #[.agg #[.string ((rd_T60 l0 (ji6)).f0.f0), .string ((rd_T60 l0 (ji6)).f0.f1), .string ((rd_T60 l0 (ji6)).f0.f2), .string ((rd_T60 l0 (ji6)).f0.f3), .int .i64 ((rd_T60 l0 (ji6)).f0.f4), .int .i64 ((rd_T60 l0 (ji6)).f1)], .agg #[.string a1_0, .string a1_1, .string a1_2, .string a1_3, .int .i64 a1_4]] (by rfl) rfl rfl rfl (by (try simp only [List.map_toArray, List.map_cons, List.map_nil]); first | done | (simp only [hji6]; rfl) | rfl | (simp only [List.length_drop, List.length_take]; rfl)) ?_
       with_reducible refine (fact_Get_1.calls k1 ((rd_T60 l0 (ji6)).f0.f0) ((rd_T60 l0 (ji6)).f0.f1) ((rd_T60 l0 (ji6)).f0.f2) ((rd_T60 l0 (ji6)).f0.f3) ((rd_T60 l0 (ji6)).f0.f4) ((rd_T60 l0 (ji6)).f1) a1_0 a1_1 a1_2 a1_3 a1_4 t174 _ A9.out).mono ?_
       rintro e w14 ⟨rfl, hb⟩
       refine ⟨_, rfl, ?_⟩
       have n0_ := Aside0.mk (blk_below (g := gb172) RFn.blk hb)
       have n1_ := Aside0.mk (below_step RFn.bels hb)
       clear BK172
       clear HB
       have BK172 := n0_
       have HB := n1_
       clear n0_ n1_
       (try clear hb)
       (try clear hb2)
       (try clear hk)
       (try clear hi)
       refine hK.out _ _ ⟨(blk_cell BK172.out 0).trans rfl, (blk_cell BK172.out 1).trans rfl, (blk_cell BK172.out 2).trans rfl, (blk_cell BK172.out 3).trans rfl, (blk_cell BK172.out 4).trans rfl, (RFn.hb HB hw173_0), (RFn.hb HB hw173_1), (RFn.hb HB hw173_2), (RFn.hb HB hw173_3), (RFn.hb HB hw173_4), (RFn.hb HB hw173_5)⟩ (fun hHeld => ?_)
       clear hK K
       refine RFn.nm (some 30) ?_
       refine RFn.pA (i := 7) (N := some 31) (bs 8 255) HT_ ?_
       refine RFn.dn HT_ ?_
       try go_wp2
       go_roundg k1
       case measure => have := HK1.out; omega
       case rel => exact ⟨(x9_1), (ji6), (by first | rfl | (simp; done) | (simp [*]; done)), (by first | rfl | (simp; done) | (simp only [← hji6] <;> (first | rfl | simp)) | (simp [*]; done)), H', ⟨RFn.lk HK1⟩, ⟨RFn.mB BK172⟩, ⟨RFn.bels⟩⟩
     ·rw [if_neg c8] at H
      exact absurd H (by simp)
    ·rw [if_neg c7] at H
     exact absurd H (by simp)
   ·rw [if_neg c5] at H
    have c5b0 : decide (x9_1 < x10_1) = false := decide_eq_false c5
    clear c5
    by_cases c15 : x9_1 < (l0.length : Int)
    ·rw [if_pos c15] at H
     have c15b0 : decide (x9_1 < (l0.length : Int)) = true := decide_eq_true c15
     clear c15
     by_cases c16 : 0 ≤ x9_1
     ·rw [if_pos c16] at H
      have c16b0 : decide (0 ≤ x9_1) = true := decide_eq_true c16
      clear c16
      by_cases c17 : x9_1 < (l0.length : Int)
      ·rw [if_pos c17] at H
       have c17b0 : decide (x9_1 < (l0.length : Int)) = true := decide_eq_true c17
       clear c17
       obtain ⟨t176, A18, H⟩ := RFn.bn H
       simp only [Option.some.injEq, Prod.mk.injEq] at H
       obtain ⟨rfl, rfl⟩ := H
       try go_wp2
       have n0_ := Aside0.mk (blk_drew BK172.out)
       have n1_ := Aside0.mk (below_drew1 HB.out)
       clear BK172
       clear HB
       have BK172 := n0_
       have HB := n1_
       clear n0_ n1_
       have p175 : 0 ≤ (x9_1 : Int) := RFn.od
       have q175 : x9_1 < (l0.length : Int) := RFn.od
       obtain ⟨ad175, e175, hx175_0, hx175_1, hx175_2, hx175_3, hx175_4, hx175_5⟩ := at_T60 HR0.out x9_1 p175 q175
       have hw175_5 := hx175_5
       have hw175_4 := hx175_4
       have hw175_3 := hx175_3
       have hw175_2 := hx175_2
       have hw175_1 := hx175_1
       have hw175_0 := hx175_0
       cases e175
       replace hx175_0 := RFn.hb HB hx175_0
       replace hx175_1 := RFn.hb HB hx175_1
       replace hx175_2 := RFn.hb HB hx175_2
       replace hx175_3 := RFn.hb HB hx175_3
       replace hx175_4 := RFn.hb HB hx175_4
       replace hx175_5 := RFn.hb HB hx175_5
       replace p175 := eq_true p175
       replace q175 := eq_true q175
       refine start_ (n := 16) (S := fun w' => w'.cell? ⟨gb172, 0, none⟩ = some (.string a1_0) ∧ w'.cell? ⟨gb172, 1, none⟩ = some (.string a1_1) ∧ w'.cell? ⟨gb172, 2, none⟩ = some (.string a1_2) ∧ w'.cell? ⟨gb172, 3, none⟩ = some (.string a1_3) ∧ w'.cell? ⟨gb172, 4, none⟩ = some (.int .i64 a1_4) ∧ w'.cell? (ad175.add ((x9_1).toNat * 6)) = some (.string ((rd_T60 l0 x9_1).f0.f0)) ∧ w'.cell? ⟨(ad175.add ((x9_1).toNat * 6)).block, (ad175.add ((x9_1).toNat * 6)).off + 1, none⟩ = some (.string ((rd_T60 l0 x9_1).f0.f1)) ∧ w'.cell? ⟨(ad175.add ((x9_1).toNat * 6)).block, (ad175.add ((x9_1).toNat * 6)).off + 2, none⟩ = some (.string ((rd_T60 l0 x9_1).f0.f2)) ∧ w'.cell? ⟨(ad175.add ((x9_1).toNat * 6)).block, (ad175.add ((x9_1).toNat * 6)).off + 3, none⟩ = some (.string ((rd_T60 l0 x9_1).f0.f3)) ∧ w'.cell? ⟨(ad175.add ((x9_1).toNat * 6)).block, (ad175.add ((x9_1).toNat * 6)).off + 4, none⟩ = some (.int .i64 ((rd_T60 l0 x9_1).f0.f4)) ∧ w'.cell? ⟨(ad175.add ((x9_1).toNat * 6)).block, (ad175.add ((x9_1).toNat * 6)).off + 5, none⟩ = some (.int .i64 ((rd_T60 l0 x9_1).f1))) (ds := []) (bs 16 0) (by kernel_rfl) rfl rfl ⟨(blk_cell BK172.out 0).trans rfl, (blk_cell BK172.out 1).trans rfl, (blk_cell BK172.out 2).trans rfl, (blk_cell BK172.out 3).trans rfl, (blk_cell BK172.out 4).trans rfl, (RFn.hb HB hw175_0), (RFn.hb HB hw175_1), (RFn.hb HB hw175_2), (RFn.hb HB hw175_3), (RFn.hb HB hw175_4), (RFn.hb HB hw175_5)⟩ (fun hHeld => ?_); refine with_tabW fact_Key.tab8 fact_Key.bits8 (fun HT_ HW_ => ?_)
       generalize wr.drew = w19 at BK172 HB hx175_0 hx175_1 hx175_2 hx175_3 hx175_4 hx175_5 hHeld ⊢
       refine RFn.pA (i := 0) (N := some 35) (bs 16 1) HT_ ?_
       refine RFn.pA (i := 1) (N := some 36) (bs 16 3) HT_ ?_
       refine RFn.pA (i := 2) (N := some 37) (bs 16 7) HT_ ?_
       refine RFn.pA (i := 3) (N := some 38) (bs 16 15) HT_ ?_
       refine RFn.pA (i := 4) (N := some 39) (bs 16 31) HT_ ?_
       refine RFn.pA (i := 5) (N := some 40) (bs 16 63) HT_ ?_
       refine RFn.pA (i := 6) (N := some 41) (bs 16 127) HT_ ?_
       refine RFn.pA (i := 7) (N := some 42) (bs 16 255) HT_ ?_
       refine RFn.pA (i := 8) (N := some 43) (bs 16 511) HT_ ?_
       refine RFn.tA (i := 9) (N := some 44) (bs 16 1023) rfl HT_ HW_ hHeld (by rintro w' ⟨s0, s1, s2, s3, s4, s5, s6, s7, s8, s9, s10⟩; go_simp; with_reducible rfl) ?_
       refine RFn.tA (i := 10) (N := some 45) (bs 16 2047) rfl HT_ HW_ hHeld (by rintro w' ⟨s0, s1, s2, s3, s4, s5, s6, s7, s8, s9, s10⟩; go_simp; with_reducible rfl) ?_
       refine RFn.o1 (i := 11) (N := some 46) (bs 16 4095) HT_ fun K hK => ?_
       refine RFn.gT Try.func44 #[.agg #[.string ((rd_T60 l0 x9_1).f0.f0), .string ((rd_T60 l0 x9_1).f0.f1), .string ((rd_T60 l0 x9_1).f0.f2), .string ((rd_T60 l0 x9_1).f0.f3), .int .i64 ((rd_T60 l0 x9_1).f0.f4), .int .i64 ((rd_T60 l0 x9_1).f1)], .agg #[.string a1_0, .string a1_1, .string a1_2, .string a1_3, .int .i64 a1_4]] rfl ?_
       with_reducible refine (fact_Get_1.calls k1 ((rd_T60 l0 x9_1).f0.f0) ((rd_T60 l0 x9_1).f0.f1) ((rd_T60 l0 x9_1).f0.f2) ((rd_T60 l0 x9_1).f0.f3) ((rd_T60 l0 x9_1).f0.f4) ((rd_T60 l0 x9_1).f1) a1_0 a1_1 a1_2 a1_3 a1_4 t176 _ A18.out).mono ?_
       rintro e w20 ⟨rfl, hb⟩
       refine ⟨_, rfl, ?_⟩
       have n0_ := Aside0.mk (blk_below (g := gb172) RFn.blk hb)
       have n1_ := Aside0.mk (below_step RFn.bels hb)
       clear BK172
       clear HB
       have BK172 := n0_
       have HB := n1_
       clear n0_ n1_
       (try clear hb)
       (try clear hb2)
       (try clear hk)
       (try clear hi)
       refine hK.out _ _ ⟨(blk_cell BK172.out 0).trans rfl, (blk_cell BK172.out 1).trans rfl, (blk_cell BK172.out 2).trans rfl, (blk_cell BK172.out 3).trans rfl, (blk_cell BK172.out 4).trans rfl, (RFn.hb HB hw175_0), (RFn.hb HB hw175_1), (RFn.hb HB hw175_2), (RFn.hb HB hw175_3), (RFn.hb HB hw175_4), (RFn.hb HB hw175_5)⟩ (fun hHeld => ?_)
       clear hK K
       refine RFn.nm (some 46) ?_
       refine RFn.pA (i := 12) (N := some 47) (bs 16 8191) HT_ ?_
       refine RFn.pA (i := 13) (N := some 48) (bs 16 16383) HT_ ?_
       refine RFn.pA (i := 14) (N := some 6) (bs 16 32767) HT_ ?_
       refine RFn.pA (i := 15) (N := some 7) (bs 16 65535) HT_ ?_
       refine RFn.dn HT_ ?_
       try go_wp2
       go_ret2
       exact ⟨by first | rfl | (simp [errW_none, errW_some] <;> rfl) | (simp [*, errW_none, errW_some] <;> rfl), RFn.bels⟩
      ·rw [if_neg c17] at H
       exact absurd H (by simp)
     ·rw [if_neg c16] at H
      exact absurd H (by simp)
    ·rw [if_neg c15] at H
     have c15b0 : decide (x9_1 < (l0.length : Int)) = false := decide_eq_false c15
     clear c15
     simp only [Option.some.injEq, Prod.mk.injEq] at H
     obtain ⟨rfl, rfl⟩ := H
     try go_wp2
     have n0_ := Aside0.mk (blk_drew BK172.out)
     have n1_ := Aside0.mk (below_drew1 HB.out)
     clear BK172
     clear HB
     have BK172 := n0_
     have HB := n1_
     clear n0_ n1_
     refine start_ (n := 16) (S := fun w' => True) (ds := []) (bs 16 0) (by kernel_rfl) rfl rfl trivial (fun hHeld => ?_); refine with_tabW fact_Key.tab8 fact_Key.bits8 (fun HT_ HW_ => ?_)
     generalize wr.drew = w21 at BK172 HB hHeld ⊢
     refine RFn.pA (i := 0) (N := some 35) (bs 16 1) HT_ ?_
     refine RFn.pA (i := 1) (N := some 36) (bs 16 3) HT_ ?_
     refine RFn.pA (i := 2) (N := some 37) (bs 16 7) HT_ ?_
     refine RFn.pA (i := 3) (N := some 38) (bs 16 15) HT_ ?_
     refine RFn.pA (i := 4) (N := some 39) (bs 16 31) HT_ ?_
     refine RFn.pU (i := 5) (N := some 40) (bs 16 63) HT_ ?_
     refine RFn.pU (i := 6) (N := some 41) (bs 16 127) HT_ ?_
     refine RFn.pU (i := 7) (N := some 42) (bs 16 255) HT_ ?_
     refine RFn.pU (i := 8) (N := some 43) (bs 16 511) HT_ ?_
     refine RFn.pU (i := 9) (N := some 44) (bs 16 1023) HT_ ?_
     refine RFn.pU (i := 10) (N := some 45) (bs 16 2047) HT_ ?_
     refine RFn.pU (i := 11) (N := some 46) (bs 16 4095) HT_ ?_
     refine RFn.pU (i := 12) (N := some 47) (bs 16 8191) HT_ ?_
     refine RFn.pA (i := 13) (N := some 48) (bs 16 16383) HT_ ?_
     refine RFn.pA (i := 14) (N := some 6) (bs 16 32767) HT_ ?_
     refine RFn.pA (i := 15) (N := some 7) (bs 16 65535) HT_ ?_
     refine RFn.dn HT_ ?_
     try go_wp2
     go_ret2
     exact ⟨by first | rfl | (simp [errW_none, errW_some] <;> rfl) | (simp [*, errW_none, errW_some] <;> rfl), RFn.bels⟩
/-! ### fact_Get: function 25 -/
def fact_Get.f (k : Nat) (l0 : List (S60)) (a1_0 : ByteArray) (a1_1 : ByteArray) (a1_2 : ByteArray) (a1_3 : ByteArray) (a1_4 : Int) : Option (Int) := (fact_Key.f k l0 a1_0 a1_1 a1_2 a1_3 a1_4).bind fun bt178 => (if bt178.2 = true then (if 0 ≤ bt178.1 then (if bt178.1 < (l0.length : Int) then (some ((rd_T60 l0 bt178.1).f1)) else (none)) else (none)) else (some 0))
theorem fact_Get.mono : ∀ a0 a1 a2 a3 a4 a5 k, LeO (fact_Get.f k a0 a1 a2 a3 a4 a5) (fact_Get.f (k + 1) a0 a1 a2 a3 a4 a5) := by
 intro a0 a1 a2 a3 a4 a5 k
 unfold fact_Get.f
 repeat' first | exact LeO.refl _ | with_reducible first | apply fact_Key.mono | exact LeO.none _ | apply LeO.ite | refine LeO.bind ?_ fun _ => ?_
set_option maxHeartbeats 8000000 in
set_option maxRecDepth 100000 in
theorem fact_Get.calls (k : Nat) (A0 : Option Addr) (c0 : Nat) (l0 : List (S60)) (a1_0 : ByteArray) (a1_1 : ByteArray) (a1_2 : ByteArray) (a1_3 : ByteArray) (a1_4 : Int) (r : Int) (w : World) (hr0 : Kd.C k60 w A0 l0.length l0) (hc0 : l0.length ≤ c0) (h : fact_Get.f k l0 a1_0 a1_1 a1_2 a1_3 a1_4 = some r) :
  Calls Try.prog 25 #[.slice A0 l0.length c0, .agg #[.string a1_0, .string a1_1, .string a1_2, .string a1_3, .int .i64 a1_4]] w fun e w' => e = .returned (.int .i64 r) ∧ Below w.heap.size w w' := by
 have hu40 := Try.underlying40
 have HR0 := Aside0.mk hr0
 have HC0 := Aside0.mk hc0
 clear hr0 hc0
 have HB := Aside0.mk (Below.refl w.heap.size w)
 have H : ((fact_Key.f k l0 a1_0 a1_1 a1_2 a1_3 a1_4).bind fun bt178 => (if bt178.2 = true then (if 0 ≤ bt178.1 then (if bt178.1 < (l0.length : Int) then (some ((rd_T60 l0 bt178.1).f1)) else (none)) else (none)) else (some 0))) = some r := h
 clear h
 obtain ⟨⟨t178, t179⟩, A3, H⟩ := RFn.bn H
 by_cases c4 : t179 = true
 ·subst c4
  have H1 : (if 0 ≤ t178 then (if t178 < (l0.length : Int) then (some ((rd_T60 l0 t178).f1)) else (none)) else (none)) = some r := by rw [if_pos rfl] at H; exact H
  clear H
  have H := H1
  clear H1
  by_cases c5 : 0 ≤ t178
  ·rw [if_pos c5] at H
   have c5b0 : decide (0 ≤ t178) = true := decide_eq_true c5
   clear c5
   by_cases c6 : t178 < (l0.length : Int)
   ·rw [if_pos c6] at H
    have c6b0 : decide (t178 < (l0.length : Int)) = true := decide_eq_true c6
    clear c6
    obtain rfl := Option.some.inj H
    go_enter Try.func25, Try.ntmps25
    go_wp2_with (first | ((with_reducible refine gate_dst (N := 3) rfl ?_); refine box_event ?hg (N := 3) ?hd (cs := #[.string a1_0, .string a1_1, .string a1_2, .string a1_3, .int .i64 a1_4]) (t := 40) ?hr ?_; (case hd => rfl); (case hg => rfl); (case hr => first | (go_simp; done) | (go_simp; rfl)); intro gb177 hg w7 hbox hb; have n0_ := Aside0.mk (below_step (RFn.bel) hb); have n1_ := Aside0.mk (hbox); have n2_ := Aside0.mk ((by rw [hg]; exact (below_size (RFn.bel)) : w.heap.size ≤ gb177)); have n3_ := Aside0.mk ((by rw [hg]; exact (below_size (RFn.bel)) : w.heap.size ≤ gb177)); clear HB; have HB := n0_; have BK177 := n1_; have GW177 := n2_; have GE177 := n3_; clear n0_ n1_ n2_ n3_; clear hb hbox hg; obtain ⟨hcz8_0, hcz8_1, hcz8_2, hcz8_3, hcz8_4⟩ := RFn.bc5 BK177; obtain ⟨hfz8_0, hfz8_1, hfz8_2, hfz8_3, hfz8_4⟩ := RFn.bf5 BK177) | ((with_reducible refine gate_callee (f := 43) rfl ?_); refine RFn.goesM (some 10) Try.func43 #[.slice A0 l0.length c0, .agg #[.string a1_0, .string a1_1, .string a1_2, .string a1_3, .int .i64 a1_4], .func (.func 44) #[] #[]] rfl ?_; (with_reducible refine (fact_Key.calls k _ _ l0 a1_0 a1_1 a1_2 a1_3 a1_4  t178 true _ ?side1 ?side2 A3.out).mono ?_); (case side1 => exact RFn.mC (Kd.C_below HR0.out HB.out)); (case side2 => exact HC0.out); rintro e w9 ⟨rfl, hb⟩; refine ⟨_, rfl, ?_⟩; have n0_ := Aside0.mk (blk_below (g := gb177) RFn.blk hb); have n1_ := Aside0.mk (below_step RFn.bels hb); clear BK177; clear HB; have BK177 := n0_; have HB := n1_; clear n0_ n1_; (try clear hb); (try clear hb2); (try clear hk); (try clear hi); have p180 : 0 ≤ (t178 : Int) := RFn.od; have q180 : t178 < (l0.length : Int) := RFn.od; obtain ⟨ad180, e180, hx180_0, hx180_1, hx180_2, hx180_3, hx180_4, hx180_5⟩ := at_T60 HR0.out t178 p180 q180; cases e180; replace hx180_0 := RFn.hb HB hx180_0; replace hx180_1 := RFn.hb HB hx180_1; replace hx180_2 := RFn.hb HB hx180_2; replace hx180_3 := RFn.hb HB hx180_3; replace hx180_4 := RFn.hb HB hx180_4; replace hx180_5 := RFn.hb HB hx180_5; replace p180 := eq_true p180; replace q180 := eq_true q180))
    go_ret
    exact ⟨by first | rfl | (simp [errW_none, errW_some] <;> rfl) | (simp [*, errW_none, errW_some] <;> rfl), RFn.bels⟩
   ·rw [if_neg c6] at H
    exact absurd H (by simp)
  ·rw [if_neg c5] at H
   exact absurd H (by simp)
 ·replace c4 := Bool.eq_false_iff.mpr c4
  subst c4
  have H1 : (some 0) = some r := by rw [if_neg (show ¬ (false = true) by decide)] at H; exact H
  clear H
  have H := H1
  clear H1
  obtain rfl := Option.some.inj H
  go_enter Try.func25, Try.ntmps25
  go_wp2_with (first | ((with_reducible refine gate_dst (N := 3) rfl ?_); refine box_event ?hg (N := 3) ?hd (cs := #[.string a1_0, .string a1_1, .string a1_2, .string a1_3, .int .i64 a1_4]) (t := 40) ?hr ?_; (case hd => rfl); (case hg => rfl); (case hr => first | (go_simp; done) | (go_simp; rfl)); intro gb177 hg w10 hbox hb; have n0_ := Aside0.mk (below_step (RFn.bel) hb); have n1_ := Aside0.mk (hbox); have n2_ := Aside0.mk ((by rw [hg]; exact (below_size (RFn.bel)) : w.heap.size ≤ gb177)); have n3_ := Aside0.mk ((by rw [hg]; exact (below_size (RFn.bel)) : w.heap.size ≤ gb177)); clear HB; have HB := n0_; have BK177 := n1_; have GW177 := n2_; have GE177 := n3_; clear n0_ n1_ n2_ n3_; clear hb hbox hg; obtain ⟨hcz11_0, hcz11_1, hcz11_2, hcz11_3, hcz11_4⟩ := RFn.bc5 BK177; obtain ⟨hfz11_0, hfz11_1, hfz11_2, hfz11_3, hfz11_4⟩ := RFn.bf5 BK177) | ((with_reducible refine gate_callee (f := 43) rfl ?_); refine RFn.goesM (some 10) Try.func43 #[.slice A0 l0.length c0, .agg #[.string a1_0, .string a1_1, .string a1_2, .string a1_3, .int .i64 a1_4], .func (.func 44) #[] #[]] rfl ?_; (with_reducible refine (fact_Key.calls k _ _ l0 a1_0 a1_1 a1_2 a1_3 a1_4  t178 false _ ?side1 ?side2 A3.out).mono ?_); (case side1 => exact RFn.mC (Kd.C_below HR0.out HB.out)); (case side2 => exact HC0.out); rintro e w12 ⟨rfl, hb⟩; refine ⟨_, rfl, ?_⟩; have n0_ := Aside0.mk (blk_below (g := gb177) RFn.blk hb); have n1_ := Aside0.mk (below_step RFn.bels hb); clear BK177; clear HB; have BK177 := n0_; have HB := n1_; clear n0_ n1_; (try clear hb); (try clear hb2); (try clear hk); (try clear hi)))
  go_ret
  exact ⟨by first | rfl | (simp [errW_none, errW_some] <;> rfl) | (simp [*, errW_none, errW_some] <;> rfl), RFn.bels⟩
/-! ### fact_Pick: function 27 -/
def fact_Pick.l0 : Nat → ByteArray → Int → List (S60) → List (S60) → Int → Int → Option ((List (S60)))
 | 0, _, _, _, _, _, _ => none
 | k + 1, x1, x2, x7, x10, x11, x12 => if x12 < x11 then (if 0 ≤ x12 then (if x12 < (x10.length : Int) then ((fact_any.f x1 ((rd_T60 x10 x12).f0.f0)).bind fun t183 => (if t183 = true then (if x2 < 0 then (if x7.length < 1759218604441 then (fact_Pick.l0 k x1 x2 (x7 ++ [(⟨(⟨(rd_T60 x10 x12).f0.f0, (rd_T60 x10 x12).f0.f1, (rd_T60 x10 x12).f0.f2, (rd_T60 x10 x12).f0.f3, (rd_T60 x10 x12).f0.f4⟩ : S40), (rd_T60 x10 x12).f1⟩ : S60)]) x10 x11 (wrap64 (x12 + 1))) else (none)) else (if ((rd_T60 x10 x12).f0.f4) = x2 then (if x7.length < 1759218604441 then (fact_Pick.l0 k x1 x2 (x7 ++ [(⟨(⟨(rd_T60 x10 x12).f0.f0, (rd_T60 x10 x12).f0.f1, (rd_T60 x10 x12).f0.f2, (rd_T60 x10 x12).f0.f3, (rd_T60 x10 x12).f0.f4⟩ : S40), (rd_T60 x10 x12).f1⟩ : S60)]) x10 x11 (wrap64 (x12 + 1))) else (none)) else (fact_Pick.l0 k x1 x2 x7 x10 x11 (wrap64 (x12 + 1))))) else (fact_Pick.l0 k x1 x2 x7 x10 x11 (wrap64 (x12 + 1))))) else (none)) else (none)) else (some x7)
def fact_Pick.f (k : Nat) (l0 : List (S60)) (a1 : ByteArray) (a2 : Int) : Option ((List (S60))) := fact_Pick.l0 k a1 a2 ([] : List (S60)) l0 (l0.length : Int) 0
theorem fact_Pick.mono_l : ∀ k, (∀ y0 y1 y2 y3 y4 y5, LeO (fact_Pick.l0 k y0 y1 y2 y3 y4 y5) (fact_Pick.l0 (k + 1) y0 y1 y2 y3 y4 y5))
 | 0 => fun _ _ _ _ _ _ r h => by simp [fact_Pick.l0] at h
 | k + 1 => by
  have ih0 := fact_Pick.mono_l k
  ·intro y0 y1 y2 y3 y4 y5
   unfold fact_Pick.l0
   repeat' first | exact LeO.refl _ | with_reducible first | apply ih0 | exact LeO.none _ | apply LeO.ite | refine LeO.bind ?_ fun _ => ?_
theorem fact_Pick.mono : ∀ a0 a1 a2 k, LeO (fact_Pick.f k a0 a1 a2) (fact_Pick.f (k + 1) a0 a1 a2) := by
 intro a0 a1 a2 k
 have ih0 := fact_Pick.mono_l k
 unfold fact_Pick.f
 repeat' first | exact LeO.refl _ | with_reducible first | apply ih0 | exact LeO.none _ | apply LeO.ite | refine LeO.bind ?_ fun _ => ?_
set_option maxHeartbeats 8000000 in
set_option maxRecDepth 100000 in
theorem fact_Pick.calls (k : Nat) (A0 : Option Addr) (c0 : Nat) (l0 : List (S60)) (a1 : ByteArray) (a2 : Int) (r : List (S60)) (w : World) (hr0 : Kd.C k60 w A0 l0.length l0) (hc0 : l0.length ≤ c0) (h : fact_Pick.f k l0 a1 a2 = some r) :
  Calls Try.prog 27 #[.slice A0 l0.length c0, .string a1, .int .i64 a2] w fun e w' => ∃ v0_ : Value, e = .returned (v0_) ∧ Kd.R k60 60 w' w.heap.size (fun _ => True) v0_ r ∧ Below w.heap.size w w' := by
 have hu60 := Try.underlying60
 have HR0 := Aside0.mk hr0
 have HC0 := Aside0.mk hc0
 clear hr0 hc0
 have HB := Aside0.mk (Below.refl w.heap.size w)
 have H : (fact_Pick.l0 k a1 a2 ([] : List (S60)) l0 (l0.length : Int) 0) = some r := h
 clear h
 have H' := Aside0.mk H
 clear H
 go_enter Try.func27, Try.ntmps27
 go_wp2
 go_loopg [7, 12] k (fun kq v7 v12 w' => ∃ (x7_1 : List (S60)) (x12_1 : Int), v12 = .int .i64 x12_1 ∧ Aside0 (fact_Pick.l0 kq a1 a2 x7_1 l0 (l0.length : Int) x12_1 = some r) ∧ Aside0 (kq ≤ k) ∧ Aside0 (Kd.R k60 60 w' w.heap.size (fun _ => True) v7 x7_1) ∧ Aside0 (Below w.heap.size w w'))
 case atStart => exact ⟨(([] : List (S60))), (0), (by first | rfl | (simp; done) | (simp [*]; done)), H', ⟨Nat.le_refl _⟩, ⟨RFn.kn⟩, ⟨RFn.bel⟩⟩
 case round =>
  clear H'
  try clear c2
  try clear p2
  obtain ⟨x7_1, x12_1, rfl, HA, HK1, HO_7, HB⟩ := hrel
  cases gk with
  | zero => exact absurd HA.out (by simp [fact_Pick.l0])
  | succ k1 =>
   have H := HA.out
   clear HA
   simp only [fact_Pick.l0] at H
   by_cases c4 : x12_1 < (l0.length : Int)
   ·rw [if_pos c4] at H
    have c4b0 : decide (x12_1 < (l0.length : Int)) = true := decide_eq_true c4
    clear c4
    by_cases c5 : 0 ≤ x12_1
    ·rw [if_pos c5] at H
     have c5b0 : decide (0 ≤ x12_1) = true := decide_eq_true c5
     clear c5
     by_cases c6 : x12_1 < (l0.length : Int)
     ·rw [if_pos c6] at H
      have c6b0 : decide (x12_1 < (l0.length : Int)) = true := decide_eq_true c6
      clear c6
      obtain ⟨t183, A7, H⟩ := RFn.bn H
      by_cases c8 : t183 = true
      ·subst c8
       have H1 : (if a2 < 0 then (if x7_1.length < 1759218604441 then (fact_Pick.l0 k1 a1 a2 (x7_1 ++ [(⟨(⟨(rd_T60 l0 x12_1).f0.f0, (rd_T60 l0 x12_1).f0.f1, (rd_T60 l0 x12_1).f0.f2, (rd_T60 l0 x12_1).f0.f3, (rd_T60 l0 x12_1).f0.f4⟩ : S40), (rd_T60 l0 x12_1).f1⟩ : S60)]) l0 (l0.length : Int) (wrap64 (x12_1 + 1))) else (none)) else (if ((rd_T60 l0 x12_1).f0.f4) = a2 then (if x7_1.length < 1759218604441 then (fact_Pick.l0 k1 a1 a2 (x7_1 ++ [(⟨(⟨(rd_T60 l0 x12_1).f0.f0, (rd_T60 l0 x12_1).f0.f1, (rd_T60 l0 x12_1).f0.f2, (rd_T60 l0 x12_1).f0.f3, (rd_T60 l0 x12_1).f0.f4⟩ : S40), (rd_T60 l0 x12_1).f1⟩ : S60)]) l0 (l0.length : Int) (wrap64 (x12_1 + 1))) else (none)) else (fact_Pick.l0 k1 a1 a2 x7_1 l0 (l0.length : Int) (wrap64 (x12_1 + 1))))) = some r := by rw [if_pos rfl] at H; exact H
       clear H
       have H := H1
       clear H1
       by_cases c9 : a2 < 0
       ·rw [if_pos c9] at H
        have c9b0 : decide (a2 < 0) = true := decide_eq_true c9
        clear c9
        by_cases c10 : x7_1.length < 1759218604441
        ·rw [if_pos c10] at H
         have LMc10 := Aside0.mk c10
         clear c10
         obtain ⟨y184, hy184⟩ : ∃ y_ : List (S60), y_ = (x7_1 ++ [(⟨(⟨(rd_T60 l0 x12_1).f0.f0, (rd_T60 l0 x12_1).f0.f1, (rd_T60 l0 x12_1).f0.f2, (rd_T60 l0 x12_1).f0.f3, (rd_T60 l0 x12_1).f0.f4⟩ : S40), (rd_T60 l0 x12_1).f1⟩ : S60)]) := ⟨_, rfl⟩
         replace H : (fact_Pick.l0 k1 a1 a2 y184 l0 (l0.length : Int) (wrap64 (x12_1 + 1))) = some r := RFn.rp H hy184
         have Ny184 := Aside0.mk hy184
         clear hy184
         have H' := Aside0.mk H
         clear H
         have p181 : 0 ≤ (x12_1 : Int) := RFn.od
         have q181 : x12_1 < (l0.length : Int) := RFn.od
         obtain ⟨ad181, e181, hx181_0, hx181_1, hx181_2, hx181_3, hx181_4, hx181_5⟩ := at_T60 HR0.out x12_1 p181 q181
         cases e181
         replace hx181_0 := RFn.hb HB hx181_0
         replace hx181_1 := RFn.hb HB hx181_1
         replace hx181_2 := RFn.hb HB hx181_2
         replace hx181_3 := RFn.hb HB hx181_3
         replace hx181_4 := RFn.hb HB hx181_4
         replace hx181_5 := RFn.hb HB hx181_5
         replace p181 := eq_true p181
         replace q181 := eq_true q181
         go_wp2_with (first | ((with_reducible refine gate_dst (N := 9) rfl ?_); refine box_event ?hg (N := 9) ?hd (cs := #[.string (⟨#[]⟩ : ByteArray), .string (⟨#[]⟩ : ByteArray), .string (⟨#[]⟩ : ByteArray), .string (⟨#[]⟩ : ByteArray), .int .i64 0, .int .i64 0]) (t := 60) ?hr ?_; (case hd => rfl); (case hg => rfl); (case hr => first | (go_simp; done) | (go_simp; rfl)); intro gb182 hg w11 hbox hb; have n0_ := Aside0.mk (Kd.R_below (Kd.R_elderB (RFn.mR HO_7) gb182 (Nat.le_of_eq hg.symm)) hb); have n1_ := Aside0.mk (below_step (RFn.bel) hb); have n2_ := Aside0.mk (hbox); have n3_ := Aside0.mk ((by rw [hg]; exact (below_size (RFn.bel)) : w.heap.size ≤ gb182)); have n4_ := Aside0.mk ((by rw [hg]; exact (below_size (RFn.bel)) : w.heap.size ≤ gb182)); clear HO_7; clear HB; have HO_7 := n0_; have HB := n1_; have BK182 := n2_; have GW182 := n3_; have GE182 := n4_; clear n0_ n1_ n2_ n3_ n4_; clear hb hbox hg; obtain ⟨hcz12_0, hcz12_1, hcz12_2, hcz12_3, hcz12_4, hcz12_5⟩ := RFn.bc6 BK182; obtain ⟨hfz12_0, hfz12_1, hfz12_2, hfz12_3, hfz12_4, hfz12_5⟩ := RFn.bf6 BK182) | ((with_reducible refine gate_callee (f := 42) rfl ?_); refine RFn.goesM (some 20) Try.func42 #[.string a1, .string ((rd_T60 l0 x12_1).f0.f0)] rfl ?_; (with_reducible refine (fact_any.calls a1 ((rd_T60 l0 x12_1).f0.f0) true _ A7.out).mono ?_); rintro e w' ⟨rfl, ⟨nd, rfl⟩⟩; refine ⟨_, rfl, ?_⟩) | ((with_reducible refine gate_builtin (b := .append) (xs := #[.tmp 32, .tmp 34]) rfl ?_); at_builtin; refine Kd.R_append k60 (w0 := w) w.heap.size rfl (.tmp 32) (.tmp 34) 30 60 (.agg #[(.string ⟨#[]⟩), (.string ⟨#[]⟩), (.string ⟨#[]⟩), (.string ⟨#[]⟩), (.int .i64 0), (.int .i64 0)]) 80 rfl Try.underlying30 info60 rfl (by decide) (by omega) u7 x7_1 (⟨(⟨(rd_T60 l0 x12_1).f0.f0, (rd_T60 l0 x12_1).f0.f1, (rd_T60 l0 x12_1).f0.f2, (rd_T60 l0 x12_1).f0.f3, (rd_T60 l0 x12_1).f0.f4⟩ : S40), (rd_T60 l0 x12_1).f1⟩ : S60) [.string ((rd_T60 l0 x12_1).f0.f0), .string ((rd_T60 l0 x12_1).f0.f1), .string ((rd_T60 l0 x12_1).f0.f2), .string ((rd_T60 l0 x12_1).f0.f3), .int .i64 ((rd_T60 l0 x12_1).f0.f4), .int .i64 ((rd_T60 l0 x12_1).f1)] (fun k_ => k_ ≠ gb182) (fun _ => False) rfl (by first | (go_simp; done) | (go_simp; rfl)) ?aP (fun _ hk => hk.elim) ?aF ?aO ?aB ?aS ?aL ?_; (case aP => exact k60_mkM _ _ _ (⟨(⟨(rd_T60 l0 x12_1).f0.f0, (rd_T60 l0 x12_1).f0.f1, (rd_T60 l0 x12_1).f0.f2, (rd_T60 l0 x12_1).f0.f3, (rd_T60 l0 x12_1).f0.f4⟩ : S40), (rd_T60 l0 x12_1).f1⟩ : S60)); (case aB => exact RFn.bels); (case aF => exact (fun k_ hk => Kd.freshB (g := gb182) (o := .cells #[.string ((rd_T60 l0 x12_1).f0.f0), .string ((rd_T60 l0 x12_1).f0.f1), .string ((rd_T60 l0 x12_1).f0.f2), .string ((rd_T60 l0 x12_1).f0.f3), .int .i64 ((rd_T60 l0 x12_1).f0.f4), .int .i64 ((rd_T60 l0 x12_1).f1)] 60 (0, 0)) (by refine RFn.d3 ?_; refine blk_put (cs := #[.string ((rd_T60 l0 x12_1).f0.f0), .string ((rd_T60 l0 x12_1).f0.f1), .string ((rd_T60 l0 x12_1).f0.f2), .string ((rd_T60 l0 x12_1).f0.f3), .int .i64 ((rd_T60 l0 x12_1).f0.f4), .int .i64 0]) ?_ 5 _ rfl; refine RFn.d3 ?_; refine blk_put (cs := #[.string ((rd_T60 l0 x12_1).f0.f0), .string ((rd_T60 l0 x12_1).f0.f1), .string ((rd_T60 l0 x12_1).f0.f2), .string ((rd_T60 l0 x12_1).f0.f3), .int .i64 0, .int .i64 0]) ?_ 4 _ rfl; refine RFn.d3 ?_; refine blk_put (cs := #[.string ((rd_T60 l0 x12_1).f0.f0), .string ((rd_T60 l0 x12_1).f0.f1), .string ((rd_T60 l0 x12_1).f0.f2), .string (⟨#[]⟩ : ByteArray), .int .i64 0, .int .i64 0]) ?_ 3 _ rfl; refine RFn.d3 ?_; refine blk_put (cs := #[.string ((rd_T60 l0 x12_1).f0.f0), .string ((rd_T60 l0 x12_1).f0.f1), .string (⟨#[]⟩ : ByteArray), .string (⟨#[]⟩ : ByteArray), .int .i64 0, .int .i64 0]) ?_ 2 _ rfl; refine RFn.d3 ?_; refine blk_put (cs := #[.string ((rd_T60 l0 x12_1).f0.f0), .string (⟨#[]⟩ : ByteArray), .string (⟨#[]⟩ : ByteArray), .string (⟨#[]⟩ : ByteArray), .int .i64 0, .int .i64 0]) ?_ 1 _ rfl; refine RFn.d3 ?_; refine blk_put (cs := #[.string (⟨#[]⟩ : ByteArray), .string (⟨#[]⟩ : ByteArray), .string (⟨#[]⟩ : ByteArray), .string (⟨#[]⟩ : ByteArray), .int .i64 0, .int .i64 0]) ?_ 0 _ rfl; refine RFn.d3 ?_; exact BK182.out) k_ hk)); (case aO => exact (by (with_reducible repeat (first | apply Kd.R_alloc | apply Kd.R_drewN | apply Kd.R_drew)); exact Kd.R_mono (Kd.R_far (p := ⟨gb182, 5, none⟩) (Kd.R_far (p := ⟨gb182, 4, none⟩) (Kd.R_far (p := ⟨gb182, 3, none⟩) (Kd.R_far (p := ⟨gb182, 2, none⟩) (Kd.R_far (p := ⟨gb182, 1, none⟩) (Kd.R_far (p := ⟨gb182, 0, none⟩) (Kd.R_mono HO_7.out (fun k_ hk => (⟨hk, hk.2⟩ : _ ∧ k_ ≠ gb182))) (fun _ hk => hk.2) (.string ((rd_T60 l0 x12_1).f0.f0))) (fun _ hk => hk.2) (.string ((rd_T60 l0 x12_1).f0.f1))) (fun _ hk => hk.2) (.string ((rd_T60 l0 x12_1).f0.f2))) (fun _ hk => hk.2) (.string ((rd_T60 l0 x12_1).f0.f3))) (fun _ hk => hk.2) (.int .i64 ((rd_T60 l0 x12_1).f0.f4))) (fun _ hk => hk.2) (.int .i64 ((rd_T60 l0 x12_1).f1))) (fun _ hk => hk.1.2))); (case aS => exact (below_size RFn.bels)); (case aL => have := LMc10.out; omega); intro v185 w13 ho hb hg hat; rw [← Ny184.out] at ho; have n0_ := Aside0.mk (blk_grown (g := gb182) (o := .cells #[.string ((rd_T60 l0 x12_1).f0.f0), .string ((rd_T60 l0 x12_1).f0.f1), .string ((rd_T60 l0 x12_1).f0.f2), .string ((rd_T60 l0 x12_1).f0.f3), .int .i64 ((rd_T60 l0 x12_1).f0.f4), .int .i64 ((rd_T60 l0 x12_1).f1)] 60 (0, 0)) (by refine RFn.d3 ?_; refine blk_put (cs := #[.string ((rd_T60 l0 x12_1).f0.f0), .string ((rd_T60 l0 x12_1).f0.f1), .string ((rd_T60 l0 x12_1).f0.f2), .string ((rd_T60 l0 x12_1).f0.f3), .int .i64 ((rd_T60 l0 x12_1).f0.f4), .int .i64 0]) ?_ 5 _ rfl; refine RFn.d3 ?_; refine blk_put (cs := #[.string ((rd_T60 l0 x12_1).f0.f0), .string ((rd_T60 l0 x12_1).f0.f1), .string ((rd_T60 l0 x12_1).f0.f2), .string ((rd_T60 l0 x12_1).f0.f3), .int .i64 0, .int .i64 0]) ?_ 4 _ rfl; refine RFn.d3 ?_; refine blk_put (cs := #[.string ((rd_T60 l0 x12_1).f0.f0), .string ((rd_T60 l0 x12_1).f0.f1), .string ((rd_T60 l0 x12_1).f0.f2), .string (⟨#[]⟩ : ByteArray), .int .i64 0, .int .i64 0]) ?_ 3 _ rfl; refine RFn.d3 ?_; refine blk_put (cs := #[.string ((rd_T60 l0 x12_1).f0.f0), .string ((rd_T60 l0 x12_1).f0.f1), .string (⟨#[]⟩ : ByteArray), .string (⟨#[]⟩ : ByteArray), .int .i64 0, .int .i64 0]) ?_ 2 _ rfl; refine RFn.d3 ?_; refine blk_put (cs := #[.string ((rd_T60 l0 x12_1).f0.f0), .string (⟨#[]⟩ : ByteArray), .string (⟨#[]⟩ : ByteArray), .string (⟨#[]⟩ : ByteArray), .int .i64 0, .int .i64 0]) ?_ 1 _ rfl; refine RFn.d3 ?_; refine blk_put (cs := #[.string (⟨#[]⟩ : ByteArray), .string (⟨#[]⟩ : ByteArray), .string (⟨#[]⟩ : ByteArray), .string (⟨#[]⟩ : ByteArray), .int .i64 0, .int .i64 0]) ?_ 0 _ rfl; refine RFn.d3 ?_; exact BK182.out) hg (Kd.R_away HO_7.out (fun _ hk => hk.2))); have n1_ := Aside0.mk (hb); have n2_ := Aside0.mk (ho); clear BK182; clear HB; clear HO_7; have BK182 := n0_; have HB := n1_; have HO186 := n2_; clear n0_ n1_ n2_; clear ho hb hg hat))
         go_roundg k1
         case measure => have := HK1.out; omega
         case rel => exact ⟨(y184), (wrap64 (x12_1 + 1)), (by first | rfl | (simp; done) | (simp [*]; done)), H', ⟨RFn.lk HK1⟩, ⟨by (with_reducible repeat (first | apply Kd.R_alloc | apply Kd.R_drewN | apply Kd.R_drew)); exact Kd.R_mono HO186.out (fun _ hk => trivial)⟩, ⟨RFn.bels⟩⟩
        ·rw [if_neg c10] at H
         exact absurd H (by simp)
       ·rw [if_neg c9] at H
        have c9b0 : decide (a2 < 0) = false := decide_eq_false c9
        clear c9
        by_cases c14 : ((rd_T60 l0 x12_1).f0.f4) = a2
        ·rw [if_pos c14] at H
         have c14b0 : (((rd_T60 l0 x12_1).f0.f4) == a2) = true := beq_iff_eq.mpr c14
         have c14b1 : (((rd_T60 l0 x12_1).f0.f4) != a2) = false := bne_eq_false_iff_eq.mpr c14
         clear c14
         by_cases c15 : x7_1.length < 1759218604441
         ·rw [if_pos c15] at H
          have LMc15 := Aside0.mk c15
          clear c15
          obtain ⟨y187, hy187⟩ : ∃ y_ : List (S60), y_ = (x7_1 ++ [(⟨(⟨(rd_T60 l0 x12_1).f0.f0, (rd_T60 l0 x12_1).f0.f1, (rd_T60 l0 x12_1).f0.f2, (rd_T60 l0 x12_1).f0.f3, (rd_T60 l0 x12_1).f0.f4⟩ : S40), (rd_T60 l0 x12_1).f1⟩ : S60)]) := ⟨_, rfl⟩
          replace H : (fact_Pick.l0 k1 a1 a2 y187 l0 (l0.length : Int) (wrap64 (x12_1 + 1))) = some r := RFn.rp H hy187
          have Ny187 := Aside0.mk hy187
          clear hy187
          have H' := Aside0.mk H
          clear H
          have p181 : 0 ≤ (x12_1 : Int) := RFn.od
          have q181 : x12_1 < (l0.length : Int) := RFn.od
          obtain ⟨ad181, e181, hx181_0, hx181_1, hx181_2, hx181_3, hx181_4, hx181_5⟩ := at_T60 HR0.out x12_1 p181 q181
          cases e181
          replace hx181_0 := RFn.hb HB hx181_0
          replace hx181_1 := RFn.hb HB hx181_1
          replace hx181_2 := RFn.hb HB hx181_2
          replace hx181_3 := RFn.hb HB hx181_3
          replace hx181_4 := RFn.hb HB hx181_4
          replace hx181_5 := RFn.hb HB hx181_5
          replace p181 := eq_true p181
          replace q181 := eq_true q181
          go_wp2_with (first | ((with_reducible refine gate_dst (N := 9) rfl ?_); refine box_event ?hg (N := 9) ?hd (cs := #[.string (⟨#[]⟩ : ByteArray), .string (⟨#[]⟩ : ByteArray), .string (⟨#[]⟩ : ByteArray), .string (⟨#[]⟩ : ByteArray), .int .i64 0, .int .i64 0]) (t := 60) ?hr ?_; (case hd => rfl); (case hg => rfl); (case hr => first | (go_simp; done) | (go_simp; rfl)); intro gb182 hg w16 hbox hb; have n0_ := Aside0.mk (Kd.R_below (Kd.R_elderB (RFn.mR HO_7) gb182 (Nat.le_of_eq hg.symm)) hb); have n1_ := Aside0.mk (below_step (RFn.bel) hb); have n2_ := Aside0.mk (hbox); have n3_ := Aside0.mk ((by rw [hg]; exact (below_size (RFn.bel)) : w.heap.size ≤ gb182)); have n4_ := Aside0.mk ((by rw [hg]; exact (below_size (RFn.bel)) : w.heap.size ≤ gb182)); clear HO_7; clear HB; have HO_7 := n0_; have HB := n1_; have BK182 := n2_; have GW182 := n3_; have GE182 := n4_; clear n0_ n1_ n2_ n3_ n4_; clear hb hbox hg; obtain ⟨hcz17_0, hcz17_1, hcz17_2, hcz17_3, hcz17_4, hcz17_5⟩ := RFn.bc6 BK182; obtain ⟨hfz17_0, hfz17_1, hfz17_2, hfz17_3, hfz17_4, hfz17_5⟩ := RFn.bf6 BK182) | ((with_reducible refine gate_callee (f := 42) rfl ?_); refine RFn.goesM (some 20) Try.func42 #[.string a1, .string ((rd_T60 l0 x12_1).f0.f0)] rfl ?_; (with_reducible refine (fact_any.calls a1 ((rd_T60 l0 x12_1).f0.f0) true _ A7.out).mono ?_); rintro e w' ⟨rfl, ⟨nd, rfl⟩⟩; refine ⟨_, rfl, ?_⟩) | ((with_reducible refine gate_builtin (b := .append) (xs := #[.tmp 32, .tmp 34]) rfl ?_); at_builtin; refine Kd.R_append k60 (w0 := w) w.heap.size rfl (.tmp 32) (.tmp 34) 30 60 (.agg #[(.string ⟨#[]⟩), (.string ⟨#[]⟩), (.string ⟨#[]⟩), (.string ⟨#[]⟩), (.int .i64 0), (.int .i64 0)]) 80 rfl Try.underlying30 info60 rfl (by decide) (by omega) u7 x7_1 (⟨(⟨(rd_T60 l0 x12_1).f0.f0, (rd_T60 l0 x12_1).f0.f1, (rd_T60 l0 x12_1).f0.f2, (rd_T60 l0 x12_1).f0.f3, (rd_T60 l0 x12_1).f0.f4⟩ : S40), (rd_T60 l0 x12_1).f1⟩ : S60) [.string ((rd_T60 l0 x12_1).f0.f0), .string ((rd_T60 l0 x12_1).f0.f1), .string ((rd_T60 l0 x12_1).f0.f2), .string ((rd_T60 l0 x12_1).f0.f3), .int .i64 ((rd_T60 l0 x12_1).f0.f4), .int .i64 ((rd_T60 l0 x12_1).f1)] (fun k_ => k_ ≠ gb182) (fun _ => False) rfl (by first | (go_simp; done) | (go_simp; rfl)) ?aP (fun _ hk => hk.elim) ?aF ?aO ?aB ?aS ?aL ?_; (case aP => exact k60_mkM _ _ _ (⟨(⟨(rd_T60 l0 x12_1).f0.f0, (rd_T60 l0 x12_1).f0.f1, (rd_T60 l0 x12_1).f0.f2, (rd_T60 l0 x12_1).f0.f3, (rd_T60 l0 x12_1).f0.f4⟩ : S40), (rd_T60 l0 x12_1).f1⟩ : S60)); (case aB => exact RFn.bels); (case aF => exact (fun k_ hk => Kd.freshB (g := gb182) (o := .cells #[.string ((rd_T60 l0 x12_1).f0.f0), .string ((rd_T60 l0 x12_1).f0.f1), .string ((rd_T60 l0 x12_1).f0.f2), .string ((rd_T60 l0 x12_1).f0.f3), .int .i64 ((rd_T60 l0 x12_1).f0.f4), .int .i64 ((rd_T60 l0 x12_1).f1)] 60 (0, 0)) (by refine RFn.d3 ?_; refine blk_put (cs := #[.string ((rd_T60 l0 x12_1).f0.f0), .string ((rd_T60 l0 x12_1).f0.f1), .string ((rd_T60 l0 x12_1).f0.f2), .string ((rd_T60 l0 x12_1).f0.f3), .int .i64 ((rd_T60 l0 x12_1).f0.f4), .int .i64 0]) ?_ 5 _ rfl; refine RFn.d3 ?_; refine blk_put (cs := #[.string ((rd_T60 l0 x12_1).f0.f0), .string ((rd_T60 l0 x12_1).f0.f1), .string ((rd_T60 l0 x12_1).f0.f2), .string ((rd_T60 l0 x12_1).f0.f3), .int .i64 0, .int .i64 0]) ?_ 4 _ rfl; refine RFn.d3 ?_; refine blk_put (cs := #[.string ((rd_T60 l0 x12_1).f0.f0), .string ((rd_T60 l0 x12_1).f0.f1), .string ((rd_T60 l0 x12_1).f0.f2), .string (⟨#[]⟩ : ByteArray), .int .i64 0, .int .i64 0]) ?_ 3 _ rfl; refine RFn.d3 ?_; refine blk_put (cs := #[.string ((rd_T60 l0 x12_1).f0.f0), .string ((rd_T60 l0 x12_1).f0.f1), .string (⟨#[]⟩ : ByteArray), .string (⟨#[]⟩ : ByteArray), .int .i64 0, .int .i64 0]) ?_ 2 _ rfl; refine RFn.d3 ?_; refine blk_put (cs := #[.string ((rd_T60 l0 x12_1).f0.f0), .string (⟨#[]⟩ : ByteArray), .string (⟨#[]⟩ : ByteArray), .string (⟨#[]⟩ : ByteArray), .int .i64 0, .int .i64 0]) ?_ 1 _ rfl; refine RFn.d3 ?_; refine blk_put (cs := #[.string (⟨#[]⟩ : ByteArray), .string (⟨#[]⟩ : ByteArray), .string (⟨#[]⟩ : ByteArray), .string (⟨#[]⟩ : ByteArray), .int .i64 0, .int .i64 0]) ?_ 0 _ rfl; refine RFn.d3 ?_; exact BK182.out) k_ hk)); (case aO => exact (by (with_reducible repeat (first | apply Kd.R_alloc | apply Kd.R_drewN | apply Kd.R_drew)); exact Kd.R_mono (Kd.R_far (p := ⟨gb182, 5, none⟩) (Kd.R_far (p := ⟨gb182, 4, none⟩) (Kd.R_far (p := ⟨gb182, 3, none⟩) (Kd.R_far (p := ⟨gb182, 2, none⟩) (Kd.R_far (p := ⟨gb182, 1, none⟩) (Kd.R_far (p := ⟨gb182, 0, none⟩) (Kd.R_mono HO_7.out (fun k_ hk => (⟨hk, hk.2⟩ : _ ∧ k_ ≠ gb182))) (fun _ hk => hk.2) (.string ((rd_T60 l0 x12_1).f0.f0))) (fun _ hk => hk.2) (.string ((rd_T60 l0 x12_1).f0.f1))) (fun _ hk => hk.2) (.string ((rd_T60 l0 x12_1).f0.f2))) (fun _ hk => hk.2) (.string ((rd_T60 l0 x12_1).f0.f3))) (fun _ hk => hk.2) (.int .i64 ((rd_T60 l0 x12_1).f0.f4))) (fun _ hk => hk.2) (.int .i64 ((rd_T60 l0 x12_1).f1))) (fun _ hk => hk.1.2))); (case aS => exact (below_size RFn.bels)); (case aL => have := LMc15.out; omega); intro v188 w18 ho hb hg hat; rw [← Ny187.out] at ho; have n0_ := Aside0.mk (blk_grown (g := gb182) (o := .cells #[.string ((rd_T60 l0 x12_1).f0.f0), .string ((rd_T60 l0 x12_1).f0.f1), .string ((rd_T60 l0 x12_1).f0.f2), .string ((rd_T60 l0 x12_1).f0.f3), .int .i64 ((rd_T60 l0 x12_1).f0.f4), .int .i64 ((rd_T60 l0 x12_1).f1)] 60 (0, 0)) (by refine RFn.d3 ?_; refine blk_put (cs := #[.string ((rd_T60 l0 x12_1).f0.f0), .string ((rd_T60 l0 x12_1).f0.f1), .string ((rd_T60 l0 x12_1).f0.f2), .string ((rd_T60 l0 x12_1).f0.f3), .int .i64 ((rd_T60 l0 x12_1).f0.f4), .int .i64 0]) ?_ 5 _ rfl; refine RFn.d3 ?_; refine blk_put (cs := #[.string ((rd_T60 l0 x12_1).f0.f0), .string ((rd_T60 l0 x12_1).f0.f1), .string ((rd_T60 l0 x12_1).f0.f2), .string ((rd_T60 l0 x12_1).f0.f3), .int .i64 0, .int .i64 0]) ?_ 4 _ rfl; refine RFn.d3 ?_; refine blk_put (cs := #[.string ((rd_T60 l0 x12_1).f0.f0), .string ((rd_T60 l0 x12_1).f0.f1), .string ((rd_T60 l0 x12_1).f0.f2), .string (⟨#[]⟩ : ByteArray), .int .i64 0, .int .i64 0]) ?_ 3 _ rfl; refine RFn.d3 ?_; refine blk_put (cs := #[.string ((rd_T60 l0 x12_1).f0.f0), .string ((rd_T60 l0 x12_1).f0.f1), .string (⟨#[]⟩ : ByteArray), .string (⟨#[]⟩ : ByteArray), .int .i64 0, .int .i64 0]) ?_ 2 _ rfl; refine RFn.d3 ?_; refine blk_put (cs := #[.string ((rd_T60 l0 x12_1).f0.f0), .string (⟨#[]⟩ : ByteArray), .string (⟨#[]⟩ : ByteArray), .string (⟨#[]⟩ : ByteArray), .int .i64 0, .int .i64 0]) ?_ 1 _ rfl; refine RFn.d3 ?_; refine blk_put (cs := #[.string (⟨#[]⟩ : ByteArray), .string (⟨#[]⟩ : ByteArray), .string (⟨#[]⟩ : ByteArray), .string (⟨#[]⟩ : ByteArray), .int .i64 0, .int .i64 0]) ?_ 0 _ rfl; refine RFn.d3 ?_; exact BK182.out) hg (Kd.R_away HO_7.out (fun _ hk => hk.2))); have n1_ := Aside0.mk (hb); have n2_ := Aside0.mk (ho); clear BK182; clear HB; clear HO_7; have BK182 := n0_; have HB := n1_; have HO189 := n2_; clear n0_ n1_ n2_; clear ho hb hg hat))
          go_roundg k1
          case measure => have := HK1.out; omega
          case rel => exact ⟨(y187), (wrap64 (x12_1 + 1)), (by first | rfl | (simp; done) | (simp [*]; done)), H', ⟨RFn.lk HK1⟩, ⟨by (with_reducible repeat (first | apply Kd.R_alloc | apply Kd.R_drewN | apply Kd.R_drew)); exact Kd.R_mono HO189.out (fun _ hk => trivial)⟩, ⟨RFn.bels⟩⟩
         ·rw [if_neg c15] at H
          exact absurd H (by simp)
        ·rw [if_neg c14] at H
         have c14b0 : (((rd_T60 l0 x12_1).f0.f4) == a2) = false := beq_eq_false_iff_ne.mpr c14
         have c14b1 : (((rd_T60 l0 x12_1).f0.f4) != a2) = true := bne_iff_ne.mpr c14
         have H' := Aside0.mk H
         clear H
         have p181 : 0 ≤ (x12_1 : Int) := RFn.od
         have q181 : x12_1 < (l0.length : Int) := RFn.od
         obtain ⟨ad181, e181, hx181_0, hx181_1, hx181_2, hx181_3, hx181_4, hx181_5⟩ := at_T60 HR0.out x12_1 p181 q181
         cases e181
         replace hx181_0 := RFn.hb HB hx181_0
         replace hx181_1 := RFn.hb HB hx181_1
         replace hx181_2 := RFn.hb HB hx181_2
         replace hx181_3 := RFn.hb HB hx181_3
         replace hx181_4 := RFn.hb HB hx181_4
         replace hx181_5 := RFn.hb HB hx181_5
         replace p181 := eq_true p181
         replace q181 := eq_true q181
         go_wp2_with (first | ((with_reducible refine gate_dst (N := 9) rfl ?_); refine box_event ?hg (N := 9) ?hd (cs := #[.string (⟨#[]⟩ : ByteArray), .string (⟨#[]⟩ : ByteArray), .string (⟨#[]⟩ : ByteArray), .string (⟨#[]⟩ : ByteArray), .int .i64 0, .int .i64 0]) (t := 60) ?hr ?_; (case hd => rfl); (case hg => rfl); (case hr => first | (go_simp; done) | (go_simp; rfl)); intro gb182 hg w19 hbox hb; have n0_ := Aside0.mk (Kd.R_below (Kd.R_elderB (RFn.mR HO_7) gb182 (Nat.le_of_eq hg.symm)) hb); have n1_ := Aside0.mk (below_step (RFn.bel) hb); have n2_ := Aside0.mk (hbox); have n3_ := Aside0.mk ((by rw [hg]; exact (below_size (RFn.bel)) : w.heap.size ≤ gb182)); have n4_ := Aside0.mk ((by rw [hg]; exact (below_size (RFn.bel)) : w.heap.size ≤ gb182)); clear HO_7; clear HB; have HO_7 := n0_; have HB := n1_; have BK182 := n2_; have GW182 := n3_; have GE182 := n4_; clear n0_ n1_ n2_ n3_ n4_; clear hb hbox hg; obtain ⟨hcz20_0, hcz20_1, hcz20_2, hcz20_3, hcz20_4, hcz20_5⟩ := RFn.bc6 BK182; obtain ⟨hfz20_0, hfz20_1, hfz20_2, hfz20_3, hfz20_4, hfz20_5⟩ := RFn.bf6 BK182) | ((with_reducible refine gate_callee (f := 42) rfl ?_); refine RFn.goesM (some 20) Try.func42 #[.string a1, .string ((rd_T60 l0 x12_1).f0.f0)] rfl ?_; (with_reducible refine (fact_any.calls a1 ((rd_T60 l0 x12_1).f0.f0) true _ A7.out).mono ?_); rintro e w' ⟨rfl, ⟨nd, rfl⟩⟩; refine ⟨_, rfl, ?_⟩))
         go_roundg k1
         case measure => have := HK1.out; omega
         case rel => exact ⟨(x7_1), (wrap64 (x12_1 + 1)), (by first | rfl | (simp; done) | (simp [*]; done)), H', ⟨RFn.lk HK1⟩, ⟨by (with_reducible repeat (first | apply Kd.R_alloc | apply Kd.R_drewN | apply Kd.R_drew)); exact Kd.R_mono (Kd.R_far (p := ⟨gb182, 5, none⟩) (Kd.R_far (p := ⟨gb182, 4, none⟩) (Kd.R_far (p := ⟨gb182, 3, none⟩) (Kd.R_far (p := ⟨gb182, 2, none⟩) (Kd.R_far (p := ⟨gb182, 1, none⟩) (Kd.R_far (p := ⟨gb182, 0, none⟩) (Kd.R_mono HO_7.out (fun k_ hk => (⟨hk, hk.2⟩ : _ ∧ k_ ≠ gb182))) (fun _ hk => hk.2) (.string ((rd_T60 l0 x12_1).f0.f0))) (fun _ hk => hk.2) (.string ((rd_T60 l0 x12_1).f0.f1))) (fun _ hk => hk.2) (.string ((rd_T60 l0 x12_1).f0.f2))) (fun _ hk => hk.2) (.string ((rd_T60 l0 x12_1).f0.f3))) (fun _ hk => hk.2) (.int .i64 ((rd_T60 l0 x12_1).f0.f4))) (fun _ hk => hk.2) (.int .i64 ((rd_T60 l0 x12_1).f1))) (fun _ hk => trivial)⟩, ⟨RFn.bels⟩⟩
      ·replace c8 := Bool.eq_false_iff.mpr c8
       subst c8
       have H1 : (fact_Pick.l0 k1 a1 a2 x7_1 l0 (l0.length : Int) (wrap64 (x12_1 + 1))) = some r := by rw [if_neg (show ¬ (false = true) by decide)] at H; exact H
       clear H
       have H := H1
       clear H1
       have H' := Aside0.mk H
       clear H
       have p181 : 0 ≤ (x12_1 : Int) := RFn.od
       have q181 : x12_1 < (l0.length : Int) := RFn.od
       obtain ⟨ad181, e181, hx181_0, hx181_1, hx181_2, hx181_3, hx181_4, hx181_5⟩ := at_T60 HR0.out x12_1 p181 q181
       cases e181
       replace hx181_0 := RFn.hb HB hx181_0
       replace hx181_1 := RFn.hb HB hx181_1
       replace hx181_2 := RFn.hb HB hx181_2
       replace hx181_3 := RFn.hb HB hx181_3
       replace hx181_4 := RFn.hb HB hx181_4
       replace hx181_5 := RFn.hb HB hx181_5
       replace p181 := eq_true p181
       replace q181 := eq_true q181
       go_wp2_with (first | ((with_reducible refine gate_dst (N := 9) rfl ?_); refine box_event ?hg (N := 9) ?hd (cs := #[.string (⟨#[]⟩ : ByteArray), .string (⟨#[]⟩ : ByteArray), .string (⟨#[]⟩ : ByteArray), .string (⟨#[]⟩ : ByteArray), .int .i64 0, .int .i64 0]) (t := 60) ?hr ?_; (case hd => rfl); (case hg => rfl); (case hr => first | (go_simp; done) | (go_simp; rfl)); intro gb182 hg w21 hbox hb; have n0_ := Aside0.mk (Kd.R_below (Kd.R_elderB (RFn.mR HO_7) gb182 (Nat.le_of_eq hg.symm)) hb); have n1_ := Aside0.mk (below_step (RFn.bel) hb); have n2_ := Aside0.mk (hbox); have n3_ := Aside0.mk ((by rw [hg]; exact (below_size (RFn.bel)) : w.heap.size ≤ gb182)); have n4_ := Aside0.mk ((by rw [hg]; exact (below_size (RFn.bel)) : w.heap.size ≤ gb182)); clear HO_7; clear HB; have HO_7 := n0_; have HB := n1_; have BK182 := n2_; have GW182 := n3_; have GE182 := n4_; clear n0_ n1_ n2_ n3_ n4_; clear hb hbox hg; obtain ⟨hcz22_0, hcz22_1, hcz22_2, hcz22_3, hcz22_4, hcz22_5⟩ := RFn.bc6 BK182; obtain ⟨hfz22_0, hfz22_1, hfz22_2, hfz22_3, hfz22_4, hfz22_5⟩ := RFn.bf6 BK182) | ((with_reducible refine gate_callee (f := 42) rfl ?_); refine RFn.goesM (some 20) Try.func42 #[.string a1, .string ((rd_T60 l0 x12_1).f0.f0)] rfl ?_; (with_reducible refine (fact_any.calls a1 ((rd_T60 l0 x12_1).f0.f0) false _ A7.out).mono ?_); rintro e w' ⟨rfl, ⟨nd, rfl⟩⟩; refine ⟨_, rfl, ?_⟩))
       go_roundg k1
       case measure => have := HK1.out; omega
       case rel => exact ⟨(x7_1), (wrap64 (x12_1 + 1)), (by first | rfl | (simp; done) | (simp [*]; done)), H', ⟨RFn.lk HK1⟩, ⟨by (with_reducible repeat (first | apply Kd.R_alloc | apply Kd.R_drewN | apply Kd.R_drew)); exact Kd.R_mono (Kd.R_far (p := ⟨gb182, 5, none⟩) (Kd.R_far (p := ⟨gb182, 4, none⟩) (Kd.R_far (p := ⟨gb182, 3, none⟩) (Kd.R_far (p := ⟨gb182, 2, none⟩) (Kd.R_far (p := ⟨gb182, 1, none⟩) (Kd.R_far (p := ⟨gb182, 0, none⟩) (Kd.R_mono HO_7.out (fun k_ hk => (⟨hk, hk.2⟩ : _ ∧ k_ ≠ gb182))) (fun _ hk => hk.2) (.string ((rd_T60 l0 x12_1).f0.f0))) (fun _ hk => hk.2) (.string ((rd_T60 l0 x12_1).f0.f1))) (fun _ hk => hk.2) (.string ((rd_T60 l0 x12_1).f0.f2))) (fun _ hk => hk.2) (.string ((rd_T60 l0 x12_1).f0.f3))) (fun _ hk => hk.2) (.int .i64 ((rd_T60 l0 x12_1).f0.f4))) (fun _ hk => hk.2) (.int .i64 ((rd_T60 l0 x12_1).f1))) (fun _ hk => trivial)⟩, ⟨RFn.bels⟩⟩
     ·rw [if_neg c6] at H
      exact absurd H (by simp)
    ·rw [if_neg c5] at H
     exact absurd H (by simp)
   ·rw [if_neg c4] at H
    have c4b0 : decide (x12_1 < (l0.length : Int)) = false := decide_eq_false c4
    clear c4
    obtain rfl := Option.some.inj H
    go_wp2
    go_ret
    exact ⟨_, by first | rfl | (simp [errW_none, errW_some] <;> rfl) | (simp [*, errW_none, errW_some] <;> rfl), RFn.mR HO_7, RFn.bel⟩
end Go.Proofs.Ytgheapbhakamaaa.Q
