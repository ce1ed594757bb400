/- printed by a program of this session (wip/tools/pr.sh): it is not a print of the kit -/
import Derived.Test.YtgheapbhakamaaaQx0
namespace Go.Proofs.Ytgheapbhakamaaa.Q
open Go.RowKit Go.Proofs.YtgheapbhakamaaaW.PrintWords Go.Proofs.YtgheapbhakamaaaW.PrintLast Go.Proofs.YtgheapbhakamaaaW.PrintMore
attribute [local go_sem] max2_int min2_int max_two min_two max_three min_three max_four min_four RFn.gtr_str   -- for this text's walks alone
set_option linter.unusedVariables false
set_option linter.unusedSimpArgs false
/-! ### law09_small: function 29 -/
def law09_small.l0 : Nat → List (S28) → Int → Int → Option (Bool)
 | 0, _, _, _ => none
 | k + 1, x5, x6, x7 => if x7 < x6 then (if 0 ≤ x7 then (if x7 < (x5.length : Int) then (if ((rd_T28 x5 x7).f1) > 4503599627370496 then (some false) else (if ((rd_T28 x5 x7).f1) < (-4503599627370496) then (some false) else (law09_small.l0 k x5 x6 (wrap64 (x7 + 1))))) else (none)) else (none)) else (some true)
def law09_small.f (k : Nat) (l0 : List (S28)) : Option (Bool) := law09_small.l0 k l0 (l0.length : Int) 0
theorem law09_small.mono_l : ∀ k, (∀ y0 y1 y2, LeO (law09_small.l0 k y0 y1 y2) (law09_small.l0 (k + 1) y0 y1 y2))
 | 0 => fun _ _ _ r h => by simp [law09_small.l0] at h
 | k + 1 => by
  have ih0 := law09_small.mono_l k
  ·intro y0 y1 y2
   unfold law09_small.l0
   repeat' first | exact LeO.refl _ | with_reducible first | apply ih0 | exact LeO.none _ | apply LeO.ite | refine LeO.bind ?_ fun _ => ?_
theorem law09_small.mono : ∀ a0 k, LeO (law09_small.f k a0) (law09_small.f (k + 1) a0) := by
 intro a0 k
 have ih0 := law09_small.mono_l k
 unfold law09_small.f
 repeat' first | exact LeO.refl _ | with_reducible first | apply ih0 | exact LeO.none _ | apply LeO.ite | refine LeO.bind ?_ fun _ => ?_
set_option maxHeartbeats 8000000 in
set_option maxRecDepth 100000 in
theorem law09_small.calls (k : Nat) (A0 : Option Addr) (c0 : Nat) (l0 : List (S28)) (r : Bool) (w : World) (hr0 : Kd.C k28 w A0 l0.length l0) (hc0 : l0.length ≤ c0) (h : law09_small.f k l0 = some r) :
  Calls Try.prog 29 #[.slice A0 l0.length c0] w fun e w' => e = .returned (.bool r) ∧ Below w.heap.size w w' := by
 have hu28 := Try.underlying28
 have HR0 := Aside0.mk hr0
 have HC0 := Aside0.mk hc0
 clear hr0 hc0
 have HB := Aside0.mk (Below.refl w.heap.size w)
 have H : (law09_small.l0 k l0 (l0.length : Int) 0) = some r := h
 clear h
 have H' := Aside0.mk H
 clear H
 go_enter Try.func29, Try.ntmps29
 go_wp2
 go_loopg [7] k (fun kq v7 w' => ∃ (x7_1 : Int), v7 = .int .i64 x7_1 ∧ Aside0 (law09_small.l0 kq l0 (l0.length : Int) x7_1 = some r) ∧ Aside0 (kq ≤ k) ∧ Aside0 (Below w.heap.size w w'))
 case atStart => exact ⟨(0), (by first | rfl | (simp; done) | (simp [*]; done)), H', ⟨Nat.le_refl _⟩, ⟨RFn.bel⟩⟩
 case round =>
  clear H'
  obtain ⟨x7_1, rfl, HA, HK1, HB⟩ := hrel
  cases gk with
  | zero => exact absurd HA.out (by simp [law09_small.l0])
  | succ k1 =>
   have H := HA.out
   clear HA
   simp only [law09_small.l0] at H
   by_cases c2 : x7_1 < (l0.length : Int)
   ·rw [if_pos c2] at H
    have c2b0 : decide (x7_1 < (l0.length : Int)) = true := decide_eq_true c2
    clear c2
    by_cases c3 : 0 ≤ x7_1
    ·rw [if_pos c3] at H
     have c3b0 : decide (0 ≤ x7_1) = true := decide_eq_true c3
     clear c3
     by_cases c4 : x7_1 < (l0.length : Int)
     ·rw [if_pos c4] at H
      have c4b0 : decide (x7_1 < (l0.length : Int)) = true := decide_eq_true c4
      clear c4
      by_cases c5 : ((rd_T28 l0 x7_1).f1) > 4503599627370496
      ·rw [if_pos c5] at H
       have c5b0 : decide (4503599627370496 < ((rd_T28 l0 x7_1).f1)) = true := decide_eq_true c5
       clear c5
       obtain rfl := Option.some.inj H
       have p447 : 0 ≤ (x7_1 : Int) := RFn.od
       have q447 : x7_1 < (l0.length : Int) := RFn.od
       obtain ⟨ad447, e447, hx447_0, hx447_1, hx447_2, hx447_3, hx447_4, hx447_5⟩ := at_T28 HR0.out x7_1 p447 q447
       cases e447
       replace hx447_0 := RFn.hb HB hx447_0
       replace hx447_1 := RFn.hb HB hx447_1
       replace hx447_2 := RFn.hb HB hx447_2
       replace hx447_3 := RFn.hb HB hx447_3
       replace hx447_4 := RFn.hb HB hx447_4
       replace hx447_5 := RFn.hb HB hx447_5
       replace p447 := eq_true p447
       replace q447 := eq_true q447
       go_wp2_with (first | ((with_reducible refine gate_dst (N := 4) rfl ?_); refine box_event ?hg (N := 4) ?hd (cs := #[.string (⟨#[]⟩ : ByteArray), .string (⟨#[]⟩ : ByteArray), .string (⟨#[]⟩ : ByteArray), .string (⟨#[]⟩ : ByteArray), .int .i64 0, .int .i64 0]) (t := 28) ?hr ?_; (case hd => rfl); (case hg => rfl); (case hr => first | (go_simp; done) | (go_simp; rfl)); intro gb448 hg w6 hbox hb; have n0_ := Aside0.mk (below_step (RFn.bel) hb); have n1_ := Aside0.mk (hbox); have n2_ := Aside0.mk ((by rw [hg]; exact (below_size (RFn.bel)) : w.heap.size ≤ gb448)); have n3_ := Aside0.mk ((by rw [hg]; exact (below_size (RFn.bel)) : w.heap.size ≤ gb448)); clear HB; have HB := n0_; have BK448 := n1_; have GW448 := n2_; have GE448 := n3_; clear n0_ n1_ n2_ n3_; clear hb hbox hg; obtain ⟨hcz7_0, hcz7_1, hcz7_2, hcz7_3, hcz7_4, hcz7_5⟩ := RFn.bc6 BK448; obtain ⟨hfz7_0, hfz7_1, hfz7_2, hfz7_3, hfz7_4, hfz7_5⟩ := RFn.bf6 BK448))
       go_ret
       exact ⟨by first | rfl | (simp [errW_none, errW_some] <;> rfl) | (simp [*, errW_none, errW_some] <;> rfl), RFn.bels⟩
      ·rw [if_neg c5] at H
       have c5b0 : decide (4503599627370496 < ((rd_T28 l0 x7_1).f1)) = false := decide_eq_false c5
       clear c5
       by_cases c8 : ((rd_T28 l0 x7_1).f1) < (-4503599627370496)
       ·rw [if_pos c8] at H
        have c8b0 : decide (((rd_T28 l0 x7_1).f1) < (-4503599627370496)) = true := decide_eq_true c8
        clear c8
        obtain rfl := Option.some.inj H
        have p447 : 0 ≤ (x7_1 : Int) := RFn.od
        have q447 : x7_1 < (l0.length : Int) := RFn.od
        obtain ⟨ad447, e447, hx447_0, hx447_1, hx447_2, hx447_3, hx447_4, hx447_5⟩ := at_T28 HR0.out x7_1 p447 q447
        cases e447
        replace hx447_0 := RFn.hb HB hx447_0
        replace hx447_1 := RFn.hb HB hx447_1
        replace hx447_2 := RFn.hb HB hx447_2
        replace hx447_3 := RFn.hb HB hx447_3
        replace hx447_4 := RFn.hb HB hx447_4
        replace hx447_5 := RFn.hb HB hx447_5
        replace p447 := eq_true p447
        replace q447 := eq_true q447
        go_wp2_with (first | ((with_reducible refine gate_dst (N := 4) rfl ?_); refine box_event ?hg (N := 4) ?hd (cs := #[.string (⟨#[]⟩ : ByteArray), .string (⟨#[]⟩ : ByteArray), .string (⟨#[]⟩ : ByteArray), .string (⟨#[]⟩ : ByteArray), .int .i64 0, .int .i64 0]) (t := 28) ?hr ?_; (case hd => rfl); (case hg => rfl); (case hr => first | (go_simp; done) | (go_simp; rfl)); intro gb448 hg w9 hbox hb; have n0_ := Aside0.mk (below_step (RFn.bel) hb); have n1_ := Aside0.mk (hbox); have n2_ := Aside0.mk ((by rw [hg]; exact (below_size (RFn.bel)) : w.heap.size ≤ gb448)); have n3_ := Aside0.mk ((by rw [hg]; exact (below_size (RFn.bel)) : w.heap.size ≤ gb448)); clear HB; have HB := n0_; have BK448 := n1_; have GW448 := n2_; have GE448 := n3_; clear n0_ n1_ n2_ n3_; clear hb hbox hg; obtain ⟨hcz10_0, hcz10_1, hcz10_2, hcz10_3, hcz10_4, hcz10_5⟩ := RFn.bc6 BK448; obtain ⟨hfz10_0, hfz10_1, hfz10_2, hfz10_3, hfz10_4, hfz10_5⟩ := RFn.bf6 BK448))
        go_ret
        exact ⟨by first | rfl | (simp [errW_none, errW_some] <;> rfl) | (simp [*, errW_none, errW_some] <;> rfl), RFn.bels⟩
       ·rw [if_neg c8] at H
        have c8b0 : decide (((rd_T28 l0 x7_1).f1) < (-4503599627370496)) = false := decide_eq_false c8
        clear c8
        have H' := Aside0.mk H
        clear H
        have p447 : 0 ≤ (x7_1 : Int) := RFn.od
        have q447 : x7_1 < (l0.length : Int) := RFn.od
        obtain ⟨ad447, e447, hx447_0, hx447_1, hx447_2, hx447_3, hx447_4, hx447_5⟩ := at_T28 HR0.out x7_1 p447 q447
        cases e447
        replace hx447_0 := RFn.hb HB hx447_0
        replace hx447_1 := RFn.hb HB hx447_1
        replace hx447_2 := RFn.hb HB hx447_2
        replace hx447_3 := RFn.hb HB hx447_3
        replace hx447_4 := RFn.hb HB hx447_4
        replace hx447_5 := RFn.hb HB hx447_5
        replace p447 := eq_true p447
        replace q447 := eq_true q447
        go_wp2_with (first | ((with_reducible refine gate_dst (N := 4) rfl ?_); refine box_event ?hg (N := 4) ?hd (cs := #[.string (⟨#[]⟩ : ByteArray), .string (⟨#[]⟩ : ByteArray), .string (⟨#[]⟩ : ByteArray), .string (⟨#[]⟩ : ByteArray), .int .i64 0, .int .i64 0]) (t := 28) ?hr ?_; (case hd => rfl); (case hg => rfl); (case hr => first | (go_simp; done) | (go_simp; rfl)); intro gb448 hg w11 hbox hb; have n0_ := Aside0.mk (below_step (RFn.bel) hb); have n1_ := Aside0.mk (hbox); have n2_ := Aside0.mk ((by rw [hg]; exact (below_size (RFn.bel)) : w.heap.size ≤ gb448)); have n3_ := Aside0.mk ((by rw [hg]; exact (below_size (RFn.bel)) : w.heap.size ≤ gb448)); clear HB; have HB := n0_; have BK448 := n1_; have GW448 := n2_; have GE448 := n3_; clear n0_ n1_ n2_ n3_; clear hb hbox hg; obtain ⟨hcz12_0, hcz12_1, hcz12_2, hcz12_3, hcz12_4, hcz12_5⟩ := RFn.bc6 BK448; obtain ⟨hfz12_0, hfz12_1, hfz12_2, hfz12_3, hfz12_4, hfz12_5⟩ := RFn.bf6 BK448))
        go_roundg k1
        case measure => have := HK1.out; omega
        case rel => exact ⟨(wrap64 (x7_1 + 1)), (by first | rfl | (simp; done) | (simp [*]; done)), H', ⟨RFn.lk HK1⟩, ⟨RFn.bels⟩⟩
     ·rw [if_neg c4] at H
      exact absurd H (by simp)
    ·rw [if_neg c3] at H
     exact absurd H (by simp)
   ·rw [if_neg c2] at H
    have c2b0 : decide (x7_1 < (l0.length : Int)) = false := decide_eq_false c2
    clear c2
    obtain rfl := Option.some.inj H
    go_wp2
    go_ret
    exact ⟨by first | rfl | (simp [errW_none, errW_some] <;> rfl) | (simp [*, errW_none, errW_some] <;> rfl), RFn.bel⟩
end Go.Proofs.Ytgheapbhakamaaa.Q
