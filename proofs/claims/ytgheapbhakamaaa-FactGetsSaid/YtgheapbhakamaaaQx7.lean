/- printed by a program of this session (wip/tools/pr.sh): it is not a print of the kit -/
import Derived.Test.YtgheapbhakamaaaQx0
import Derived.Test.YtgheapbhakamaaaQx3
namespace Go.Proofs.Ytgheapbhakamaaa.Q
open Go.RowKit Go.Proofs.YtgheapbhakamaaaW.PrintWords Go.Proofs.YtgheapbhakamaaaW.PrintLast Go.Proofs.YtgheapbhakamaaaW.PrintMore
attribute [local go_sem] max2_int min2_int max_two min_two max_three min_three max_four min_four RFn.gtr_str   -- for this text's walks alone
set_option linter.unusedVariables false
set_option linter.unusedSimpArgs false
/-! ### fact_Right: function 19 -/
def fact_Right.l0 : Nat → List (S60) → List (S60) → Int → Int → Option (Bool)
 | 0, _, _, _, _ => none
 | k + 1, x0, x5, x6, x7 => if x7 < x6 then (if 0 ≤ x7 then (if x7 < (x5.length : Int) then (if ((rd_T60 x5 x7).f1) = 0 then (some false) else (if x7 > 0 then (if 0 ≤ (wrap64 (x7 - 1)) then (if (wrap64 (x7 - 1)) < (x0.length : Int) then ((fact_Cmp.f k ((rd_T60 x0 (wrap64 (x7 - 1))).f0.f0) ((rd_T60 x0 (wrap64 (x7 - 1))).f0.f1) ((rd_T60 x0 (wrap64 (x7 - 1))).f0.f2) ((rd_T60 x0 (wrap64 (x7 - 1))).f0.f3) ((rd_T60 x0 (wrap64 (x7 - 1))).f0.f4) ((rd_T60 x5 x7).f0.f0) ((rd_T60 x5 x7).f0.f1) ((rd_T60 x5 x7).f0.f2) ((rd_T60 x5 x7).f0.f3) ((rd_T60 x5 x7).f0.f4)).bind fun t161 => (if t161 ≥ 0 then (some false) else (fact_Right.l0 k x0 x5 x6 (wrap64 (x7 + 1))))) else (none)) else (none)) else (fact_Right.l0 k x0 x5 x6 (wrap64 (x7 + 1))))) else (none)) else (none)) else (some (decide ((x0.length : Int) ≤ 2000)))
def fact_Right.f (k : Nat) (l0 : List (S60)) : Option (Bool) := fact_Right.l0 k l0 l0 (l0.length : Int) 0
theorem fact_Right.mono_l : ∀ k, (∀ y0 y1 y2 y3, LeO (fact_Right.l0 k y0 y1 y2 y3) (fact_Right.l0 (k + 1) y0 y1 y2 y3))
 | 0 => fun _ _ _ _ r h => by simp [fact_Right.l0] at h
 | k + 1 => by
  have ih0 := fact_Right.mono_l k
  ·intro y0 y1 y2 y3
   unfold fact_Right.l0
   repeat' first | exact LeO.refl _ | with_reducible first | apply ih0 | apply fact_Cmp.mono | exact LeO.none _ | apply LeO.ite | refine LeO.bind ?_ fun _ => ?_
theorem fact_Right.mono : ∀ a0 k, LeO (fact_Right.f k a0) (fact_Right.f (k + 1) a0) := by
 intro a0 k
 have ih0 := fact_Right.mono_l k
 unfold fact_Right.f
 repeat' first | exact LeO.refl _ | with_reducible first | apply ih0 | apply fact_Cmp.mono | exact LeO.none _ | apply LeO.ite | refine LeO.bind ?_ fun _ => ?_
def fact_Right.T4 : Bool × List (List Nat × List Nat) := (true, [([], []), ([0], [0]), ([1], [1]), ([2], [2]), ([3], [3]), ([4, 3], [3, 4]), ([5, 3, 3], [3, 5]), ([6], [6]), ([6], [6]), ([8, 6], [6, 8]), ([7, 9, 6], [6, 7, 9]), ([10, 6], [6, 10]), ([11, 6], [6, 11]), ([6], [6]), ([13, 6], [6, 13]), ([12, 14, 6, 6], [6, 12, 14]), ([15, 6], [6, 15]), ([6, 16, 3], [3, 6, 16]), ([3, 17], [3, 17])])
def fact_Right.B4 : List Nat := [0, 1, 3, 7, 15, 31, 63, 127, 127, 383, 1023, 2047, 4095, 127, 8319, 32767, 65535, 131071, 262143]
theorem fact_Right.tab4 : rtab .any (opsOf Try.f19 4) = fact_Right.T4 := by kernel_rfl
theorem fact_Right.bits4 : waitsOk fact_Right.T4.2 fact_Right.B4 = true := by kernel_rfl
set_option maxHeartbeats 8000000 in
set_option maxRecDepth 100000 in
theorem fact_Right.calls (k : Nat) (A0 : Option Addr) (c0 : Nat) (l0 : List (S60)) (r : Bool) (w : World) (hr0 : Kd.C k60 w A0 l0.length l0) (hc0 : l0.length ≤ c0) (h : fact_Right.f k l0 = some r) :
  Calls Try.prog 19 #[.slice A0 l0.length c0] w fun e w' => e = .returned (.bool r) ∧ Below w.heap.size w w' := by
 have hu60 := Try.underlying60
 have hu40 := Try.underlying40
 have HR0 := Aside0.mk hr0
 have HC0 := Aside0.mk hc0
 clear hr0 hc0
 have HB := Aside0.mk (Below.refl w.heap.size w)
 have H : (fact_Right.l0 k l0 l0 (l0.length : Int) 0) = some r := h
 clear h
 have H' := Aside0.mk H
 clear H
 go_enter Try.func19, Try.ntmps19
 go_wp2
 go_loopg [7] k (fun kq v7 w' => ∃ (x7_1 : Int), v7 = .int .i64 x7_1 ∧ Aside0 (fact_Right.l0 kq l0 l0 (l0.length : Int) x7_1 = some r) ∧ Aside0 (kq ≤ k) ∧ Aside0 (Below w.heap.size w w'))
 case atStart => exact ⟨(0), (by first | rfl | (simp; done) | (simp [*]; done)), H', ⟨Nat.le_refl _⟩, ⟨RFn.bel⟩⟩
 case round =>
  clear H'
  try clear c1
  obtain ⟨x7_1, rfl, HA, HK1, HB⟩ := hrel
  cases gk with
  | zero => exact absurd HA.out (by simp [fact_Right.l0])
  | succ k1 =>
   have H := HA.out
   clear HA
   simp only [fact_Right.l0] at H
   by_cases c2 : x7_1 < (l0.length : Int)
   ·rw [if_pos c2] at H
    have c2b0 : decide (x7_1 < (l0.length : Int)) = true := decide_eq_true c2
    clear c2
    by_cases c3 : 0 ≤ x7_1
    ·rw [if_pos c3] at H
     have c3b0 : decide (0 ≤ x7_1) = true := decide_eq_true c3
     clear c3
     by_cases c4 : x7_1 < (l0.length : Int)
     ·rw [if_pos c4] at H
      have c4b0 : decide (x7_1 < (l0.length : Int)) = true := decide_eq_true c4
      clear c4
      by_cases c5 : ((rd_T60 l0 x7_1).f1) = 0
      ·rw [if_pos c5] at H
       have c5b0 : (((rd_T60 l0 x7_1).f1) == 0) = true := beq_iff_eq.mpr c5
       have c5b1 : (((rd_T60 l0 x7_1).f1) != 0) = false := bne_eq_false_iff_eq.mpr c5
       clear c5
       obtain rfl := Option.some.inj H
       have p158 : 0 ≤ (x7_1 : Int) := RFn.od
       have q158 : x7_1 < (l0.length : Int) := RFn.od
       obtain ⟨ad158, e158, hx158_0, hx158_1, hx158_2, hx158_3, hx158_4, hx158_5⟩ := at_T60 HR0.out x7_1 p158 q158
       cases e158
       replace hx158_0 := RFn.hb HB hx158_0
       replace hx158_1 := RFn.hb HB hx158_1
       replace hx158_2 := RFn.hb HB hx158_2
       replace hx158_3 := RFn.hb HB hx158_3
       replace hx158_4 := RFn.hb HB hx158_4
       replace hx158_5 := RFn.hb HB hx158_5
       replace p158 := eq_true p158
       replace q158 := eq_true q158
       try go_wp2_with (first | ((with_reducible refine gate_dst (N := 4) rfl ?_); refine box_event ?hg (N := 4) ?hd (cs := #[.string (⟨#[]⟩ : ByteArray), .string (⟨#[]⟩ : ByteArray), .string (⟨#[]⟩ : ByteArray), .string (⟨#[]⟩ : ByteArray), .int .i64 0, .int .i64 0]) (t := 60) ?hr ?_; (case hd => rfl); (case hg => rfl); (case hr => first | (go_simp; done) | (go_simp; rfl)); intro gb159 hg w6 hbox hb; have n0_ := Aside0.mk (below_step (RFn.bel) hb); have n1_ := Aside0.mk (hbox); have n2_ := Aside0.mk ((by rw [hg]; exact (below_size (RFn.bel)) : w.heap.size ≤ gb159)); have n3_ := Aside0.mk ((by rw [hg]; exact (below_size (RFn.bel)) : w.heap.size ≤ gb159)); clear HB; have HB := n0_; have BK159 := n1_; have GW159 := n2_; have GE159 := n3_; clear n0_ n1_ n2_ n3_; clear hb hbox hg; obtain ⟨hcz7_0, hcz7_1, hcz7_2, hcz7_3, hcz7_4, hcz7_5⟩ := RFn.bc6 BK159; obtain ⟨hfz7_0, hfz7_1, hfz7_2, hfz7_3, hfz7_4, hfz7_5⟩ := RFn.bf6 BK159))
       have n0_ : Aside0 (((((((w6.setCell ⟨gb159, 0, none⟩ (.string ((rd_T60 l0 x7_1).f0.f0))).setCell ⟨gb159, 1, none⟩ (.string ((rd_T60 l0 x7_1).f0.f1))).setCell ⟨gb159, 2, none⟩ (.string ((rd_T60 l0 x7_1).f0.f2))).setCell ⟨gb159, 3, none⟩ (.string ((rd_T60 l0 x7_1).f0.f3))).setCell ⟨gb159, 4, none⟩ (.int .i64 ((rd_T60 l0 x7_1).f0.f4))).setCell ⟨gb159, 5, none⟩ (.int .i64 ((rd_T60 l0 x7_1).f1))).heap[gb159]? = some (.cells #[.string ((rd_T60 l0 x7_1).f0.f0), .string ((rd_T60 l0 x7_1).f0.f1), .string ((rd_T60 l0 x7_1).f0.f2), .string ((rd_T60 l0 x7_1).f0.f3), .int .i64 ((rd_T60 l0 x7_1).f0.f4), .int .i64 ((rd_T60 l0 x7_1).f1)] 60 (0, 0))) := ⟨by refine RFn.d3 ?_; refine blk_put (cs := #[.string ((rd_T60 l0 x7_1).f0.f0), .string ((rd_T60 l0 x7_1).f0.f1), .string ((rd_T60 l0 x7_1).f0.f2), .string ((rd_T60 l0 x7_1).f0.f3), .int .i64 ((rd_T60 l0 x7_1).f0.f4), .int .i64 0]) ?_ 5 _ rfl; refine RFn.d3 ?_; refine blk_put (cs := #[.string ((rd_T60 l0 x7_1).f0.f0), .string ((rd_T60 l0 x7_1).f0.f1), .string ((rd_T60 l0 x7_1).f0.f2), .string ((rd_T60 l0 x7_1).f0.f3), .int .i64 0, .int .i64 0]) ?_ 4 _ rfl; refine RFn.d3 ?_; refine blk_put (cs := #[.string ((rd_T60 l0 x7_1).f0.f0), .string ((rd_T60 l0 x7_1).f0.f1), .string ((rd_T60 l0 x7_1).f0.f2), .string (⟨#[]⟩ : ByteArray), .int .i64 0, .int .i64 0]) ?_ 3 _ rfl; refine RFn.d3 ?_; refine blk_put (cs := #[.string ((rd_T60 l0 x7_1).f0.f0), .string ((rd_T60 l0 x7_1).f0.f1), .string (⟨#[]⟩ : ByteArray), .string (⟨#[]⟩ : ByteArray), .int .i64 0, .int .i64 0]) ?_ 2 _ rfl; refine RFn.d3 ?_; refine blk_put (cs := #[.string ((rd_T60 l0 x7_1).f0.f0), .string (⟨#[]⟩ : ByteArray), .string (⟨#[]⟩ : ByteArray), .string (⟨#[]⟩ : ByteArray), .int .i64 0, .int .i64 0]) ?_ 1 _ rfl; refine RFn.d3 ?_; refine blk_put (cs := #[.string (⟨#[]⟩ : ByteArray), .string (⟨#[]⟩ : ByteArray), .string (⟨#[]⟩ : ByteArray), .string (⟨#[]⟩ : ByteArray), .int .i64 0, .int .i64 0]) ?_ 0 _ rfl; refine RFn.d3 ?_; exact BK159.out⟩
       have n1_ : Aside0 (Below w.heap.size w ((((((w6.setCell ⟨gb159, 0, none⟩ (.string ((rd_T60 l0 x7_1).f0.f0))).setCell ⟨gb159, 1, none⟩ (.string ((rd_T60 l0 x7_1).f0.f1))).setCell ⟨gb159, 2, none⟩ (.string ((rd_T60 l0 x7_1).f0.f2))).setCell ⟨gb159, 3, none⟩ (.string ((rd_T60 l0 x7_1).f0.f3))).setCell ⟨gb159, 4, none⟩ (.int .i64 ((rd_T60 l0 x7_1).f0.f4))).setCell ⟨gb159, 5, none⟩ (.int .i64 ((rd_T60 l0 x7_1).f1)))) := ⟨RFn.bels⟩
       (try clear BK159)
       (try clear HB)
       generalize ((((((w6.setCell ⟨gb159, 0, none⟩ (.string ((rd_T60 l0 x7_1).f0.f0))).setCell ⟨gb159, 1, none⟩ (.string ((rd_T60 l0 x7_1).f0.f1))).setCell ⟨gb159, 2, none⟩ (.string ((rd_T60 l0 x7_1).f0.f2))).setCell ⟨gb159, 3, none⟩ (.string ((rd_T60 l0 x7_1).f0.f3))).setCell ⟨gb159, 4, none⟩ (.int .i64 ((rd_T60 l0 x7_1).f0.f4))).setCell ⟨gb159, 5, none⟩ (.int .i64 ((rd_T60 l0 x7_1).f1))) = w8 at n0_ n1_ ⊢
       have BK159 := n0_
       have HB := n1_
       clear n0_ n1_
       have n0_ := Aside0.mk (blk_drew BK159.out)
       have n1_ := Aside0.mk (below_drew1 HB.out)
       clear BK159
       clear HB
       have BK159 := n0_
       have HB := n1_
       clear n0_ n1_
       refine start_ (n := 19) (S := fun w' => w'.cell? ⟨gb159, 0, none⟩ = some (.string ((rd_T60 l0 x7_1).f0.f0)) ∧ w'.cell? ⟨gb159, 1, none⟩ = some (.string ((rd_T60 l0 x7_1).f0.f1)) ∧ w'.cell? ⟨gb159, 2, none⟩ = some (.string ((rd_T60 l0 x7_1).f0.f2)) ∧ w'.cell? ⟨gb159, 3, none⟩ = some (.string ((rd_T60 l0 x7_1).f0.f3)) ∧ w'.cell? ⟨gb159, 4, none⟩ = some (.int .i64 ((rd_T60 l0 x7_1).f0.f4)) ∧ w'.cell? ⟨gb159, 5, none⟩ = some (.int .i64 ((rd_T60 l0 x7_1).f1))) (ds := []) (bs 19 0) (by kernel_rfl) rfl rfl (RFn.bc6 BK159) (fun hHeld => ?_); refine with_tabW fact_Right.tab4 fact_Right.bits4 (fun HT_ HW_ => ?_)
       generalize w8.drew = w9 at BK159 HB hHeld ⊢
       refine RFn.pA (i := 0) (N := some 12) (bs 19 1) HT_ ?_
       refine RFn.tA (i := 1) (N := some 13) (bs 19 3) rfl HT_ HW_ hHeld (by rintro w' ⟨s0, s1, s2, s3, s4, s5⟩; go_simp; with_reducible rfl) ?_
       refine RFn.pA (i := 2) (N := some 14) (bs 19 7) HT_ ?_
       refine RFn.pA (i := 3) (N := some 15) (bs 19 15) HT_ ?_
       refine RFn.pU (i := 4) (N := some 16) (bs 19 31) HT_ ?_
       refine RFn.pU (i := 5) (N := some 17) (bs 19 63) HT_ ?_
       refine RFn.pU (i := 6) (N := some 18) (bs 19 127) HT_ ?_
       refine RFn.pU (i := 7) (N := some 19) (bs 19 255) HT_ ?_
       refine RFn.pU (i := 8) (N := some 20) (bs 19 511) HT_ ?_
       refine RFn.pU (i := 9) (N := some 21) (bs 19 1023) HT_ ?_
       refine RFn.pU (i := 10) (N := some 22) (bs 19 2047) HT_ ?_
       refine RFn.pU (i := 11) (N := some 23) (bs 19 4095) HT_ ?_
       refine RFn.pU (i := 12) (N := some 24) (bs 19 8191) HT_ ?_
       refine RFn.pU (i := 13) (N := some 25) (bs 19 16383) HT_ ?_
       refine RFn.pU (i := 14) (N := some 26) (bs 19 32767) HT_ ?_
       refine RFn.pU (i := 15) (N := some 27) (bs 19 65535) HT_ ?_
       refine RFn.pU (i := 16) (N := some 28) (bs 19 131071) HT_ ?_
       refine RFn.pU (i := 17) (N := some 29) (bs 19 262143) HT_ ?_
       refine RFn.pA (i := 18) (N := some 30) (bs 19 524287) HT_ ?_
       refine RFn.dn HT_ ?_
       try go_wp2
       go_ret
       exact ⟨by first | rfl | (simp [errW_none, errW_some] <;> rfl) | (simp [*, errW_none, errW_some] <;> rfl), RFn.bels⟩
      ·rw [if_neg c5] at H
       have c5b0 : (((rd_T60 l0 x7_1).f1) == 0) = false := beq_eq_false_iff_ne.mpr c5
       have c5b1 : (((rd_T60 l0 x7_1).f1) != 0) = true := bne_iff_ne.mpr c5
       by_cases c10 : x7_1 > 0
       ·rw [if_pos c10] at H
        have c10b0 : decide (0 < x7_1) = true := decide_eq_true c10
        clear c10
        obtain ⟨ji11, hji11⟩ : ∃ j_ : Int, (wrap64 (x7_1 - 1)) = j_ := ⟨_, rfl⟩
        replace H : (if 0 ≤ (ji11) then (if (ji11) < (l0.length : Int) then ((fact_Cmp.f k1 ((rd_T60 l0 (ji11)).f0.f0) ((rd_T60 l0 (ji11)).f0.f1) ((rd_T60 l0 (ji11)).f0.f2) ((rd_T60 l0 (ji11)).f0.f3) ((rd_T60 l0 (ji11)).f0.f4) ((rd_T60 l0 x7_1).f0.f0) ((rd_T60 l0 x7_1).f0.f1) ((rd_T60 l0 x7_1).f0.f2) ((rd_T60 l0 x7_1).f0.f3) ((rd_T60 l0 x7_1).f0.f4)).bind fun t161 => (if t161 ≥ 0 then (some false) else (fact_Right.l0 k1 l0 l0 (l0.length : Int) (wrap64 (x7_1 + 1))))) else (none)) else (none)) = some r := by first | (rw [hji11] at H; exact H) | (simp only [hji11] at H ⊢; exact H)
        have hji11w : (IntKind.i64.wrap (x7_1 - 1)) = ji11 := (i64_w _).trans hji11
        by_cases c12 : 0 ≤ (ji11)
        ·rw [if_pos c12] at H
         have c12b0 : decide (0 ≤ (ji11)) = true := decide_eq_true c12
         clear c12
         by_cases c13 : (ji11) < (l0.length : Int)
         ·rw [if_pos c13] at H
          have c13b0 : decide ((ji11) < (l0.length : Int)) = true := decide_eq_true c13
          clear c13
          obtain ⟨t161, A14, H⟩ := RFn.bn H
          by_cases c15 : t161 ≥ 0
          ·rw [if_pos c15] at H
           have c15b0 : decide (0 ≤ t161) = true := decide_eq_true c15
           clear c15
           obtain rfl := Option.some.inj H
           have p158 : 0 ≤ (x7_1 : Int) := RFn.od
           have q158 : x7_1 < (l0.length : Int) := RFn.od
           obtain ⟨ad158, e158, hx158_0, hx158_1, hx158_2, hx158_3, hx158_4, hx158_5⟩ := at_T60 HR0.out x7_1 p158 q158
           cases e158
           replace hx158_0 := RFn.hb HB hx158_0
           replace hx158_1 := RFn.hb HB hx158_1
           replace hx158_2 := RFn.hb HB hx158_2
           replace hx158_3 := RFn.hb HB hx158_3
           replace hx158_4 := RFn.hb HB hx158_4
           replace hx158_5 := RFn.hb HB hx158_5
           replace p158 := eq_true p158
           replace q158 := eq_true q158
           try go_wp2_with (first | ((with_reducible refine gate_dst (N := 4) rfl ?_); refine box_event ?hg (N := 4) ?hd (cs := #[.string (⟨#[]⟩ : ByteArray), .string (⟨#[]⟩ : ByteArray), .string (⟨#[]⟩ : ByteArray), .string (⟨#[]⟩ : ByteArray), .int .i64 0, .int .i64 0]) (t := 60) ?hr ?_; (case hd => rfl); (case hg => rfl); (case hr => first | (go_simp; done) | (go_simp; rfl)); intro gb159 hg w16 hbox hb; have n0_ := Aside0.mk (below_step (RFn.bel) hb); have n1_ := Aside0.mk (hbox); have n2_ := Aside0.mk ((by rw [hg]; exact (below_size (RFn.bel)) : w.heap.size ≤ gb159)); have n3_ := Aside0.mk ((by rw [hg]; exact (below_size (RFn.bel)) : w.heap.size ≤ gb159)); clear HB; have HB := n0_; have BK159 := n1_; have GW159 := n2_; have GE159 := n3_; clear n0_ n1_ n2_ n3_; clear hb hbox hg; obtain ⟨hcz17_0, hcz17_1, hcz17_2, hcz17_3, hcz17_4, hcz17_5⟩ := RFn.bc6 BK159; obtain ⟨hfz17_0, hfz17_1, hfz17_2, hfz17_3, hfz17_4, hfz17_5⟩ := RFn.bf6 BK159))
           have n0_ : Aside0 (((((((w16.setCell ⟨gb159, 0, none⟩ (.string ((rd_T60 l0 x7_1).f0.f0))).setCell ⟨gb159, 1, none⟩ (.string ((rd_T60 l0 x7_1).f0.f1))).setCell ⟨gb159, 2, none⟩ (.string ((rd_T60 l0 x7_1).f0.f2))).setCell ⟨gb159, 3, none⟩ (.string ((rd_T60 l0 x7_1).f0.f3))).setCell ⟨gb159, 4, none⟩ (.int .i64 ((rd_T60 l0 x7_1).f0.f4))).setCell ⟨gb159, 5, none⟩ (.int .i64 ((rd_T60 l0 x7_1).f1))).heap[gb159]? = some (.cells #[.string ((rd_T60 l0 x7_1).f0.f0), .string ((rd_T60 l0 x7_1).f0.f1), .string ((rd_T60 l0 x7_1).f0.f2), .string ((rd_T60 l0 x7_1).f0.f3), .int .i64 ((rd_T60 l0 x7_1).f0.f4), .int .i64 ((rd_T60 l0 x7_1).f1)] 60 (0, 0))) := ⟨by refine RFn.d3 ?_; refine blk_put (cs := #[.string ((rd_T60 l0 x7_1).f0.f0), .string ((rd_T60 l0 x7_1).f0.f1), .string ((rd_T60 l0 x7_1).f0.f2), .string ((rd_T60 l0 x7_1).f0.f3), .int .i64 ((rd_T60 l0 x7_1).f0.f4), .int .i64 0]) ?_ 5 _ rfl; refine RFn.d3 ?_; refine blk_put (cs := #[.string ((rd_T60 l0 x7_1).f0.f0), .string ((rd_T60 l0 x7_1).f0.f1), .string ((rd_T60 l0 x7_1).f0.f2), .string ((rd_T60 l0 x7_1).f0.f3), .int .i64 0, .int .i64 0]) ?_ 4 _ rfl; refine RFn.d3 ?_; refine blk_put (cs := #[.string ((rd_T60 l0 x7_1).f0.f0), .string ((rd_T60 l0 x7_1).f0.f1), .string ((rd_T60 l0 x7_1).f0.f2), .string (⟨#[]⟩ : ByteArray), .int .i64 0, .int .i64 0]) ?_ 3 _ rfl; refine RFn.d3 ?_; refine blk_put (cs := #[.string ((rd_T60 l0 x7_1).f0.f0), .string ((rd_T60 l0 x7_1).f0.f1), .string (⟨#[]⟩ : ByteArray), .string (⟨#[]⟩ : ByteArray), .int .i64 0, .int .i64 0]) ?_ 2 _ rfl; refine RFn.d3 ?_; refine blk_put (cs := #[.string ((rd_T60 l0 x7_1).f0.f0), .string (⟨#[]⟩ : ByteArray), .string (⟨#[]⟩ : ByteArray), .string (⟨#[]⟩ : ByteArray), .int .i64 0, .int .i64 0]) ?_ 1 _ rfl; refine RFn.d3 ?_; refine blk_put (cs := #[.string (⟨#[]⟩ : ByteArray), .string (⟨#[]⟩ : ByteArray), .string (⟨#[]⟩ : ByteArray), .string (⟨#[]⟩ : ByteArray), .int .i64 0, .int .i64 0]) ?_ 0 _ rfl; refine RFn.d3 ?_; exact BK159.out⟩
           have n1_ : Aside0 (Below w.heap.size w ((((((w16.setCell ⟨gb159, 0, none⟩ (.string ((rd_T60 l0 x7_1).f0.f0))).setCell ⟨gb159, 1, none⟩ (.string ((rd_T60 l0 x7_1).f0.f1))).setCell ⟨gb159, 2, none⟩ (.string ((rd_T60 l0 x7_1).f0.f2))).setCell ⟨gb159, 3, none⟩ (.string ((rd_T60 l0 x7_1).f0.f3))).setCell ⟨gb159, 4, none⟩ (.int .i64 ((rd_T60 l0 x7_1).f0.f4))).setCell ⟨gb159, 5, none⟩ (.int .i64 ((rd_T60 l0 x7_1).f1)))) := ⟨RFn.bels⟩
           (try clear BK159)
           (try clear HB)
           generalize ((((((w16.setCell ⟨gb159, 0, none⟩ (.string ((rd_T60 l0 x7_1).f0.f0))).setCell ⟨gb159, 1, none⟩ (.string ((rd_T60 l0 x7_1).f0.f1))).setCell ⟨gb159, 2, none⟩ (.string ((rd_T60 l0 x7_1).f0.f2))).setCell ⟨gb159, 3, none⟩ (.string ((rd_T60 l0 x7_1).f0.f3))).setCell ⟨gb159, 4, none⟩ (.int .i64 ((rd_T60 l0 x7_1).f0.f4))).setCell ⟨gb159, 5, none⟩ (.int .i64 ((rd_T60 l0 x7_1).f1))) = w18 at n0_ n1_ ⊢
           have BK159 := n0_
           have HB := n1_
           clear n0_ n1_
           have n0_ := Aside0.mk (blk_drew BK159.out)
           have n1_ := Aside0.mk (below_drew1 HB.out)
           clear BK159
           clear HB
           have BK159 := n0_
           have HB := n1_
           clear n0_ n1_
           have p160 : 0 ≤ ((ji11) : Int) := RFn.od
           have q160 : (ji11) < (l0.length : Int) := RFn.od
           obtain ⟨ad160, e160, hx160_0, hx160_1, hx160_2, hx160_3, hx160_4, hx160_5⟩ := at_T60 HR0.out (ji11) p160 q160
           have hw160_5 := hx160_5
           have hw160_4 := hx160_4
           have hw160_3 := hx160_3
           have hw160_2 := hx160_2
           have hw160_1 := hx160_1
           have hw160_0 := hx160_0
           obtain rfl : ad158 = ad160 := (by injection e160)
           replace hx160_0 := RFn.hb HB hx160_0
           replace hx160_1 := RFn.hb HB hx160_1
           replace hx160_2 := RFn.hb HB hx160_2
           replace hx160_3 := RFn.hb HB hx160_3
           replace hx160_4 := RFn.hb HB hx160_4
           replace hx160_5 := RFn.hb HB hx160_5
           replace p160 := eq_true p160
           replace q160 := eq_true q160
           refine start_ (n := 19) (S := fun w' => w'.cell? ⟨gb159, 0, none⟩ = some (.string ((rd_T60 l0 x7_1).f0.f0)) ∧ w'.cell? ⟨gb159, 1, none⟩ = some (.string ((rd_T60 l0 x7_1).f0.f1)) ∧ w'.cell? ⟨gb159, 2, none⟩ = some (.string ((rd_T60 l0 x7_1).f0.f2)) ∧ w'.cell? ⟨gb159, 3, none⟩ = some (.string ((rd_T60 l0 x7_1).f0.f3)) ∧ w'.cell? ⟨gb159, 4, none⟩ = some (.int .i64 ((rd_T60 l0 x7_1).f0.f4)) ∧ w'.cell? ⟨gb159, 5, none⟩ = some (.int .i64 ((rd_T60 l0 x7_1).f1)) ∧ w'.cell? (ad158.add (((ji11)).toNat * 6)) = some (.string ((rd_T60 l0 (ji11)).f0.f0)) ∧ w'.cell? ⟨(ad158.add (((ji11)).toNat * 6)).block, (ad158.add (((ji11)).toNat * 6)).off + 1, none⟩ = some (.string ((rd_T60 l0 (ji11)).f0.f1)) ∧ w'.cell? ⟨(ad158.add (((ji11)).toNat * 6)).block, (ad158.add (((ji11)).toNat * 6)).off + 2, none⟩ = some (.string ((rd_T60 l0 (ji11)).f0.f2)) ∧ w'.cell? ⟨(ad158.add (((ji11)).toNat * 6)).block, (ad158.add (((ji11)).toNat * 6)).off + 3, none⟩ = some (.string ((rd_T60 l0 (ji11)).f0.f3)) ∧ w'.cell? ⟨(ad158.add (((ji11)).toNat * 6)).block, (ad158.add (((ji11)).toNat * 6)).off + 4, none⟩ = some (.int .i64 ((rd_T60 l0 (ji11)).f0.f4)) ∧ w'.cell? ⟨(ad158.add (((ji11)).toNat * 6)).block, (ad158.add (((ji11)).toNat * 6)).off + 5, none⟩ = some (.int .i64 ((rd_T60 l0 (ji11)).f1))) (ds := []) (bs 19 0) (by kernel_rfl) rfl rfl ⟨(blk_cell BK159.out 0).trans rfl, (blk_cell BK159.out 1).trans rfl, (blk_cell BK159.out 2).trans rfl, (blk_cell BK159.out 3).trans rfl, (blk_cell BK159.out 4).trans rfl, (blk_cell BK159.out 5).trans rfl, (RFn.hb HB hw160_0), (RFn.hb HB hw160_1), (RFn.hb HB hw160_2), (RFn.hb HB hw160_3), (RFn.hb HB hw160_4), (RFn.hb HB hw160_5)⟩ (fun hHeld => ?_); refine with_tabW fact_Right.tab4 fact_Right.bits4 (fun HT_ HW_ => ?_)
           generalize w18.drew = w19 at BK159 HB hx160_0 hx160_1 hx160_2 hx160_3 hx160_4 hx160_5 hHeld ⊢
           refine RFn.pA (i := 0) (N := some 12) (bs 19 1) HT_ ?_
           refine RFn.tA (i := 1) (N := some 13) (bs 19 3) rfl HT_ HW_ hHeld (by rintro w' ⟨s0, s1, s2, s3, s4, s5, s6, s7, s8, s9, s10, s11⟩; go_simp; with_reducible rfl) ?_
           refine RFn.pA (i := 2) (N := some 14) (bs 19 7) HT_ ?_
           refine RFn.pA (i := 3) (N := some 15) (bs 19 15) HT_ ?_
           refine RFn.pA (i := 4) (N := some 16) (bs 19 31) HT_ ?_
           refine RFn.pA (i := 5) (N := some 17) (bs 19 63) HT_ ?_
           refine RFn.pA (i := 6) (N := some 18) (bs 19 127) HT_ ?_
           refine RFn.pA (i := 7) (N := some 19) (bs 19 255) HT_ ?_
           refine RFn.pA (i := 8) (N := some 20) (bs 19 511) HT_ ?_
           refine RFn.pA (i := 9) (N := some 21) (bs 19 1023) HT_ ?_
           refine RFn.pA (i := 10) (N := some 22) (bs 19 2047) HT_ ?_
           refine RFn.pA (i := 11) (N := some 23) (bs 19 4095) HT_ ?_
           refine RFn.pA (i := 13) (N := some 25) (bs 19 12287) HT_ ?_
           refine RFn.tA (i := 12) (N := some 24) (bs 19 16383) rfl HT_ HW_ hHeld (by rintro w' ⟨s0, s1, s2, s3, s4, s5, s6, s7, s8, s9, s10, s11⟩; go_simp; with_reducible rfl) ?_
           refine RFn.tA (i := 14) (N := some 26) (bs 19 32767) rfl HT_ HW_ hHeld (by rintro w' ⟨s0, s1, s2, s3, s4, s5, s6, s7, s8, s9, s10, s11⟩; go_simp; with_reducible rfl) ?_
           refine RFn.o1 (i := 15) (N := some 27) (bs 19 65535) HT_ fun K hK => ?_
           refine goes_ Try.func17 (by kernel_rfl) rfl #[.agg #[.string ((rd_T60 l0 (ji11)).f0.f0), .string ((rd_T60 l0 (ji11)).f0.f1), .string ((rd_T60 l0 (ji11)).f0.f2), .string ((rd_T60 l0 (ji11)).f0.f3), .int .i64 ((rd_T60 l0 (ji11)).f0.f4)], .agg #[.string ((rd_T60 l0 x7_1).f0.f0), .string ((rd_T60 l0 x7_1).f0.f1), .string ((rd_T60 l0 x7_1).f0.f2), .string ((rd_T60 l0 x7_1).f0.f3), .int .i64 ((rd_T60 l0 x7_1).f0.f4)]] (by rfl) rfl rfl (by (try simp only [List.map_toArray, List.map_cons, List.map_nil]); first | done | (simp only [hji11]; rfl) | rfl | (simp only [List.length_drop, List.length_take]; rfl)) ?_
           with_reducible refine (fact_Cmp.calls k1 ((rd_T60 l0 (ji11)).f0.f0) ((rd_T60 l0 (ji11)).f0.f1) ((rd_T60 l0 (ji11)).f0.f2) ((rd_T60 l0 (ji11)).f0.f3) ((rd_T60 l0 (ji11)).f0.f4) ((rd_T60 l0 x7_1).f0.f0) ((rd_T60 l0 x7_1).f0.f1) ((rd_T60 l0 x7_1).f0.f2) ((rd_T60 l0 x7_1).f0.f3) ((rd_T60 l0 x7_1).f0.f4) t161 _ A14.out).mono ?_
           rintro e w20 ⟨rfl, hb⟩
           refine ⟨_, rfl, ?_⟩
           have n0_ := Aside0.mk (blk_below (g := gb159) RFn.blk hb)
           have n1_ := Aside0.mk (below_step RFn.bels hb)
           clear BK159
           clear HB
           have BK159 := n0_
           have HB := n1_
           clear n0_ n1_
           (try clear hb)
           (try clear hb2)
           (try clear hk)
           (try clear hi)
           refine hK.out _ _ ⟨(blk_cell BK159.out 0).trans rfl, (blk_cell BK159.out 1).trans rfl, (blk_cell BK159.out 2).trans rfl, (blk_cell BK159.out 3).trans rfl, (blk_cell BK159.out 4).trans rfl, (blk_cell BK159.out 5).trans rfl, (RFn.hb HB hw160_0), (RFn.hb HB hw160_1), (RFn.hb HB hw160_2), (RFn.hb HB hw160_3), (RFn.hb HB hw160_4), (RFn.hb HB hw160_5)⟩ (fun hHeld => ?_)
           clear hK K
           refine RFn.nm (some 27) ?_
           refine RFn.pA (i := 16) (N := some 28) (bs 19 131071) HT_ ?_
           refine RFn.pA (i := 17) (N := some 29) (bs 19 262143) HT_ ?_
           refine RFn.pA (i := 18) (N := some 30) (bs 19 524287) HT_ ?_
           refine RFn.dn HT_ ?_
           try go_wp2
           go_ret
           exact ⟨by first | rfl | (simp [errW_none, errW_some] <;> rfl) | (simp only [← hji11]; first | rfl | (simp [errW_none, errW_some] <;> rfl)) | (simp [*, errW_none, errW_some] <;> rfl), RFn.bels⟩
          ·rw [if_neg c15] at H
           have c15b0 : decide (0 ≤ t161) = false := decide_eq_false c15
           clear c15
           have H' := Aside0.mk H
           clear H
           have p158 : 0 ≤ (x7_1 : Int) := RFn.od
           have q158 : x7_1 < (l0.length : Int) := RFn.od
           obtain ⟨ad158, e158, hx158_0, hx158_1, hx158_2, hx158_3, hx158_4, hx158_5⟩ := at_T60 HR0.out x7_1 p158 q158
           cases e158
           replace hx158_0 := RFn.hb HB hx158_0
           replace hx158_1 := RFn.hb HB hx158_1
           replace hx158_2 := RFn.hb HB hx158_2
           replace hx158_3 := RFn.hb HB hx158_3
           replace hx158_4 := RFn.hb HB hx158_4
           replace hx158_5 := RFn.hb HB hx158_5
           replace p158 := eq_true p158
           replace q158 := eq_true q158
           try go_wp2_with (first | ((with_reducible refine gate_dst (N := 4) rfl ?_); refine box_event ?hg (N := 4) ?hd (cs := #[.string (⟨#[]⟩ : ByteArray), .string (⟨#[]⟩ : ByteArray), .string (⟨#[]⟩ : ByteArray), .string (⟨#[]⟩ : ByteArray), .int .i64 0, .int .i64 0]) (t := 60) ?hr ?_; (case hd => rfl); (case hg => rfl); (case hr => first | (go_simp; done) | (go_simp; rfl)); intro gb159 hg w21 hbox hb; have n0_ := Aside0.mk (below_step (RFn.bel) hb); have n1_ := Aside0.mk (hbox); have n2_ := Aside0.mk ((by rw [hg]; exact (below_size (RFn.bel)) : w.heap.size ≤ gb159)); have n3_ := Aside0.mk ((by rw [hg]; exact (below_size (RFn.bel)) : w.heap.size ≤ gb159)); clear HB; have HB := n0_; have BK159 := n1_; have GW159 := n2_; have GE159 := n3_; clear n0_ n1_ n2_ n3_; clear hb hbox hg; obtain ⟨hcz22_0, hcz22_1, hcz22_2, hcz22_3, hcz22_4, hcz22_5⟩ := RFn.bc6 BK159; obtain ⟨hfz22_0, hfz22_1, hfz22_2, hfz22_3, hfz22_4, hfz22_5⟩ := RFn.bf6 BK159))
           have n0_ : Aside0 (((((((w21.setCell ⟨gb159, 0, none⟩ (.string ((rd_T60 l0 x7_1).f0.f0))).setCell ⟨gb159, 1, none⟩ (.string ((rd_T60 l0 x7_1).f0.f1))).setCell ⟨gb159, 2, none⟩ (.string ((rd_T60 l0 x7_1).f0.f2))).setCell ⟨gb159, 3, none⟩ (.string ((rd_T60 l0 x7_1).f0.f3))).setCell ⟨gb159, 4, none⟩ (.int .i64 ((rd_T60 l0 x7_1).f0.f4))).setCell ⟨gb159, 5, none⟩ (.int .i64 ((rd_T60 l0 x7_1).f1))).heap[gb159]? = some (.cells #[.string ((rd_T60 l0 x7_1).f0.f0), .string ((rd_T60 l0 x7_1).f0.f1), .string ((rd_T60 l0 x7_1).f0.f2), .string ((rd_T60 l0 x7_1).f0.f3), .int .i64 ((rd_T60 l0 x7_1).f0.f4), .int .i64 ((rd_T60 l0 x7_1).f1)] 60 (0, 0))) := ⟨by refine RFn.d3 ?_; refine blk_put (cs := #[.string ((rd_T60 l0 x7_1).f0.f0), .string ((rd_T60 l0 x7_1).f0.f1), .string ((rd_T60 l0 x7_1).f0.f2), .string ((rd_T60 l0 x7_1).f0.f3), .int .i64 ((rd_T60 l0 x7_1).f0.f4), .int .i64 0]) ?_ 5 _ rfl; refine RFn.d3 ?_; refine blk_put (cs := #[.string ((rd_T60 l0 x7_1).f0.f0), .string ((rd_T60 l0 x7_1).f0.f1), .string ((rd_T60 l0 x7_1).f0.f2), .string ((rd_T60 l0 x7_1).f0.f3), .int .i64 0, .int .i64 0]) ?_ 4 _ rfl; refine RFn.d3 ?_; refine blk_put (cs := #[.string ((rd_T60 l0 x7_1).f0.f0), .string ((rd_T60 l0 x7_1).f0.f1), .string ((rd_T60 l0 x7_1).f0.f2), .string (⟨#[]⟩ : ByteArray), .int .i64 0, .int .i64 0]) ?_ 3 _ rfl; refine RFn.d3 ?_; refine blk_put (cs := #[.string ((rd_T60 l0 x7_1).f0.f0), .string ((rd_T60 l0 x7_1).f0.f1), .string (⟨#[]⟩ : ByteArray), .string (⟨#[]⟩ : ByteArray), .int .i64 0, .int .i64 0]) ?_ 2 _ rfl; refine RFn.d3 ?_; refine blk_put (cs := #[.string ((rd_T60 l0 x7_1).f0.f0), .string (⟨#[]⟩ : ByteArray), .string (⟨#[]⟩ : ByteArray), .string (⟨#[]⟩ : ByteArray), .int .i64 0, .int .i64 0]) ?_ 1 _ rfl; refine RFn.d3 ?_; refine blk_put (cs := #[.string (⟨#[]⟩ : ByteArray), .string (⟨#[]⟩ : ByteArray), .string (⟨#[]⟩ : ByteArray), .string (⟨#[]⟩ : ByteArray), .int .i64 0, .int .i64 0]) ?_ 0 _ rfl; refine RFn.d3 ?_; exact BK159.out⟩
           have n1_ : Aside0 (Below w.heap.size w ((((((w21.setCell ⟨gb159, 0, none⟩ (.string ((rd_T60 l0 x7_1).f0.f0))).setCell ⟨gb159, 1, none⟩ (.string ((rd_T60 l0 x7_1).f0.f1))).setCell ⟨gb159, 2, none⟩ (.string ((rd_T60 l0 x7_1).f0.f2))).setCell ⟨gb159, 3, none⟩ (.string ((rd_T60 l0 x7_1).f0.f3))).setCell ⟨gb159, 4, none⟩ (.int .i64 ((rd_T60 l0 x7_1).f0.f4))).setCell ⟨gb159, 5, none⟩ (.int .i64 ((rd_T60 l0 x7_1).f1)))) := ⟨RFn.bels⟩
           (try clear BK159)
           (try clear HB)
           generalize ((((((w21.setCell ⟨gb159, 0, none⟩ (.string ((rd_T60 l0 x7_1).f0.f0))).setCell ⟨gb159, 1, none⟩ (.string ((rd_T60 l0 x7_1).f0.f1))).setCell ⟨gb159, 2, none⟩ (.string ((rd_T60 l0 x7_1).f0.f2))).setCell ⟨gb159, 3, none⟩ (.string ((rd_T60 l0 x7_1).f0.f3))).setCell ⟨gb159, 4, none⟩ (.int .i64 ((rd_T60 l0 x7_1).f0.f4))).setCell ⟨gb159, 5, none⟩ (.int .i64 ((rd_T60 l0 x7_1).f1))) = w23 at n0_ n1_ ⊢
           have BK159 := n0_
           have HB := n1_
           clear n0_ n1_
           have n0_ := Aside0.mk (blk_drew BK159.out)
           have n1_ := Aside0.mk (below_drew1 HB.out)
           clear BK159
           clear HB
           have BK159 := n0_
           have HB := n1_
           clear n0_ n1_
           have p160 : 0 ≤ ((ji11) : Int) := RFn.od
           have q160 : (ji11) < (l0.length : Int) := RFn.od
           obtain ⟨ad160, e160, hx160_0, hx160_1, hx160_2, hx160_3, hx160_4, hx160_5⟩ := at_T60 HR0.out (ji11) p160 q160
           have hw160_5 := hx160_5
           have hw160_4 := hx160_4
           have hw160_3 := hx160_3
           have hw160_2 := hx160_2
           have hw160_1 := hx160_1
           have hw160_0 := hx160_0
           obtain rfl : ad158 = ad160 := (by injection e160)
           replace hx160_0 := RFn.hb HB hx160_0
           replace hx160_1 := RFn.hb HB hx160_1
           replace hx160_2 := RFn.hb HB hx160_2
           replace hx160_3 := RFn.hb HB hx160_3
           replace hx160_4 := RFn.hb HB hx160_4
           replace hx160_5 := RFn.hb HB hx160_5
           replace p160 := eq_true p160
           replace q160 := eq_true q160
           refine start_ (n := 19) (S := fun w' => w'.cell? ⟨gb159, 0, none⟩ = some (.string ((rd_T60 l0 x7_1).f0.f0)) ∧ w'.cell? ⟨gb159, 1, none⟩ = some (.string ((rd_T60 l0 x7_1).f0.f1)) ∧ w'.cell? ⟨gb159, 2, none⟩ = some (.string ((rd_T60 l0 x7_1).f0.f2)) ∧ w'.cell? ⟨gb159, 3, none⟩ = some (.string ((rd_T60 l0 x7_1).f0.f3)) ∧ w'.cell? ⟨gb159, 4, none⟩ = some (.int .i64 ((rd_T60 l0 x7_1).f0.f4)) ∧ w'.cell? ⟨gb159, 5, none⟩ = some (.int .i64 ((rd_T60 l0 x7_1).f1)) ∧ w'.cell? (ad158.add (((ji11)).toNat * 6)) = some (.string ((rd_T60 l0 (ji11)).f0.f0)) ∧ w'.cell? ⟨(ad158.add (((ji11)).toNat * 6)).block, (ad158.add (((ji11)).toNat * 6)).off + 1, none⟩ = some (.string ((rd_T60 l0 (ji11)).f0.f1)) ∧ w'.cell? ⟨(ad158.add (((ji11)).toNat * 6)).block, (ad158.add (((ji11)).toNat * 6)).off + 2, none⟩ = some (.string ((rd_T60 l0 (ji11)).f0.f2)) ∧ w'.cell? ⟨(ad158.add (((ji11)).toNat * 6)).block, (ad158.add (((ji11)).toNat * 6)).off + 3, none⟩ = some (.string ((rd_T60 l0 (ji11)).f0.f3)) ∧ w'.cell? ⟨(ad158.add (((ji11)).toNat * 6)).block, (ad158.add (((ji11)).toNat * 6)).off + 4, none⟩ = some (.int .i64 ((rd_T60 l0 (ji11)).f0.f4)) ∧ w'.cell? ⟨(ad158.add (((ji11)).toNat * 6)).block, (ad158.add (((ji11)).toNat * 6)).off + 5, none⟩ = some (.int .i64 ((rd_T60 l0 (ji11)).f1))) (ds := []) (bs 19 0) (by kernel_rfl) rfl rfl ⟨(blk_cell BK159.out 0).trans rfl, (blk_cell BK159.out 1).trans rfl, (blk_cell BK159.out 2).trans rfl, (blk_cell BK159.out 3).trans rfl, (blk_cell BK159.out 4).trans rfl, (blk_cell BK159.out 5).trans rfl, (RFn.hb HB hw160_0), (RFn.hb HB hw160_1), (RFn.hb HB hw160_2), (RFn.hb HB hw160_3), (RFn.hb HB hw160_4), (RFn.hb HB hw160_5)⟩ (fun hHeld => ?_); refine with_tabW fact_Right.tab4 fact_Right.bits4 (fun HT_ HW_ => ?_)
           generalize w23.drew = w24 at BK159 HB hx160_0 hx160_1 hx160_2 hx160_3 hx160_4 hx160_5 hHeld ⊢
           refine RFn.pA (i := 0) (N := some 12) (bs 19 1) HT_ ?_
           refine RFn.tA (i := 1) (N := some 13) (bs 19 3) rfl HT_ HW_ hHeld (by rintro w' ⟨s0, s1, s2, s3, s4, s5, s6, s7, s8, s9, s10, s11⟩; go_simp; with_reducible rfl) ?_
           refine RFn.pA (i := 2) (N := some 14) (bs 19 7) HT_ ?_
           refine RFn.pA (i := 3) (N := some 15) (bs 19 15) HT_ ?_
           refine RFn.pA (i := 4) (N := some 16) (bs 19 31) HT_ ?_
           refine RFn.pA (i := 5) (N := some 17) (bs 19 63) HT_ ?_
           refine RFn.pA (i := 6) (N := some 18) (bs 19 127) HT_ ?_
           refine RFn.pA (i := 7) (N := some 19) (bs 19 255) HT_ ?_
           refine RFn.pA (i := 8) (N := some 20) (bs 19 511) HT_ ?_
           refine RFn.pA (i := 9) (N := some 21) (bs 19 1023) HT_ ?_
           refine RFn.pA (i := 10) (N := some 22) (bs 19 2047) HT_ ?_
           refine RFn.pA (i := 11) (N := some 23) (bs 19 4095) HT_ ?_
           refine RFn.pA (i := 13) (N := some 25) (bs 19 12287) HT_ ?_
           refine RFn.tA (i := 12) (N := some 24) (bs 19 16383) rfl HT_ HW_ hHeld (by rintro w' ⟨s0, s1, s2, s3, s4, s5, s6, s7, s8, s9, s10, s11⟩; go_simp; with_reducible rfl) ?_
           refine RFn.tA (i := 14) (N := some 26) (bs 19 32767) rfl HT_ HW_ hHeld (by rintro w' ⟨s0, s1, s2, s3, s4, s5, s6, s7, s8, s9, s10, s11⟩; go_simp; with_reducible rfl) ?_
           refine RFn.o1 (i := 15) (N := some 27) (bs 19 65535) HT_ fun K hK => ?_
           refine goes_ Try.func17 (by kernel_rfl) rfl #[.agg #[.string ((rd_T60 l0 (ji11)).f0.f0), .string ((rd_T60 l0 (ji11)).f0.f1), .string ((rd_T60 l0 (ji11)).f0.f2), .string ((rd_T60 l0 (ji11)).f0.f3), .int .i64 ((rd_T60 l0 (ji11)).f0.f4)], .agg #[.string ((rd_T60 l0 x7_1).f0.f0), .string ((rd_T60 l0 x7_1).f0.f1), .string ((rd_T60 l0 x7_1).f0.f2), .string ((rd_T60 l0 x7_1).f0.f3), .int .i64 ((rd_T60 l0 x7_1).f0.f4)]] (by rfl) rfl rfl (by (try simp only [List.map_toArray, List.map_cons, List.map_nil]); first | done | (simp only [hji11]; rfl) | rfl | (simp only [List.length_drop, List.length_take]; rfl)) ?_
           with_reducible refine (fact_Cmp.calls k1 ((rd_T60 l0 (ji11)).f0.f0) ((rd_T60 l0 (ji11)).f0.f1) ((rd_T60 l0 (ji11)).f0.f2) ((rd_T60 l0 (ji11)).f0.f3) ((rd_T60 l0 (ji11)).f0.f4) ((rd_T60 l0 x7_1).f0.f0) ((rd_T60 l0 x7_1).f0.f1) ((rd_T60 l0 x7_1).f0.f2) ((rd_T60 l0 x7_1).f0.f3) ((rd_T60 l0 x7_1).f0.f4) t161 _ A14.out).mono ?_
           rintro e w25 ⟨rfl, hb⟩
           refine ⟨_, rfl, ?_⟩
           have n0_ := Aside0.mk (blk_below (g := gb159) RFn.blk hb)
           have n1_ := Aside0.mk (below_step RFn.bels hb)
           clear BK159
           clear HB
           have BK159 := n0_
           have HB := n1_
           clear n0_ n1_
           (try clear hb)
           (try clear hb2)
           (try clear hk)
           (try clear hi)
           refine hK.out _ _ ⟨(blk_cell BK159.out 0).trans rfl, (blk_cell BK159.out 1).trans rfl, (blk_cell BK159.out 2).trans rfl, (blk_cell BK159.out 3).trans rfl, (blk_cell BK159.out 4).trans rfl, (blk_cell BK159.out 5).trans rfl, (RFn.hb HB hw160_0), (RFn.hb HB hw160_1), (RFn.hb HB hw160_2), (RFn.hb HB hw160_3), (RFn.hb HB hw160_4), (RFn.hb HB hw160_5)⟩ (fun hHeld => ?_)
           clear hK K
           refine RFn.nm (some 27) ?_
           refine RFn.pA (i := 16) (N := some 28) (bs 19 131071) HT_ ?_
           refine RFn.pA (i := 17) (N := some 29) (bs 19 262143) HT_ ?_
           refine RFn.pA (i := 18) (N := some 30) (bs 19 524287) HT_ ?_
           refine RFn.dn HT_ ?_
           try go_wp2
           go_roundg k1
           case measure => have := HK1.out; omega
           case rel => exact ⟨(wrap64 (x7_1 + 1)), (by first | rfl | (simp; done) | (simp [*]; done)), H', ⟨RFn.lk HK1⟩, ⟨RFn.bels⟩⟩
         ·rw [if_neg c13] at H
          exact absurd H (by simp)
        ·rw [if_neg c12] at H
         exact absurd H (by simp)
       ·rw [if_neg c10] at H
        have c10b0 : decide (0 < x7_1) = false := decide_eq_false c10
        clear c10
        have H' := Aside0.mk H
        clear H
        have p158 : 0 ≤ (x7_1 : Int) := RFn.od
        have q158 : x7_1 < (l0.length : Int) := RFn.od
        obtain ⟨ad158, e158, hx158_0, hx158_1, hx158_2, hx158_3, hx158_4, hx158_5⟩ := at_T60 HR0.out x7_1 p158 q158
        cases e158
        replace hx158_0 := RFn.hb HB hx158_0
        replace hx158_1 := RFn.hb HB hx158_1
        replace hx158_2 := RFn.hb HB hx158_2
        replace hx158_3 := RFn.hb HB hx158_3
        replace hx158_4 := RFn.hb HB hx158_4
        replace hx158_5 := RFn.hb HB hx158_5
        replace p158 := eq_true p158
        replace q158 := eq_true q158
        try go_wp2_with (first | ((with_reducible refine gate_dst (N := 4) rfl ?_); refine box_event ?hg (N := 4) ?hd (cs := #[.string (⟨#[]⟩ : ByteArray), .string (⟨#[]⟩ : ByteArray), .string (⟨#[]⟩ : ByteArray), .string (⟨#[]⟩ : ByteArray), .int .i64 0, .int .i64 0]) (t := 60) ?hr ?_; (case hd => rfl); (case hg => rfl); (case hr => first | (go_simp; done) | (go_simp; rfl)); intro gb159 hg w26 hbox hb; have n0_ := Aside0.mk (below_step (RFn.bel) hb); have n1_ := Aside0.mk (hbox); have n2_ := Aside0.mk ((by rw [hg]; exact (below_size (RFn.bel)) : w.heap.size ≤ gb159)); have n3_ := Aside0.mk ((by rw [hg]; exact (below_size (RFn.bel)) : w.heap.size ≤ gb159)); clear HB; have HB := n0_; have BK159 := n1_; have GW159 := n2_; have GE159 := n3_; clear n0_ n1_ n2_ n3_; clear hb hbox hg; obtain ⟨hcz27_0, hcz27_1, hcz27_2, hcz27_3, hcz27_4, hcz27_5⟩ := RFn.bc6 BK159; obtain ⟨hfz27_0, hfz27_1, hfz27_2, hfz27_3, hfz27_4, hfz27_5⟩ := RFn.bf6 BK159))
        have n0_ : Aside0 (((((((w26.setCell ⟨gb159, 0, none⟩ (.string ((rd_T60 l0 x7_1).f0.f0))).setCell ⟨gb159, 1, none⟩ (.string ((rd_T60 l0 x7_1).f0.f1))).setCell ⟨gb159, 2, none⟩ (.string ((rd_T60 l0 x7_1).f0.f2))).setCell ⟨gb159, 3, none⟩ (.string ((rd_T60 l0 x7_1).f0.f3))).setCell ⟨gb159, 4, none⟩ (.int .i64 ((rd_T60 l0 x7_1).f0.f4))).setCell ⟨gb159, 5, none⟩ (.int .i64 ((rd_T60 l0 x7_1).f1))).heap[gb159]? = some (.cells #[.string ((rd_T60 l0 x7_1).f0.f0), .string ((rd_T60 l0 x7_1).f0.f1), .string ((rd_T60 l0 x7_1).f0.f2), .string ((rd_T60 l0 x7_1).f0.f3), .int .i64 ((rd_T60 l0 x7_1).f0.f4), .int .i64 ((rd_T60 l0 x7_1).f1)] 60 (0, 0))) := ⟨by refine RFn.d3 ?_; refine blk_put (cs := #[.string ((rd_T60 l0 x7_1).f0.f0), .string ((rd_T60 l0 x7_1).f0.f1), .string ((rd_T60 l0 x7_1).f0.f2), .string ((rd_T60 l0 x7_1).f0.f3), .int .i64 ((rd_T60 l0 x7_1).f0.f4), .int .i64 0]) ?_ 5 _ rfl; refine RFn.d3 ?_; refine blk_put (cs := #[.string ((rd_T60 l0 x7_1).f0.f0), .string ((rd_T60 l0 x7_1).f0.f1), .string ((rd_T60 l0 x7_1).f0.f2), .string ((rd_T60 l0 x7_1).f0.f3), .int .i64 0, .int .i64 0]) ?_ 4 _ rfl; refine RFn.d3 ?_; refine blk_put (cs := #[.string ((rd_T60 l0 x7_1).f0.f0), .string ((rd_T60 l0 x7_1).f0.f1), .string ((rd_T60 l0 x7_1).f0.f2), .string (⟨#[]⟩ : ByteArray), .int .i64 0, .int .i64 0]) ?_ 3 _ rfl; refine RFn.d3 ?_; refine blk_put (cs := #[.string ((rd_T60 l0 x7_1).f0.f0), .string ((rd_T60 l0 x7_1).f0.f1), .string (⟨#[]⟩ : ByteArray), .string (⟨#[]⟩ : ByteArray), .int .i64 0, .int .i64 0]) ?_ 2 _ rfl; refine RFn.d3 ?_; refine blk_put (cs := #[.string ((rd_T60 l0 x7_1).f0.f0), .string (⟨#[]⟩ : ByteArray), .string (⟨#[]⟩ : ByteArray), .string (⟨#[]⟩ : ByteArray), .int .i64 0, .int .i64 0]) ?_ 1 _ rfl; refine RFn.d3 ?_; refine blk_put (cs := #[.string (⟨#[]⟩ : ByteArray), .string (⟨#[]⟩ : ByteArray), .string (⟨#[]⟩ : ByteArray), .string (⟨#[]⟩ : ByteArray), .int .i64 0, .int .i64 0]) ?_ 0 _ rfl; refine RFn.d3 ?_; exact BK159.out⟩
        have n1_ : Aside0 (Below w.heap.size w ((((((w26.setCell ⟨gb159, 0, none⟩ (.string ((rd_T60 l0 x7_1).f0.f0))).setCell ⟨gb159, 1, none⟩ (.string ((rd_T60 l0 x7_1).f0.f1))).setCell ⟨gb159, 2, none⟩ (.string ((rd_T60 l0 x7_1).f0.f2))).setCell ⟨gb159, 3, none⟩ (.string ((rd_T60 l0 x7_1).f0.f3))).setCell ⟨gb159, 4, none⟩ (.int .i64 ((rd_T60 l0 x7_1).f0.f4))).setCell ⟨gb159, 5, none⟩ (.int .i64 ((rd_T60 l0 x7_1).f1)))) := ⟨RFn.bels⟩
        (try clear BK159)
        (try clear HB)
        generalize ((((((w26.setCell ⟨gb159, 0, none⟩ (.string ((rd_T60 l0 x7_1).f0.f0))).setCell ⟨gb159, 1, none⟩ (.string ((rd_T60 l0 x7_1).f0.f1))).setCell ⟨gb159, 2, none⟩ (.string ((rd_T60 l0 x7_1).f0.f2))).setCell ⟨gb159, 3, none⟩ (.string ((rd_T60 l0 x7_1).f0.f3))).setCell ⟨gb159, 4, none⟩ (.int .i64 ((rd_T60 l0 x7_1).f0.f4))).setCell ⟨gb159, 5, none⟩ (.int .i64 ((rd_T60 l0 x7_1).f1))) = w28 at n0_ n1_ ⊢
        have BK159 := n0_
        have HB := n1_
        clear n0_ n1_
        have n0_ := Aside0.mk (blk_drew BK159.out)
        have n1_ := Aside0.mk (below_drew1 HB.out)
        clear BK159
        clear HB
        have BK159 := n0_
        have HB := n1_
        clear n0_ n1_
        refine start_ (n := 19) (S := fun w' => w'.cell? ⟨gb159, 0, none⟩ = some (.string ((rd_T60 l0 x7_1).f0.f0)) ∧ w'.cell? ⟨gb159, 1, none⟩ = some (.string ((rd_T60 l0 x7_1).f0.f1)) ∧ w'.cell? ⟨gb159, 2, none⟩ = some (.string ((rd_T60 l0 x7_1).f0.f2)) ∧ w'.cell? ⟨gb159, 3, none⟩ = some (.string ((rd_T60 l0 x7_1).f0.f3)) ∧ w'.cell? ⟨gb159, 4, none⟩ = some (.int .i64 ((rd_T60 l0 x7_1).f0.f4)) ∧ w'.cell? ⟨gb159, 5, none⟩ = some (.int .i64 ((rd_T60 l0 x7_1).f1))) (ds := []) (bs 19 0) (by kernel_rfl) rfl rfl (RFn.bc6 BK159) (fun hHeld => ?_); refine with_tabW fact_Right.tab4 fact_Right.bits4 (fun HT_ HW_ => ?_)
        generalize w28.drew = w29 at BK159 HB hHeld ⊢
        refine RFn.pA (i := 0) (N := some 12) (bs 19 1) HT_ ?_
        refine RFn.tA (i := 1) (N := some 13) (bs 19 3) rfl HT_ HW_ hHeld (by rintro w' ⟨s0, s1, s2, s3, s4, s5⟩; go_simp; with_reducible rfl) ?_
        refine RFn.pA (i := 2) (N := some 14) (bs 19 7) HT_ ?_
        refine RFn.pA (i := 3) (N := some 15) (bs 19 15) HT_ ?_
        refine RFn.pA (i := 4) (N := some 16) (bs 19 31) HT_ ?_
        refine RFn.pA (i := 5) (N := some 17) (bs 19 63) HT_ ?_
        refine RFn.pA (i := 6) (N := some 18) (bs 19 127) HT_ ?_
        refine RFn.pU (i := 7) (N := some 19) (bs 19 255) HT_ ?_
        refine RFn.pU (i := 8) (N := some 20) (bs 19 511) HT_ ?_
        refine RFn.pU (i := 9) (N := some 21) (bs 19 1023) HT_ ?_
        refine RFn.pU (i := 10) (N := some 22) (bs 19 2047) HT_ ?_
        refine RFn.pU (i := 11) (N := some 23) (bs 19 4095) HT_ ?_
        refine RFn.pU (i := 12) (N := some 24) (bs 19 8191) HT_ ?_
        refine RFn.pU (i := 13) (N := some 25) (bs 19 16383) HT_ ?_
        refine RFn.pU (i := 14) (N := some 26) (bs 19 32767) HT_ ?_
        refine RFn.pU (i := 15) (N := some 27) (bs 19 65535) HT_ ?_
        refine RFn.pU (i := 16) (N := some 28) (bs 19 131071) HT_ ?_
        refine RFn.pA (i := 17) (N := some 29) (bs 19 262143) HT_ ?_
        refine RFn.pA (i := 18) (N := some 30) (bs 19 524287) HT_ ?_
        refine RFn.dn HT_ ?_
        try go_wp2
        go_roundg k1
        case measure => have := HK1.out; omega
        case rel => exact ⟨(wrap64 (x7_1 + 1)), (by first | rfl | (simp; done) | (simp [*]; done)), H', ⟨RFn.lk HK1⟩, ⟨RFn.bels⟩⟩
     ·rw [if_neg c4] at H
      exact absurd H (by simp)
    ·rw [if_neg c3] at H
     exact absurd H (by simp)
   ·rw [if_neg c2] at H
    have c2b0 : decide (x7_1 < (l0.length : Int)) = false := decide_eq_false c2
    clear c2
    obtain rfl := Option.some.inj H
    go_wp2
    go_ret
    exact ⟨by first | rfl | (simp [errW_none, errW_some] <;> rfl) | (simp [*, errW_none, errW_some] <;> rfl), RFn.bel⟩
end Go.Proofs.Ytgheapbhakamaaa.Q
