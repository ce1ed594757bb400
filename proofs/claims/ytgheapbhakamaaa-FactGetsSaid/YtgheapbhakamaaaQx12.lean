/- printed by a program of this session (wip/tools/pr.sh): it is not a print of the kit -/
import Derived.Test.YtgheapbhakamaaaQx0
import Derived.Test.YtgheapbhakamaaaQx1
import Derived.Test.YtgheapbhakamaaaQx2
import Derived.Test.YtgheapbhakamaaaQx11
namespace Go.Proofs.Ytgheapbhakamaaa.Q
open Go.RowKit Go.Proofs.YtgheapbhakamaaaW.PrintWords Go.Proofs.YtgheapbhakamaaaW.PrintLast Go.Proofs.YtgheapbhakamaaaW.PrintMore
attribute [local go_sem] max2_int min2_int max_two min_two max_three min_three max_four min_four RFn.gtr_str   -- for this text's walks alone
set_option linter.unusedVariables false
set_option linter.unusedSimpArgs false
attribute [local go_sem high] eqA24 eqA28
/-! ### ref09_Of: function 14 -/
mutual
def ref09_Of.l0 : Nat → List (S28) → List (S24) → List (S28) → Int → Option ((List (S28)) × Int)
 | 0, _, _, _, _ => none
 | k + 1, x0, x4, x5, x6 => if x6 < (x4.length : Int) then (ref09_Of.l1 k x0 x4 x5 x6 ([] : List Int) 0) else (if (x5.length : Int) > 2000 then (some (([] : List (S28)), 4)) else (some (x5, 0)))
def ref09_Of.l1 : Nat → List (S28) → List (S24) → List (S28) → Int → List Int → Int → Option ((List (S28)) × Int)
 | 0, _, _, _, _, _, _ => none
 | k + 1, x0, x4, x5, x6, x7, x8 => if x8 < (x0.length : Int) then (if 0 ≤ x8 then (if 0 ≤ x6 then (if x6 < (x4.length : Int) then (if ((((rd_T28 x0 x8).f0.f0).toList) == (((rd_T24 x4 x6).f0).toList) && ((((rd_T28 x0 x8).f0.f1).toList) == (((rd_T24 x4 x6).f1).toList) && ((((rd_T28 x0 x8).f0.f2).toList) == (((rd_T24 x4 x6).f2).toList) && ((((rd_T28 x0 x8).f0.f3).toList) == (((rd_T24 x4 x6).f3).toList) && (((rd_T28 x0 x8).f0.f4) == ((rd_T24 x4 x6).f4)))))) = true then (if x7.length < 17592186044416 then (ref09_Of.l1 k x0 x4 x5 x6 (x7 ++ [(rd_T28 x0 x8).f1]) (wrap64 (x8 + 1))) else (none)) else (ref09_Of.l1 k x0 x4 x5 x6 x7 (wrap64 (x8 + 1)))) else (none)) else (none)) else (none)) else ((ref01_Sum.f k x7).bind fun bt277 => (if bt277.2 = 0 then (if bt277.1 = 0 then (ref09_Of.l0 k x0 x4 x5 (wrap64 (x6 + 1))) else (if 0 ≤ x6 then (if x6 < (x4.length : Int) then (if x5.length < 1759218604441 then (ref09_Of.l0 k x0 x4 (x5 ++ [(⟨(⟨(rd_T24 x4 x6).f0, (rd_T24 x4 x6).f1, (rd_T24 x4 x6).f2, (rd_T24 x4 x6).f3, (rd_T24 x4 x6).f4⟩ : S24), bt277.1⟩ : S28)]) (wrap64 (x6 + 1))) else (none)) else (none)) else (none))) else (some (([] : List (S28)), bt277.2))))
end
def ref09_Of.f (k : Nat) (l0 : List (S28)) : Option ((List (S28)) × Int) := (ref09_keys.f k l0).bind fun t268 => (ref09_Of.l0 k l0 t268 ([] : List (S28)) 0)
theorem ref09_Of.mono_l : ∀ k, (∀ y0 y1 y2 y3, LeO (ref09_Of.l0 k y0 y1 y2 y3) (ref09_Of.l0 (k + 1) y0 y1 y2 y3)) ∧ (∀ y0 y1 y2 y3 y4 y5, LeO (ref09_Of.l1 k y0 y1 y2 y3 y4 y5) (ref09_Of.l1 (k + 1) y0 y1 y2 y3 y4 y5))
 | 0 => ⟨fun _ _ _ _ r h => by simp [ref09_Of.l0] at h, fun _ _ _ _ _ _ r h => by simp [ref09_Of.l1] at h⟩
 | k + 1 => by
  obtain ⟨ih0, ih1⟩ := ref09_Of.mono_l k
  refine ⟨?_, ?_⟩
  ·intro y0 y1 y2 y3
   unfold ref09_Of.l0
   repeat' first | exact LeO.refl _ | with_reducible first | apply ih0 | apply ih1 | apply ref01_Sum.mono | apply ref09_keys.mono | exact LeO.none _ | apply LeO.ite | refine LeO.bind ?_ fun _ => ?_
  ·intro y0 y1 y2 y3 y4 y5
   unfold ref09_Of.l1
   repeat' first | exact LeO.refl _ | with_reducible first | apply ih0 | apply ih1 | apply ref01_Sum.mono | apply ref09_keys.mono | exact LeO.none _ | apply LeO.ite | refine LeO.bind ?_ fun _ => ?_
theorem ref09_Of.mono : ∀ a0 k, LeO (ref09_Of.f k a0) (ref09_Of.f (k + 1) a0) := by
 intro a0 k
 obtain ⟨ih0, ih1⟩ := ref09_Of.mono_l k
 unfold ref09_Of.f
 repeat' first | exact LeO.refl _ | with_reducible first | apply ih0 | apply ih1 | apply ref01_Sum.mono | apply ref09_keys.mono | exact LeO.none _ | apply LeO.ite | refine LeO.bind ?_ fun _ => ?_
set_option maxHeartbeats 8000000 in
set_option maxRecDepth 100000 in
theorem ref09_Of.calls (k : Nat) (A0 : Option Addr) (c0 : Nat) (l0 : List (S28)) (r1 : List (S28)) (r2 : Int) (w : World) (hr0 : Kd.C k28 w A0 l0.length l0) (hc0 : l0.length ≤ c0) (h : ref09_Of.f k l0 = some (r1, r2)) :
  Calls Try.prog 14 #[.slice A0 l0.length c0] w fun e w' => ∃ v0_ : Value, e = .returned (.tuple #[v0_, .int .i64 r2]) ∧ Kd.R k28 28 w' w.heap.size (fun _ => True) v0_ r1 ∧ Below w.heap.size w w' := by
 have hu24 := Try.underlying24
 have hu28 := Try.underlying28
 have HR0 := Aside0.mk hr0
 have HC0 := Aside0.mk hc0
 clear hr0 hc0
 have HB := Aside0.mk (Below.refl w.heap.size w)
 have H : ((ref09_keys.f k l0).bind fun t268 => (ref09_Of.l0 k l0 t268 ([] : List (S28)) 0)) = some (r1, r2) := h
 clear h
 obtain ⟨t268, A2, H⟩ := RFn.bn H
 have H' := Aside0.mk H
 clear H
 go_enter Try.func14, Try.ntmps14
 go_wp2_with (first | (go_at_call 35; (with_reducible refine (ref09_keys.calls k _ _ l0 t268 _ ?side1 ?side2 A2.out).mono ?_); (case side1 => exact RFn.mC HR0.out); (case side2 => exact HC0.out); rintro e w3 ⟨v269, rfl, ho0, hb⟩; have n0_ := Aside0.mk (Kd.R_lower ho0 (below_size (RFn.bel))); have n1_ := Aside0.mk (below_step (RFn.bel) hb); clear HB; have HO270 := n0_; have HB := n1_; clear n0_ n1_; (try clear hb); (try clear hb2); (try clear hk); (try clear hi); (try clear ho0)))
 repeat (go_quiet (first | (go_at_call 35; (with_reducible refine (ref09_keys.calls k _ _ l0 t268 _ ?side1 ?side2 A2.out).mono ?_); (case side1 => exact RFn.mC HR0.out); (case side2 => exact HC0.out); rintro e w3 ⟨v269, rfl, ho0, hb⟩; have n0_ := Aside0.mk (Kd.R_lower ho0 (below_size (RFn.bel))); have n1_ := Aside0.mk (below_step (RFn.bel) hb); clear HB; have HO270 := n0_; have HB := n1_; clear n0_ n1_; (try clear hb); (try clear hb2); (try clear hk); (try clear hi); (try clear ho0))); try go_wp2_with (first | (go_at_call 35; (with_reducible refine (ref09_keys.calls k _ _ l0 t268 _ ?side1 ?side2 A2.out).mono ?_); (case side1 => exact RFn.mC HR0.out); (case side2 => exact HC0.out); rintro e w3 ⟨v269, rfl, ho0, hb⟩; have n0_ := Aside0.mk (Kd.R_lower ho0 (below_size (RFn.bel))); have n1_ := Aside0.mk (below_step (RFn.bel) hb); clear HB; have HO270 := n0_; have HB := n1_; clear n0_ n1_; (try clear hb); (try clear hb2); (try clear hk); (try clear hi); (try clear ho0))))
 go_loopg [5, 6] k (fun kq v5 v6 w' => ∃ (x5_1 : List (S28)) (x6_1 : Int), v6 = .int .i64 x6_1 ∧ Aside0 (ref09_Of.l0 kq l0 t268 x5_1 x6_1 = some (r1, r2)) ∧ Aside0 (kq ≤ k) ∧ Aside0 (Kd.R k24 24 w' w.heap.size (fun _ => True) v269 t268) ∧ Aside0 (Kd.R k28 28 w' w.heap.size (fun _ => True) v5 x5_1) ∧ Aside0 (Below w.heap.size w w'))
 case atStart => exact ⟨(([] : List (S28))), (0), (by first | rfl | (simp; done) | (simp [*]; done)), H', ⟨Nat.le_refl _⟩, ⟨RFn.mR HO270⟩, ⟨RFn.kn⟩, ⟨RFn.bel⟩⟩
 case round =>
  clear H'
  try clear c1
  try clear p2
  obtain ⟨x5_1, x6_1, rfl, HA, HK1, HO_4, HO_5, HB⟩ := hrel
  cases gk with
  | zero => exact absurd HA.out (by simp [ref09_Of.l0])
  | succ k1 =>
   have H := HA.out
   clear HA
   simp only [ref09_Of.l0] at H
   by_cases c4 : x6_1 < (t268.length : Int)
   ·rw [if_pos c4] at H
    have c4b0 : decide (x6_1 < (t268.length : Int)) = true := decide_eq_true c4
    clear c4
    have H' := Aside0.mk H
    clear H
    obtain ⟨Ao5, co5, eo5⟩ := Kd.R_slice HO_4.out
    subst eo5
    go_wp2
    repeat (go_quiet (fail); try go_wp2)
    go_loopg [7, 8] k1 (fun kq v7 v8 w' => ∃ (x7_2 : List Int) (x8_2 : Int), v8 = .int .i64 x8_2 ∧ Aside0 (ref09_Of.l1 kq l0 t268 x5_1 x6_1 x7_2 x8_2 = some (r1, r2)) ∧ Aside0 (kq ≤ k1) ∧ Aside0 (Kd.R k24 24 w' w.heap.size (fun _ => True) (.slice Ao5 t268.length co5) t268) ∧ Aside0 (Kd.R k28 28 w' w.heap.size (fun _ => True) u5 x5_1) ∧ Aside0 (Kd.R (Kd.int .i64) 2 w' w.heap.size (fun _ => True) v7 x7_2) ∧ Aside0 (Below w.heap.size w w'))
    case atStart => exact ⟨(([] : List Int)), (0), (by first | rfl | (simp; done) | (simp [*]; done)), H', ⟨Nat.le_refl _⟩, ⟨RFn.mR HO_4⟩, ⟨RFn.mR HO_5⟩, ⟨RFn.kn⟩, ⟨RFn.bel⟩⟩
    case round =>
     clear H'
     try clear c1
     try clear p2
     try clear c4
     try clear c4b0
     try clear p2
     obtain ⟨x7_2, x8_2, rfl, HA, HK2, HO_4, HO_5, HO_7, HB⟩ := hrel
     cases gk with
     | zero => exact absurd HA.out (by simp [ref09_Of.l1])
     | succ k2 =>
      have H := HA.out
      clear HA
      simp only [ref09_Of.l1] at H
      by_cases c6 : x8_2 < (l0.length : Int)
      ·rw [if_pos c6] at H
       have c6b0 : decide (x8_2 < (l0.length : Int)) = true := decide_eq_true c6
       clear c6
       by_cases c7 : 0 ≤ x8_2
       ·rw [if_pos c7] at H
        have c7b0 : decide (0 ≤ x8_2) = true := decide_eq_true c7
        clear c7
        by_cases c8 : 0 ≤ x6_1
        ·rw [if_pos c8] at H
         have c8b0 : decide (0 ≤ x6_1) = true := decide_eq_true c8
         clear c8
         by_cases c9 : x6_1 < (t268.length : Int)
         ·rw [if_pos c9] at H
          have c9b0 : decide (x6_1 < (t268.length : Int)) = true := decide_eq_true c9
          clear c9
          by_cases c10 : ((((rd_T28 l0 x8_2).f0.f0).toList) == (((rd_T24 t268 x6_1).f0).toList) && ((((rd_T28 l0 x8_2).f0.f1).toList) == (((rd_T24 t268 x6_1).f1).toList) && ((((rd_T28 l0 x8_2).f0.f2).toList) == (((rd_T24 t268 x6_1).f2).toList) && ((((rd_T28 l0 x8_2).f0.f3).toList) == (((rd_T24 t268 x6_1).f3).toList) && (((rd_T28 l0 x8_2).f0.f4) == ((rd_T24 t268 x6_1).f4)))))) = true
          ·rw [if_pos c10] at H
           have c10b0 : ((((rd_T28 l0 x8_2).f0.f0).toList) == (((rd_T24 t268 x6_1).f0).toList) && ((((rd_T28 l0 x8_2).f0.f1).toList) == (((rd_T24 t268 x6_1).f1).toList) && ((((rd_T28 l0 x8_2).f0.f2).toList) == (((rd_T24 t268 x6_1).f2).toList) && ((((rd_T28 l0 x8_2).f0.f3).toList) == (((rd_T24 t268 x6_1).f3).toList) && (((rd_T28 l0 x8_2).f0.f4) == ((rd_T24 t268 x6_1).f4)))))) = true := c10
           (try (have c10b1 : decide ((((rd_T28 l0 x8_2).f0.f0).toList) = (((rd_T24 t268 x6_1).f0).toList) && ((((rd_T28 l0 x8_2).f0.f1).toList) == (((rd_T24 t268 x6_1).f1).toList) && ((((rd_T28 l0 x8_2).f0.f2).toList) == (((rd_T24 t268 x6_1).f2).toList) && ((((rd_T28 l0 x8_2).f0.f3).toList) == (((rd_T24 t268 x6_1).f3).toList) && (((rd_T28 l0 x8_2).f0.f4) == ((rd_T24 t268 x6_1).f4)))))) = true := by simpa using c10))
           (try (have c10b2 : ((((rd_T28 l0 x8_2).f0.f0).toList) == (((rd_T24 t268 x6_1).f0).toList) && ((((rd_T28 l0 x8_2).f0.f1).toList) == (((rd_T24 t268 x6_1).f1).toList) && ((((rd_T28 l0 x8_2).f0.f2).toList) == (((rd_T24 t268 x6_1).f2).toList) && ((((rd_T28 l0 x8_2).f0.f3).toList) == (((rd_T24 t268 x6_1).f3).toList) && (((rd_T28 l0 x8_2).f0.f4) == ((rd_T24 t268 x6_1).f4)))))) = true := by simpa using c10))
           clear c10
           by_cases c11 : x7_2.length < 17592186044416
           ·rw [if_pos c11] at H
            have LMc11 := Aside0.mk c11
            clear c11
            obtain ⟨y274, hy274⟩ : ∃ y_ : List Int, y_ = (x7_2 ++ [(rd_T28 l0 x8_2).f1]) := ⟨_, rfl⟩
            replace H : (ref09_Of.l1 k2 l0 t268 x5_1 x6_1 y274 (wrap64 (x8_2 + 1))) = some (r1, r2) := RFn.rp H hy274
            have Ny274 := Aside0.mk hy274
            clear hy274
            have H' := Aside0.mk H
            clear H
            have p271 : 0 ≤ (x8_2 : Int) := RFn.od
            have q271 : x8_2 < (l0.length : Int) := RFn.od
            obtain ⟨ad271, e271, hx271_0, hx271_1, hx271_2, hx271_3, hx271_4, hx271_5⟩ := at_T28 HR0.out x8_2 p271 q271
            cases e271
            replace hx271_0 := RFn.hb HB hx271_0
            replace hx271_1 := RFn.hb HB hx271_1
            replace hx271_2 := RFn.hb HB hx271_2
            replace hx271_3 := RFn.hb HB hx271_3
            replace hx271_4 := RFn.hb HB hx271_4
            replace hx271_5 := RFn.hb HB hx271_5
            replace p271 := eq_true p271
            replace q271 := eq_true q271
            have p272 : 0 ≤ (x6_1 : Int) := RFn.od
            have q272 : x6_1 < (t268.length : Int) := RFn.od
            obtain ⟨ad272, e272, hx272_0, hx272_1, hx272_2, hx272_3, hx272_4⟩ := at_T24 (Kd.R_reads' HO_4.out).2.2 x6_1 p272 q272
            cases e272
            replace p272 := eq_true p272
            replace q272 := eq_true q272
            have p273 : 0 ≤ (x8_2 : Int) := RFn.od
            have q273 : x8_2 < (l0.length : Int) := RFn.od
            obtain ⟨ad273, e273, hx273_0, hx273_1, hx273_2, hx273_3, hx273_4, hx273_5⟩ := at_T28 HR0.out x8_2 p273 q273
            obtain rfl : ad271 = ad273 := (by injection e273)
            replace hx273_0 := RFn.hb HB hx273_0
            replace hx273_1 := RFn.hb HB hx273_1
            replace hx273_2 := RFn.hb HB hx273_2
            replace hx273_3 := RFn.hb HB hx273_3
            replace hx273_4 := RFn.hb HB hx273_4
            replace hx273_5 := RFn.hb HB hx273_5
            replace p273 := eq_true p273
            replace q273 := eq_true q273
            go_wp2_with (first | ((with_reducible refine gate_builtin (b := .append) (xs := #[.tmp 35, .tmp 41]) rfl ?_); at_builtin; refine Kd.R_append (Kd.int .i64) (w0 := w) w.heap.size rfl (.tmp 35) (.tmp 41) 72 2 (.int .i64 0) 8 rfl Try.underlying72 info2 rfl (by decide) (by omega) u7 x7_2 ((rd_T28 l0 x8_2).f1) [.int .i64 ((rd_T28 l0 x8_2).f1)] (fun _ => True) (fun _ => False) rfl rfl ?aP (fun _ hk => hk.elim) ?aF ?aO ?aB ?aS ?aL ?_; (case aP => exact rfl); (case aB => exact (RFn.bel)); (case aF => exact (fun _ _ => trivial)); (case aO => exact (RFn.mR HO_7)); (case aS => exact (below_size (RFn.bel))); (case aL => have := LMc11.out; omega); intro v275 w12 ho hb hg hat; rw [← Ny274.out] at ho; have n0_ := Aside0.mk (Kd.R_over' (RFn.mR HO_4) (Kd.R_typed (RFn.mR HO_7)) (by decide) hg); have n1_ := Aside0.mk (Kd.R_over' (RFn.mR HO_5) (Kd.R_typed (RFn.mR HO_7)) (by decide) hg); have n2_ := Aside0.mk (hb); have n3_ := Aside0.mk (ho); clear HO_4; clear HO_5; clear HB; clear HO_7; have HO_4 := n0_; have HO_5 := n1_; have HB := n2_; have HO276 := n3_; clear n0_ n1_ n2_ n3_; clear ho hb hg hat))
            repeat (go_quiet (first | ((with_reducible refine gate_builtin (b := .append) (xs := #[.tmp 35, .tmp 41]) rfl ?_); at_builtin; refine Kd.R_append (Kd.int .i64) (w0 := w) w.heap.size rfl (.tmp 35) (.tmp 41) 72 2 (.int .i64 0) 8 rfl Try.underlying72 info2 rfl (by decide) (by omega) u7 x7_2 ((rd_T28 l0 x8_2).f1) [.int .i64 ((rd_T28 l0 x8_2).f1)] (fun _ => True) (fun _ => False) rfl rfl ?aP (fun _ hk => hk.elim) ?aF ?aO ?aB ?aS ?aL ?_; (case aP => exact rfl); (case aB => exact (RFn.bel)); (case aF => exact (fun _ _ => trivial)); (case aO => exact (RFn.mR HO_7)); (case aS => exact (below_size (RFn.bel))); (case aL => have := LMc11.out; omega); intro v275 w12 ho hb hg hat; rw [← Ny274.out] at ho; have n0_ := Aside0.mk (Kd.R_over' (RFn.mR HO_4) (Kd.R_typed (RFn.mR HO_7)) (by decide) hg); have n1_ := Aside0.mk (Kd.R_over' (RFn.mR HO_5) (Kd.R_typed (RFn.mR HO_7)) (by decide) hg); have n2_ := Aside0.mk (hb); have n3_ := Aside0.mk (ho); clear HO_4; clear HO_5; clear HB; clear HO_7; have HO_4 := n0_; have HO_5 := n1_; have HB := n2_; have HO276 := n3_; clear n0_ n1_ n2_ n3_; clear ho hb hg hat)); try go_wp2_with (first | ((with_reducible refine gate_builtin (b := .append) (xs := #[.tmp 35, .tmp 41]) rfl ?_); at_builtin; refine Kd.R_append (Kd.int .i64) (w0 := w) w.heap.size rfl (.tmp 35) (.tmp 41) 72 2 (.int .i64 0) 8 rfl Try.underlying72 info2 rfl (by decide) (by omega) u7 x7_2 ((rd_T28 l0 x8_2).f1) [.int .i64 ((rd_T28 l0 x8_2).f1)] (fun _ => True) (fun _ => False) rfl rfl ?aP (fun _ hk => hk.elim) ?aF ?aO ?aB ?aS ?aL ?_; (case aP => exact rfl); (case aB => exact (RFn.bel)); (case aF => exact (fun _ _ => trivial)); (case aO => exact (RFn.mR HO_7)); (case aS => exact (below_size (RFn.bel))); (case aL => have := LMc11.out; omega); intro v275 w12 ho hb hg hat; rw [← Ny274.out] at ho; have n0_ := Aside0.mk (Kd.R_over' (RFn.mR HO_4) (Kd.R_typed (RFn.mR HO_7)) (by decide) hg); have n1_ := Aside0.mk (Kd.R_over' (RFn.mR HO_5) (Kd.R_typed (RFn.mR HO_7)) (by decide) hg); have n2_ := Aside0.mk (hb); have n3_ := Aside0.mk (ho); clear HO_4; clear HO_5; clear HB; clear HO_7; have HO_4 := n0_; have HO_5 := n1_; have HB := n2_; have HO276 := n3_; clear n0_ n1_ n2_ n3_; clear ho hb hg hat)))
            go_roundg k2
            case measure => have := HK1.out; have := HK2.out; omega
            case rel => exact ⟨(y274), (wrap64 (x8_2 + 1)), (by first | rfl | (simp; done) | (simp [*]; done)), H', ⟨by have := HK1.out; have := HK2.out; omega⟩, ⟨RFn.mR HO_4⟩, ⟨RFn.mR HO_5⟩, ⟨RFn.mR HO276⟩, ⟨RFn.bel⟩⟩
           ·rw [if_neg c11] at H
            exact absurd H (by simp)
          ·rw [if_neg c10] at H
           have c10b0 : ((((rd_T28 l0 x8_2).f0.f0).toList) == (((rd_T24 t268 x6_1).f0).toList) && ((((rd_T28 l0 x8_2).f0.f1).toList) == (((rd_T24 t268 x6_1).f1).toList) && ((((rd_T28 l0 x8_2).f0.f2).toList) == (((rd_T24 t268 x6_1).f2).toList) && ((((rd_T28 l0 x8_2).f0.f3).toList) == (((rd_T24 t268 x6_1).f3).toList) && (((rd_T28 l0 x8_2).f0.f4) == ((rd_T24 t268 x6_1).f4)))))) = false := by simpa using c10
           (try (have c10b1 : decide ((((rd_T28 l0 x8_2).f0.f0).toList) = (((rd_T24 t268 x6_1).f0).toList) && ((((rd_T28 l0 x8_2).f0.f1).toList) == (((rd_T24 t268 x6_1).f1).toList) && ((((rd_T28 l0 x8_2).f0.f2).toList) == (((rd_T24 t268 x6_1).f2).toList) && ((((rd_T28 l0 x8_2).f0.f3).toList) == (((rd_T24 t268 x6_1).f3).toList) && (((rd_T28 l0 x8_2).f0.f4) == ((rd_T24 t268 x6_1).f4)))))) = false := by simpa using c10))
           (try (have c10b2 : ((((rd_T28 l0 x8_2).f0.f0).toList) == (((rd_T24 t268 x6_1).f0).toList) && ((((rd_T28 l0 x8_2).f0.f1).toList) == (((rd_T24 t268 x6_1).f1).toList) && ((((rd_T28 l0 x8_2).f0.f2).toList) == (((rd_T24 t268 x6_1).f2).toList) && ((((rd_T28 l0 x8_2).f0.f3).toList) == (((rd_T24 t268 x6_1).f3).toList) && (((rd_T28 l0 x8_2).f0.f4) == ((rd_T24 t268 x6_1).f4)))))) = false := by simpa using c10))
           (try (have c10b3 : ¬ ((((rd_T28 l0 x8_2).f0.f0).toList) = (((rd_T24 t268 x6_1).f0).toList) && ((((rd_T28 l0 x8_2).f0.f1).toList) == (((rd_T24 t268 x6_1).f1).toList) && ((((rd_T28 l0 x8_2).f0.f2).toList) == (((rd_T24 t268 x6_1).f2).toList) && ((((rd_T28 l0 x8_2).f0.f3).toList) == (((rd_T24 t268 x6_1).f3).toList) && (((rd_T28 l0 x8_2).f0.f4) == ((rd_T24 t268 x6_1).f4)))))) := by simpa using c10))
           clear c10
           have H' := Aside0.mk H
           clear H
           have p271 : 0 ≤ (x8_2 : Int) := RFn.od
           have q271 : x8_2 < (l0.length : Int) := RFn.od
           obtain ⟨ad271, e271, hx271_0, hx271_1, hx271_2, hx271_3, hx271_4, hx271_5⟩ := at_T28 HR0.out x8_2 p271 q271
           cases e271
           replace hx271_0 := RFn.hb HB hx271_0
           replace hx271_1 := RFn.hb HB hx271_1
           replace hx271_2 := RFn.hb HB hx271_2
           replace hx271_3 := RFn.hb HB hx271_3
           replace hx271_4 := RFn.hb HB hx271_4
           replace hx271_5 := RFn.hb HB hx271_5
           replace p271 := eq_true p271
           replace q271 := eq_true q271
           have p272 : 0 ≤ (x6_1 : Int) := RFn.od
           have q272 : x6_1 < (t268.length : Int) := RFn.od
           obtain ⟨ad272, e272, hx272_0, hx272_1, hx272_2, hx272_3, hx272_4⟩ := at_T24 (Kd.R_reads' HO_4.out).2.2 x6_1 p272 q272
           cases e272
           replace p272 := eq_true p272
           replace q272 := eq_true q272
           go_wp2
           repeat (go_quiet (fail); try go_wp2)
           go_roundg k2
           case measure => have := HK1.out; have := HK2.out; omega
           case rel => exact ⟨(x7_2), (wrap64 (x8_2 + 1)), (by first | rfl | (simp; done) | (simp [*]; done)), H', ⟨by have := HK1.out; have := HK2.out; omega⟩, ⟨RFn.mR HO_4⟩, ⟨RFn.mR HO_5⟩, ⟨RFn.mR HO_7⟩, ⟨RFn.bel⟩⟩
         ·rw [if_neg c9] at H
          exact absurd H (by simp)
        ·rw [if_neg c8] at H
         exact absurd H (by simp)
       ·rw [if_neg c7] at H
        exact absurd H (by simp)
      ·rw [if_neg c6] at H
       have c6b0 : decide (x8_2 < (l0.length : Int)) = false := decide_eq_false c6
       clear c6
       obtain ⟨⟨t277, t278⟩, A13, H⟩ := RFn.bn H
       by_cases c14 : t278 = 0
       ·rw [if_pos c14] at H
        have c14b0 : (t278 == 0) = true := beq_iff_eq.mpr c14
        have c14b1 : (t278 != 0) = false := bne_eq_false_iff_eq.mpr c14
        clear c14
        by_cases c15 : t277 = 0
        ·rw [if_pos c15] at H
         have c15b0 : (t277 == 0) = true := beq_iff_eq.mpr c15
         have c15b1 : (t277 != 0) = false := bne_eq_false_iff_eq.mpr c15
         clear c15
         have H' := Aside0.mk H
         clear H
         obtain ⟨Ao16, co16, eo16⟩ := Kd.R_slice HO_7.out
         subst eo16
         go_wp2_with (first | (go_at_call 36; (with_reducible refine (ref01_Sum.calls k2 _ _ x7_2 t277 t278 _ ?side1 ?side2 A13.out).mono ?_); (case side1 => exact RFn.mC (Kd.R_reads' HO_7.out).2.2); (case side2 => exact (Kd.R_reads' HO_7.out).2.1); rintro e w' ⟨rfl, ⟨nd, rfl⟩⟩; (try first | exact ⟨rfl, _, World.drewN_drewN _ _ _⟩ | exact ⟨rfl, _, Eq.trans (World.drewN_drewN _ _ _) (congrArg (World.drewN _) (Nat.add_assoc _ _ _))⟩)))
         repeat (go_quiet (first | (go_at_call 36; (with_reducible refine (ref01_Sum.calls k2 _ _ x7_2 t277 t278 _ ?side1 ?side2 A13.out).mono ?_); (case side1 => exact RFn.mC (Kd.R_reads' HO_7.out).2.2); (case side2 => exact (Kd.R_reads' HO_7.out).2.1); rintro e w' ⟨rfl, ⟨nd, rfl⟩⟩; (try first | exact ⟨rfl, _, World.drewN_drewN _ _ _⟩ | exact ⟨rfl, _, Eq.trans (World.drewN_drewN _ _ _) (congrArg (World.drewN _) (Nat.add_assoc _ _ _))⟩))); try go_wp2_with (first | (go_at_call 36; (with_reducible refine (ref01_Sum.calls k2 _ _ x7_2 t277 t278 _ ?side1 ?side2 A13.out).mono ?_); (case side1 => exact RFn.mC (Kd.R_reads' HO_7.out).2.2); (case side2 => exact (Kd.R_reads' HO_7.out).2.1); rintro e w' ⟨rfl, ⟨nd, rfl⟩⟩; (try first | exact ⟨rfl, _, World.drewN_drewN _ _ _⟩ | exact ⟨rfl, _, Eq.trans (World.drewN_drewN _ _ _) (congrArg (World.drewN _) (Nat.add_assoc _ _ _))⟩))))
         go_roundg k2
         case measure => have := HK1.out; have := HK2.out; omega
         case rel => exact ⟨(x5_1), (wrap64 (x6_1 + 1)), (by first | rfl | (simp; done) | (simp [*]; done)), H', ⟨by have := HK1.out; have := HK2.out; omega⟩, ⟨RFn.mR HO_4⟩, ⟨RFn.mR HO_5⟩, ⟨RFn.bel⟩⟩
        ·rw [if_neg c15] at H
         have c15b0 : (t277 == 0) = false := beq_eq_false_iff_ne.mpr c15
         have c15b1 : (t277 != 0) = true := bne_iff_ne.mpr c15
         by_cases c17 : 0 ≤ x6_1
         ·rw [if_pos c17] at H
          have c17b0 : decide (0 ≤ x6_1) = true := decide_eq_true c17
          clear c17
          by_cases c18 : x6_1 < (t268.length : Int)
          ·rw [if_pos c18] at H
           have c18b0 : decide (x6_1 < (t268.length : Int)) = true := decide_eq_true c18
           clear c18
           by_cases c19 : x5_1.length < 1759218604441
           ·rw [if_pos c19] at H
            have LMc19 := Aside0.mk c19
            clear c19
            obtain ⟨y280, hy280⟩ : ∃ y_ : List (S28), y_ = (x5_1 ++ [(⟨(⟨(rd_T24 t268 x6_1).f0, (rd_T24 t268 x6_1).f1, (rd_T24 t268 x6_1).f2, (rd_T24 t268 x6_1).f3, (rd_T24 t268 x6_1).f4⟩ : S24), t277⟩ : S28)]) := ⟨_, rfl⟩
            replace H : (ref09_Of.l0 k2 l0 t268 y280 (wrap64 (x6_1 + 1))) = some (r1, r2) := RFn.rp H hy280
            have Ny280 := Aside0.mk hy280
            clear hy280
            have H' := Aside0.mk H
            clear H
            obtain ⟨Ao20, co20, eo20⟩ := Kd.R_slice HO_7.out
            subst eo20
            go_wp2_with (first | (go_at_call 36; (with_reducible refine (ref01_Sum.calls k2 _ _ x7_2 t277 t278 _ ?side1 ?side2 A13.out).mono ?_); (case side1 => exact RFn.mC (Kd.R_reads' HO_7.out).2.2); (case side2 => exact (Kd.R_reads' HO_7.out).2.1); rintro e w' ⟨rfl, ⟨nd, rfl⟩⟩; (try first | exact ⟨rfl, _, World.drewN_drewN _ _ _⟩ | exact ⟨rfl, _, Eq.trans (World.drewN_drewN _ _ _) (congrArg (World.drewN _) (Nat.add_assoc _ _ _))⟩); have p279 : 0 ≤ (x6_1 : Int) := RFn.od; have q279 : x6_1 < (t268.length : Int) := RFn.od; obtain ⟨ad279, e279, hx279_0, hx279_1, hx279_2, hx279_3, hx279_4⟩ := at_T24 (Kd.R_reads' HO_4.out).2.2 x6_1 p279 q279; cases e279; replace p279 := eq_true p279; replace q279 := eq_true q279) | ((with_reducible refine gate_builtin (b := .append) (xs := #[.tmp 53, .tmp 60]) rfl ?_); at_builtin; refine Kd.R_append k28 (w0 := w) w.heap.size rfl (.tmp 53) (.tmp 60) 22 28 (.agg #[(.string ⟨#[]⟩), (.string ⟨#[]⟩), (.string ⟨#[]⟩), (.string ⟨#[]⟩), (.int .i64 0), (.int .i64 0)]) 80 rfl Try.underlying22 info28 rfl (by decide) (by omega) u5 x5_1 (⟨(⟨(rd_T24 t268 x6_1).f0, (rd_T24 t268 x6_1).f1, (rd_T24 t268 x6_1).f2, (rd_T24 t268 x6_1).f3, (rd_T24 t268 x6_1).f4⟩ : S24), t277⟩ : S28) [.string ((rd_T24 t268 x6_1).f0), .string ((rd_T24 t268 x6_1).f1), .string ((rd_T24 t268 x6_1).f2), .string ((rd_T24 t268 x6_1).f3), .int .i64 ((rd_T24 t268 x6_1).f4), .int .i64 t277] (fun _ => True) (fun _ => False) rfl rfl ?aP (fun _ hk => hk.elim) ?aF ?aO ?aB ?aS ?aL ?_; (case aP => exact k28_mkM _ _ _ (⟨(⟨(rd_T24 t268 x6_1).f0, (rd_T24 t268 x6_1).f1, (rd_T24 t268 x6_1).f2, (rd_T24 t268 x6_1).f3, (rd_T24 t268 x6_1).f4⟩ : S24), t277⟩ : S28)); (case aB => exact (RFn.bel)); (case aF => exact (fun _ _ => trivial)); (case aO => exact (RFn.mR HO_5)); (case aS => exact (below_size (RFn.bel))); (case aL => have := LMc19.out; omega); intro v281 w21 ho hb hg hat; rw [← Ny280.out] at ho; have n0_ := Aside0.mk (Kd.R_over' (RFn.mR HO_4) (Kd.R_typed (RFn.mR HO_5)) (by decide) hg); have n1_ := Aside0.mk (Kd.R_over' (RFn.mR HO_7) (Kd.R_typed (RFn.mR HO_5)) (by decide) hg); have n2_ := Aside0.mk (hb); have n3_ := Aside0.mk (ho); clear HO_4; clear HO_7; clear HB; clear HO_5; have HO_4 := n0_; have HO_7 := n1_; have HB := n2_; have HO282 := n3_; clear n0_ n1_ n2_ n3_; clear ho hb hg hat))
            repeat (go_quiet (first | (go_at_call 36; (with_reducible refine (ref01_Sum.calls k2 _ _ x7_2 t277 t278 _ ?side1 ?side2 A13.out).mono ?_); (case side1 => exact RFn.mC (Kd.R_reads' HO_7.out).2.2); (case side2 => exact (Kd.R_reads' HO_7.out).2.1); rintro e w' ⟨rfl, ⟨nd, rfl⟩⟩; (try first | exact ⟨rfl, _, World.drewN_drewN _ _ _⟩ | exact ⟨rfl, _, Eq.trans (World.drewN_drewN _ _ _) (congrArg (World.drewN _) (Nat.add_assoc _ _ _))⟩); have p279 : 0 ≤ (x6_1 : Int) := RFn.od; have q279 : x6_1 < (t268.length : Int) := RFn.od; obtain ⟨ad279, e279, hx279_0, hx279_1, hx279_2, hx279_3, hx279_4⟩ := at_T24 (Kd.R_reads' HO_4.out).2.2 x6_1 p279 q279; cases e279; replace p279 := eq_true p279; replace q279 := eq_true q279) | ((with_reducible refine gate_builtin (b := .append) (xs := #[.tmp 53, .tmp 60]) rfl ?_); at_builtin; refine Kd.R_append k28 (w0 := w) w.heap.size rfl (.tmp 53) (.tmp 60) 22 28 (.agg #[(.string ⟨#[]⟩), (.string ⟨#[]⟩), (.string ⟨#[]⟩), (.string ⟨#[]⟩), (.int .i64 0), (.int .i64 0)]) 80 rfl Try.underlying22 info28 rfl (by decide) (by omega) u5 x5_1 (⟨(⟨(rd_T24 t268 x6_1).f0, (rd_T24 t268 x6_1).f1, (rd_T24 t268 x6_1).f2, (rd_T24 t268 x6_1).f3, (rd_T24 t268 x6_1).f4⟩ : S24), t277⟩ : S28) [.string ((rd_T24 t268 x6_1).f0), .string ((rd_T24 t268 x6_1).f1), .string ((rd_T24 t268 x6_1).f2), .string ((rd_T24 t268 x6_1).f3), .int .i64 ((rd_T24 t268 x6_1).f4), .int .i64 t277] (fun _ => True) (fun _ => False) rfl rfl ?aP (fun _ hk => hk.elim) ?aF ?aO ?aB ?aS ?aL ?_; (case aP => exact k28_mkM _ _ _ (⟨(⟨(rd_T24 t268 x6_1).f0, (rd_T24 t268 x6_1).f1, (rd_T24 t268 x6_1).f2, (rd_T24 t268 x6_1).f3, (rd_T24 t268 x6_1).f4⟩ : S24), t277⟩ : S28)); (case aB => exact (RFn.bel)); (case aF => exact (fun _ _ => trivial)); (case aO => exact (RFn.mR HO_5)); (case aS => exact (below_size (RFn.bel))); (case aL => have := LMc19.out; omega); intro v281 w21 ho hb hg hat; rw [← Ny280.out] at ho; have n0_ := Aside0.mk (Kd.R_over' (RFn.mR HO_4) (Kd.R_typed (RFn.mR HO_5)) (by decide) hg); have n1_ := Aside0.mk (Kd.R_over' (RFn.mR HO_7) (Kd.R_typed (RFn.mR HO_5)) (by decide) hg); have n2_ := Aside0.mk (hb); have n3_ := Aside0.mk (ho); clear HO_4; clear HO_7; clear HB; clear HO_5; have HO_4 := n0_; have HO_7 := n1_; have HB := n2_; have HO282 := n3_; clear n0_ n1_ n2_ n3_; clear ho hb hg hat)); try go_wp2_with (first | (go_at_call 36; (with_reducible refine (ref01_Sum.calls k2 _ _ x7_2 t277 t278 _ ?side1 ?side2 A13.out).mono ?_); (case side1 => exact RFn.mC (Kd.R_reads' HO_7.out).2.2); (case side2 => exact (Kd.R_reads' HO_7.out).2.1); rintro e w' ⟨rfl, ⟨nd, rfl⟩⟩; (try first | exact ⟨rfl, _, World.drewN_drewN _ _ _⟩ | exact ⟨rfl, _, Eq.trans (World.drewN_drewN _ _ _) (congrArg (World.drewN _) (Nat.add_assoc _ _ _))⟩); have p279 : 0 ≤ (x6_1 : Int) := RFn.od; have q279 : x6_1 < (t268.length : Int) := RFn.od; obtain ⟨ad279, e279, hx279_0, hx279_1, hx279_2, hx279_3, hx279_4⟩ := at_T24 (Kd.R_reads' HO_4.out).2.2 x6_1 p279 q279; cases e279; replace p279 := eq_true p279; replace q279 := eq_true q279) | ((with_reducible refine gate_builtin (b := .append) (xs := #[.tmp 53, .tmp 60]) rfl ?_); at_builtin; refine Kd.R_append k28 (w0 := w) w.heap.size rfl (.tmp 53) (.tmp 60) 22 28 (.agg #[(.string ⟨#[]⟩), (.string ⟨#[]⟩), (.string ⟨#[]⟩), (.string ⟨#[]⟩), (.int .i64 0), (.int .i64 0)]) 80 rfl Try.underlying22 info28 rfl (by decide) (by omega) u5 x5_1 (⟨(⟨(rd_T24 t268 x6_1).f0, (rd_T24 t268 x6_1).f1, (rd_T24 t268 x6_1).f2, (rd_T24 t268 x6_1).f3, (rd_T24 t268 x6_1).f4⟩ : S24), t277⟩ : S28) [.string ((rd_T24 t268 x6_1).f0), .string ((rd_T24 t268 x6_1).f1), .string ((rd_T24 t268 x6_1).f2), .string ((rd_T24 t268 x6_1).f3), .int .i64 ((rd_T24 t268 x6_1).f4), .int .i64 t277] (fun _ => True) (fun _ => False) rfl rfl ?aP (fun _ hk => hk.elim) ?aF ?aO ?aB ?aS ?aL ?_; (case aP => exact k28_mkM _ _ _ (⟨(⟨(rd_T24 t268 x6_1).f0, (rd_T24 t268 x6_1).f1, (rd_T24 t268 x6_1).f2, (rd_T24 t268 x6_1).f3, (rd_T24 t268 x6_1).f4⟩ : S24), t277⟩ : S28)); (case aB => exact (RFn.bel)); (case aF => exact (fun _ _ => trivial)); (case aO => exact (RFn.mR HO_5)); (case aS => exact (below_size (RFn.bel))); (case aL => have := LMc19.out; omega); intro v281 w21 ho hb hg hat; rw [← Ny280.out] at ho; have n0_ := Aside0.mk (Kd.R_over' (RFn.mR HO_4) (Kd.R_typed (RFn.mR HO_5)) (by decide) hg); have n1_ := Aside0.mk (Kd.R_over' (RFn.mR HO_7) (Kd.R_typed (RFn.mR HO_5)) (by decide) hg); have n2_ := Aside0.mk (hb); have n3_ := Aside0.mk (ho); clear HO_4; clear HO_7; clear HB; clear HO_5; have HO_4 := n0_; have HO_7 := n1_; have HB := n2_; have HO282 := n3_; clear n0_ n1_ n2_ n3_; clear ho hb hg hat)))
            go_roundg k2
            case measure => have := HK1.out; have := HK2.out; omega
            case rel => exact ⟨(y280), (wrap64 (x6_1 + 1)), (by first | rfl | (simp; done) | (simp [*]; done)), H', ⟨by have := HK1.out; have := HK2.out; omega⟩, ⟨RFn.mR HO_4⟩, ⟨RFn.mR HO282⟩, ⟨RFn.bel⟩⟩
           ·rw [if_neg c19] at H
            exact absurd H (by simp)
          ·rw [if_neg c18] at H
           exact absurd H (by simp)
         ·rw [if_neg c17] at H
          exact absurd H (by simp)
       ·rw [if_neg c14] at H
        have c14b0 : (t278 == 0) = false := beq_eq_false_iff_ne.mpr c14
        have c14b1 : (t278 != 0) = true := bne_iff_ne.mpr c14
        simp only [Option.some.injEq, Prod.mk.injEq] at H
        obtain ⟨rfl, rfl⟩ := H
        obtain ⟨Ao22, co22, eo22⟩ := Kd.R_slice HO_7.out
        subst eo22
        go_wp2_with (first | (go_at_call 36; (with_reducible refine (ref01_Sum.calls k2 _ _ x7_2 t277 t278 _ ?side1 ?side2 A13.out).mono ?_); (case side1 => exact RFn.mC (Kd.R_reads' HO_7.out).2.2); (case side2 => exact (Kd.R_reads' HO_7.out).2.1); rintro e w' ⟨rfl, ⟨nd, rfl⟩⟩; (try first | exact ⟨rfl, _, World.drewN_drewN _ _ _⟩ | exact ⟨rfl, _, Eq.trans (World.drewN_drewN _ _ _) (congrArg (World.drewN _) (Nat.add_assoc _ _ _))⟩)))
        repeat (go_quiet (first | (go_at_call 36; (with_reducible refine (ref01_Sum.calls k2 _ _ x7_2 t277 t278 _ ?side1 ?side2 A13.out).mono ?_); (case side1 => exact RFn.mC (Kd.R_reads' HO_7.out).2.2); (case side2 => exact (Kd.R_reads' HO_7.out).2.1); rintro e w' ⟨rfl, ⟨nd, rfl⟩⟩; (try first | exact ⟨rfl, _, World.drewN_drewN _ _ _⟩ | exact ⟨rfl, _, Eq.trans (World.drewN_drewN _ _ _) (congrArg (World.drewN _) (Nat.add_assoc _ _ _))⟩))); try go_wp2_with (first | (go_at_call 36; (with_reducible refine (ref01_Sum.calls k2 _ _ x7_2 t277 t278 _ ?side1 ?side2 A13.out).mono ?_); (case side1 => exact RFn.mC (Kd.R_reads' HO_7.out).2.2); (case side2 => exact (Kd.R_reads' HO_7.out).2.1); rintro e w' ⟨rfl, ⟨nd, rfl⟩⟩; (try first | exact ⟨rfl, _, World.drewN_drewN _ _ _⟩ | exact ⟨rfl, _, Eq.trans (World.drewN_drewN _ _ _) (congrArg (World.drewN _) (Nat.add_assoc _ _ _))⟩))))
        go_ret2
        exact ⟨_, by first | rfl | (simp [errW_none, errW_some] <;> rfl) | (simp [*, errW_none, errW_some] <;> rfl), RFn.kn, RFn.bel⟩
   ·rw [if_neg c4] at H
    have c4b0 : decide (x6_1 < (t268.length : Int)) = false := decide_eq_false c4
    clear c4
    by_cases c23 : (x5_1.length : Int) > 2000
    ·rw [if_pos c23] at H
     have c23b0 : decide (2000 < (x5_1.length : Int)) = true := decide_eq_true c23
     have c23b1 : decide (2000 < x5_1.length) = true := decide_eq_true (by omega)
     clear c23
     simp only [Option.some.injEq, Prod.mk.injEq] at H
     obtain ⟨rfl, rfl⟩ := H
     obtain ⟨Ao24, co24, eo24⟩ := Kd.R_slice HO_4.out
     subst eo24
     obtain ⟨Ao25, co25, eo25⟩ := Kd.R_slice HO_5.out
     subst eo25
     go_wp2
     repeat (go_quiet (fail); try go_wp2)
     go_ret2
     exact ⟨_, by first | rfl | (simp [errW_none, errW_some] <;> rfl) | (simp [*, errW_none, errW_some] <;> rfl), RFn.kn, RFn.bel⟩
    ·rw [if_neg c23] at H
     have c23b0 : decide (2000 < (x5_1.length : Int)) = false := decide_eq_false c23
     have c23b1 : decide (2000 < x5_1.length) = false := decide_eq_false (by omega)
     clear c23
     simp only [Option.some.injEq, Prod.mk.injEq] at H
     obtain ⟨rfl, rfl⟩ := H
     obtain ⟨Ao26, co26, eo26⟩ := Kd.R_slice HO_4.out
     subst eo26
     obtain ⟨Ao27, co27, eo27⟩ := Kd.R_slice HO_5.out
     subst eo27
     go_wp2
     repeat (go_quiet (fail); try go_wp2)
     go_ret2
     exact ⟨_, by first | rfl | (simp [errW_none, errW_some] <;> rfl) | (simp [*, errW_none, errW_some] <;> rfl), RFn.mR HO_5, RFn.bel⟩
/-! ### ref09_Same: function 15 -/
def ref09_Same.l0 : Nat → List (S28) → List (S28) → Int → Option (Bool)
 | 0, _, _, _ => none
 | k + 1, x0, x1, x5 => if x5 < (x0.length : Int) then (if 0 ≤ x5 then (if x5 < (x1.length : Int) then (if ((!((((rd_T28 x0 x5).f0.f0).toList) == (((rd_T28 x1 x5).f0.f0).toList)) || (!((((rd_T28 x0 x5).f0.f1).toList) == (((rd_T28 x1 x5).f0.f1).toList)) || (!((((rd_T28 x0 x5).f0.f2).toList) == (((rd_T28 x1 x5).f0.f2).toList)) || (!((((rd_T28 x0 x5).f0.f3).toList) == (((rd_T28 x1 x5).f0.f3).toList)) || (!(((rd_T28 x0 x5).f0.f4) == ((rd_T28 x1 x5).f0.f4))))))) || (!(((rd_T28 x0 x5).f1) == ((rd_T28 x1 x5).f1)))) = true then (some false) else (ref09_Same.l0 k x0 x1 (wrap64 (x5 + 1)))) else (none)) else (none)) else (some true)
def ref09_Same.f (k : Nat) (l0 : List (S28)) (l1 : List (S28)) : Option (Bool) := if (l0.length : Int) = (l1.length : Int) then (ref09_Same.l0 k l0 l1 0) else (some false)
theorem ref09_Same.mono_l : ∀ k, (∀ y0 y1 y2, LeO (ref09_Same.l0 k y0 y1 y2) (ref09_Same.l0 (k + 1) y0 y1 y2))
 | 0 => fun _ _ _ r h => by simp [ref09_Same.l0] at h
 | k + 1 => by
  have ih0 := ref09_Same.mono_l k
  ·intro y0 y1 y2
   unfold ref09_Same.l0
   repeat' first | exact LeO.refl _ | with_reducible first | apply ih0 | exact LeO.none _ | apply LeO.ite | refine LeO.bind ?_ fun _ => ?_
theorem ref09_Same.mono : ∀ a0 a1 k, LeO (ref09_Same.f k a0 a1) (ref09_Same.f (k + 1) a0 a1) := by
 intro a0 a1 k
 have ih0 := ref09_Same.mono_l k
 unfold ref09_Same.f
 repeat' first | exact LeO.refl _ | with_reducible first | apply ih0 | exact LeO.none _ | apply LeO.ite | refine LeO.bind ?_ fun _ => ?_
set_option maxHeartbeats 8000000 in
set_option maxRecDepth 100000 in
theorem ref09_Same.calls (k : Nat) (A0 : Option Addr) (c0 : Nat) (l0 : List (S28)) (A1 : Option Addr) (c1 : Nat) (l1 : List (S28)) (r : Bool) (w : World) (hr0 : Kd.C k28 w A0 l0.length l0) (hc0 : l0.length ≤ c0) (hr1 : Kd.C k28 w A1 l1.length l1) (hc1 : l1.length ≤ c1) (h : ref09_Same.f k l0 l1 = some r) :
  Calls Try.prog 15 #[.slice A0 l0.length c0, .slice A1 l1.length c1] w fun e w' => e = .returned (.bool r) ∧ Drawn0 w w' := by
 have hu28 := Try.underlying28
 have HR0 := Aside0.mk hr0
 have HC0 := Aside0.mk hc0
 clear hr0 hc0
 have HR1 := Aside0.mk hr1
 have HC1 := Aside0.mk hc1
 clear hr1 hc1
 have H : (if (l0.length : Int) = (l1.length : Int) then (ref09_Same.l0 k l0 l1 0) else (some false)) = some r := h
 clear h
 by_cases c3 : (l0.length : Int) = (l1.length : Int)
 ·rw [if_pos c3] at H
  have c3b0 : ((l0.length : Int) == (l1.length : Int)) = true := beq_iff_eq.mpr c3
  have c3b1 : ((l0.length : Int) != (l1.length : Int)) = false := bne_eq_false_iff_eq.mpr c3
  have c3b2 : (l0.length == l1.length) = true := by first | simpa using c3 | (simp at c3 ⊢; omega)
  clear c3
  have H' := Aside0.mk H
  clear H
  go_enter Try.func15, Try.ntmps15
  go_wp2
  repeat (go_quiet (fail); try go_wp2)
  go_loopg [5] k (fun kq v5 w' => ∃ (x5_1 : Int), v5 = .int .i64 x5_1 ∧ Aside0 (ref09_Same.l0 kq l0 l1 x5_1 = some r) ∧ Aside0 (kq ≤ k) ∧ Drawn0 w w')
  case atStart => exact ⟨(0), (by first | rfl | (simp; done) | (simp [*]; done)), H', ⟨Nat.le_refl _⟩, by repeat (first | exact Drawn0.refl _ | apply Drawn0.step)⟩
  case round =>
   clear H'
   try clear c1
   try clear p2
   try clear c3
   try clear c3b0
   try clear c3b1
   try clear c3b2
   obtain ⟨x5_1, rfl, HA, HK1, ⟨m1, rfl⟩⟩ := hrel
   cases gk with
   | zero => exact absurd HA.out (by simp [ref09_Same.l0])
   | succ k1 =>
    have H := HA.out
    clear HA
    simp only [ref09_Same.l0] at H
    by_cases c4 : x5_1 < (l0.length : Int)
    ·rw [if_pos c4] at H
     have c4b0 : decide (x5_1 < (l0.length : Int)) = true := decide_eq_true c4
     clear c4
     by_cases c5 : 0 ≤ x5_1
     ·rw [if_pos c5] at H
      have c5b0 : decide (0 ≤ x5_1) = true := decide_eq_true c5
      clear c5
      by_cases c6 : x5_1 < (l1.length : Int)
      ·rw [if_pos c6] at H
       have c6b0 : decide (x5_1 < (l1.length : Int)) = true := decide_eq_true c6
       clear c6
       by_cases c7 : ((!((((rd_T28 l0 x5_1).f0.f0).toList) == (((rd_T28 l1 x5_1).f0.f0).toList)) || (!((((rd_T28 l0 x5_1).f0.f1).toList) == (((rd_T28 l1 x5_1).f0.f1).toList)) || (!((((rd_T28 l0 x5_1).f0.f2).toList) == (((rd_T28 l1 x5_1).f0.f2).toList)) || (!((((rd_T28 l0 x5_1).f0.f3).toList) == (((rd_T28 l1 x5_1).f0.f3).toList)) || (!(((rd_T28 l0 x5_1).f0.f4) == ((rd_T28 l1 x5_1).f0.f4))))))) || (!(((rd_T28 l0 x5_1).f1) == ((rd_T28 l1 x5_1).f1)))) = true
       ·rw [if_pos c7] at H
        have c7b0 : ((!((((rd_T28 l0 x5_1).f0.f0).toList) == (((rd_T28 l1 x5_1).f0.f0).toList)) || (!((((rd_T28 l0 x5_1).f0.f1).toList) == (((rd_T28 l1 x5_1).f0.f1).toList)) || (!((((rd_T28 l0 x5_1).f0.f2).toList) == (((rd_T28 l1 x5_1).f0.f2).toList)) || (!((((rd_T28 l0 x5_1).f0.f3).toList) == (((rd_T28 l1 x5_1).f0.f3).toList)) || (!(((rd_T28 l0 x5_1).f0.f4) == ((rd_T28 l1 x5_1).f0.f4))))))) || (!(((rd_T28 l0 x5_1).f1) == ((rd_T28 l1 x5_1).f1)))) = true := c7
        clear c7
        obtain rfl := Option.some.inj H
        have p283 : 0 ≤ (x5_1 : Int) := RFn.od
        have q283 : x5_1 < (l0.length : Int) := RFn.od
        obtain ⟨ad283, e283, hx283_0, hx283_1, hx283_2, hx283_3, hx283_4, hx283_5⟩ := at_T28 HR0.out x5_1 p283 q283
        cases e283
        replace p283 := eq_true p283
        replace q283 := eq_true q283
        have p284 : 0 ≤ (x5_1 : Int) := RFn.od
        have q284 : x5_1 < (l1.length : Int) := RFn.od
        obtain ⟨ad284, e284, hx284_0, hx284_1, hx284_2, hx284_3, hx284_4, hx284_5⟩ := at_T28 HR1.out x5_1 p284 q284
        cases e284
        replace p284 := eq_true p284
        replace q284 := eq_true q284
        go_wp2
        repeat (go_quiet (fail); try go_wp2)
        go_ret
        exact ⟨by first | rfl | (simp; done) | (simp [*]; done), by repeat (first | exact Drawn0.refl _ | apply Drawn0.step)⟩
       ·rw [if_neg c7] at H
        have c7b0 : ((!((((rd_T28 l0 x5_1).f0.f0).toList) == (((rd_T28 l1 x5_1).f0.f0).toList)) || (!((((rd_T28 l0 x5_1).f0.f1).toList) == (((rd_T28 l1 x5_1).f0.f1).toList)) || (!((((rd_T28 l0 x5_1).f0.f2).toList) == (((rd_T28 l1 x5_1).f0.f2).toList)) || (!((((rd_T28 l0 x5_1).f0.f3).toList) == (((rd_T28 l1 x5_1).f0.f3).toList)) || (!(((rd_T28 l0 x5_1).f0.f4) == ((rd_T28 l1 x5_1).f0.f4))))))) || (!(((rd_T28 l0 x5_1).f1) == ((rd_T28 l1 x5_1).f1)))) = false := by simpa using c7
        clear c7
        have H' := Aside0.mk H
        clear H
        have p283 : 0 ≤ (x5_1 : Int) := RFn.od
        have q283 : x5_1 < (l0.length : Int) := RFn.od
        obtain ⟨ad283, e283, hx283_0, hx283_1, hx283_2, hx283_3, hx283_4, hx283_5⟩ := at_T28 HR0.out x5_1 p283 q283
        cases e283
        replace p283 := eq_true p283
        replace q283 := eq_true q283
        have p284 : 0 ≤ (x5_1 : Int) := RFn.od
        have q284 : x5_1 < (l1.length : Int) := RFn.od
        obtain ⟨ad284, e284, hx284_0, hx284_1, hx284_2, hx284_3, hx284_4, hx284_5⟩ := at_T28 HR1.out x5_1 p284 q284
        cases e284
        replace p284 := eq_true p284
        replace q284 := eq_true q284
        go_wp2
        repeat (go_quiet (fail); try go_wp2)
        go_roundg k1
        case measure => have := HK1.out; omega
        case rel => exact ⟨(wrap64 (x5_1 + 1)), (by first | rfl | (simp; done) | (simp [*]; done)), H', ⟨RFn.lk HK1⟩, by repeat (first | exact Drawn0.refl _ | apply Drawn0.step)⟩
      ·rw [if_neg c6] at H
       exact absurd H (by simp)
     ·rw [if_neg c5] at H
      exact absurd H (by simp)
    ·rw [if_neg c4] at H
     have c4b0 : decide (x5_1 < (l0.length : Int)) = false := decide_eq_false c4
     clear c4
     obtain rfl := Option.some.inj H
     go_wp2
     repeat (go_quiet (fail); try go_wp2)
     go_ret
     exact ⟨by first | rfl | (simp; done) | (simp [*]; done), by repeat (first | exact Drawn0.refl _ | apply Drawn0.step)⟩
 ·rw [if_neg c3] at H
  have c3b0 : ((l0.length : Int) == (l1.length : Int)) = false := beq_eq_false_iff_ne.mpr c3
  have c3b1 : ((l0.length : Int) != (l1.length : Int)) = true := bne_iff_ne.mpr c3
  have c3b2 : (l0.length == l1.length) = false := by first | simpa using c3 | (simp at c3 ⊢; omega)
  obtain rfl := Option.some.inj H
  go_enter Try.func15, Try.ntmps15
  go_wp2
  repeat (go_quiet (fail); try go_wp2)
  go_ret
  exact ⟨by first | rfl | (simp; done) | (simp [*]; done), by repeat (first | exact Drawn0.refl _ | apply Drawn0.step)⟩
/-! ### law09_Ours: function 16 -/
def law09_Ours.l0 : Nat → List (S28) → List (S60) → Int → Int → Option ((List (S28)))
 | 0, _, _, _, _ => none
 | k + 1, x3, x6, x7, x8 => if x8 < x7 then (if 0 ≤ x8 then (if x8 < (x6.length : Int) then (if x3.length < 1759218604441 then (law09_Ours.l0 k (x3 ++ [(⟨(⟨(rd_T60 x6 x8).f0.f0, (rd_T60 x6 x8).f0.f1, (rd_T60 x6 x8).f0.f2, (rd_T60 x6 x8).f0.f3, (rd_T60 x6 x8).f0.f4⟩ : S24), (rd_T60 x6 x8).f1⟩ : S28)]) x6 x7 (wrap64 (x8 + 1))) else (none)) else (none)) else (none)) else (some x3)
def law09_Ours.f (k : Nat) (l0 : List (S60)) : Option ((List (S28))) := law09_Ours.l0 k ([] : List (S28)) l0 (l0.length : Int) 0
theorem law09_Ours.mono_l : ∀ k, (∀ y0 y1 y2 y3, LeO (law09_Ours.l0 k y0 y1 y2 y3) (law09_Ours.l0 (k + 1) y0 y1 y2 y3))
 | 0 => fun _ _ _ _ r h => by simp [law09_Ours.l0] at h
 | k + 1 => by
  have ih0 := law09_Ours.mono_l k
  ·intro y0 y1 y2 y3
   unfold law09_Ours.l0
   repeat' first | exact LeO.refl _ | with_reducible first | apply ih0 | exact LeO.none _ | apply LeO.ite | refine LeO.bind ?_ fun _ => ?_
theorem law09_Ours.mono : ∀ a0 k, LeO (law09_Ours.f k a0) (law09_Ours.f (k + 1) a0) := by
 intro a0 k
 have ih0 := law09_Ours.mono_l k
 unfold law09_Ours.f
 repeat' first | exact LeO.refl _ | with_reducible first | apply ih0 | exact LeO.none _ | apply LeO.ite | refine LeO.bind ?_ fun _ => ?_
set_option maxHeartbeats 8000000 in
set_option maxRecDepth 100000 in
theorem law09_Ours.calls (k : Nat) (A0 : Option Addr) (c0 : Nat) (l0 : List (S60)) (r : List (S28)) (w : World) (hr0 : Kd.C k60 w A0 l0.length l0) (hc0 : l0.length ≤ c0) (h : law09_Ours.f k l0 = some r) :
  Calls Try.prog 16 #[.slice A0 l0.length c0] w fun e w' => ∃ v0_ : Value, e = .returned (v0_) ∧ Kd.R k28 28 w' w.heap.size (fun _ => True) v0_ r ∧ Below w.heap.size w w' := by
 have hu60 := Try.underlying60
 have hu40 := Try.underlying40
 have hu28 := Try.underlying28
 have HR0 := Aside0.mk hr0
 have HC0 := Aside0.mk hc0
 clear hr0 hc0
 have HB := Aside0.mk (Below.refl w.heap.size w)
 have H : (law09_Ours.l0 k ([] : List (S28)) l0 (l0.length : Int) 0) = some r := h
 clear h
 have H' := Aside0.mk H
 clear H
 go_enter Try.func16, Try.ntmps16
 go_wp2
 go_loopg [3, 8] k (fun kq v3 v8 w' => ∃ (x3_1 : List (S28)) (x8_1 : Int), v8 = .int .i64 x8_1 ∧ Aside0 (law09_Ours.l0 kq x3_1 l0 (l0.length : Int) x8_1 = some r) ∧ Aside0 (kq ≤ k) ∧ Aside0 (Kd.R k28 28 w' w.heap.size (fun _ => True) v3 x3_1) ∧ Aside0 (Below w.heap.size w w'))
 case atStart => exact ⟨(([] : List (S28))), (0), (by first | rfl | (simp; done) | (simp [*]; done)), H', ⟨Nat.le_refl _⟩, ⟨RFn.kn⟩, ⟨RFn.bel⟩⟩
 case round =>
  clear H'
  try clear c1
  obtain ⟨x3_1, x8_1, rfl, HA, HK1, HO_3, HB⟩ := hrel
  cases gk with
  | zero => exact absurd HA.out (by simp [law09_Ours.l0])
  | succ k1 =>
   have H := HA.out
   clear HA
   simp only [law09_Ours.l0] at H
   by_cases c2 : x8_1 < (l0.length : Int)
   ·rw [if_pos c2] at H
    have c2b0 : decide (x8_1 < (l0.length : Int)) = true := decide_eq_true c2
    clear c2
    by_cases c3 : 0 ≤ x8_1
    ·rw [if_pos c3] at H
     have c3b0 : decide (0 ≤ x8_1) = true := decide_eq_true c3
     clear c3
     by_cases c4 : x8_1 < (l0.length : Int)
     ·rw [if_pos c4] at H
      have c4b0 : decide (x8_1 < (l0.length : Int)) = true := decide_eq_true c4
      clear c4
      by_cases c5 : x3_1.length < 1759218604441
      ·rw [if_pos c5] at H
       have LMc5 := Aside0.mk c5
       clear c5
       obtain ⟨y287, hy287⟩ : ∃ y_ : List (S28), y_ = (x3_1 ++ [(⟨(⟨(rd_T60 l0 x8_1).f0.f0, (rd_T60 l0 x8_1).f0.f1, (rd_T60 l0 x8_1).f0.f2, (rd_T60 l0 x8_1).f0.f3, (rd_T60 l0 x8_1).f0.f4⟩ : S24), (rd_T60 l0 x8_1).f1⟩ : S28)]) := ⟨_, rfl⟩
       replace H : (law09_Ours.l0 k1 y287 l0 (l0.length : Int) (wrap64 (x8_1 + 1))) = some r := RFn.rp H hy287
       have Ny287 := Aside0.mk hy287
       clear hy287
       have H' := Aside0.mk H
       clear H
       have p285 : 0 ≤ (x8_1 : Int) := RFn.od
       have q285 : x8_1 < (l0.length : Int) := RFn.od
       obtain ⟨ad285, e285, hx285_0, hx285_1, hx285_2, hx285_3, hx285_4, hx285_5⟩ := at_T60 HR0.out x8_1 p285 q285
       cases e285
       replace hx285_0 := RFn.hb HB hx285_0
       replace hx285_1 := RFn.hb HB hx285_1
       replace hx285_2 := RFn.hb HB hx285_2
       replace hx285_3 := RFn.hb HB hx285_3
       replace hx285_4 := RFn.hb HB hx285_4
       replace hx285_5 := RFn.hb HB hx285_5
       replace p285 := eq_true p285
       replace q285 := eq_true q285
       go_wp2_with (first | ((with_reducible refine gate_dst (N := 5) rfl ?_); refine box_event ?hg (N := 5) ?hd (cs := #[.string (⟨#[]⟩ : ByteArray), .string (⟨#[]⟩ : ByteArray), .string (⟨#[]⟩ : ByteArray), .string (⟨#[]⟩ : ByteArray), .int .i64 0, .int .i64 0]) (t := 60) ?hr ?_; (case hd => rfl); (case hg => rfl); (case hr => first | (go_simp; done) | (go_simp; rfl)); intro gb286 hg w6 hbox hb; have n0_ := Aside0.mk (Kd.R_below (RFn.mR HO_3) hb); have n1_ := Aside0.mk (below_step (RFn.bel) hb); have n2_ := Aside0.mk (hbox); have n3_ := Aside0.mk ((by rw [hg]; exact (below_size (RFn.bel)) : w.heap.size ≤ gb286)); have n4_ := Aside0.mk ((by rw [hg]; exact (below_size (RFn.bel)) : w.heap.size ≤ gb286)); clear HO_3; clear HB; have HO_3 := n0_; have HB := n1_; have BK286 := n2_; have GW286 := n3_; have GE286 := n4_; clear n0_ n1_ n2_ n3_ n4_; clear hb hbox hg; obtain ⟨hcz7_0, hcz7_1, hcz7_2, hcz7_3, hcz7_4, hcz7_5⟩ := RFn.bc6 BK286; obtain ⟨hfz7_0, hfz7_1, hfz7_2, hfz7_3, hfz7_4, hfz7_5⟩ := RFn.bf6 BK286) | ((with_reducible refine gate_builtin (b := .append) (xs := #[.tmp 12, .tmp 18]) rfl ?_); at_builtin; refine Kd.R_append k28 (w0 := w) w.heap.size rfl (.tmp 12) (.tmp 18) 22 28 (.agg #[(.string ⟨#[]⟩), (.string ⟨#[]⟩), (.string ⟨#[]⟩), (.string ⟨#[]⟩), (.int .i64 0), (.int .i64 0)]) 80 rfl Try.underlying22 info28 rfl (by decide) (by omega) u3 x3_1 (⟨(⟨(rd_T60 l0 x8_1).f0.f0, (rd_T60 l0 x8_1).f0.f1, (rd_T60 l0 x8_1).f0.f2, (rd_T60 l0 x8_1).f0.f3, (rd_T60 l0 x8_1).f0.f4⟩ : S24), (rd_T60 l0 x8_1).f1⟩ : S28) [.string ((rd_T60 l0 x8_1).f0.f0), .string ((rd_T60 l0 x8_1).f0.f1), .string ((rd_T60 l0 x8_1).f0.f2), .string ((rd_T60 l0 x8_1).f0.f3), .int .i64 ((rd_T60 l0 x8_1).f0.f4), .int .i64 ((rd_T60 l0 x8_1).f1)] (fun _ => True) (fun _ => False) rfl (by first | (go_simp; done) | (go_simp; rfl)) ?aP (fun _ hk => hk.elim) ?aF ?aO ?aB ?aS ?aL ?_; (case aP => exact k28_mkM _ _ _ (⟨(⟨(rd_T60 l0 x8_1).f0.f0, (rd_T60 l0 x8_1).f0.f1, (rd_T60 l0 x8_1).f0.f2, (rd_T60 l0 x8_1).f0.f3, (rd_T60 l0 x8_1).f0.f4⟩ : S24), (rd_T60 l0 x8_1).f1⟩ : S28)); (case aB => exact RFn.bels); (case aF => exact (fun _ _ => trivial)); (case aO => exact (by (with_reducible repeat (first | apply Kd.R_alloc | apply Kd.R_drewN | apply Kd.R_drew)); exact Kd.R_mono (Kd.R_far (p := ⟨gb286, 5, none⟩) (Kd.R_far (p := ⟨gb286, 4, none⟩) (Kd.R_far (p := ⟨gb286, 3, none⟩) (Kd.R_far (p := ⟨gb286, 2, none⟩) (Kd.R_far (p := ⟨gb286, 1, none⟩) (Kd.R_far (p := ⟨gb286, 0, none⟩) (Kd.R_types HO_3.out BK286.out (by decide)) (fun _ hk => hk.2) (.string ((rd_T60 l0 x8_1).f0.f0))) (fun _ hk => hk.2) (.string ((rd_T60 l0 x8_1).f0.f1))) (fun _ hk => hk.2) (.string ((rd_T60 l0 x8_1).f0.f2))) (fun _ hk => hk.2) (.string ((rd_T60 l0 x8_1).f0.f3))) (fun _ hk => hk.2) (.int .i64 ((rd_T60 l0 x8_1).f0.f4))) (fun _ hk => hk.2) (.int .i64 ((rd_T60 l0 x8_1).f1))) (fun _ hk => by first | exact trivial | exact trivial))); (case aS => exact (below_size RFn.bels)); (case aL => have := LMc5.out; omega); intro v288 w8 ho hb hg hat; rw [← Ny287.out] at ho; have n0_ := Aside0.mk (blk_grown (g := gb286) (o := .cells #[.string ((rd_T60 l0 x8_1).f0.f0), .string ((rd_T60 l0 x8_1).f0.f1), .string ((rd_T60 l0 x8_1).f0.f2), .string ((rd_T60 l0 x8_1).f0.f3), .int .i64 ((rd_T60 l0 x8_1).f0.f4), .int .i64 ((rd_T60 l0 x8_1).f1)] 60 (0, 0)) (by refine RFn.d3 ?_; refine blk_put (cs := #[.string ((rd_T60 l0 x8_1).f0.f0), .string ((rd_T60 l0 x8_1).f0.f1), .string ((rd_T60 l0 x8_1).f0.f2), .string ((rd_T60 l0 x8_1).f0.f3), .int .i64 ((rd_T60 l0 x8_1).f0.f4), .int .i64 0]) ?_ 5 _ rfl; refine RFn.d3 ?_; refine blk_put (cs := #[.string ((rd_T60 l0 x8_1).f0.f0), .string ((rd_T60 l0 x8_1).f0.f1), .string ((rd_T60 l0 x8_1).f0.f2), .string ((rd_T60 l0 x8_1).f0.f3), .int .i64 0, .int .i64 0]) ?_ 4 _ rfl; refine RFn.d3 ?_; refine blk_put (cs := #[.string ((rd_T60 l0 x8_1).f0.f0), .string ((rd_T60 l0 x8_1).f0.f1), .string ((rd_T60 l0 x8_1).f0.f2), .string (⟨#[]⟩ : ByteArray), .int .i64 0, .int .i64 0]) ?_ 3 _ rfl; refine RFn.d3 ?_; refine blk_put (cs := #[.string ((rd_T60 l0 x8_1).f0.f0), .string ((rd_T60 l0 x8_1).f0.f1), .string (⟨#[]⟩ : ByteArray), .string (⟨#[]⟩ : ByteArray), .int .i64 0, .int .i64 0]) ?_ 2 _ rfl; refine RFn.d3 ?_; refine blk_put (cs := #[.string ((rd_T60 l0 x8_1).f0.f0), .string (⟨#[]⟩ : ByteArray), .string (⟨#[]⟩ : ByteArray), .string (⟨#[]⟩ : ByteArray), .int .i64 0, .int .i64 0]) ?_ 1 _ rfl; refine RFn.d3 ?_; refine blk_put (cs := #[.string (⟨#[]⟩ : ByteArray), .string (⟨#[]⟩ : ByteArray), .string (⟨#[]⟩ : ByteArray), .string (⟨#[]⟩ : ByteArray), .int .i64 0, .int .i64 0]) ?_ 0 _ rfl; refine RFn.d3 ?_; exact BK286.out) hg (Kd.R_ne HO_3.out BK286.out (by decide))); have n1_ := Aside0.mk (hb); have n2_ := Aside0.mk (ho); clear BK286; clear HB; clear HO_3; have BK286 := n0_; have HB := n1_; have HO289 := n2_; clear n0_ n1_ n2_; clear ho hb hg hat))
       go_roundg k1
       case measure => have := HK1.out; omega
       case rel => exact ⟨(y287), (wrap64 (x8_1 + 1)), (by first | rfl | (simp; done) | (simp [*]; done)), H', ⟨RFn.lk HK1⟩, ⟨RFn.mR HO289⟩, ⟨RFn.bels⟩⟩
      ·rw [if_neg c5] at H
       exact absurd H (by simp)
     ·rw [if_neg c4] at H
      exact absurd H (by simp)
    ·rw [if_neg c3] at H
     exact absurd H (by simp)
   ·rw [if_neg c2] at H
    have c2b0 : decide (x8_1 < (l0.length : Int)) = false := decide_eq_false c2
    clear c2
    obtain rfl := Option.some.inj H
    go_wp2
    go_ret
    exact ⟨_, by first | rfl | (simp [errW_none, errW_some] <;> rfl) | (simp [*, errW_none, errW_some] <;> rfl), RFn.mR HO_3, RFn.bel⟩
/-! ### ref09_Right: function 20 -/
def ref09_Right.l0 : Nat → List (S28) → Int → Option (Bool)
 | 0, _, _ => none
 | k + 1, x0, x3 => if x3 < (x0.length : Int) then (if 0 ≤ x3 then (if ((rd_T28 x0 x3).f1) = 0 then (some false) else (if x3 > 0 then (if 0 ≤ (wrap64 (x3 - 1)) then (if (wrap64 (x3 - 1)) < (x0.length : Int) then ((ref09_Cmp.f k ((rd_T28 x0 (wrap64 (x3 - 1))).f0.f0) ((rd_T28 x0 (wrap64 (x3 - 1))).f0.f1) ((rd_T28 x0 (wrap64 (x3 - 1))).f0.f2) ((rd_T28 x0 (wrap64 (x3 - 1))).f0.f3) ((rd_T28 x0 (wrap64 (x3 - 1))).f0.f4) ((rd_T28 x0 x3).f0.f0) ((rd_T28 x0 x3).f0.f1) ((rd_T28 x0 x3).f0.f2) ((rd_T28 x0 x3).f0.f3) ((rd_T28 x0 x3).f0.f4)).bind fun t293 => (if t293 ≥ 0 then (some false) else (ref09_Right.l0 k x0 (wrap64 (x3 + 1))))) else (none)) else (none)) else (ref09_Right.l0 k x0 (wrap64 (x3 + 1))))) else (none)) else (some (decide ((x0.length : Int) ≤ 2000)))
def ref09_Right.f (k : Nat) (l0 : List (S28)) : Option (Bool) := ref09_Right.l0 k l0 0
theorem ref09_Right.mono_l : ∀ k, (∀ y0 y1, LeO (ref09_Right.l0 k y0 y1) (ref09_Right.l0 (k + 1) y0 y1))
 | 0 => fun _ _ r h => by simp [ref09_Right.l0] at h
 | k + 1 => by
  have ih0 := ref09_Right.mono_l k
  ·intro y0 y1
   unfold ref09_Right.l0
   repeat' first | exact LeO.refl _ | with_reducible first | apply ih0 | apply ref09_Cmp.mono | exact LeO.none _ | apply LeO.ite | refine LeO.bind ?_ fun _ => ?_
theorem ref09_Right.mono : ∀ a0 k, LeO (ref09_Right.f k a0) (ref09_Right.f (k + 1) a0) := by
 intro a0 k
 have ih0 := ref09_Right.mono_l k
 unfold ref09_Right.f
 repeat' first | exact LeO.refl _ | with_reducible first | apply ih0 | apply ref09_Cmp.mono | exact LeO.none _ | apply LeO.ite | refine LeO.bind ?_ fun _ => ?_
def ref09_Right.T4 : Bool × List (List Nat × List Nat) := (true, [([], []), ([], []), ([0, 1], [0, 1]), ([2], [2]), ([3], [3]), ([4], [4]), ([5], [5]), ([6], [6]), ([7, 6], [6, 7]), ([8, 6, 6], [6, 8]), ([9], [9]), ([9], [9]), ([11, 9], [9, 11]), ([10, 12, 9], [9, 10, 12]), ([13, 9], [9, 13]), ([14, 9], [9, 14]), ([9], [9]), ([9], [9]), ([16, 17, 9], [9, 16, 17]), ([18, 9], [9, 18]), ([19, 9], [9, 19]), ([15, 20, 9, 9], [9, 15, 20]), ([21, 9], [9, 21]), ([9, 22, 6], [6, 9, 22]), ([6, 23], [6, 23])])
def ref09_Right.B4 : List Nat := [0, 0, 3, 7, 15, 31, 63, 127, 255, 511, 1023, 1023, 3071, 8191, 16383, 32767, 1023, 1023, 197631, 459775, 984063, 2097151, 4194303, 8388607, 16777215]
theorem ref09_Right.tab4 : rtab .any (opsOf Try.f20 4) = ref09_Right.T4 := by kernel_rfl
theorem ref09_Right.bits4 : waitsOk ref09_Right.T4.2 ref09_Right.B4 = true := by kernel_rfl
set_option maxHeartbeats 8000000 in
set_option maxRecDepth 100000 in
theorem ref09_Right.calls (k : Nat) (A0 : Option Addr) (c0 : Nat) (l0 : List (S28)) (r : Bool) (w : World) (hr0 : Kd.C k28 w A0 l0.length l0) (hc0 : l0.length ≤ c0) (h : ref09_Right.f k l0 = some r) :
  Calls Try.prog 20 #[.slice A0 l0.length c0] w fun e w' => e = .returned (.bool r) ∧ Below w.heap.size w w' := by
 have hu24 := Try.underlying24
 have HR0 := Aside0.mk hr0
 have HC0 := Aside0.mk hc0
 clear hr0 hc0
 have HB := Aside0.mk (Below.refl w.heap.size w)
 have H : (ref09_Right.l0 k l0 0) = some r := h
 clear h
 have H' := Aside0.mk H
 clear H
 go_enter Try.func20, Try.ntmps20
 go_wp2
 go_loopg [3] k (fun kq v3 w' => ∃ (x3_1 : Int), v3 = .int .i64 x3_1 ∧ Aside0 (ref09_Right.l0 kq l0 x3_1 = some r) ∧ Aside0 (kq ≤ k) ∧ Aside0 (Below w.heap.size w w'))
 case atStart => exact ⟨(0), (by first | rfl | (simp; done) | (simp [*]; done)), H', ⟨Nat.le_refl _⟩, ⟨RFn.bel⟩⟩
 case round =>
  clear H'
  obtain ⟨x3_1, rfl, HA, HK1, HB⟩ := hrel
  cases gk with
  | zero => exact absurd HA.out (by simp [ref09_Right.l0])
  | succ k1 =>
   have H := HA.out
   clear HA
   simp only [ref09_Right.l0] at H
   by_cases c2 : x3_1 < (l0.length : Int)
   ·rw [if_pos c2] at H
    have c2b0 : decide (x3_1 < (l0.length : Int)) = true := decide_eq_true c2
    clear c2
    by_cases c3 : 0 ≤ x3_1
    ·rw [if_pos c3] at H
     have c3b0 : decide (0 ≤ x3_1) = true := decide_eq_true c3
     clear c3
     by_cases c4 : ((rd_T28 l0 x3_1).f1) = 0
     ·rw [if_pos c4] at H
      have c4b0 : (((rd_T28 l0 x3_1).f1) == 0) = true := beq_iff_eq.mpr c4
      have c4b1 : (((rd_T28 l0 x3_1).f1) != 0) = false := bne_eq_false_iff_eq.mpr c4
      clear c4
      obtain rfl := Option.some.inj H
      try go_wp2
      have n0_ := Aside0.mk (below_drew1 HB.out)
      clear HB
      have HB := n0_
      clear n0_
      have p290 : 0 ≤ (x3_1 : Int) := RFn.od
      have q290 : x3_1 < (l0.length : Int) := RFn.od
      obtain ⟨ad290, e290, hx290_0, hx290_1, hx290_2, hx290_3, hx290_4, hx290_5⟩ := at_T28 HR0.out x3_1 p290 q290
      have hw290_5 := hx290_5
      have hw290_4 := hx290_4
      have hw290_3 := hx290_3
      have hw290_2 := hx290_2
      have hw290_1 := hx290_1
      have hw290_0 := hx290_0
      cases e290
      replace hx290_0 := RFn.hb HB hx290_0
      replace hx290_1 := RFn.hb HB hx290_1
      replace hx290_2 := RFn.hb HB hx290_2
      replace hx290_3 := RFn.hb HB hx290_3
      replace hx290_4 := RFn.hb HB hx290_4
      replace hx290_5 := RFn.hb HB hx290_5
      replace p290 := eq_true p290
      replace q290 := eq_true q290
      refine start_ (n := 25) (S := fun w' => w'.cell? (ad290.add ((x3_1).toNat * 6)) = some (.string ((rd_T28 l0 x3_1).f0.f0)) ∧ w'.cell? ⟨(ad290.add ((x3_1).toNat * 6)).block, (ad290.add ((x3_1).toNat * 6)).off + 1, none⟩ = some (.string ((rd_T28 l0 x3_1).f0.f1)) ∧ w'.cell? ⟨(ad290.add ((x3_1).toNat * 6)).block, (ad290.add ((x3_1).toNat * 6)).off + 2, none⟩ = some (.string ((rd_T28 l0 x3_1).f0.f2)) ∧ w'.cell? ⟨(ad290.add ((x3_1).toNat * 6)).block, (ad290.add ((x3_1).toNat * 6)).off + 3, none⟩ = some (.string ((rd_T28 l0 x3_1).f0.f3)) ∧ w'.cell? ⟨(ad290.add ((x3_1).toNat * 6)).block, (ad290.add ((x3_1).toNat * 6)).off + 4, none⟩ = some (.int .i64 ((rd_T28 l0 x3_1).f0.f4)) ∧ w'.cell? ⟨(ad290.add ((x3_1).toNat * 6)).block, (ad290.add ((x3_1).toNat * 6)).off + 5, none⟩ = some (.int .i64 ((rd_T28 l0 x3_1).f1))) (ds := []) (bs 25 0) (by kernel_rfl) rfl rfl ⟨(RFn.hb HB hw290_0), (RFn.hb HB hw290_1), (RFn.hb HB hw290_2), (RFn.hb HB hw290_3), (RFn.hb HB hw290_4), (RFn.hb HB hw290_5)⟩ (fun hHeld => ?_); refine with_tabW ref09_Right.tab4 ref09_Right.bits4 (fun HT_ HW_ => ?_)
      generalize wr.drew = w5 at HB hx290_0 hx290_1 hx290_2 hx290_3 hx290_4 hx290_5 hHeld ⊢
      refine RFn.pA (i := 0) (N := some 10) (bs 25 1) HT_ ?_
      refine RFn.pA (i := 1) (N := some 11) (bs 25 3) HT_ ?_
      refine RFn.pA (i := 2) (N := some 12) (bs 25 7) HT_ ?_
      refine RFn.pA (i := 3) (N := some 13) (bs 25 15) HT_ ?_
      refine RFn.tA (i := 4) (N := some 14) (bs 25 31) rfl HT_ HW_ hHeld (by rintro w' ⟨s0, s1, s2, s3, s4, s5⟩; go_simp; with_reducible rfl) ?_
      refine RFn.pA (i := 5) (N := some 15) (bs 25 63) HT_ ?_
      refine RFn.pA (i := 6) (N := some 16) (bs 25 127) HT_ ?_
      refine RFn.pU (i := 7) (N := some 17) (bs 25 255) HT_ ?_
      refine RFn.pU (i := 8) (N := some 18) (bs 25 511) HT_ ?_
      refine RFn.pU (i := 9) (N := some 19) (bs 25 1023) HT_ ?_
      refine RFn.pU (i := 10) (N := some 20) (bs 25 2047) HT_ ?_
      refine RFn.pU (i := 11) (N := some 21) (bs 25 4095) HT_ ?_
      refine RFn.pU (i := 12) (N := some 22) (bs 25 8191) HT_ ?_
      refine RFn.pU (i := 13) (N := some 23) (bs 25 16383) HT_ ?_
      refine RFn.pU (i := 14) (N := some 24) (bs 25 32767) HT_ ?_
      refine RFn.pU (i := 15) (N := some 25) (bs 25 65535) HT_ ?_
      refine RFn.pU (i := 16) (N := some 26) (bs 25 131071) HT_ ?_
      refine RFn.pU (i := 17) (N := some 27) (bs 25 262143) HT_ ?_
      refine RFn.pU (i := 18) (N := some 28) (bs 25 524287) HT_ ?_
      refine RFn.pU (i := 19) (N := some 29) (bs 25 1048575) HT_ ?_
      refine RFn.pU (i := 20) (N := some 30) (bs 25 2097151) HT_ ?_
      refine RFn.pU (i := 21) (N := some 31) (bs 25 4194303) HT_ ?_
      refine RFn.pU (i := 22) (N := some 32) (bs 25 8388607) HT_ ?_
      refine RFn.pU (i := 23) (N := some 33) (bs 25 16777215) HT_ ?_
      refine RFn.pA (i := 24) (N := some 34) (bs 25 33554431) HT_ ?_
      refine RFn.dn HT_ ?_
      try go_wp2
      go_ret
      exact ⟨by first | rfl | (simp [errW_none, errW_some] <;> rfl) | (simp [*, errW_none, errW_some] <;> rfl), RFn.bel⟩
     ·rw [if_neg c4] at H
      have c4b0 : (((rd_T28 l0 x3_1).f1) == 0) = false := beq_eq_false_iff_ne.mpr c4
      have c4b1 : (((rd_T28 l0 x3_1).f1) != 0) = true := bne_iff_ne.mpr c4
      by_cases c6 : x3_1 > 0
      ·rw [if_pos c6] at H
       have c6b0 : decide (0 < x3_1) = true := decide_eq_true c6
       clear c6
       obtain ⟨ji7, hji7⟩ : ∃ j_ : Int, (wrap64 (x3_1 - 1)) = j_ := ⟨_, rfl⟩
       replace H : (if 0 ≤ (ji7) then (if (ji7) < (l0.length : Int) then ((ref09_Cmp.f k1 ((rd_T28 l0 (ji7)).f0.f0) ((rd_T28 l0 (ji7)).f0.f1) ((rd_T28 l0 (ji7)).f0.f2) ((rd_T28 l0 (ji7)).f0.f3) ((rd_T28 l0 (ji7)).f0.f4) ((rd_T28 l0 x3_1).f0.f0) ((rd_T28 l0 x3_1).f0.f1) ((rd_T28 l0 x3_1).f0.f2) ((rd_T28 l0 x3_1).f0.f3) ((rd_T28 l0 x3_1).f0.f4)).bind fun t293 => (if t293 ≥ 0 then (some false) else (ref09_Right.l0 k1 l0 (wrap64 (x3_1 + 1))))) else (none)) else (none)) = some r := by first | (rw [hji7] at H; exact H) | (simp only [hji7] at H ⊢; exact H)
       have hji7w : (IntKind.i64.wrap (x3_1 - 1)) = ji7 := (i64_w _).trans hji7
       by_cases c8 : 0 ≤ (ji7)
       ·rw [if_pos c8] at H
        have c8b0 : decide (0 ≤ (ji7)) = true := decide_eq_true c8
        clear c8
        by_cases c9 : (ji7) < (l0.length : Int)
        ·rw [if_pos c9] at H
         have c9b0 : decide ((ji7) < (l0.length : Int)) = true := decide_eq_true c9
         clear c9
         obtain ⟨t293, A10, H⟩ := RFn.bn H
         by_cases c11 : t293 ≥ 0
         ·rw [if_pos c11] at H
          have c11b0 : decide (0 ≤ t293) = true := decide_eq_true c11
          clear c11
          obtain rfl := Option.some.inj H
          try go_wp2
          have n0_ := Aside0.mk (below_drew1 HB.out)
          clear HB
          have HB := n0_
          clear n0_
          have p290 : 0 ≤ (x3_1 : Int) := RFn.od
          have q290 : x3_1 < (l0.length : Int) := RFn.od
          obtain ⟨ad290, e290, hx290_0, hx290_1, hx290_2, hx290_3, hx290_4, hx290_5⟩ := at_T28 HR0.out x3_1 p290 q290
          have hw290_5 := hx290_5
          have hw290_4 := hx290_4
          have hw290_3 := hx290_3
          have hw290_2 := hx290_2
          have hw290_1 := hx290_1
          have hw290_0 := hx290_0
          cases e290
          replace hx290_0 := RFn.hb HB hx290_0
          replace hx290_1 := RFn.hb HB hx290_1
          replace hx290_2 := RFn.hb HB hx290_2
          replace hx290_3 := RFn.hb HB hx290_3
          replace hx290_4 := RFn.hb HB hx290_4
          replace hx290_5 := RFn.hb HB hx290_5
          replace p290 := eq_true p290
          replace q290 := eq_true q290
          have p291 : 0 ≤ ((ji7) : Int) := RFn.od
          have q291 : (ji7) < (l0.length : Int) := RFn.od
          obtain ⟨ad291, e291, hx291_0, hx291_1, hx291_2, hx291_3, hx291_4, hx291_5⟩ := at_T28 HR0.out (ji7) p291 q291
          have hw291_5 := hx291_5
          have hw291_4 := hx291_4
          have hw291_3 := hx291_3
          have hw291_2 := hx291_2
          have hw291_1 := hx291_1
          have hw291_0 := hx291_0
          obtain rfl : ad290 = ad291 := (by injection e291)
          replace hx291_0 := RFn.hb HB hx291_0
          replace hx291_1 := RFn.hb HB hx291_1
          replace hx291_2 := RFn.hb HB hx291_2
          replace hx291_3 := RFn.hb HB hx291_3
          replace hx291_4 := RFn.hb HB hx291_4
          replace hx291_5 := RFn.hb HB hx291_5
          replace p291 := eq_true p291
          replace q291 := eq_true q291
          have p292 : 0 ≤ (x3_1 : Int) := RFn.od
          have q292 : x3_1 < (l0.length : Int) := RFn.od
          obtain ⟨ad292, e292, hx292_0, hx292_1, hx292_2, hx292_3, hx292_4, hx292_5⟩ := at_T28 HR0.out x3_1 p292 q292
          have hw292_5 := hx292_5
          have hw292_4 := hx292_4
          have hw292_3 := hx292_3
          have hw292_2 := hx292_2
          have hw292_1 := hx292_1
          have hw292_0 := hx292_0
          obtain rfl : ad290 = ad292 := (by injection e292)
          replace hx292_0 := RFn.hb HB hx292_0
          replace hx292_1 := RFn.hb HB hx292_1
          replace hx292_2 := RFn.hb HB hx292_2
          replace hx292_3 := RFn.hb HB hx292_3
          replace hx292_4 := RFn.hb HB hx292_4
          replace hx292_5 := RFn.hb HB hx292_5
          replace p292 := eq_true p292
          replace q292 := eq_true q292
          refine start_ (n := 25) (S := fun w' => w'.cell? (ad290.add ((x3_1).toNat * 6)) = some (.string ((rd_T28 l0 x3_1).f0.f0)) ∧ w'.cell? ⟨(ad290.add ((x3_1).toNat * 6)).block, (ad290.add ((x3_1).toNat * 6)).off + 1, none⟩ = some (.string ((rd_T28 l0 x3_1).f0.f1)) ∧ w'.cell? ⟨(ad290.add ((x3_1).toNat * 6)).block, (ad290.add ((x3_1).toNat * 6)).off + 2, none⟩ = some (.string ((rd_T28 l0 x3_1).f0.f2)) ∧ w'.cell? ⟨(ad290.add ((x3_1).toNat * 6)).block, (ad290.add ((x3_1).toNat * 6)).off + 3, none⟩ = some (.string ((rd_T28 l0 x3_1).f0.f3)) ∧ w'.cell? ⟨(ad290.add ((x3_1).toNat * 6)).block, (ad290.add ((x3_1).toNat * 6)).off + 4, none⟩ = some (.int .i64 ((rd_T28 l0 x3_1).f0.f4)) ∧ w'.cell? ⟨(ad290.add ((x3_1).toNat * 6)).block, (ad290.add ((x3_1).toNat * 6)).off + 5, none⟩ = some (.int .i64 ((rd_T28 l0 x3_1).f1)) ∧ w'.cell? (ad290.add (((ji7)).toNat * 6)) = some (.string ((rd_T28 l0 (ji7)).f0.f0)) ∧ w'.cell? ⟨(ad290.add (((ji7)).toNat * 6)).block, (ad290.add (((ji7)).toNat * 6)).off + 1, none⟩ = some (.string ((rd_T28 l0 (ji7)).f0.f1)) ∧ w'.cell? ⟨(ad290.add (((ji7)).toNat * 6)).block, (ad290.add (((ji7)).toNat * 6)).off + 2, none⟩ = some (.string ((rd_T28 l0 (ji7)).f0.f2)) ∧ w'.cell? ⟨(ad290.add (((ji7)).toNat * 6)).block, (ad290.add (((ji7)).toNat * 6)).off + 3, none⟩ = some (.string ((rd_T28 l0 (ji7)).f0.f3)) ∧ w'.cell? ⟨(ad290.add (((ji7)).toNat * 6)).block, (ad290.add (((ji7)).toNat * 6)).off + 4, none⟩ = some (.int .i64 ((rd_T28 l0 (ji7)).f0.f4)) ∧ w'.cell? ⟨(ad290.add (((ji7)).toNat * 6)).block, (ad290.add (((ji7)).toNat * 6)).off + 5, none⟩ = some (.int .i64 ((rd_T28 l0 (ji7)).f1)) ∧ w'.cell? (ad290.add ((x3_1).toNat * 6)) = some (.string ((rd_T28 l0 x3_1).f0.f0)) ∧ w'.cell? ⟨(ad290.add ((x3_1).toNat * 6)).block, (ad290.add ((x3_1).toNat * 6)).off + 1, none⟩ = some (.string ((rd_T28 l0 x3_1).f0.f1)) ∧ w'.cell? ⟨(ad290.add ((x3_1).toNat * 6)).block, (ad290.add ((x3_1).toNat * 6)).off + 2, none⟩ = some (.string ((rd_T28 l0 x3_1).f0.f2)) ∧ w'.cell? ⟨(ad290.add ((x3_1).toNat * 6)).block, (ad290.add ((x3_1).toNat * 6)).off + 3, none⟩ = some (.string ((rd_T28 l0 x3_1).f0.f3)) ∧ w'.cell? ⟨(ad290.add ((x3_1).toNat * 6)).block, (ad290.add ((x3_1).toNat * 6)).off + 4, none⟩ = some (.int .i64 ((rd_T28 l0 x3_1).f0.f4)) ∧ w'.cell? ⟨(ad290.add ((x3_1).toNat * 6)).block, (ad290.add ((x3_1).toNat * 6)).off + 5, none⟩ = some (.int .i64 ((rd_T28 l0 x3_1).f1))) (ds := []) (bs 25 0) (by kernel_rfl) rfl rfl ⟨(RFn.hb HB hw290_0), (RFn.hb HB hw290_1), (RFn.hb HB hw290_2), (RFn.hb HB hw290_3), (RFn.hb HB hw290_4), (RFn.hb HB hw290_5), (RFn.hb HB hw291_0), (RFn.hb HB hw291_1), (RFn.hb HB hw291_2), (RFn.hb HB hw291_3), (RFn.hb HB hw291_4), (RFn.hb HB hw291_5), (RFn.hb HB hw292_0), (RFn.hb HB hw292_1), (RFn.hb HB hw292_2), (RFn.hb HB hw292_3), (RFn.hb HB hw292_4), (RFn.hb HB hw292_5)⟩ (fun hHeld => ?_); refine with_tabW ref09_Right.tab4 ref09_Right.bits4 (fun HT_ HW_ => ?_)
          generalize wr.drew = w12 at HB hx290_0 hx290_1 hx290_2 hx290_3 hx290_4 hx290_5 hx291_0 hx291_1 hx291_2 hx291_3 hx291_4 hx291_5 hx292_0 hx292_1 hx292_2 hx292_3 hx292_4 hx292_5 hHeld ⊢
          refine RFn.pA (i := 0) (N := some 10) (bs 25 1) HT_ ?_
          refine RFn.pA (i := 1) (N := some 11) (bs 25 3) HT_ ?_
          refine RFn.pA (i := 2) (N := some 12) (bs 25 7) HT_ ?_
          refine RFn.pA (i := 3) (N := some 13) (bs 25 15) HT_ ?_
          refine RFn.tA (i := 4) (N := some 14) (bs 25 31) rfl HT_ HW_ hHeld (by rintro w' ⟨s0, s1, s2, s3, s4, s5, s6, s7, s8, s9, s10, s11, s12, s13, s14, s15, s16, s17⟩; go_simp; with_reducible rfl) ?_
          refine RFn.pA (i := 5) (N := some 15) (bs 25 63) HT_ ?_
          refine RFn.pA (i := 6) (N := some 16) (bs 25 127) HT_ ?_
          refine RFn.pA (i := 7) (N := some 17) (bs 25 255) HT_ ?_
          refine RFn.pA (i := 8) (N := some 18) (bs 25 511) HT_ ?_
          refine RFn.pA (i := 9) (N := some 19) (bs 25 1023) HT_ ?_
          refine RFn.pA (i := 10) (N := some 20) (bs 25 2047) HT_ ?_
          refine RFn.pA (i := 11) (N := some 21) (bs 25 4095) HT_ ?_
          refine RFn.pA (i := 12) (N := some 22) (bs 25 8191) HT_ ?_
          refine RFn.pA (i := 13) (N := some 23) (bs 25 16383) HT_ ?_
          refine RFn.pA (i := 14) (N := some 24) (bs 25 32767) HT_ ?_
          refine RFn.pA (i := 16) (N := some 26) (bs 25 98303) HT_ ?_
          refine RFn.pA (i := 17) (N := some 27) (bs 25 229375) HT_ ?_
          refine RFn.pA (i := 18) (N := some 28) (bs 25 491519) HT_ ?_
          refine RFn.pA (i := 19) (N := some 29) (bs 25 1015807) HT_ ?_
          refine RFn.tA (i := 15) (N := some 25) (bs 25 1048575) rfl HT_ HW_ hHeld (by rintro w' ⟨s0, s1, s2, s3, s4, s5, s6, s7, s8, s9, s10, s11, s12, s13, s14, s15, s16, s17⟩; go_simp; with_reducible rfl) ?_
          refine RFn.tA (i := 20) (N := some 30) (bs 25 2097151) rfl HT_ HW_ hHeld (by rintro w' ⟨s0, s1, s2, s3, s4, s5, s6, s7, s8, s9, s10, s11, s12, s13, s14, s15, s16, s17⟩; go_simp; with_reducible rfl) ?_
          refine RFn.o1 (i := 21) (N := some 31) (bs 25 4194303) HT_ fun K hK => ?_
          refine goes_ Try.func18 (by kernel_rfl) rfl #[.agg #[.string ((rd_T28 l0 (ji7)).f0.f0), .string ((rd_T28 l0 (ji7)).f0.f1), .string ((rd_T28 l0 (ji7)).f0.f2), .string ((rd_T28 l0 (ji7)).f0.f3), .int .i64 ((rd_T28 l0 (ji7)).f0.f4)], .agg #[.string ((rd_T28 l0 x3_1).f0.f0), .string ((rd_T28 l0 x3_1).f0.f1), .string ((rd_T28 l0 x3_1).f0.f2), .string ((rd_T28 l0 x3_1).f0.f3), .int .i64 ((rd_T28 l0 x3_1).f0.f4)]] (by rfl) rfl rfl (by (try simp only [List.map_toArray, List.map_cons, List.map_nil]); first | done | (simp only [hji7]; rfl) | rfl | (simp only [List.length_drop, List.length_take]; rfl)) ?_
          with_reducible refine (ref09_Cmp.calls k1 ((rd_T28 l0 (ji7)).f0.f0) ((rd_T28 l0 (ji7)).f0.f1) ((rd_T28 l0 (ji7)).f0.f2) ((rd_T28 l0 (ji7)).f0.f3) ((rd_T28 l0 (ji7)).f0.f4) ((rd_T28 l0 x3_1).f0.f0) ((rd_T28 l0 x3_1).f0.f1) ((rd_T28 l0 x3_1).f0.f2) ((rd_T28 l0 x3_1).f0.f3) ((rd_T28 l0 x3_1).f0.f4) t293 _ A10.out).mono ?_
          rintro e w13 ⟨rfl, hb⟩
          refine ⟨_, rfl, ?_⟩
          have n0_ := Aside0.mk (below_step (RFn.bel) hb)
          clear HB
          have HB := n0_
          clear n0_
          (try clear hb)
          (try clear hb2)
          (try clear hk)
          (try clear hi)
          refine hK.out _ _ ⟨(RFn.hb HB hw290_0), (RFn.hb HB hw290_1), (RFn.hb HB hw290_2), (RFn.hb HB hw290_3), (RFn.hb HB hw290_4), (RFn.hb HB hw290_5), (RFn.hb HB hw291_0), (RFn.hb HB hw291_1), (RFn.hb HB hw291_2), (RFn.hb HB hw291_3), (RFn.hb HB hw291_4), (RFn.hb HB hw291_5), (RFn.hb HB hw292_0), (RFn.hb HB hw292_1), (RFn.hb HB hw292_2), (RFn.hb HB hw292_3), (RFn.hb HB hw292_4), (RFn.hb HB hw292_5)⟩ (fun hHeld => ?_)
          clear hK K
          refine RFn.nm (some 31) ?_
          refine RFn.pA (i := 22) (N := some 32) (bs 25 8388607) HT_ ?_
          refine RFn.pA (i := 23) (N := some 33) (bs 25 16777215) HT_ ?_
          refine RFn.pA (i := 24) (N := some 34) (bs 25 33554431) HT_ ?_
          refine RFn.dn HT_ ?_
          try go_wp2
          go_ret
          exact ⟨by first | rfl | (simp [errW_none, errW_some] <;> rfl) | (simp only [← hji7]; first | rfl | (simp [errW_none, errW_some] <;> rfl)) | (simp [*, errW_none, errW_some] <;> rfl), RFn.bel⟩
         ·rw [if_neg c11] at H
          have c11b0 : decide (0 ≤ t293) = false := decide_eq_false c11
          clear c11
          have H' := Aside0.mk H
          clear H
          try go_wp2
          have n0_ := Aside0.mk (below_drew1 HB.out)
          clear HB
          have HB := n0_
          clear n0_
          have p290 : 0 ≤ (x3_1 : Int) := RFn.od
          have q290 : x3_1 < (l0.length : Int) := RFn.od
          obtain ⟨ad290, e290, hx290_0, hx290_1, hx290_2, hx290_3, hx290_4, hx290_5⟩ := at_T28 HR0.out x3_1 p290 q290
          have hw290_5 := hx290_5
          have hw290_4 := hx290_4
          have hw290_3 := hx290_3
          have hw290_2 := hx290_2
          have hw290_1 := hx290_1
          have hw290_0 := hx290_0
          cases e290
          replace hx290_0 := RFn.hb HB hx290_0
          replace hx290_1 := RFn.hb HB hx290_1
          replace hx290_2 := RFn.hb HB hx290_2
          replace hx290_3 := RFn.hb HB hx290_3
          replace hx290_4 := RFn.hb HB hx290_4
          replace hx290_5 := RFn.hb HB hx290_5
          replace p290 := eq_true p290
          replace q290 := eq_true q290
          have p291 : 0 ≤ ((ji7) : Int) := RFn.od
          have q291 : (ji7) < (l0.length : Int) := RFn.od
          obtain ⟨ad291, e291, hx291_0, hx291_1, hx291_2, hx291_3, hx291_4, hx291_5⟩ := at_T28 HR0.out (ji7) p291 q291
          have hw291_5 := hx291_5
          have hw291_4 := hx291_4
          have hw291_3 := hx291_3
          have hw291_2 := hx291_2
          have hw291_1 := hx291_1
          have hw291_0 := hx291_0
          obtain rfl : ad290 = ad291 := (by injection e291)
          replace hx291_0 := RFn.hb HB hx291_0
          replace hx291_1 := RFn.hb HB hx291_1
          replace hx291_2 := RFn.hb HB hx291_2
          replace hx291_3 := RFn.hb HB hx291_3
          replace hx291_4 := RFn.hb HB hx291_4
          replace hx291_5 := RFn.hb HB hx291_5
          replace p291 := eq_true p291
          replace q291 := eq_true q291
          have p292 : 0 ≤ (x3_1 : Int) := RFn.od
          have q292 : x3_1 < (l0.length : Int) := RFn.od
          obtain ⟨ad292, e292, hx292_0, hx292_1, hx292_2, hx292_3, hx292_4, hx292_5⟩ := at_T28 HR0.out x3_1 p292 q292
          have hw292_5 := hx292_5
          have hw292_4 := hx292_4
          have hw292_3 := hx292_3
          have hw292_2 := hx292_2
          have hw292_1 := hx292_1
          have hw292_0 := hx292_0
          obtain rfl : ad290 = ad292 := (by injection e292)
          replace hx292_0 := RFn.hb HB hx292_0
          replace hx292_1 := RFn.hb HB hx292_1
          replace hx292_2 := RFn.hb HB hx292_2
          replace hx292_3 := RFn.hb HB hx292_3
          replace hx292_4 := RFn.hb HB hx292_4
          replace hx292_5 := RFn.hb HB hx292_5
          replace p292 := eq_true p292
          replace q292 := eq_true q292
          refine start_ (n := 25) (S := fun w' => w'.cell? (ad290.add ((x3_1).toNat * 6)) = some (.string ((rd_T28 l0 x3_1).f0.f0)) ∧ w'.cell? ⟨(ad290.add ((x3_1).toNat * 6)).block, (ad290.add ((x3_1).toNat * 6)).off + 1, none⟩ = some (.string ((rd_T28 l0 x3_1).f0.f1)) ∧ w'.cell? ⟨(ad290.add ((x3_1).toNat * 6)).block, (ad290.add ((x3_1).toNat * 6)).off + 2, none⟩ = some (.string ((rd_T28 l0 x3_1).f0.f2)) ∧ w'.cell? ⟨(ad290.add ((x3_1).toNat * 6)).block, (ad290.add ((x3_1).toNat * 6)).off + 3, none⟩ = some (.string ((rd_T28 l0 x3_1).f0.f3)) ∧ w'.cell? ⟨(ad290.add ((x3_1).toNat * 6)).block, (ad290.add ((x3_1).toNat * 6)).off + 4, none⟩ = some (.int .i64 ((rd_T28 l0 x3_1).f0.f4)) ∧ w'.cell? ⟨(ad290.add ((x3_1).toNat * 6)).block, (ad290.add ((x3_1).toNat * 6)).off + 5, none⟩ = some (.int .i64 ((rd_T28 l0 x3_1).f1)) ∧ w'.cell? (ad290.add (((ji7)).toNat * 6)) = some (.string ((rd_T28 l0 (ji7)).f0.f0)) ∧ w'.cell? ⟨(ad290.add (((ji7)).toNat * 6)).block, (ad290.add (((ji7)).toNat * 6)).off + 1, none⟩ = some (.string ((rd_T28 l0 (ji7)).f0.f1)) ∧ w'.cell? ⟨(ad290.add (((ji7)).toNat * 6)).block, (ad290.add (((ji7)).toNat * 6)).off + 2, none⟩ = some (.string ((rd_T28 l0 (ji7)).f0.f2)) ∧ w'.cell? ⟨(ad290.add (((ji7)).toNat * 6)).block, (ad290.add (((ji7)).toNat * 6)).off + 3, none⟩ = some (.string ((rd_T28 l0 (ji7)).f0.f3)) ∧ w'.cell? ⟨(ad290.add (((ji7)).toNat * 6)).block, (ad290.add (((ji7)).toNat * 6)).off + 4, none⟩ = some (.int .i64 ((rd_T28 l0 (ji7)).f0.f4)) ∧ w'.cell? ⟨(ad290.add (((ji7)).toNat * 6)).block, (ad290.add (((ji7)).toNat * 6)).off + 5, none⟩ = some (.int .i64 ((rd_T28 l0 (ji7)).f1)) ∧ w'.cell? (ad290.add ((x3_1).toNat * 6)) = some (.string ((rd_T28 l0 x3_1).f0.f0)) ∧ w'.cell? ⟨(ad290.add ((x3_1).toNat * 6)).block, (ad290.add ((x3_1).toNat * 6)).off + 1, none⟩ = some (.string ((rd_T28 l0 x3_1).f0.f1)) ∧ w'.cell? ⟨(ad290.add ((x3_1).toNat * 6)).block, (ad290.add ((x3_1).toNat * 6)).off + 2, none⟩ = some (.string ((rd_T28 l0 x3_1).f0.f2)) ∧ w'.cell? ⟨(ad290.add ((x3_1).toNat * 6)).block, (ad290.add ((x3_1).toNat * 6)).off + 3, none⟩ = some (.string ((rd_T28 l0 x3_1).f0.f3)) ∧ w'.cell? ⟨(ad290.add ((x3_1).toNat * 6)).block, (ad290.add ((x3_1).toNat * 6)).off + 4, none⟩ = some (.int .i64 ((rd_T28 l0 x3_1).f0.f4)) ∧ w'.cell? ⟨(ad290.add ((x3_1).toNat * 6)).block, (ad290.add ((x3_1).toNat * 6)).off + 5, none⟩ = some (.int .i64 ((rd_T28 l0 x3_1).f1))) (ds := []) (bs 25 0) (by kernel_rfl) rfl rfl ⟨(RFn.hb HB hw290_0), (RFn.hb HB hw290_1), (RFn.hb HB hw290_2), (RFn.hb HB hw290_3), (RFn.hb HB hw290_4), (RFn.hb HB hw290_5), (RFn.hb HB hw291_0), (RFn.hb HB hw291_1), (RFn.hb HB hw291_2), (RFn.hb HB hw291_3), (RFn.hb HB hw291_4), (RFn.hb HB hw291_5), (RFn.hb HB hw292_0), (RFn.hb HB hw292_1), (RFn.hb HB hw292_2), (RFn.hb HB hw292_3), (RFn.hb HB hw292_4), (RFn.hb HB hw292_5)⟩ (fun hHeld => ?_); refine with_tabW ref09_Right.tab4 ref09_Right.bits4 (fun HT_ HW_ => ?_)
          generalize wr.drew = w14 at HB hx290_0 hx290_1 hx290_2 hx290_3 hx290_4 hx290_5 hx291_0 hx291_1 hx291_2 hx291_3 hx291_4 hx291_5 hx292_0 hx292_1 hx292_2 hx292_3 hx292_4 hx292_5 hHeld ⊢
          refine RFn.pA (i := 0) (N := some 10) (bs 25 1) HT_ ?_
          refine RFn.pA (i := 1) (N := some 11) (bs 25 3) HT_ ?_
          refine RFn.pA (i := 2) (N := some 12) (bs 25 7) HT_ ?_
          refine RFn.pA (i := 3) (N := some 13) (bs 25 15) HT_ ?_
          refine RFn.tA (i := 4) (N := some 14) (bs 25 31) rfl HT_ HW_ hHeld (by rintro w' ⟨s0, s1, s2, s3, s4, s5, s6, s7, s8, s9, s10, s11, s12, s13, s14, s15, s16, s17⟩; go_simp; with_reducible rfl) ?_
          refine RFn.pA (i := 5) (N := some 15) (bs 25 63) HT_ ?_
          refine RFn.pA (i := 6) (N := some 16) (bs 25 127) HT_ ?_
          refine RFn.pA (i := 7) (N := some 17) (bs 25 255) HT_ ?_
          refine RFn.pA (i := 8) (N := some 18) (bs 25 511) HT_ ?_
          refine RFn.pA (i := 9) (N := some 19) (bs 25 1023) HT_ ?_
          refine RFn.pA (i := 10) (N := some 20) (bs 25 2047) HT_ ?_
          refine RFn.pA (i := 11) (N := some 21) (bs 25 4095) HT_ ?_
          refine RFn.pA (i := 12) (N := some 22) (bs 25 8191) HT_ ?_
          refine RFn.pA (i := 13) (N := some 23) (bs 25 16383) HT_ ?_
          refine RFn.pA (i := 14) (N := some 24) (bs 25 32767) HT_ ?_
          refine RFn.pA (i := 16) (N := some 26) (bs 25 98303) HT_ ?_
          refine RFn.pA (i := 17) (N := some 27) (bs 25 229375) HT_ ?_
          refine RFn.pA (i := 18) (N := some 28) (bs 25 491519) HT_ ?_
          refine RFn.pA (i := 19) (N := some 29) (bs 25 1015807) HT_ ?_
          refine RFn.tA (i := 15) (N := some 25) (bs 25 1048575) rfl HT_ HW_ hHeld (by rintro w' ⟨s0, s1, s2, s3, s4, s5, s6, s7, s8, s9, s10, s11, s12, s13, s14, s15, s16, s17⟩; go_simp; with_reducible rfl) ?_
          refine RFn.tA (i := 20) (N := some 30) (bs 25 2097151) rfl HT_ HW_ hHeld (by rintro w' ⟨s0, s1, s2, s3, s4, s5, s6, s7, s8, s9, s10, s11, s12, s13, s14, s15, s16, s17⟩; go_simp; with_reducible rfl) ?_
          refine RFn.o1 (i := 21) (N := some 31) (bs 25 4194303) HT_ fun K hK => ?_
          refine goes_ Try.func18 (by kernel_rfl) rfl #[.agg #[.string ((rd_T28 l0 (ji7)).f0.f0), .string ((rd_T28 l0 (ji7)).f0.f1), .string ((rd_T28 l0 (ji7)).f0.f2), .string ((rd_T28 l0 (ji7)).f0.f3), .int .i64 ((rd_T28 l0 (ji7)).f0.f4)], .agg #[.string ((rd_T28 l0 x3_1).f0.f0), .string ((rd_T28 l0 x3_1).f0.f1), .string ((rd_T28 l0 x3_1).f0.f2), .string ((rd_T28 l0 x3_1).f0.f3), .int .i64 ((rd_T28 l0 x3_1).f0.f4)]] (by rfl) rfl rfl (by (try simp only [List.map_toArray, List.map_cons, List.map_nil]); first | done | (simp only [hji7]; rfl) | rfl | (simp only [List.length_drop, List.length_take]; rfl)) ?_
          with_reducible refine (ref09_Cmp.calls k1 ((rd_T28 l0 (ji7)).f0.f0) ((rd_T28 l0 (ji7)).f0.f1) ((rd_T28 l0 (ji7)).f0.f2) ((rd_T28 l0 (ji7)).f0.f3) ((rd_T28 l0 (ji7)).f0.f4) ((rd_T28 l0 x3_1).f0.f0) ((rd_T28 l0 x3_1).f0.f1) ((rd_T28 l0 x3_1).f0.f2) ((rd_T28 l0 x3_1).f0.f3) ((rd_T28 l0 x3_1).f0.f4) t293 _ A10.out).mono ?_
          rintro e w15 ⟨rfl, hb⟩
          refine ⟨_, rfl, ?_⟩
          have n0_ := Aside0.mk (below_step (RFn.bel) hb)
          clear HB
          have HB := n0_
          clear n0_
          (try clear hb)
          (try clear hb2)
          (try clear hk)
          (try clear hi)
          refine hK.out _ _ ⟨(RFn.hb HB hw290_0), (RFn.hb HB hw290_1), (RFn.hb HB hw290_2), (RFn.hb HB hw290_3), (RFn.hb HB hw290_4), (RFn.hb HB hw290_5), (RFn.hb HB hw291_0), (RFn.hb HB hw291_1), (RFn.hb HB hw291_2), (RFn.hb HB hw291_3), (RFn.hb HB hw291_4), (RFn.hb HB hw291_5), (RFn.hb HB hw292_0), (RFn.hb HB hw292_1), (RFn.hb HB hw292_2), (RFn.hb HB hw292_3), (RFn.hb HB hw292_4), (RFn.hb HB hw292_5)⟩ (fun hHeld => ?_)
          clear hK K
          refine RFn.nm (some 31) ?_
          refine RFn.pA (i := 22) (N := some 32) (bs 25 8388607) HT_ ?_
          refine RFn.pA (i := 23) (N := some 33) (bs 25 16777215) HT_ ?_
          refine RFn.pA (i := 24) (N := some 34) (bs 25 33554431) HT_ ?_
          refine RFn.dn HT_ ?_
          try go_wp2
          go_roundg k1
          case measure => have := HK1.out; omega
          case rel => exact ⟨(wrap64 (x3_1 + 1)), (by first | rfl | (simp; done) | (simp [*]; done)), H', ⟨RFn.lk HK1⟩, ⟨RFn.bel⟩⟩
        ·rw [if_neg c9] at H
         exact absurd H (by simp)
       ·rw [if_neg c8] at H
        exact absurd H (by simp)
      ·rw [if_neg c6] at H
       have c6b0 : decide (0 < x3_1) = false := decide_eq_false c6
       clear c6
       have H' := Aside0.mk H
       clear H
       try go_wp2
       have n0_ := Aside0.mk (below_drew1 HB.out)
       clear HB
       have HB := n0_
       clear n0_
       have p290 : 0 ≤ (x3_1 : Int) := RFn.od
       have q290 : x3_1 < (l0.length : Int) := RFn.od
       obtain ⟨ad290, e290, hx290_0, hx290_1, hx290_2, hx290_3, hx290_4, hx290_5⟩ := at_T28 HR0.out x3_1 p290 q290
       have hw290_5 := hx290_5
       have hw290_4 := hx290_4
       have hw290_3 := hx290_3
       have hw290_2 := hx290_2
       have hw290_1 := hx290_1
       have hw290_0 := hx290_0
       cases e290
       replace hx290_0 := RFn.hb HB hx290_0
       replace hx290_1 := RFn.hb HB hx290_1
       replace hx290_2 := RFn.hb HB hx290_2
       replace hx290_3 := RFn.hb HB hx290_3
       replace hx290_4 := RFn.hb HB hx290_4
       replace hx290_5 := RFn.hb HB hx290_5
       replace p290 := eq_true p290
       replace q290 := eq_true q290
       refine start_ (n := 25) (S := fun w' => w'.cell? (ad290.add ((x3_1).toNat * 6)) = some (.string ((rd_T28 l0 x3_1).f0.f0)) ∧ w'.cell? ⟨(ad290.add ((x3_1).toNat * 6)).block, (ad290.add ((x3_1).toNat * 6)).off + 1, none⟩ = some (.string ((rd_T28 l0 x3_1).f0.f1)) ∧ w'.cell? ⟨(ad290.add ((x3_1).toNat * 6)).block, (ad290.add ((x3_1).toNat * 6)).off + 2, none⟩ = some (.string ((rd_T28 l0 x3_1).f0.f2)) ∧ w'.cell? ⟨(ad290.add ((x3_1).toNat * 6)).block, (ad290.add ((x3_1).toNat * 6)).off + 3, none⟩ = some (.string ((rd_T28 l0 x3_1).f0.f3)) ∧ w'.cell? ⟨(ad290.add ((x3_1).toNat * 6)).block, (ad290.add ((x3_1).toNat * 6)).off + 4, none⟩ = some (.int .i64 ((rd_T28 l0 x3_1).f0.f4)) ∧ w'.cell? ⟨(ad290.add ((x3_1).toNat * 6)).block, (ad290.add ((x3_1).toNat * 6)).off + 5, none⟩ = some (.int .i64 ((rd_T28 l0 x3_1).f1))) (ds := []) (bs 25 0) (by kernel_rfl) rfl rfl ⟨(RFn.hb HB hw290_0), (RFn.hb HB hw290_1), (RFn.hb HB hw290_2), (RFn.hb HB hw290_3), (RFn.hb HB hw290_4), (RFn.hb HB hw290_5)⟩ (fun hHeld => ?_); refine with_tabW ref09_Right.tab4 ref09_Right.bits4 (fun HT_ HW_ => ?_)
       generalize wr.drew = w16 at HB hx290_0 hx290_1 hx290_2 hx290_3 hx290_4 hx290_5 hHeld ⊢
       refine RFn.pA (i := 0) (N := some 10) (bs 25 1) HT_ ?_
       refine RFn.pA (i := 1) (N := some 11) (bs 25 3) HT_ ?_
       refine RFn.pA (i := 2) (N := some 12) (bs 25 7) HT_ ?_
       refine RFn.pA (i := 3) (N := some 13) (bs 25 15) HT_ ?_
       refine RFn.tA (i := 4) (N := some 14) (bs 25 31) rfl HT_ HW_ hHeld (by rintro w' ⟨s0, s1, s2, s3, s4, s5⟩; go_simp; with_reducible rfl) ?_
       refine RFn.pA (i := 5) (N := some 15) (bs 25 63) HT_ ?_
       refine RFn.pA (i := 6) (N := some 16) (bs 25 127) HT_ ?_
       refine RFn.pA (i := 7) (N := some 17) (bs 25 255) HT_ ?_
       refine RFn.pA (i := 8) (N := some 18) (bs 25 511) HT_ ?_
       refine RFn.pA (i := 9) (N := some 19) (bs 25 1023) HT_ ?_
       refine RFn.pU (i := 10) (N := some 20) (bs 25 2047) HT_ ?_
       refine RFn.pU (i := 11) (N := some 21) (bs 25 4095) HT_ ?_
       refine RFn.pU (i := 12) (N := some 22) (bs 25 8191) HT_ ?_
       refine RFn.pU (i := 13) (N := some 23) (bs 25 16383) HT_ ?_
       refine RFn.pU (i := 14) (N := some 24) (bs 25 32767) HT_ ?_
       refine RFn.pU (i := 15) (N := some 25) (bs 25 65535) HT_ ?_
       refine RFn.pU (i := 16) (N := some 26) (bs 25 131071) HT_ ?_
       refine RFn.pU (i := 17) (N := some 27) (bs 25 262143) HT_ ?_
       refine RFn.pU (i := 18) (N := some 28) (bs 25 524287) HT_ ?_
       refine RFn.pU (i := 19) (N := some 29) (bs 25 1048575) HT_ ?_
       refine RFn.pU (i := 20) (N := some 30) (bs 25 2097151) HT_ ?_
       refine RFn.pU (i := 21) (N := some 31) (bs 25 4194303) HT_ ?_
       refine RFn.pU (i := 22) (N := some 32) (bs 25 8388607) HT_ ?_
       refine RFn.pA (i := 23) (N := some 33) (bs 25 16777215) HT_ ?_
       refine RFn.pA (i := 24) (N := some 34) (bs 25 33554431) HT_ ?_
       refine RFn.dn HT_ ?_
       try go_wp2
       go_roundg k1
       case measure => have := HK1.out; omega
       case rel => exact ⟨(wrap64 (x3_1 + 1)), (by first | rfl | (simp; done) | (simp [*]; done)), H', ⟨RFn.lk HK1⟩, ⟨RFn.bel⟩⟩
    ·rw [if_neg c3] at H
     exact absurd H (by simp)
   ·rw [if_neg c2] at H
    have c2b0 : decide (x3_1 < (l0.length : Int)) = false := decide_eq_false c2
    clear c2
    obtain rfl := Option.some.inj H
    go_wp2
    go_ret
    exact ⟨by first | rfl | (simp [errW_none, errW_some] <;> rfl) | (simp [*, errW_none, errW_some] <;> rfl), RFn.bel⟩
end Go.Proofs.Ytgheapbhakamaaa.Q
