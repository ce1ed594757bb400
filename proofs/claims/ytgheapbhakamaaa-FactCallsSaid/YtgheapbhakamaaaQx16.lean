/- printed by a program of this session (wip/tools/pr.sh): it is not a print of the kit -/
import Derived.Test.YtgheapbhakamaaaQx0
import Derived.Test.YtgheapbhakamaaaQx8
import Derived.Test.YtgheapbhakamaaaQx9
import Derived.Test.YtgheapbhakamaaaQx10
import Derived.Test.YtgheapbhakamaaaQx12
import Derived.Test.YtgheapbhakamaaaQx14
import Derived.Test.YtgheapbhakamaaaQx15
namespace Go.Proofs.Ytgheapbhakamaaa.Q
open Go.RowKit Go.Proofs.YtgheapbhakamaaaW.PrintWords Go.Proofs.YtgheapbhakamaaaW.PrintLast Go.Proofs.YtgheapbhakamaaaW.PrintMore
attribute [local go_sem] max2_int min2_int max_two min_two max_three min_three max_four min_four RFn.gtr_str   -- for this text's walks alone
set_option linter.unusedVariables false
set_option linter.unusedSimpArgs false
/-! ### law09_FactCalls: function 4 -/
mutual
def law09_FactCalls.j0 : Nat → List (S28) → List (S28) → Bool → ByteArray → ByteArray → ByteArray → ByteArray → Int → Option (Bool)
 | 0, _, _, _, _, _, _, _, _ => none
 | k + 1, x0, x1, x36, x396000, x396001, x396002, x396003, x396004 => if x36 = true then (some true) else ((law09_Theirs.f k x0).bind fun t404 => ((law09_Theirs.f k x1).bind fun t407 => ((fact_Add.f k t404 t407).bind fun bt410 => ((ref09_Add.f k x0 x1).bind fun bt414 => ((law09_Theirs.f k x0).bind fun t418 => ((fact_Sum.f k t418 x396000 x396001 x396002).bind fun bt421 => ((ref09_Sum.f k x0 x396000 x396001 x396002).bind fun bt423 => (law09_FactCalls.j1 k x0 bt410.1 bt410.2 bt414.1 bt414.2 bt421.1 bt421.2 bt423.1 bt423.2 x396000 x396001 x396002 x396003 x396004))))))))
def law09_FactCalls.j1 : Nat → List (S28) → List (S60) → Int → List (S28) → Int → Int → Int → Int → Int → ByteArray → ByteArray → ByteArray → ByteArray → Int → Option (Bool)
 | 0, _, _, _, _, _, _, _, _, _, _, _, _, _, _ => none
 | k + 1, x0, x7, x8, x9, x10, x11, x12, x13, x14, x396000, x396001, x396002, x396003, x396004 => (law09_Ours.f k x7).bind fun t425 => ((ref09_Same.f k t425 x9).bind fun t428 => (if t428 = true then (if x8 = x10 then ((law09_Theirs.f k x0).bind fun t429 => ((fact_Get.f k t429 x396000 x396001 x396002 x396003 x396004).bind fun t432 => ((ref09_Get.f k x0 x396000 x396001 x396002 x396003 x396004).bind fun t433 => (if t432 = t433 then (if x11 = x13 then (if x12 = x14 then ((law09_Theirs.f k x0).bind fun t434 => ((fact_Pick.f k t434 x396000 x396004).bind fun t437 => ((law09_Ours.f k t437).bind fun t440 => ((ref09_Pick.f k x0 x396000 x396004).bind fun t443 => ((ref09_Same.f k t440 t443).bind fun t446 => (some t446)))))) else (some false)) else (some false)) else (some false))))) else (some false)) else (some false)))
end
def law09_FactCalls.f (k : Nat) (l0 : List (S28)) (l1 : List (S28)) (a2_0 : ByteArray) (a2_1 : ByteArray) (a2_2 : ByteArray) (a2_3 : ByteArray) (a2_4 : Int) : Option (Bool) := (law09_alive.f k).bind fun t396 => (if t396 = true then ((law09_Few.f k l0).bind fun t397 => (if t397 = true then ((law09_Few.f k l1).bind fun t398 => (if t398 = true then ((law09_Few.f k (([(⟨(⟨a2_0, a2_1, a2_2, a2_3, a2_4⟩ : S24), 0⟩ : S28)] : List (S28)))).bind fun t402 => (if t402 = true then ((ref09_Right.f k l0).bind fun t403 => (law09_FactCalls.j0 k l0 l1 (!t403) a2_0 a2_1 a2_2 a2_3 a2_4)) else (law09_FactCalls.j0 k l0 l1 true a2_0 a2_1 a2_2 a2_3 a2_4))) else (law09_FactCalls.j0 k l0 l1 true a2_0 a2_1 a2_2 a2_3 a2_4))) else (law09_FactCalls.j0 k l0 l1 true a2_0 a2_1 a2_2 a2_3 a2_4))) else (some false))
theorem law09_FactCalls.mono_l : ∀ k, (∀ y0 y1 y2 y3 y4 y5 y6 y7, LeO (law09_FactCalls.j0 k y0 y1 y2 y3 y4 y5 y6 y7) (law09_FactCalls.j0 (k + 1) y0 y1 y2 y3 y4 y5 y6 y7)) ∧ (∀ y0 y1 y2 y3 y4 y5 y6 y7 y8 y9 y10 y11 y12 y13, LeO (law09_FactCalls.j1 k y0 y1 y2 y3 y4 y5 y6 y7 y8 y9 y10 y11 y12 y13) (law09_FactCalls.j1 (k + 1) y0 y1 y2 y3 y4 y5 y6 y7 y8 y9 y10 y11 y12 y13))
 | 0 => ⟨fun _ _ _ _ _ _ _ _ r h => by simp [law09_FactCalls.j0] at h, fun _ _ _ _ _ _ _ _ _ _ _ _ _ _ r h => by simp [law09_FactCalls.j1] at h⟩
 | k + 1 => by
  obtain ⟨ih0, ih1⟩ := law09_FactCalls.mono_l k
  refine ⟨?_, ?_⟩
  ·intro y0 y1 y2 y3 y4 y5 y6 y7
   unfold law09_FactCalls.j0
   repeat' first | exact LeO.refl _ | with_reducible first | apply ih0 | apply ih1 | apply fact_Add.mono | apply fact_Get.mono | apply fact_Pick.mono | apply fact_Sum.mono | apply law09_Few.mono | apply law09_Ours.mono | apply law09_Theirs.mono | apply law09_alive.mono | apply ref09_Add.mono | apply ref09_Get.mono | apply ref09_Pick.mono | apply ref09_Right.mono | apply ref09_Same.mono | apply ref09_Sum.mono | exact LeO.none _ | apply LeO.ite | refine LeO.bind ?_ fun _ => ?_
  ·intro y0 y1 y2 y3 y4 y5 y6 y7 y8 y9 y10 y11 y12 y13
   unfold law09_FactCalls.j1
   repeat' first | exact LeO.refl _ | with_reducible first | apply ih0 | apply ih1 | apply fact_Add.mono | apply fact_Get.mono | apply fact_Pick.mono | apply fact_Sum.mono | apply law09_Few.mono | apply law09_Ours.mono | apply law09_Theirs.mono | apply law09_alive.mono | apply ref09_Add.mono | apply ref09_Get.mono | apply ref09_Pick.mono | apply ref09_Right.mono | apply ref09_Same.mono | apply ref09_Sum.mono | exact LeO.none _ | apply LeO.ite | refine LeO.bind ?_ fun _ => ?_
theorem law09_FactCalls.mono : ∀ a0 a1 a2 a3 a4 a5 a6 k, LeO (law09_FactCalls.f k a0 a1 a2 a3 a4 a5 a6) (law09_FactCalls.f (k + 1) a0 a1 a2 a3 a4 a5 a6) := by
 intro a0 a1 a2 a3 a4 a5 a6 k
 obtain ⟨ih0, ih1⟩ := law09_FactCalls.mono_l k
 unfold law09_FactCalls.f
 repeat' first | exact LeO.refl _ | with_reducible first | apply ih0 | apply ih1 | apply fact_Add.mono | apply fact_Get.mono | apply fact_Pick.mono | apply fact_Sum.mono | apply law09_Few.mono | apply law09_Ours.mono | apply law09_Theirs.mono | apply law09_alive.mono | apply ref09_Add.mono | apply ref09_Get.mono | apply ref09_Pick.mono | apply ref09_Right.mono | apply ref09_Same.mono | apply ref09_Sum.mono | exact LeO.none _ | apply LeO.ite | refine LeO.bind ?_ fun _ => ?_
def law09_FactCalls.T7 : Bool × List (List Nat × List Nat) := (true, [([], []), ([0], [0]), ([], []), ([2], [2]), ([], []), ([4], [4]), ([], []), ([6], [6]), ([1, 3, 5, 7, 1], [1, 3, 5, 7]), ([8], [8]), ([9], [9]), ([9], [9]), ([10, 8, 0, 1, 2, 3, 4, 5, 6, 7, 8, 9, 10], [10]), ([11, 12, 0, 1, 2, 3, 4, 5, 6, 7, 8, 9, 10, 11, 12], [11])])
def law09_FactCalls.B7 : List Nat := [0, 1, 0, 4, 0, 16, 0, 64, 255, 511, 1023, 1023, 2047, 8191]
theorem law09_FactCalls.tab7 : rtab .any (opsOf Try.f4 7) = law09_FactCalls.T7 := by kernel_rfl
theorem law09_FactCalls.bits7 : waitsOk law09_FactCalls.T7.2 law09_FactCalls.B7 = true := by kernel_rfl
def law09_FactCalls.T9 : Bool × List (List Nat × List Nat) := (true, [([], []), ([0], [0]), ([], []), ([1, 2, 1], [1, 2]), ([3, 3], [3]), ([4], [4]), ([4], [4]), ([5, 6, 4], [4, 5, 6]), ([4, 7], [4, 7]), ([8, 4], [8]), ([9], [9]), ([10, 9, 9], [9, 10]), ([9], [9]), ([11, 12, 11, 9], [9, 11, 12]), ([9], [9]), ([9], [9]), ([14, 15, 13, 9], [9, 14, 15]), ([13, 16, 9], [9, 13, 16]), ([9, 17], [9, 17]), ([18, 16], [18]), ([19], [19]), ([19], [19]), ([20, 21, 19], [19, 20, 21]), ([19, 22], [19, 22]), ([23, 19], [23]), ([24], [24]), ([24], [24]), ([25, 26, 24], [24, 25, 26]), ([24, 27], [24, 27]), ([28, 24], [28]), ([29], [29]), ([30, 29, 29], [29, 30]), ([29], [29]), ([32, 29], [29, 32]), ([29], [29]), ([34, 29], [29, 34]), ([31, 33, 35, 31, 29], [29, 31, 33, 35]), ([36, 36, 29], [29, 36]), ([29], [29]), ([29], [29]), ([39, 29], [29, 39]), ([29], [29]), ([41, 29], [29, 41]), ([38, 40, 42, 37, 29], [29, 38, 40, 42]), ([37, 43, 43, 29], [29, 37, 43]), ([29, 44], [29, 44]), ([45, 44, 0, 1, 2, 3, 4, 5, 6, 7, 8, 9, 10, 11, 12, 13, 14, 15, 16, 17, 18, 19, 20, 21, 22, 23, 24, 25, 26, 27, 28, 29, 30, 31, 32, 33, 34, 35, 36, 37, 38, 39, 40, 41, 42, 43, 44, 45], [45])])
def law09_FactCalls.B9 : List Nat := [0, 1, 0, 7, 15, 31, 31, 127, 255, 511, 1023, 2047, 1023, 8191, 1023, 1023, 65535, 131071, 262143, 524287, 1048575, 1048575, 4194303, 8388607, 16777215, 33554431, 33554431, 134217727, 268435455, 536870911, 1073741823, 2147483647, 1073741823, 5368709119, 1073741823, 18253611007, 68719476735, 137438953471, 1073741823, 1073741823, 550829555711, 1073741823, 2200096997375, 8796093022207, 17592186044415, 35184372088831, 70368744177663]
theorem law09_FactCalls.tab9 : rtab .any (opsOf Try.f4 9) = law09_FactCalls.T9 := by kernel_rfl
theorem law09_FactCalls.bits9 : waitsOk law09_FactCalls.T9.2 law09_FactCalls.B9 = true := by kernel_rfl
set_option maxHeartbeats 8000000 in
set_option maxRecDepth 100000 in
theorem law09_FactCalls.calls (k : Nat) (A0 : Option Addr) (c0 : Nat) (l0 : List (S28)) (A1 : Option Addr) (c1 : Nat) (l1 : List (S28)) (a2_0 : ByteArray) (a2_1 : ByteArray) (a2_2 : ByteArray) (a2_3 : ByteArray) (a2_4 : Int) (r : Bool) (w : World) (hr0 : Kd.C k28 w A0 l0.length l0) (hc0 : l0.length ≤ c0) (hr1 : Kd.C k28 w A1 l1.length l1) (hc1 : l1.length ≤ c1) (h : law09_FactCalls.f k l0 l1 a2_0 a2_1 a2_2 a2_3 a2_4 = some r) :
  Calls Try.prog 4 #[.slice A0 l0.length c0, .slice A1 l1.length c1, .agg #[.string a2_0, .string a2_1, .string a2_2, .string a2_3, .int .i64 a2_4]] w fun e w' => e = .returned (.bool r) ∧ Below w.heap.size w w' := by
 have hu24 := Try.underlying24
 have hu28 := Try.underlying28
 have HR0 := Aside0.mk hr0
 have HC0 := Aside0.mk hc0
 clear hr0 hc0
 have HR1 := Aside0.mk hr1
 have HC1 := Aside0.mk hc1
 clear hr1 hc1
 have HB := Aside0.mk (Below.refl w.heap.size w)
 have H : ((law09_alive.f k).bind fun t396 => (if t396 = true then ((law09_Few.f k l0).bind fun t397 => (if t397 = true then ((law09_Few.f k l1).bind fun t398 => (if t398 = true then ((law09_Few.f k (([(⟨(⟨a2_0, a2_1, a2_2, a2_3, a2_4⟩ : S24), 0⟩ : S28)] : List (S28)))).bind fun t402 => (if t402 = true then ((ref09_Right.f k l0).bind fun t403 => (law09_FactCalls.j0 k l0 l1 (!t403) a2_0 a2_1 a2_2 a2_3 a2_4)) else (law09_FactCalls.j0 k l0 l1 true a2_0 a2_1 a2_2 a2_3 a2_4))) else (law09_FactCalls.j0 k l0 l1 true a2_0 a2_1 a2_2 a2_3 a2_4))) else (law09_FactCalls.j0 k l0 l1 true a2_0 a2_1 a2_2 a2_3 a2_4))) else (some false))) = some r := h
 clear h
 obtain ⟨t396, A4, H⟩ := RFn.bn H
 by_cases c5 : t396 = true
 ·subst c5
  have H1 : ((law09_Few.f k l0).bind fun t397 => (if t397 = true then ((law09_Few.f k l1).bind fun t398 => (if t398 = true then ((law09_Few.f k (([(⟨(⟨a2_0, a2_1, a2_2, a2_3, a2_4⟩ : S24), 0⟩ : S28)] : List (S28)))).bind fun t402 => (if t402 = true then ((ref09_Right.f k l0).bind fun t403 => (law09_FactCalls.j0 k l0 l1 (!t403) a2_0 a2_1 a2_2 a2_3 a2_4)) else (law09_FactCalls.j0 k l0 l1 true a2_0 a2_1 a2_2 a2_3 a2_4))) else (law09_FactCalls.j0 k l0 l1 true a2_0 a2_1 a2_2 a2_3 a2_4))) else (law09_FactCalls.j0 k l0 l1 true a2_0 a2_1 a2_2 a2_3 a2_4))) = some r := by rw [if_pos rfl] at H; exact H
  clear H
  have H := H1
  clear H1
  have HC6 := Aside0.mk H
  clear H
  go_enter Try.func4, Try.ntmps4
  go_upto_region 3 with (first | ((with_reducible refine gate_dst (N := 5) rfl ?_); (try (refine gate_guard (by rfl) ?_; dsimp only)); refine box_event ?hg (N := 5) ?hd (cs := #[.string a2_0, .string a2_1, .string a2_2, .string a2_3, .int .i64 a2_4]) (t := 24) ?hr ?_; (case hd => rfl); (case hg => rfl); (case hr => first | (go_simp; done) | (go_simp; rfl)); intro gb395 hg w7 hbox hb; have n0_ := Aside0.mk (below_step (RFn.bel) hb); have n1_ := Aside0.mk (hbox); have n2_ := Aside0.mk ((by rw [hg]; exact (below_size (RFn.bel)) : w.heap.size ≤ gb395)); have n3_ := Aside0.mk ((by rw [hg]; exact (below_size (RFn.bel)) : w.heap.size ≤ gb395)); clear HB; have HB := n0_; have BK395 := n1_; have GW395 := n2_; have GE395 := n3_; clear n0_ n1_ n2_ n3_; clear hb hbox hg) | ((with_reducible refine gate_callee (f := 10) rfl ?_); refine RFn.goesM (some 15) Try.func10 #[] rfl ?_; (with_reducible refine (law09_alive.calls k  true _ A4.out).mono ?_); rintro e w8 ⟨rfl, hb⟩; refine ⟨_, rfl, ?_⟩; have n0_ := Aside0.mk (blk_below (g := gb395) RFn.blk hb); have n1_ := Aside0.mk (below_step RFn.bels hb); clear BK395; clear HB; have BK395 := n0_; have HB := n1_; clear n0_ n1_; (try clear hb)))
  (try simp only [Act.put, List.setIfInBounds_toArray, List.set_cons_zero, List.set_cons_succ])
  go_cut [36] (fun v36 wc => ∃ (kq : Nat) (x36_5 : Bool), v36 = .bool x36_5 ∧ Aside0 (law09_FactCalls.j0 kq l0 l1 x36_5 a2_0 a2_1 a2_2 a2_3 a2_4 = some r) ∧ Aside0 (kq ≤ k) ∧ Aside0 (wc.heap[gb395]? = some (.cells #[.string a2_0, .string a2_1, .string a2_2, .string a2_3, .int .i64 a2_4] 24 (0, 0))) ∧ Aside0 (Below w.heap.size w wc))
  case first =>
   have H := HC6.out
   clear HC6
   obtain ⟨t397, A9, H⟩ := RFn.bn H
   by_cases c10 : t397 = true
   ·subst c10
    have H1 : ((law09_Few.f k l1).bind fun t398 => (if t398 = true then ((law09_Few.f k (([(⟨(⟨a2_0, a2_1, a2_2, a2_3, a2_4⟩ : S24), 0⟩ : S28)] : List (S28)))).bind fun t402 => (if t402 = true then ((ref09_Right.f k l0).bind fun t403 => (law09_FactCalls.j0 k l0 l1 (!t403) a2_0 a2_1 a2_2 a2_3 a2_4)) else (law09_FactCalls.j0 k l0 l1 true a2_0 a2_1 a2_2 a2_3 a2_4))) else (law09_FactCalls.j0 k l0 l1 true a2_0 a2_1 a2_2 a2_3 a2_4))) = some r := by rw [if_pos rfl] at H; exact H
    clear H
    have H := H1
    clear H1
    obtain ⟨t398, A11, H⟩ := RFn.bn H
    by_cases c12 : t398 = true
    ·subst c12
     have H1 : ((law09_Few.f k (([(⟨(⟨a2_0, a2_1, a2_2, a2_3, a2_4⟩ : S24), 0⟩ : S28)] : List (S28)))).bind fun t402 => (if t402 = true then ((ref09_Right.f k l0).bind fun t403 => (law09_FactCalls.j0 k l0 l1 (!t403) a2_0 a2_1 a2_2 a2_3 a2_4)) else (law09_FactCalls.j0 k l0 l1 true a2_0 a2_1 a2_2 a2_3 a2_4))) = some r := by rw [if_pos rfl] at H; exact H
     clear H
     have H := H1
     clear H1
     obtain ⟨y399, hy399⟩ : ∃ y_ : List (S28), y_ = (([(⟨(⟨a2_0, a2_1, a2_2, a2_3, a2_4⟩ : S24), 0⟩ : S28)] : List (S28))) := ⟨_, rfl⟩
     replace H : ((law09_Few.f k y399).bind fun t402 => (if t402 = true then ((ref09_Right.f k l0).bind fun t403 => (law09_FactCalls.j0 k l0 l1 (!t403) a2_0 a2_1 a2_2 a2_3 a2_4)) else (law09_FactCalls.j0 k l0 l1 true a2_0 a2_1 a2_2 a2_3 a2_4))) = some r := RFn.rp H hy399
     have Ny399 := Aside0.mk hy399
     clear hy399
     obtain ⟨t402, A13, H⟩ := RFn.bn H
     by_cases c14 : t402 = true
     ·subst c14
      have H1 : ((ref09_Right.f k l0).bind fun t403 => (law09_FactCalls.j0 k l0 l1 (!t403) a2_0 a2_1 a2_2 a2_3 a2_4)) = some r := by rw [if_pos rfl] at H; exact H
      clear H
      have H := H1
      clear H1
      obtain ⟨t403, A15, H⟩ := RFn.bn H
      have H' := Aside0.mk H
      clear H
      go_wp2_with (first | ((with_reducible refine gate_callee (f := 11) rfl ?_); refine RFn.goesM (some 18) Try.func11 #[.slice A0 l0.length c0] rfl ?_; (with_reducible refine (law09_Few.calls k _ _ l0 true _ ?side1 ?side2 A9.out).mono ?_); (case side1 => exact RFn.mC (Kd.C_below HR0.out HB.out)); (case side2 => exact HC0.out); rintro e w16 ⟨rfl, hb⟩; refine ⟨_, rfl, ?_⟩; have n0_ := Aside0.mk (blk_below (g := gb395) RFn.blk hb); have n1_ := Aside0.mk (below_step RFn.bels hb); clear BK395; clear HB; have BK395 := n0_; have HB := n1_; clear n0_ n1_; (try clear hb); (try clear hk)) | (go_at_call 11; (with_reducible refine (law09_Few.calls k _ _ l1 true _ ?side1 ?side2 A11.out).mono ?_); (case side1 => exact RFn.mC (Kd.C_below HR1.out HB.out)); (case side2 => exact HC1.out); rintro e w17 ⟨rfl, hb⟩; have n0_ := Aside0.mk (blk_below (g := gb395) RFn.blk hb); have n1_ := Aside0.mk (below_step RFn.bels hb); clear BK395; clear HB; have BK395 := n0_; have HB := n1_; clear n0_ n1_; (try clear hb); (try clear hk); obtain ⟨hcz18_0, hcz18_1, hcz18_2, hcz18_3, hcz18_4⟩ := RFn.bc5 BK395; obtain ⟨hfz18_0, hfz18_1, hfz18_2, hfz18_3, hfz18_4⟩ := RFn.bf5 BK395) | ((with_reducible refine gate_dst (N := 28) rfl ?_); (try (refine gate_guard (by rfl) ?_; dsimp only)); refine Kd.R_lit k28 _ 28 ?hg (N := 28) ?hd (xs := ([(⟨(⟨a2_0, a2_1, a2_2, a2_3, a2_4⟩ : S24), 0⟩ : S28)] : List (S28))) (inner := [.string a2_0, .string a2_1, .string a2_2, .string a2_3, .int .i64 a2_4, .int .i64 0]) (ok := fun _ => True) (okp := fun _ => True) ?hr ?hp (fun _ hk => hk) trivial (Below.refl _ _) (Nat.le_refl _) (by simp) ?_; (case hd => rfl); (case hg => rfl); (case hr => first | (go_simp; done) | (go_simp; rfl)); (case hp => exact (Reps.c6 (show Kd.M k28 _ _ _ (⟨(⟨a2_0, a2_1, a2_2, a2_3, a2_4⟩ : S24), 0⟩ : S28) [.string a2_0, .string a2_1, .string a2_2, .string a2_3, .int .i64 a2_4, .int .i64 0] from (k28_mkM _ _ _ (⟨(⟨a2_0, a2_1, a2_2, a2_3, a2_4⟩ : S24), 0⟩ : S28) )) (Reps.none _ _))); intro v400 w19 ho20 hb hg_ hnew_; clear hg_ hnew_; (first | rw [← Ny399.out] at ho20 | (simp only [Int.reduceToNat] at ho20; rw [← Ny399.out] at ho20)); have n0_ := Aside0.mk (Kd.R_lower ho20 (below_size RFn.bels)); have n1_ := Aside0.mk (blk_below (g := gb395) RFn.blk hb); have n2_ := Aside0.mk (below_step RFn.bels hb); clear BK395; clear HB; have HO401 := n0_; have BK395 := n1_; have HB := n2_; clear n0_ n1_ n2_; clear hb ho20; obtain ⟨Ao21, co21, eo21⟩ := Kd.R_slice HO401.out; subst eo21) | (go_at_call 11; (with_reducible refine (law09_Few.calls k _ _ y399 true _ ?side1 ?side2 A13.out).mono ?_); (case side1 => exact RFn.mC (Kd.R_reads' HO401.out).2.2); (case side2 => exact (Kd.R_reads' HO401.out).2.1); rintro e w22 ⟨rfl, hb⟩; have n0_ := Aside0.mk (Kd.R_below (RFn.mR HO401) hb); have n1_ := Aside0.mk (blk_below (g := gb395) RFn.blk hb); have n2_ := Aside0.mk (below_step RFn.bels hb); clear HO401; clear BK395; clear HB; have HO401 := n0_; have BK395 := n1_; have HB := n2_; clear n0_ n1_ n2_; (try clear hb); (try clear hk)) | (go_at_call 20; (with_reducible refine (ref09_Right.calls k _ _ l0 t403 _ ?side1 ?side2 A15.out).mono ?_); (case side1 => exact RFn.mC (Kd.C_below HR0.out HB.out)); (case side2 => exact HC0.out); rintro e w23 ⟨rfl, hb⟩; have n0_ := Aside0.mk (Kd.R_below (RFn.mR HO401) hb); have n1_ := Aside0.mk (blk_below (g := gb395) RFn.blk hb); have n2_ := Aside0.mk (below_step RFn.bels hb); clear HO401; clear BK395; clear HB; have HO401 := n0_; have BK395 := n1_; have HB := n2_; clear n0_ n1_ n2_; (try clear hb); (try clear hk)))
      go_meet
      case rel => exact ⟨_, (!t403), (by first | rfl | (simp; done) | (simp [*]; done)), H', ⟨by first | omega | exact Nat.le_refl _⟩, ⟨RFn.mB BK395⟩, ⟨RFn.bels⟩⟩
     ·replace c14 := Bool.eq_false_iff.mpr c14
      subst c14
      have H1 : (law09_FactCalls.j0 k l0 l1 true a2_0 a2_1 a2_2 a2_3 a2_4) = some r := by rw [if_neg (show ¬ (false = true) by decide)] at H; exact H
      clear H
      have H := H1
      clear H1
      have H' := Aside0.mk H
      clear H
      go_wp2_with (first | ((with_reducible refine gate_callee (f := 11) rfl ?_); refine RFn.goesM (some 18) Try.func11 #[.slice A0 l0.length c0] rfl ?_; (with_reducible refine (law09_Few.calls k _ _ l0 true _ ?side1 ?side2 A9.out).mono ?_); (case side1 => exact RFn.mC (Kd.C_below HR0.out HB.out)); (case side2 => exact HC0.out); rintro e w24 ⟨rfl, hb⟩; refine ⟨_, rfl, ?_⟩; have n0_ := Aside0.mk (blk_below (g := gb395) RFn.blk hb); have n1_ := Aside0.mk (below_step RFn.bels hb); clear BK395; clear HB; have BK395 := n0_; have HB := n1_; clear n0_ n1_; (try clear hb); (try clear hk)) | (go_at_call 11; (with_reducible refine (law09_Few.calls k _ _ l1 true _ ?side1 ?side2 A11.out).mono ?_); (case side1 => exact RFn.mC (Kd.C_below HR1.out HB.out)); (case side2 => exact HC1.out); rintro e w25 ⟨rfl, hb⟩; have n0_ := Aside0.mk (blk_below (g := gb395) RFn.blk hb); have n1_ := Aside0.mk (below_step RFn.bels hb); clear BK395; clear HB; have BK395 := n0_; have HB := n1_; clear n0_ n1_; (try clear hb); (try clear hk); obtain ⟨hcz26_0, hcz26_1, hcz26_2, hcz26_3, hcz26_4⟩ := RFn.bc5 BK395; obtain ⟨hfz26_0, hfz26_1, hfz26_2, hfz26_3, hfz26_4⟩ := RFn.bf5 BK395) | ((with_reducible refine gate_dst (N := 28) rfl ?_); (try (refine gate_guard (by rfl) ?_; dsimp only)); refine Kd.R_lit k28 _ 28 ?hg (N := 28) ?hd (xs := ([(⟨(⟨a2_0, a2_1, a2_2, a2_3, a2_4⟩ : S24), 0⟩ : S28)] : List (S28))) (inner := [.string a2_0, .string a2_1, .string a2_2, .string a2_3, .int .i64 a2_4, .int .i64 0]) (ok := fun _ => True) (okp := fun _ => True) ?hr ?hp (fun _ hk => hk) trivial (Below.refl _ _) (Nat.le_refl _) (by simp) ?_; (case hd => rfl); (case hg => rfl); (case hr => first | (go_simp; done) | (go_simp; rfl)); (case hp => exact (Reps.c6 (show Kd.M k28 _ _ _ (⟨(⟨a2_0, a2_1, a2_2, a2_3, a2_4⟩ : S24), 0⟩ : S28) [.string a2_0, .string a2_1, .string a2_2, .string a2_3, .int .i64 a2_4, .int .i64 0] from (k28_mkM _ _ _ (⟨(⟨a2_0, a2_1, a2_2, a2_3, a2_4⟩ : S24), 0⟩ : S28) )) (Reps.none _ _))); intro v400 w27 ho28 hb hg_ hnew_; clear hg_ hnew_; (first | rw [← Ny399.out] at ho28 | (simp only [Int.reduceToNat] at ho28; rw [← Ny399.out] at ho28)); have n0_ := Aside0.mk (Kd.R_lower ho28 (below_size RFn.bels)); have n1_ := Aside0.mk (blk_below (g := gb395) RFn.blk hb); have n2_ := Aside0.mk (below_step RFn.bels hb); clear BK395; clear HB; have HO401 := n0_; have BK395 := n1_; have HB := n2_; clear n0_ n1_ n2_; clear hb ho28; obtain ⟨Ao29, co29, eo29⟩ := Kd.R_slice HO401.out; subst eo29) | (go_at_call 11; (with_reducible refine (law09_Few.calls k _ _ y399 false _ ?side1 ?side2 A13.out).mono ?_); (case side1 => exact RFn.mC (Kd.R_reads' HO401.out).2.2); (case side2 => exact (Kd.R_reads' HO401.out).2.1); rintro e w30 ⟨rfl, hb⟩; have n0_ := Aside0.mk (Kd.R_below (RFn.mR HO401) hb); have n1_ := Aside0.mk (blk_below (g := gb395) RFn.blk hb); have n2_ := Aside0.mk (below_step RFn.bels hb); clear HO401; clear BK395; clear HB; have HO401 := n0_; have BK395 := n1_; have HB := n2_; clear n0_ n1_ n2_; (try clear hb); (try clear hk)))
      go_meet
      case rel => exact ⟨_, (true), (by first | rfl | (simp; done) | (simp [*]; done)), H', ⟨by first | omega | exact Nat.le_refl _⟩, ⟨RFn.mB BK395⟩, ⟨RFn.bels⟩⟩
    ·replace c12 := Bool.eq_false_iff.mpr c12
     subst c12
     have H1 : (law09_FactCalls.j0 k l0 l1 true a2_0 a2_1 a2_2 a2_3 a2_4) = some r := by rw [if_neg (show ¬ (false = true) by decide)] at H; exact H
     clear H
     have H := H1
     clear H1
     have H' := Aside0.mk H
     clear H
     go_wp2_with (first | ((with_reducible refine gate_callee (f := 11) rfl ?_); refine RFn.goesM (some 18) Try.func11 #[.slice A0 l0.length c0] rfl ?_; (with_reducible refine (law09_Few.calls k _ _ l0 true _ ?side1 ?side2 A9.out).mono ?_); (case side1 => exact RFn.mC (Kd.C_below HR0.out HB.out)); (case side2 => exact HC0.out); rintro e w31 ⟨rfl, hb⟩; refine ⟨_, rfl, ?_⟩; have n0_ := Aside0.mk (blk_below (g := gb395) RFn.blk hb); have n1_ := Aside0.mk (below_step RFn.bels hb); clear BK395; clear HB; have BK395 := n0_; have HB := n1_; clear n0_ n1_; (try clear hb)) | (go_at_call 11; (with_reducible refine (law09_Few.calls k _ _ l1 false _ ?side1 ?side2 A11.out).mono ?_); (case side1 => exact RFn.mC (Kd.C_below HR1.out HB.out)); (case side2 => exact HC1.out); rintro e w32 ⟨rfl, hb⟩; have n0_ := Aside0.mk (blk_below (g := gb395) RFn.blk hb); have n1_ := Aside0.mk (below_step RFn.bels hb); clear BK395; clear HB; have BK395 := n0_; have HB := n1_; clear n0_ n1_; (try clear hb)))
     go_meet
     case rel => exact ⟨_, (true), (by first | rfl | (simp; done) | (simp [*]; done)), H', ⟨by first | omega | exact Nat.le_refl _⟩, ⟨RFn.mB BK395⟩, ⟨RFn.bels⟩⟩
   ·replace c10 := Bool.eq_false_iff.mpr c10
    subst c10
    have H1 : (law09_FactCalls.j0 k l0 l1 true a2_0 a2_1 a2_2 a2_3 a2_4) = some r := by rw [if_neg (show ¬ (false = true) by decide)] at H; exact H
    clear H
    have H := H1
    clear H1
    have H' := Aside0.mk H
    clear H
    go_wp2_with (first | ((with_reducible refine gate_callee (f := 11) rfl ?_); refine RFn.goesM (some 18) Try.func11 #[.slice A0 l0.length c0] rfl ?_; (with_reducible refine (law09_Few.calls k _ _ l0 false _ ?side1 ?side2 A9.out).mono ?_); (case side1 => exact RFn.mC (Kd.C_below HR0.out HB.out)); (case side2 => exact HC0.out); rintro e w33 ⟨rfl, hb⟩; refine ⟨_, rfl, ?_⟩; have n0_ := Aside0.mk (blk_below (g := gb395) RFn.blk hb); have n1_ := Aside0.mk (below_step RFn.bels hb); clear BK395; clear HB; have BK395 := n0_; have HB := n1_; clear n0_ n1_; (try clear hb)))
    go_meet
    case rel => exact ⟨_, (true), (by first | rfl | (simp; done) | (simp [*]; done)), H', ⟨by first | omega | exact Nat.le_refl _⟩, ⟨RFn.mB BK395⟩, ⟨RFn.bels⟩⟩
  case rest =>
   clear HC6
   try clear c1
   try clear c5
   try clear c6
   try clear c10
   try clear c12
   try clear c14
   try clear hcz18_0
   try clear hcz18_1
   try clear hcz18_2
   try clear hcz18_3
   try clear hcz18_4
   try clear hcz26_0
   try clear hcz26_1
   try clear hcz26_2
   try clear hcz26_3
   try clear hcz26_4
   try clear hfz18_0
   try clear hfz18_1
   try clear hfz18_2
   try clear hfz18_3
   try clear hfz18_4
   try clear hfz26_0
   try clear hfz26_1
   try clear hfz26_2
   try clear hfz26_3
   try clear hfz26_4
   obtain ⟨kq, x36_5, rfl, HA, HJ5, BK395, HB⟩ := hcut
   cases kq with
   | zero => exact absurd HA.out (by simp [law09_FactCalls.j0])
   | succ kj5 =>
    have H := HA.out
    clear HA
    simp only [law09_FactCalls.j0] at H
    by_cases c34 : x36_5 = true
    ·subst c34
     have H1 : (some true) = some r := by rw [if_pos rfl] at H; exact H
     clear H
     have H := H1
     clear H1
     obtain rfl := Option.some.inj H
     go_wp2
     go_ret
     exact ⟨by first | rfl | (simp [errW_none, errW_some] <;> rfl) | (simp [*, errW_none, errW_some] <;> rfl), RFn.bels⟩
    ·replace c34 := Bool.eq_false_iff.mpr c34
     subst c34
     have H1 : ((law09_Theirs.f kj5 l0).bind fun t404 => ((law09_Theirs.f kj5 l1).bind fun t407 => ((fact_Add.f kj5 t404 t407).bind fun bt410 => ((ref09_Add.f kj5 l0 l1).bind fun bt414 => ((law09_Theirs.f kj5 l0).bind fun t418 => ((fact_Sum.f kj5 t418 a2_0 a2_1 a2_2).bind fun bt421 => ((ref09_Sum.f kj5 l0 a2_0 a2_1 a2_2).bind fun bt423 => (law09_FactCalls.j1 kj5 l0 bt410.1 bt410.2 bt414.1 bt414.2 bt421.1 bt421.2 bt423.1 bt423.2 a2_0 a2_1 a2_2 a2_3 a2_4)))))))) = some r := by rw [if_neg (show ¬ (false = true) by decide)] at H; exact H
     clear H
     have H := H1
     clear H1
     obtain ⟨t404, A35, H⟩ := RFn.bn H
     obtain ⟨t407, A36, H⟩ := RFn.bn H
     obtain ⟨⟨t410, t411⟩, A37, H⟩ := RFn.bn H
     obtain ⟨⟨t414, t415⟩, A38, H⟩ := RFn.bn H
     obtain ⟨t418, A39, H⟩ := RFn.bn H
     obtain ⟨⟨t421, t422⟩, A40, H⟩ := RFn.bn H
     have HC41 := Aside0.mk H
     clear H
     try go_wp2_with (first | ((with_reducible refine gate_callee (f := 13) rfl ?_); refine RFn.goesM (some 39) Try.func13 #[.slice A0 l0.length c0] rfl ?_; (with_reducible refine (law09_Theirs.calls kj5 _ _ l0 t404 _ ?side1 ?side2 A35.out).mono ?_); (case side1 => exact RFn.mC (Kd.C_below HR0.out HB.out)); (case side2 => exact HC0.out); rintro e w42 ⟨v405, rfl, ho0, hb⟩; refine ⟨_, rfl, ?_⟩; have n0_ := Aside0.mk (Kd.R_lower ho0 (below_size RFn.bels)); have n1_ := Aside0.mk (blk_below (g := gb395) RFn.blk hb); have n2_ := Aside0.mk (below_step RFn.bels hb); clear BK395; clear HB; have HO406 := n0_; have BK395 := n1_; have HB := n2_; clear n0_ n1_ n2_; (try clear hb); (try clear ho0)) | ((with_reducible refine gate_callee (f := 13) rfl ?_); refine RFn.goesM (some 41) Try.func13 #[.slice A1 l1.length c1] rfl ?_; (with_reducible refine (law09_Theirs.calls kj5 _ _ l1 t407 _ ?side1 ?side2 A36.out).mono ?_); (case side1 => exact RFn.mC (Kd.C_below HR1.out HB.out)); (case side2 => exact HC1.out); rintro e w43 ⟨v408, rfl, ho0, hb⟩; refine ⟨_, rfl, ?_⟩; have n0_ := Aside0.mk (Kd.R_elder' (RFn.mR HO406) (Kd.R_base ho0) hb); have n1_ := Aside0.mk (Kd.R_lower (Kd.R_new' ho0 (Kd.R_lt (RFn.mR HO406))) (below_size RFn.bels)); have n2_ := Aside0.mk (blk_below (g := gb395) RFn.blk hb); have n3_ := Aside0.mk (below_step RFn.bels hb); clear HO406; clear BK395; clear HB; have HO406 := n0_; have HO409 := n1_; have BK395 := n2_; have HB := n3_; clear n0_ n1_ n2_ n3_; (try clear hb); (try clear ho0); obtain ⟨Ao44, co44, eo44⟩ := Kd.R_slice HO406.out; subst eo44; obtain ⟨Ao45, co45, eo45⟩ := Kd.R_slice HO409.out; subst eo45) | ((with_reducible refine gate_callee (f := 21) rfl ?_); refine RFn.goesM (some 42) Try.func21 #[.slice Ao44 t404.length co44, .slice Ao45 t407.length co45] rfl ?_; (with_reducible refine (fact_Add.calls kj5 _ _ t404 _ _ t407 t410 t411 _ ?side1 ?side2 ?side3 ?side4 A37.out).mono ?_); (case side1 => exact RFn.mC (Kd.R_reads' HO406.out).2.2); (case side2 => exact (Kd.R_reads' HO406.out).2.1); (case side3 => exact RFn.mC (Kd.R_reads' HO409.out).2.2); (case side4 => exact (Kd.R_reads' HO409.out).2.1); rintro e w46 ⟨v412, rfl, ho0, hb⟩; refine ⟨_, rfl, ?_⟩; have n0_ := Aside0.mk (Kd.R_elder' (RFn.mR HO406) (Kd.R_base ho0) hb); have n1_ := Aside0.mk (Kd.R_elder' (RFn.mR HO409) (Kd.R_base ho0) hb); have n2_ := Aside0.mk (Kd.R_lower (Kd.R_new' (Kd.R_new' ho0 (Kd.R_lt (RFn.mR HO406))) (Kd.R_lt (RFn.mR HO409))) (below_size RFn.bels)); have n3_ := Aside0.mk (blk_below (g := gb395) RFn.blk hb); have n4_ := Aside0.mk (below_step RFn.bels hb); clear HO406; clear HO409; clear BK395; clear HB; have HO406 := n0_; have HO409 := n1_; have HO413 := n2_; have BK395 := n3_; have HB := n4_; clear n0_ n1_ n2_ n3_ n4_; (try clear hb); (try clear ho0)) | ((with_reducible refine gate_callee (f := 22) rfl ?_); refine RFn.goesM (some 48) Try.func22 #[.slice A0 l0.length c0, .slice A1 l1.length c1] rfl ?_; (with_reducible refine (ref09_Add.calls kj5 _ _ l0 _ _ l1 t414 t415 _ ?side1 ?side2 ?side3 ?side4 A38.out).mono ?_); (case side1 => exact RFn.mC (Kd.C_below HR0.out HB.out)); (case side2 => exact HC0.out); (case side3 => exact RFn.mC (Kd.C_below HR1.out HB.out)); (case side4 => exact HC1.out); rintro e w47 ⟨v416, rfl, ho0, hb⟩; refine ⟨_, rfl, ?_⟩; have n0_ := Aside0.mk (Kd.R_below (RFn.mR HO406) hb); have n1_ := Aside0.mk (Kd.R_below (RFn.mR HO409) hb); have n2_ := Aside0.mk (Kd.R_below (RFn.mR HO413) hb); have n3_ := Aside0.mk (Kd.R_lower ho0 (below_size RFn.bels)); have n4_ := Aside0.mk (blk_below (g := gb395) RFn.blk hb); have n5_ := Aside0.mk (below_step RFn.bels hb); clear HO406; clear HO409; clear HO413; clear BK395; clear HB; have HO406 := n0_; have HO409 := n1_; have HO413 := n2_; have HO417 := n3_; have BK395 := n4_; have HB := n5_; clear n0_ n1_ n2_ n3_ n4_ n5_; (try clear hb); (try clear ho0)))
     have n0_ := Aside0.mk (Kd.R_drew HO406.out)
     have n1_ := Aside0.mk (Kd.R_drew HO409.out)
     have n2_ := Aside0.mk (Kd.R_drew HO413.out)
     have n3_ := Aside0.mk (Kd.R_drew HO417.out)
     have n4_ := Aside0.mk (blk_drew BK395.out)
     have n5_ := Aside0.mk (below_drew1 HB.out)
     clear HO406
     clear HO409
     clear HO413
     clear HO417
     clear BK395
     clear HB
     have HO406 := n0_
     have HO409 := n1_
     have HO413 := n2_
     have HO417 := n3_
     have BK395 := n4_
     have HB := n5_
     clear n0_ n1_ n2_ n3_ n4_ n5_
     refine start_ (n := 14) (S := fun w' => w'.cell? ⟨gb395, 0, none⟩ = some (.string a2_0) ∧ w'.cell? ⟨gb395, 1, none⟩ = some (.string a2_1) ∧ w'.cell? ⟨gb395, 2, none⟩ = some (.string a2_2) ∧ w'.cell? ⟨gb395, 3, none⟩ = some (.string a2_3) ∧ w'.cell? ⟨gb395, 4, none⟩ = some (.int .i64 a2_4)) (ds := []) (bs 14 0) (by kernel_rfl) rfl rfl (RFn.bc5 BK395) (fun hHeld => ?_); refine with_tabW law09_FactCalls.tab7 law09_FactCalls.bits7 (fun HT_ HW_ => ?_)
     generalize w47.drew = w48 at HO406 HO409 HO413 HO417 BK395 HB hHeld ⊢
     refine RFn.pA (i := 0) (N := some 52) (bs 14 1) HT_ ?_
     refine RFn.pA (i := 2) (N := some 54) (bs 14 5) HT_ ?_
     refine RFn.pA (i := 4) (N := some 56) (bs 14 21) HT_ ?_
     refine RFn.pA (i := 6) (N := some 58) (bs 14 85) HT_ ?_
     refine RFn.tA (i := 3) (N := some 55) (bs 14 93) rfl HT_ HW_ hHeld (by rintro w' ⟨s0, s1, s2, s3, s4⟩; go_simp; with_reducible rfl) ?_
     refine RFn.tA (i := 5) (N := some 57) (bs 14 125) rfl HT_ HW_ hHeld (by rintro w' ⟨s0, s1, s2, s3, s4⟩; go_simp; with_reducible rfl) ?_
     refine RFn.tA (i := 7) (N := some 59) (bs 14 253) rfl HT_ HW_ hHeld (by rintro w' ⟨s0, s1, s2, s3, s4⟩; go_simp; with_reducible rfl) ?_
     refine RFn.o1 (i := 1) (N := some 53) (bs 14 255) HT_ fun K hK => ?_
     refine RFn.gA Try.func13 #[.slice A0 l0.length c0] rfl ?_
     with_reducible refine (law09_Theirs.calls kj5 _ _ l0 t418 _ ?side1 ?side2 A39.out).mono ?_
     (case side1 => exact RFn.mC (Kd.C_below HR0.out HB.out))
     (case side2 => exact HC0.out)
     rintro e w49 ⟨v419, rfl, ho0, hb⟩
     refine ⟨_, rfl, ?_⟩
     have n0_ := Aside0.mk (Kd.R_elder' (RFn.mR HO406) (Kd.R_base ho0) hb)
     have n1_ := Aside0.mk (Kd.R_elder' (RFn.mR HO409) (Kd.R_base ho0) hb)
     have n2_ := Aside0.mk (Kd.R_elder' (RFn.mR HO413) (Kd.R_base ho0) hb)
     have n3_ := Aside0.mk (Kd.R_below (RFn.mR HO417) hb)
     have n4_ := Aside0.mk (Kd.R_lower (Kd.R_new' (Kd.R_new' (Kd.R_new' ho0 (Kd.R_lt (RFn.mR HO406))) (Kd.R_lt (RFn.mR HO409))) (Kd.R_lt (RFn.mR HO413))) (below_size RFn.bels))
     have n5_ := Aside0.mk (blk_below (g := gb395) RFn.blk hb)
     have n6_ := Aside0.mk (below_step RFn.bels hb)
     clear HO406
     clear HO409
     clear HO413
     clear HO417
     clear BK395
     clear HB
     have HO406 := n0_
     have HO409 := n1_
     have HO413 := n2_
     have HO417 := n3_
     have HO420 := n4_
     have BK395 := n5_
     have HB := n6_
     clear n0_ n1_ n2_ n3_ n4_ n5_ n6_
     (try clear hb)
     (try clear hk)
     (try clear ho0)
     obtain ⟨Ao50, co50, eo50⟩ := Kd.R_slice HO420.out
     (first | subst eo50 | (injection eo50 with f1_ f2_ f3_; have f4_ := f1_.symm; have f5_ := f3_.symm; clear f1_ f2_ f3_; subst f4_; subst f5_))
     refine hK.out _ _ (RFn.bc5 BK395) (fun hHeld => ?_)
     clear hK K
     refine RFn.nm (some 53) ?_
     refine RFn.o1 (i := 8) (N := some 60) (bs 14 511) HT_ fun K hK => ?_
     refine RFn.gA Try.func23 #[.slice Ao50 t418.length co50, .string a2_0, .string a2_1, .string a2_2] rfl ?_
     with_reducible refine (fact_Sum.calls kj5 _ _ t418 a2_0 a2_1 a2_2 t421 t422 _ ?side1 ?side2 A40.out).mono ?_
     (case side1 => exact RFn.mC (Kd.R_reads' HO420.out).2.2)
     (case side2 => exact (Kd.R_reads' HO420.out).2.1)
     rintro e w51 ⟨rfl, hb⟩
     refine ⟨_, rfl, ?_⟩
     have n0_ := Aside0.mk (Kd.R_below (RFn.mR HO406) hb)
     have n1_ := Aside0.mk (Kd.R_below (RFn.mR HO409) hb)
     have n2_ := Aside0.mk (Kd.R_below (RFn.mR HO413) hb)
     have n3_ := Aside0.mk (Kd.R_below (RFn.mR HO417) hb)
     have n4_ := Aside0.mk (Kd.R_below (RFn.mR HO420) hb)
     have n5_ := Aside0.mk (blk_below (g := gb395) RFn.blk hb)
     have n6_ := Aside0.mk (below_step RFn.bels hb)
     clear HO406
     clear HO409
     clear HO413
     clear HO417
     clear HO420
     clear BK395
     clear HB
     have HO406 := n0_
     have HO409 := n1_
     have HO413 := n2_
     have HO417 := n3_
     have HO420 := n4_
     have BK395 := n5_
     have HB := n6_
     clear n0_ n1_ n2_ n3_ n4_ n5_ n6_
     (try clear hb)
     (try clear hk)
     refine hK.out _ _ (RFn.bc5 BK395) (fun hHeld => ?_)
     clear hK K
     refine RFn.nm (some 60) ?_
     refine RFn.pA (i := 9) (N := some 51) (bs 14 1023) HT_ ?_
     refine RFn.pA (i := 10) (N := some 61) (bs 14 2047) HT_ ?_
     refine RFn.pA (i := 11) (N := some 62) (bs 14 4095) HT_ ?_
     refine RFn.pA (i := 12) (N := some 11) (bs 14 8191) HT_ ?_
     refine RFn.pA (i := 13) (N := some 12) (bs 14 16383) HT_ ?_
     refine RFn.dn HT_ ?_
     go_upto_region 8 with (fail)
     go_cut [13, 14] (fun v13 v14 wc => ∃ (kq : Nat) (x13_40 : Int) (x14_40 : Int), v13 = .int .i64 x13_40 ∧ v14 = .int .i64 x14_40 ∧ Aside0 (law09_FactCalls.j1 kq l0 t410 t411 t414 t415 t421 t422 x13_40 x14_40 a2_0 a2_1 a2_2 a2_3 a2_4 = some r) ∧ Aside0 (kq ≤ kj5) ∧ Aside0 (Kd.R k60 60 wc w.heap.size (fun _ => True) v412 t410) ∧ Aside0 (Kd.R k28 28 wc w.heap.size (fun _ => True) v416 t414) ∧ Aside0 (wc.heap[gb395]? = some (.cells #[.string a2_0, .string a2_1, .string a2_2, .string a2_3, .int .i64 a2_4] 24 (0, 0))) ∧ Aside0 (Below w.heap.size w wc))
     case first =>
      have H := HC41.out
      clear HC41
      obtain ⟨⟨t423, t424⟩, A52, H⟩ := RFn.bn H
      have H' := Aside0.mk H
      clear H
      obtain ⟨hcz53_0, hcz53_1, hcz53_2, hcz53_3, hcz53_4⟩ := RFn.bc5 BK395
      obtain ⟨hfz53_0, hfz53_1, hfz53_2, hfz53_3, hfz53_4⟩ := RFn.bf5 BK395
      go_wp2_with (first | ((with_reducible refine gate_callee (f := 24) rfl ?_); refine RFn.goesM (some 71) Try.func24 #[.slice A0 l0.length c0, .string a2_0, .string a2_1, .string a2_2] rfl ?_; (with_reducible refine (ref09_Sum.calls kj5 _ _ l0 a2_0 a2_1 a2_2 t423 t424 _ ?side1 ?side2 A52.out).mono ?_); (case side1 => exact RFn.mC (Kd.C_below HR0.out HB.out)); (case side2 => exact HC0.out); rintro e w54 ⟨rfl, hb⟩; refine ⟨_, rfl, ?_⟩; have n0_ := Aside0.mk (Kd.R_below (RFn.mR HO406) hb); have n1_ := Aside0.mk (Kd.R_below (RFn.mR HO409) hb); have n2_ := Aside0.mk (Kd.R_below (RFn.mR HO413) hb); have n3_ := Aside0.mk (Kd.R_below (RFn.mR HO417) hb); have n4_ := Aside0.mk (Kd.R_below (RFn.mR HO420) hb); have n5_ := Aside0.mk (blk_below (g := gb395) RFn.blk hb); have n6_ := Aside0.mk (below_step RFn.bels hb); clear HO406; clear HO409; clear HO413; clear HO417; clear HO420; clear BK395; clear HB; have HO406 := n0_; have HO409 := n1_; have HO413 := n2_; have HO417 := n3_; have HO420 := n4_; have BK395 := n5_; have HB := n6_; clear n0_ n1_ n2_ n3_ n4_ n5_ n6_; (try clear hb)))
      go_meet
      case rel => exact ⟨_, (t423), (t424), (by first | rfl | (simp; done) | (simp [*]; done)), (by first | rfl | (simp; done) | (simp [*]; done)), H', ⟨by have := HJ5.out; first | omega | exact Nat.le_refl _⟩, ⟨by (with_reducible repeat (first | apply Kd.R_alloc | apply Kd.R_drewN | apply Kd.R_drew)); exact Kd.R_mono HO413.out (fun _ hk => by first | exact trivial | exact trivial)⟩, ⟨RFn.mR HO417⟩, ⟨RFn.mB BK395⟩, ⟨RFn.bels⟩⟩
     case rest =>
      clear HC41
      try clear c1
      try clear c5
      try clear c6
      try clear c10
      try clear c12
      try clear c14
      try clear c34
      try clear hcz18_0
      try clear hcz18_1
      try clear hcz18_2
      try clear hcz18_3
      try clear hcz18_4
      try clear hcz26_0
      try clear hcz26_1
      try clear hcz26_2
      try clear hcz26_3
      try clear hcz26_4
      try clear hcz53_0
      try clear hcz53_1
      try clear hcz53_2
      try clear hcz53_3
      try clear hcz53_4
      try clear hfz18_0
      try clear hfz18_1
      try clear hfz18_2
      try clear hfz18_3
      try clear hfz18_4
      try clear hfz26_0
      try clear hfz26_1
      try clear hfz26_2
      try clear hfz26_3
      try clear hfz26_4
      try clear hfz53_0
      try clear hfz53_1
      try clear hfz53_2
      try clear hfz53_3
      try clear hfz53_4
      obtain ⟨kq, x13_40, x14_40, rfl, rfl, HA, HJ40, HO_7, HO_9, BK395, HB⟩ := hcut
      cases kq with
      | zero => exact absurd HA.out (by simp [law09_FactCalls.j1])
      | succ kj40 =>
       have H := HA.out
       clear HA
       simp only [law09_FactCalls.j1] at H
       obtain ⟨t425, A55, H⟩ := RFn.bn H
       obtain ⟨t428, A56, H⟩ := RFn.bn H
       by_cases c57 : t428 = true
       ·subst c57
        have H1 : (if t411 = t415 then ((law09_Theirs.f kj40 l0).bind fun t429 => ((fact_Get.f kj40 t429 a2_0 a2_1 a2_2 a2_3 a2_4).bind fun t432 => ((ref09_Get.f kj40 l0 a2_0 a2_1 a2_2 a2_3 a2_4).bind fun t433 => (if t432 = t433 then (if t421 = x13_40 then (if t422 = x14_40 then ((law09_Theirs.f kj40 l0).bind fun t434 => ((fact_Pick.f kj40 t434 a2_0 a2_4).bind fun t437 => ((law09_Ours.f kj40 t437).bind fun t440 => ((ref09_Pick.f kj40 l0 a2_0 a2_4).bind fun t443 => ((ref09_Same.f kj40 t440 t443).bind fun t446 => (some t446)))))) else (some false)) else (some false)) else (some false))))) else (some false)) = some r := by rw [if_pos rfl] at H; exact H
        clear H
        have H := H1
        clear H1
        by_cases c58 : t411 = t415
        ·rw [if_pos c58] at H
         have c58b0 : (t411 == t415) = true := beq_iff_eq.mpr c58
         have c58b1 : (t411 != t415) = false := bne_eq_false_iff_eq.mpr c58
         clear c58
         obtain ⟨t429, A59, H⟩ := RFn.bn H
         obtain ⟨t432, A60, H⟩ := RFn.bn H
         obtain ⟨t433, A61, H⟩ := RFn.bn H
         by_cases c62 : t432 = t433
         ·rw [if_pos c62] at H
          have c62b0 : (t432 == t433) = true := beq_iff_eq.mpr c62
          have c62b1 : (t432 != t433) = false := bne_eq_false_iff_eq.mpr c62
          clear c62
          by_cases c63 : t421 = x13_40
          ·rw [if_pos c63] at H
           have c63b0 : (t421 == x13_40) = true := beq_iff_eq.mpr c63
           have c63b1 : (t421 != x13_40) = false := bne_eq_false_iff_eq.mpr c63
           clear c63
           by_cases c64 : t422 = x14_40
           ·rw [if_pos c64] at H
            have c64b0 : (t422 == x14_40) = true := beq_iff_eq.mpr c64
            have c64b1 : (t422 != x14_40) = false := bne_eq_false_iff_eq.mpr c64
            clear c64
            obtain ⟨t434, A65, H⟩ := RFn.bn H
            obtain ⟨t437, A66, H⟩ := RFn.bn H
            obtain ⟨t440, A67, H⟩ := RFn.bn H
            obtain ⟨t443, A68, H⟩ := RFn.bn H
            obtain ⟨t446, A69, H⟩ := RFn.bn H
            obtain rfl := Option.some.inj H
            try go_wp2
            have n0_ := Aside0.mk (Kd.R_drew HO_7.out)
            have n1_ := Aside0.mk (Kd.R_drew HO_9.out)
            have n2_ := Aside0.mk (blk_drew BK395.out)
            have n3_ := Aside0.mk (below_drew1 HB.out)
            clear HO_7
            clear HO_9
            clear BK395
            clear HB
            have HO_7 := n0_
            have HO_9 := n1_
            have BK395 := n2_
            have HB := n3_
            clear n0_ n1_ n2_ n3_
            obtain ⟨Ao71, co71, eo71⟩ := Kd.R_slice HO_7.out
            (first | subst eo71 | (injection eo71 with f1_ f2_ f3_; have f4_ := f1_.symm; have f5_ := f3_.symm; clear f1_ f2_ f3_; subst f4_; subst f5_))
            refine start_ (n := 47) (S := fun w' => w'.cell? ⟨gb395, 0, none⟩ = some (.string a2_0) ∧ w'.cell? ⟨gb395, 1, none⟩ = some (.string a2_1) ∧ w'.cell? ⟨gb395, 2, none⟩ = some (.string a2_2) ∧ w'.cell? ⟨gb395, 3, none⟩ = some (.string a2_3) ∧ w'.cell? ⟨gb395, 4, none⟩ = some (.int .i64 a2_4)) (ds := []) (bs 47 0) (by kernel_rfl) rfl rfl (RFn.bc5 BK395) (fun hHeld => ?_); refine with_tabW law09_FactCalls.tab9 law09_FactCalls.bits9 (fun HT_ HW_ => ?_)
            generalize wc.drew = w70 at HO_7 HO_9 BK395 HB hHeld ⊢
            refine RFn.pA (i := 0) (N := some 74) (bs 47 1) HT_ ?_
            refine RFn.pA (i := 2) (N := some 76) (bs 47 5) HT_ ?_
            refine RFn.o1 (i := 1) (N := some 75) (bs 47 7) HT_ fun K hK => ?_
            refine RFn.gA Try.func16 #[.slice Ao71 t410.length co71] rfl ?_
            with_reducible refine (law09_Ours.calls kj40 _ _ t410 t425 _ ?side1 ?side2 A55.out).mono ?_
            (case side1 => exact RFn.mC (Kd.R_reads' HO_7.out).2.2)
            (case side2 => exact (Kd.R_reads' HO_7.out).2.1)
            rintro e w72 ⟨v426, rfl, ho0, hb⟩
            refine ⟨_, rfl, ?_⟩
            have n0_ := Aside0.mk (Kd.R_below (RFn.mR HO_7) hb)
            have n1_ := Aside0.mk (Kd.R_elder' (RFn.mR HO_9) (Kd.R_base ho0) hb)
            have n2_ := Aside0.mk (Kd.R_lower (Kd.R_new' ho0 (Kd.R_lt (RFn.mR HO_9))) (below_size RFn.bels))
            have n3_ := Aside0.mk (blk_below (g := gb395) RFn.blk hb)
            have n4_ := Aside0.mk (below_step RFn.bels hb)
            clear HO_7
            clear HO_9
            clear BK395
            clear HB
            have HO_7 := n0_
            have HO_9 := n1_
            have HO427 := n2_
            have BK395 := n3_
            have HB := n4_
            clear n0_ n1_ n2_ n3_ n4_
            (try clear hb)
            (try clear hk)
            (try clear ho0)
            obtain ⟨Ao73, co73, eo73⟩ := Kd.R_slice HO427.out
            (first | subst eo73 | (injection eo73 with f1_ f2_ f3_; have f4_ := f1_.symm; have f5_ := f3_.symm; clear f1_ f2_ f3_; subst f4_; subst f5_))
            obtain ⟨Ao74, co74, eo74⟩ := Kd.R_slice HO_9.out
            (first | subst eo74 | (injection eo74 with f1_ f2_ f3_; have f4_ := f1_.symm; have f5_ := f3_.symm; clear f1_ f2_ f3_; subst f4_; subst f5_))
            refine hK.out _ _ (RFn.bc5 BK395) (fun hHeld => ?_)
            clear hK K
            refine RFn.nm (some 75) ?_
            refine RFn.o1 (i := 3) (N := some 77) (bs 47 15) HT_ fun K hK => ?_
            refine RFn.gA Try.func15 #[.slice Ao73 t425.length co73, .slice Ao74 t414.length co74] rfl ?_
            with_reducible refine (ref09_Same.calls kj40 _ _ t425 _ _ t414 true _ ?side1 ?side2 ?side3 ?side4 A56.out).mono ?_
            (case side1 => exact RFn.mC (Kd.R_reads' HO427.out).2.2)
            (case side2 => exact (Kd.R_reads' HO427.out).2.1)
            (case side3 => exact RFn.mC (Kd.R_reads' HO_9.out).2.2)
            (case side4 => exact (Kd.R_reads' HO_9.out).2.1)
            rintro e w' ⟨rfl, ⟨nd, rfl⟩⟩
            refine ⟨_, rfl, ?_⟩
            refine hK.out _ _ (RFn.bc5 BK395) (fun hHeld => ?_)
            clear hK K
            refine RFn.nm (some 77) ?_
            refine RFn.pA (i := 4) (N := some 78) (bs 47 31) HT_ ?_
            refine RFn.pA (i := 5) (N := some 79) (bs 47 63) HT_ ?_
            refine RFn.pA (i := 6) (N := some 80) (bs 47 127) HT_ ?_
            refine RFn.pA (i := 7) (N := some 81) (bs 47 255) HT_ ?_
            refine RFn.pA (i := 8) (N := some 82) (bs 47 511) HT_ ?_
            refine RFn.pA (i := 9) (N := some 83) (bs 47 1023) HT_ ?_
            refine RFn.pA (i := 10) (N := some 84) (bs 47 2047) HT_ ?_
            refine RFn.pA (i := 14) (N := some 88) (bs 47 18431) HT_ ?_
            refine RFn.tA (i := 12) (N := some 86) (bs 47 22527) rfl HT_ HW_ hHeld (by rintro w' ⟨s0, s1, s2, s3, s4⟩; go_simp; with_reducible rfl) ?_
            refine RFn.tA (i := 15) (N := some 89) (bs 47 55295) rfl HT_ HW_ hHeld (by rintro w' ⟨s0, s1, s2, s3, s4⟩; go_simp; with_reducible rfl) ?_
            refine RFn.o1 (i := 11) (N := some 85) (bs 47 57343) HT_ fun K hK => ?_
            refine RFn.gA Try.func13 #[.slice A0 l0.length c0] rfl ?_
            with_reducible refine (law09_Theirs.calls kj40 _ _ l0 t429 _ ?side1 ?side2 A59.out).mono ?_
            (case side1 => exact RFn.mC (Kd.C_below HR0.out RFn.bels))
            (case side2 => exact HC0.out)
            rintro e w75 ⟨v430, rfl, ho0, hb⟩
            refine ⟨_, rfl, ?_⟩
            have n0_ := Aside0.mk (Kd.R_elder' (RFn.mR HO_7) (Kd.R_base ho0) hb)
            have n1_ := Aside0.mk (Kd.R_below (RFn.mR HO_9) hb)
            have n2_ := Aside0.mk (Kd.R_below (RFn.mR HO427) hb)
            have n3_ := Aside0.mk (Kd.R_lower (Kd.R_new' ho0 (Kd.R_lt (RFn.mR HO_7))) (below_size RFn.bels))
            have n4_ := Aside0.mk (blk_below (g := gb395) RFn.blk hb)
            have n5_ := Aside0.mk (below_step RFn.bels hb)
            clear HO_7
            clear HO_9
            clear HO427
            clear BK395
            clear HB
            have HO_7 := n0_
            have HO_9 := n1_
            have HO427 := n2_
            have HO431 := n3_
            have BK395 := n4_
            have HB := n5_
            clear n0_ n1_ n2_ n3_ n4_ n5_
            (try clear hb)
            (try clear hk)
            (try clear ho0)
            obtain ⟨Ao76, co76, eo76⟩ := Kd.R_slice HO431.out
            (first | subst eo76 | (injection eo76 with f1_ f2_ f3_; have f4_ := f1_.symm; have f5_ := f3_.symm; clear f1_ f2_ f3_; subst f4_; subst f5_))
            refine hK.out _ _ (RFn.bc5 BK395) (fun hHeld => ?_)
            clear hK K
            refine RFn.nm (some 85) ?_
            refine RFn.o1 (i := 13) (N := some 87) (bs 47 65535) HT_ fun K hK => ?_
            refine RFn.gA Try.func25 #[.slice Ao76 t429.length co76, .agg #[.string a2_0, .string a2_1, .string a2_2, .string a2_3, .int .i64 a2_4]] rfl ?_
            with_reducible refine (fact_Get.calls kj40 _ _ t429 a2_0 a2_1 a2_2 a2_3 a2_4 t432 _ ?side1 ?side2 A60.out).mono ?_
            (case side1 => exact RFn.mC (Kd.R_reads' HO431.out).2.2)
            (case side2 => exact (Kd.R_reads' HO431.out).2.1)
            rintro e w77 ⟨rfl, hb⟩
            refine ⟨_, rfl, ?_⟩
            have n0_ := Aside0.mk (Kd.R_below (RFn.mR HO_7) hb)
            have n1_ := Aside0.mk (Kd.R_below (RFn.mR HO_9) hb)
            have n2_ := Aside0.mk (Kd.R_below (RFn.mR HO427) hb)
            have n3_ := Aside0.mk (Kd.R_below (RFn.mR HO431) hb)
            have n4_ := Aside0.mk (blk_below (g := gb395) RFn.blk hb)
            have n5_ := Aside0.mk (below_step RFn.bels hb)
            clear HO_7
            clear HO_9
            clear HO427
            clear HO431
            clear BK395
            clear HB
            have HO_7 := n0_
            have HO_9 := n1_
            have HO427 := n2_
            have HO431 := n3_
            have BK395 := n4_
            have HB := n5_
            clear n0_ n1_ n2_ n3_ n4_ n5_
            (try clear hb)
            (try clear hk)
            refine hK.out _ _ (RFn.bc5 BK395) (fun hHeld => ?_)
            clear hK K
            refine RFn.nm (some 87) ?_
            refine RFn.o1 (i := 16) (N := some 90) (bs 47 131071) HT_ fun K hK => ?_
            refine RFn.gA Try.func26 #[.slice A0 l0.length c0, .agg #[.string a2_0, .string a2_1, .string a2_2, .string a2_3, .int .i64 a2_4]] rfl ?_
            with_reducible refine (ref09_Get.calls kj40 _ _ l0 a2_0 a2_1 a2_2 a2_3 a2_4 t433 _ ?side1 ?side2 A61.out).mono ?_
            (case side1 => exact RFn.mC (Kd.C_below HR0.out HB.out))
            (case side2 => exact HC0.out)
            rintro e w78 ⟨rfl, hb⟩
            refine ⟨_, rfl, ?_⟩
            have n0_ := Aside0.mk (Kd.R_below (RFn.mR HO_7) hb)
            have n1_ := Aside0.mk (Kd.R_below (RFn.mR HO_9) hb)
            have n2_ := Aside0.mk (Kd.R_below (RFn.mR HO427) hb)
            have n3_ := Aside0.mk (Kd.R_below (RFn.mR HO431) hb)
            have n4_ := Aside0.mk (blk_below (g := gb395) RFn.blk hb)
            have n5_ := Aside0.mk (below_step RFn.bels hb)
            clear HO_7
            clear HO_9
            clear HO427
            clear HO431
            clear BK395
            clear HB
            have HO_7 := n0_
            have HO_9 := n1_
            have HO427 := n2_
            have HO431 := n3_
            have BK395 := n4_
            have HB := n5_
            clear n0_ n1_ n2_ n3_ n4_ n5_
            (try clear hb)
            (try clear hk)
            refine hK.out _ _ (RFn.bc5 BK395) (fun hHeld => ?_)
            clear hK K
            refine RFn.nm (some 90) ?_
            refine RFn.pA (i := 17) (N := some 91) (bs 47 262143) HT_ ?_
            refine RFn.pA (i := 18) (N := some 92) (bs 47 524287) HT_ ?_
            refine RFn.pA (i := 19) (N := some 93) (bs 47 1048575) HT_ ?_
            refine RFn.pA (i := 20) (N := some 94) (bs 47 2097151) HT_ ?_
            refine RFn.pA (i := 21) (N := some 95) (bs 47 4194303) HT_ ?_
            refine RFn.pA (i := 22) (N := some 96) (bs 47 8388607) HT_ ?_
            refine RFn.pA (i := 23) (N := some 97) (bs 47 16777215) HT_ ?_
            refine RFn.pA (i := 24) (N := some 98) (bs 47 33554431) HT_ ?_
            refine RFn.pA (i := 25) (N := some 99) (bs 47 67108863) HT_ ?_
            refine RFn.pA (i := 26) (N := some 100) (bs 47 134217727) HT_ ?_
            refine RFn.pA (i := 27) (N := some 101) (bs 47 268435455) HT_ ?_
            refine RFn.pA (i := 28) (N := some 102) (bs 47 536870911) HT_ ?_
            refine RFn.pA (i := 29) (N := some 103) (bs 47 1073741823) HT_ ?_
            refine RFn.pA (i := 30) (N := some 104) (bs 47 2147483647) HT_ ?_
            refine RFn.pA (i := 32) (N := some 106) (bs 47 6442450943) HT_ ?_
            refine RFn.pA (i := 34) (N := some 108) (bs 47 23622320127) HT_ ?_
            refine RFn.pA (i := 38) (N := some 112) (bs 47 298500227071) HT_ ?_
            refine RFn.pA (i := 39) (N := some 113) (bs 47 848256040959) HT_ ?_
            refine RFn.pA (i := 41) (N := some 115) (bs 47 3047279296511) HT_ ?_
            refine RFn.tA (i := 33) (N := some 107) (bs 47 3055869231103) rfl HT_ HW_ hHeld (by rintro w' ⟨s0, s1, s2, s3, s4⟩; go_simp; with_reducible rfl) ?_
            refine RFn.tA (i := 35) (N := some 109) (bs 47 3090228969471) rfl HT_ HW_ hHeld (by rintro w' ⟨s0, s1, s2, s3, s4⟩; go_simp; with_reducible rfl) ?_
            refine RFn.tA (i := 40) (N := some 114) (bs 47 4189740597247) rfl HT_ HW_ hHeld (by rintro w' ⟨s0, s1, s2, s3, s4⟩; go_simp; with_reducible rfl) ?_
            refine RFn.tA (i := 42) (N := some 116) (bs 47 8587787108351) rfl HT_ HW_ hHeld (by rintro w' ⟨s0, s1, s2, s3, s4⟩; go_simp; with_reducible rfl) ?_
            refine RFn.o1 (i := 31) (N := some 105) (bs 47 8589934591999) HT_ fun K hK => ?_
            refine RFn.gA Try.func13 #[.slice A0 l0.length c0] rfl ?_
            with_reducible refine (law09_Theirs.calls kj40 _ _ l0 t434 _ ?side1 ?side2 A65.out).mono ?_
            (case side1 => exact RFn.mC (Kd.C_below HR0.out HB.out))
            (case side2 => exact HC0.out)
            rintro e w79 ⟨v435, rfl, ho0, hb⟩
            refine ⟨_, rfl, ?_⟩
            have n0_ := Aside0.mk (Kd.R_elder' (RFn.mR HO_7) (Kd.R_base ho0) hb)
            have n1_ := Aside0.mk (Kd.R_below (RFn.mR HO_9) hb)
            have n2_ := Aside0.mk (Kd.R_below (RFn.mR HO427) hb)
            have n3_ := Aside0.mk (Kd.R_elder' (RFn.mR HO431) (Kd.R_base ho0) hb)
            have n4_ := Aside0.mk (Kd.R_lower (Kd.R_new' (Kd.R_new' ho0 (Kd.R_lt (RFn.mR HO_7))) (Kd.R_lt (RFn.mR HO431))) (below_size RFn.bels))
            have n5_ := Aside0.mk (blk_below (g := gb395) RFn.blk hb)
            have n6_ := Aside0.mk (below_step RFn.bels hb)
            clear HO_7
            clear HO_9
            clear HO427
            clear HO431
            clear BK395
            clear HB
            have HO_7 := n0_
            have HO_9 := n1_
            have HO427 := n2_
            have HO431 := n3_
            have HO436 := n4_
            have BK395 := n5_
            have HB := n6_
            clear n0_ n1_ n2_ n3_ n4_ n5_ n6_
            (try clear hb)
            (try clear hk)
            (try clear ho0)
            obtain ⟨Ao80, co80, eo80⟩ := Kd.R_slice HO436.out
            (first | subst eo80 | (injection eo80 with f1_ f2_ f3_; have f4_ := f1_.symm; have f5_ := f3_.symm; clear f1_ f2_ f3_; subst f4_; subst f5_))
            refine hK.out _ _ (RFn.bc5 BK395) (fun hHeld => ?_)
            clear hK K
            refine RFn.nm (some 105) ?_
            refine RFn.o1 (i := 36) (N := some 110) (bs 47 8658654068735) HT_ fun K hK => ?_
            refine RFn.gA Try.func27 #[.slice Ao80 t434.length co80, .string a2_0, .int .i64 a2_4] rfl ?_
            with_reducible refine (fact_Pick.calls kj40 _ _ t434 a2_0 a2_4 t437 _ ?side1 ?side2 A66.out).mono ?_
            (case side1 => exact RFn.mC (Kd.R_reads' HO436.out).2.2)
            (case side2 => exact (Kd.R_reads' HO436.out).2.1)
            rintro e w81 ⟨v438, rfl, ho0, hb⟩
            refine ⟨_, rfl, ?_⟩
            have n0_ := Aside0.mk (Kd.R_elder' (RFn.mR HO_7) (Kd.R_base ho0) hb)
            have n1_ := Aside0.mk (Kd.R_below (RFn.mR HO_9) hb)
            have n2_ := Aside0.mk (Kd.R_below (RFn.mR HO427) hb)
            have n3_ := Aside0.mk (Kd.R_elder' (RFn.mR HO431) (Kd.R_base ho0) hb)
            have n4_ := Aside0.mk (Kd.R_elder' (RFn.mR HO436) (Kd.R_base ho0) hb)
            have n5_ := Aside0.mk (Kd.R_lower (Kd.R_new' (Kd.R_new' (Kd.R_new' ho0 (Kd.R_lt (RFn.mR HO_7))) (Kd.R_lt (RFn.mR HO431))) (Kd.R_lt (RFn.mR HO436))) (below_size RFn.bels))
            have n6_ := Aside0.mk (blk_below (g := gb395) RFn.blk hb)
            have n7_ := Aside0.mk (below_step RFn.bels hb)
            clear HO_7
            clear HO_9
            clear HO427
            clear HO431
            clear HO436
            clear BK395
            clear HB
            have HO_7 := n0_
            have HO_9 := n1_
            have HO427 := n2_
            have HO431 := n3_
            have HO436 := n4_
            have HO439 := n5_
            have BK395 := n6_
            have HB := n7_
            clear n0_ n1_ n2_ n3_ n4_ n5_ n6_ n7_
            (try clear hb)
            (try clear hk)
            (try clear ho0)
            obtain ⟨Ao82, co82, eo82⟩ := Kd.R_slice HO439.out
            (first | subst eo82 | (injection eo82 with f1_ f2_ f3_; have f4_ := f1_.symm; have f5_ := f3_.symm; clear f1_ f2_ f3_; subst f4_; subst f5_))
            refine hK.out _ _ (RFn.bc5 BK395) (fun hHeld => ?_)
            clear hK K
            refine RFn.nm (some 110) ?_
            refine RFn.o1 (i := 37) (N := some 111) (bs 47 8796093022207) HT_ fun K hK => ?_
            refine RFn.gA Try.func16 #[.slice Ao82 t437.length co82] rfl ?_
            with_reducible refine (law09_Ours.calls kj40 _ _ t437 t440 _ ?side1 ?side2 A67.out).mono ?_
            (case side1 => exact RFn.mC (Kd.R_reads' HO439.out).2.2)
            (case side2 => exact (Kd.R_reads' HO439.out).2.1)
            rintro e w83 ⟨v441, rfl, ho0, hb⟩
            refine ⟨_, rfl, ?_⟩
            have n0_ := Aside0.mk (Kd.R_below (RFn.mR HO_7) hb)
            have n1_ := Aside0.mk (Kd.R_elder' (RFn.mR HO_9) (Kd.R_base ho0) hb)
            have n2_ := Aside0.mk (Kd.R_elder' (RFn.mR HO427) (Kd.R_base ho0) hb)
            have n3_ := Aside0.mk (Kd.R_below (RFn.mR HO431) hb)
            have n4_ := Aside0.mk (Kd.R_below (RFn.mR HO436) hb)
            have n5_ := Aside0.mk (Kd.R_below (RFn.mR HO439) hb)
            have n6_ := Aside0.mk (Kd.R_lower (Kd.R_new' (Kd.R_new' ho0 (Kd.R_lt (RFn.mR HO_9))) (Kd.R_lt (RFn.mR HO427))) (below_size RFn.bels))
            have n7_ := Aside0.mk (blk_below (g := gb395) RFn.blk hb)
            have n8_ := Aside0.mk (below_step RFn.bels hb)
            clear HO_7
            clear HO_9
            clear HO427
            clear HO431
            clear HO436
            clear HO439
            clear BK395
            clear HB
            have HO_7 := n0_
            have HO_9 := n1_
            have HO427 := n2_
            have HO431 := n3_
            have HO436 := n4_
            have HO439 := n5_
            have HO442 := n6_
            have BK395 := n7_
            have HB := n8_
            clear n0_ n1_ n2_ n3_ n4_ n5_ n6_ n7_ n8_
            (try clear hb)
            (try clear hk)
            (try clear ho0)
            refine hK.out _ _ (RFn.bc5 BK395) (fun hHeld => ?_)
            clear hK K
            refine RFn.nm (some 111) ?_
            refine RFn.o1 (i := 43) (N := some 117) (bs 47 17592186044415) HT_ fun K hK => ?_
            refine RFn.gA Try.func28 #[.slice A0 l0.length c0, .string a2_0, .int .i64 a2_4] rfl ?_
            with_reducible refine (ref09_Pick.calls kj40 _ _ l0 a2_0 a2_4 t443 _ ?side1 ?side2 A68.out).mono ?_
            (case side1 => exact RFn.mC (Kd.C_below HR0.out HB.out))
            (case side2 => exact HC0.out)
            rintro e w84 ⟨v444, rfl, ho0, hb⟩
            refine ⟨_, rfl, ?_⟩
            have n0_ := Aside0.mk (Kd.R_below (RFn.mR HO_7) hb)
            have n1_ := Aside0.mk (Kd.R_elder' (RFn.mR HO_9) (Kd.R_base ho0) hb)
            have n2_ := Aside0.mk (Kd.R_elder' (RFn.mR HO427) (Kd.R_base ho0) hb)
            have n3_ := Aside0.mk (Kd.R_below (RFn.mR HO431) hb)
            have n4_ := Aside0.mk (Kd.R_below (RFn.mR HO436) hb)
            have n5_ := Aside0.mk (Kd.R_below (RFn.mR HO439) hb)
            have n6_ := Aside0.mk (Kd.R_elder' (RFn.mR HO442) (Kd.R_base ho0) hb)
            have n7_ := Aside0.mk (Kd.R_lower (Kd.R_new' (Kd.R_new' (Kd.R_new' ho0 (Kd.R_lt (RFn.mR HO_9))) (Kd.R_lt (RFn.mR HO427))) (Kd.R_lt (RFn.mR HO442))) (below_size RFn.bels))
            have n8_ := Aside0.mk (blk_below (g := gb395) RFn.blk hb)
            have n9_ := Aside0.mk (below_step RFn.bels hb)
            clear HO_7
            clear HO_9
            clear HO427
            clear HO431
            clear HO436
            clear HO439
            clear HO442
            clear BK395
            clear HB
            have HO_7 := n0_
            have HO_9 := n1_
            have HO427 := n2_
            have HO431 := n3_
            have HO436 := n4_
            have HO439 := n5_
            have HO442 := n6_
            have HO445 := n7_
            have BK395 := n8_
            have HB := n9_
            clear n0_ n1_ n2_ n3_ n4_ n5_ n6_ n7_ n8_ n9_
            (try clear hb)
            (try clear hk)
            (try clear ho0)
            obtain ⟨Ao85, co85, eo85⟩ := Kd.R_slice HO442.out
            (first | subst eo85 | (injection eo85 with f1_ f2_ f3_; have f4_ := f1_.symm; have f5_ := f3_.symm; clear f1_ f2_ f3_; subst f4_; subst f5_))
            obtain ⟨Ao86, co86, eo86⟩ := Kd.R_slice HO445.out
            (first | subst eo86 | (injection eo86 with f1_ f2_ f3_; have f4_ := f1_.symm; have f5_ := f3_.symm; clear f1_ f2_ f3_; subst f4_; subst f5_))
            refine hK.out _ _ (RFn.bc5 BK395) (fun hHeld => ?_)
            clear hK K
            refine RFn.nm (some 117) ?_
            refine RFn.o1 (i := 44) (N := some 118) (bs 47 35184372088831) HT_ fun K hK => ?_
            refine RFn.gA Try.func15 #[.slice Ao85 t440.length co85, .slice Ao86 t443.length co86] rfl ?_
            with_reducible refine (ref09_Same.calls kj40 _ _ t440 _ _ t443 t446 _ ?side1 ?side2 ?side3 ?side4 A69.out).mono ?_
            (case side1 => exact RFn.mC (Kd.R_reads' HO442.out).2.2)
            (case side2 => exact (Kd.R_reads' HO442.out).2.1)
            (case side3 => exact RFn.mC (Kd.R_reads' HO445.out).2.2)
            (case side4 => exact (Kd.R_reads' HO445.out).2.1)
            rintro e w' ⟨rfl, ⟨nd, rfl⟩⟩
            refine ⟨_, rfl, ?_⟩
            refine hK.out _ _ (RFn.bc5 BK395) (fun hHeld => ?_)
            clear hK K
            refine RFn.nm (some 118) ?_
            refine RFn.pA (i := 45) (N := some 119) (bs 47 70368744177663) HT_ ?_
            refine RFn.pA (i := 46) (N := some 6) (bs 47 140737488355327) HT_ ?_
            refine RFn.dn HT_ ?_
            try go_wp2
            go_ret
            exact ⟨by first | rfl | (simp [errW_none, errW_some] <;> rfl) | (simp [*, errW_none, errW_some] <;> rfl), RFn.bels⟩
           ·rw [if_neg c64] at H
            have c64b0 : (t422 == x14_40) = false := beq_eq_false_iff_ne.mpr c64
            have c64b1 : (t422 != x14_40) = true := bne_iff_ne.mpr c64
            obtain rfl := Option.some.inj H
            try go_wp2
            have n0_ := Aside0.mk (Kd.R_drew HO_7.out)
            have n1_ := Aside0.mk (Kd.R_drew HO_9.out)
            have n2_ := Aside0.mk (blk_drew BK395.out)
            have n3_ := Aside0.mk (below_drew1 HB.out)
            clear HO_7
            clear HO_9
            clear BK395
            clear HB
            have HO_7 := n0_
            have HO_9 := n1_
            have BK395 := n2_
            have HB := n3_
            clear n0_ n1_ n2_ n3_
            obtain ⟨Ao88, co88, eo88⟩ := Kd.R_slice HO_7.out
            (first | subst eo88 | (injection eo88 with f1_ f2_ f3_; have f4_ := f1_.symm; have f5_ := f3_.symm; clear f1_ f2_ f3_; subst f4_; subst f5_))
            refine start_ (n := 47) (S := fun w' => w'.cell? ⟨gb395, 0, none⟩ = some (.string a2_0) ∧ w'.cell? ⟨gb395, 1, none⟩ = some (.string a2_1) ∧ w'.cell? ⟨gb395, 2, none⟩ = some (.string a2_2) ∧ w'.cell? ⟨gb395, 3, none⟩ = some (.string a2_3) ∧ w'.cell? ⟨gb395, 4, none⟩ = some (.int .i64 a2_4)) (ds := []) (bs 47 0) (by kernel_rfl) rfl rfl (RFn.bc5 BK395) (fun hHeld => ?_); refine with_tabW law09_FactCalls.tab9 law09_FactCalls.bits9 (fun HT_ HW_ => ?_)
            generalize wc.drew = w87 at HO_7 HO_9 BK395 HB hHeld ⊢
            refine RFn.pA (i := 0) (N := some 74) (bs 47 1) HT_ ?_
            refine RFn.pA (i := 2) (N := some 76) (bs 47 5) HT_ ?_
            refine RFn.o1 (i := 1) (N := some 75) (bs 47 7) HT_ fun K hK => ?_
            refine RFn.gA Try.func16 #[.slice Ao88 t410.length co88] rfl ?_
            with_reducible refine (law09_Ours.calls kj40 _ _ t410 t425 _ ?side1 ?side2 A55.out).mono ?_
            (case side1 => exact RFn.mC (Kd.R_reads' HO_7.out).2.2)
            (case side2 => exact (Kd.R_reads' HO_7.out).2.1)
            rintro e w89 ⟨v426, rfl, ho0, hb⟩
            refine ⟨_, rfl, ?_⟩
            have n0_ := Aside0.mk (Kd.R_below (RFn.mR HO_7) hb)
            have n1_ := Aside0.mk (Kd.R_elder' (RFn.mR HO_9) (Kd.R_base ho0) hb)
            have n2_ := Aside0.mk (Kd.R_lower (Kd.R_new' ho0 (Kd.R_lt (RFn.mR HO_9))) (below_size RFn.bels))
            have n3_ := Aside0.mk (blk_below (g := gb395) RFn.blk hb)
            have n4_ := Aside0.mk (below_step RFn.bels hb)
            clear HO_7
            clear HO_9
            clear BK395
            clear HB
            have HO_7 := n0_
            have HO_9 := n1_
            have HO427 := n2_
            have BK395 := n3_
            have HB := n4_
            clear n0_ n1_ n2_ n3_ n4_
            (try clear hb)
            (try clear hk)
            (try clear ho0)
            obtain ⟨Ao90, co90, eo90⟩ := Kd.R_slice HO427.out
            (first | subst eo90 | (injection eo90 with f1_ f2_ f3_; have f4_ := f1_.symm; have f5_ := f3_.symm; clear f1_ f2_ f3_; subst f4_; subst f5_))
            obtain ⟨Ao91, co91, eo91⟩ := Kd.R_slice HO_9.out
            (first | subst eo91 | (injection eo91 with f1_ f2_ f3_; have f4_ := f1_.symm; have f5_ := f3_.symm; clear f1_ f2_ f3_; subst f4_; subst f5_))
            refine hK.out _ _ (RFn.bc5 BK395) (fun hHeld => ?_)
            clear hK K
            refine RFn.nm (some 75) ?_
            refine RFn.o1 (i := 3) (N := some 77) (bs 47 15) HT_ fun K hK => ?_
            refine RFn.gA Try.func15 #[.slice Ao90 t425.length co90, .slice Ao91 t414.length co91] rfl ?_
            with_reducible refine (ref09_Same.calls kj40 _ _ t425 _ _ t414 true _ ?side1 ?side2 ?side3 ?side4 A56.out).mono ?_
            (case side1 => exact RFn.mC (Kd.R_reads' HO427.out).2.2)
            (case side2 => exact (Kd.R_reads' HO427.out).2.1)
            (case side3 => exact RFn.mC (Kd.R_reads' HO_9.out).2.2)
            (case side4 => exact (Kd.R_reads' HO_9.out).2.1)
            rintro e w' ⟨rfl, ⟨nd, rfl⟩⟩
            refine ⟨_, rfl, ?_⟩
            refine hK.out _ _ (RFn.bc5 BK395) (fun hHeld => ?_)
            clear hK K
            refine RFn.nm (some 77) ?_
            refine RFn.pA (i := 4) (N := some 78) (bs 47 31) HT_ ?_
            refine RFn.pA (i := 5) (N := some 79) (bs 47 63) HT_ ?_
            refine RFn.pA (i := 6) (N := some 80) (bs 47 127) HT_ ?_
            refine RFn.pA (i := 7) (N := some 81) (bs 47 255) HT_ ?_
            refine RFn.pA (i := 8) (N := some 82) (bs 47 511) HT_ ?_
            refine RFn.pA (i := 9) (N := some 83) (bs 47 1023) HT_ ?_
            refine RFn.pA (i := 10) (N := some 84) (bs 47 2047) HT_ ?_
            refine RFn.pA (i := 14) (N := some 88) (bs 47 18431) HT_ ?_
            refine RFn.tA (i := 12) (N := some 86) (bs 47 22527) rfl HT_ HW_ hHeld (by rintro w' ⟨s0, s1, s2, s3, s4⟩; go_simp; with_reducible rfl) ?_
            refine RFn.tA (i := 15) (N := some 89) (bs 47 55295) rfl HT_ HW_ hHeld (by rintro w' ⟨s0, s1, s2, s3, s4⟩; go_simp; with_reducible rfl) ?_
            refine RFn.o1 (i := 11) (N := some 85) (bs 47 57343) HT_ fun K hK => ?_
            refine RFn.gA Try.func13 #[.slice A0 l0.length c0] rfl ?_
            with_reducible refine (law09_Theirs.calls kj40 _ _ l0 t429 _ ?side1 ?side2 A59.out).mono ?_
            (case side1 => exact RFn.mC (Kd.C_below HR0.out RFn.bels))
            (case side2 => exact HC0.out)
            rintro e w92 ⟨v430, rfl, ho0, hb⟩
            refine ⟨_, rfl, ?_⟩
            have n0_ := Aside0.mk (Kd.R_elder' (RFn.mR HO_7) (Kd.R_base ho0) hb)
            have n1_ := Aside0.mk (Kd.R_below (RFn.mR HO_9) hb)
            have n2_ := Aside0.mk (Kd.R_below (RFn.mR HO427) hb)
            have n3_ := Aside0.mk (Kd.R_lower (Kd.R_new' ho0 (Kd.R_lt (RFn.mR HO_7))) (below_size RFn.bels))
            have n4_ := Aside0.mk (blk_below (g := gb395) RFn.blk hb)
            have n5_ := Aside0.mk (below_step RFn.bels hb)
            clear HO_7
            clear HO_9
            clear HO427
            clear BK395
            clear HB
            have HO_7 := n0_
            have HO_9 := n1_
            have HO427 := n2_
            have HO431 := n3_
            have BK395 := n4_
            have HB := n5_
            clear n0_ n1_ n2_ n3_ n4_ n5_
            (try clear hb)
            (try clear hk)
            (try clear ho0)
            obtain ⟨Ao93, co93, eo93⟩ := Kd.R_slice HO431.out
            (first | subst eo93 | (injection eo93 with f1_ f2_ f3_; have f4_ := f1_.symm; have f5_ := f3_.symm; clear f1_ f2_ f3_; subst f4_; subst f5_))
            refine hK.out _ _ (RFn.bc5 BK395) (fun hHeld => ?_)
            clear hK K
            refine RFn.nm (some 85) ?_
            refine RFn.o1 (i := 13) (N := some 87) (bs 47 65535) HT_ fun K hK => ?_
            refine RFn.gA Try.func25 #[.slice Ao93 t429.length co93, .agg #[.string a2_0, .string a2_1, .string a2_2, .string a2_3, .int .i64 a2_4]] rfl ?_
            with_reducible refine (fact_Get.calls kj40 _ _ t429 a2_0 a2_1 a2_2 a2_3 a2_4 t432 _ ?side1 ?side2 A60.out).mono ?_
            (case side1 => exact RFn.mC (Kd.R_reads' HO431.out).2.2)
            (case side2 => exact (Kd.R_reads' HO431.out).2.1)
            rintro e w94 ⟨rfl, hb⟩
            refine ⟨_, rfl, ?_⟩
            have n0_ := Aside0.mk (Kd.R_below (RFn.mR HO_7) hb)
            have n1_ := Aside0.mk (Kd.R_below (RFn.mR HO_9) hb)
            have n2_ := Aside0.mk (Kd.R_below (RFn.mR HO427) hb)
            have n3_ := Aside0.mk (Kd.R_below (RFn.mR HO431) hb)
            have n4_ := Aside0.mk (blk_below (g := gb395) RFn.blk hb)
            have n5_ := Aside0.mk (below_step RFn.bels hb)
            clear HO_7
            clear HO_9
            clear HO427
            clear HO431
            clear BK395
            clear HB
            have HO_7 := n0_
            have HO_9 := n1_
            have HO427 := n2_
            have HO431 := n3_
            have BK395 := n4_
            have HB := n5_
            clear n0_ n1_ n2_ n3_ n4_ n5_
            (try clear hb)
            (try clear hk)
            refine hK.out _ _ (RFn.bc5 BK395) (fun hHeld => ?_)
            clear hK K
            refine RFn.nm (some 87) ?_
            refine RFn.o1 (i := 16) (N := some 90) (bs 47 131071) HT_ fun K hK => ?_
            refine RFn.gA Try.func26 #[.slice A0 l0.length c0, .agg #[.string a2_0, .string a2_1, .string a2_2, .string a2_3, .int .i64 a2_4]] rfl ?_
            with_reducible refine (ref09_Get.calls kj40 _ _ l0 a2_0 a2_1 a2_2 a2_3 a2_4 t433 _ ?side1 ?side2 A61.out).mono ?_
            (case side1 => exact RFn.mC (Kd.C_below HR0.out HB.out))
            (case side2 => exact HC0.out)
            rintro e w95 ⟨rfl, hb⟩
            refine ⟨_, rfl, ?_⟩
            have n0_ := Aside0.mk (Kd.R_below (RFn.mR HO_7) hb)
            have n1_ := Aside0.mk (Kd.R_below (RFn.mR HO_9) hb)
            have n2_ := Aside0.mk (Kd.R_below (RFn.mR HO427) hb)
            have n3_ := Aside0.mk (Kd.R_below (RFn.mR HO431) hb)
            have n4_ := Aside0.mk (blk_below (g := gb395) RFn.blk hb)
            have n5_ := Aside0.mk (below_step RFn.bels hb)
            clear HO_7
            clear HO_9
            clear HO427
            clear HO431
            clear BK395
            clear HB
            have HO_7 := n0_
            have HO_9 := n1_
            have HO427 := n2_
            have HO431 := n3_
            have BK395 := n4_
            have HB := n5_
            clear n0_ n1_ n2_ n3_ n4_ n5_
            (try clear hb)
            (try clear hk)
            refine hK.out _ _ (RFn.bc5 BK395) (fun hHeld => ?_)
            clear hK K
            refine RFn.nm (some 90) ?_
            refine RFn.pA (i := 17) (N := some 91) (bs 47 262143) HT_ ?_
            refine RFn.pA (i := 18) (N := some 92) (bs 47 524287) HT_ ?_
            refine RFn.pA (i := 19) (N := some 93) (bs 47 1048575) HT_ ?_
            refine RFn.pA (i := 20) (N := some 94) (bs 47 2097151) HT_ ?_
            refine RFn.pA (i := 21) (N := some 95) (bs 47 4194303) HT_ ?_
            refine RFn.pA (i := 22) (N := some 96) (bs 47 8388607) HT_ ?_
            refine RFn.pA (i := 23) (N := some 97) (bs 47 16777215) HT_ ?_
            refine RFn.pA (i := 24) (N := some 98) (bs 47 33554431) HT_ ?_
            refine RFn.pA (i := 25) (N := some 99) (bs 47 67108863) HT_ ?_
            refine RFn.pA (i := 26) (N := some 100) (bs 47 134217727) HT_ ?_
            refine RFn.pA (i := 27) (N := some 101) (bs 47 268435455) HT_ ?_
            refine RFn.pA (i := 28) (N := some 102) (bs 47 536870911) HT_ ?_
            refine RFn.pA (i := 29) (N := some 103) (bs 47 1073741823) HT_ ?_
            refine RFn.pU (i := 30) (N := some 104) (bs 47 2147483647) HT_ ?_
            refine RFn.pU (i := 31) (N := some 105) (bs 47 4294967295) HT_ ?_
            refine RFn.pU (i := 32) (N := some 106) (bs 47 8589934591) HT_ ?_
            refine RFn.pU (i := 33) (N := some 107) (bs 47 17179869183) HT_ ?_
            refine RFn.pU (i := 34) (N := some 108) (bs 47 34359738367) HT_ ?_
            refine RFn.pU (i := 35) (N := some 109) (bs 47 68719476735) HT_ ?_
            refine RFn.pU (i := 36) (N := some 110) (bs 47 137438953471) HT_ ?_
            refine RFn.pU (i := 37) (N := some 111) (bs 47 274877906943) HT_ ?_
            refine RFn.pU (i := 38) (N := some 112) (bs 47 549755813887) HT_ ?_
            refine RFn.pU (i := 39) (N := some 113) (bs 47 1099511627775) HT_ ?_
            refine RFn.pU (i := 40) (N := some 114) (bs 47 2199023255551) HT_ ?_
            refine RFn.pU (i := 41) (N := some 115) (bs 47 4398046511103) HT_ ?_
            refine RFn.pU (i := 42) (N := some 116) (bs 47 8796093022207) HT_ ?_
            refine RFn.pU (i := 43) (N := some 117) (bs 47 17592186044415) HT_ ?_
            refine RFn.pU (i := 44) (N := some 118) (bs 47 35184372088831) HT_ ?_
            refine RFn.pA (i := 45) (N := some 119) (bs 47 70368744177663) HT_ ?_
            refine RFn.pA (i := 46) (N := some 6) (bs 47 140737488355327) HT_ ?_
            refine RFn.dn HT_ ?_
            try go_wp2
            go_ret
            exact ⟨by first | rfl | (simp [errW_none, errW_some] <;> rfl) | (simp [*, errW_none, errW_some] <;> rfl), RFn.bels⟩
          ·rw [if_neg c63] at H
           have c63b0 : (t421 == x13_40) = false := beq_eq_false_iff_ne.mpr c63
           have c63b1 : (t421 != x13_40) = true := bne_iff_ne.mpr c63
           obtain rfl := Option.some.inj H
           try go_wp2
           have n0_ := Aside0.mk (Kd.R_drew HO_7.out)
           have n1_ := Aside0.mk (Kd.R_drew HO_9.out)
           have n2_ := Aside0.mk (blk_drew BK395.out)
           have n3_ := Aside0.mk (below_drew1 HB.out)
           clear HO_7
           clear HO_9
           clear BK395
           clear HB
           have HO_7 := n0_
           have HO_9 := n1_
           have BK395 := n2_
           have HB := n3_
           clear n0_ n1_ n2_ n3_
           obtain ⟨Ao97, co97, eo97⟩ := Kd.R_slice HO_7.out
           (first | subst eo97 | (injection eo97 with f1_ f2_ f3_; have f4_ := f1_.symm; have f5_ := f3_.symm; clear f1_ f2_ f3_; subst f4_; subst f5_))
           refine start_ (n := 47) (S := fun w' => w'.cell? ⟨gb395, 0, none⟩ = some (.string a2_0) ∧ w'.cell? ⟨gb395, 1, none⟩ = some (.string a2_1) ∧ w'.cell? ⟨gb395, 2, none⟩ = some (.string a2_2) ∧ w'.cell? ⟨gb395, 3, none⟩ = some (.string a2_3) ∧ w'.cell? ⟨gb395, 4, none⟩ = some (.int .i64 a2_4)) (ds := []) (bs 47 0) (by kernel_rfl) rfl rfl (RFn.bc5 BK395) (fun hHeld => ?_); refine with_tabW law09_FactCalls.tab9 law09_FactCalls.bits9 (fun HT_ HW_ => ?_)
           generalize wc.drew = w96 at HO_7 HO_9 BK395 HB hHeld ⊢
           refine RFn.pA (i := 0) (N := some 74) (bs 47 1) HT_ ?_
           refine RFn.pA (i := 2) (N := some 76) (bs 47 5) HT_ ?_
           refine RFn.o1 (i := 1) (N := some 75) (bs 47 7) HT_ fun K hK => ?_
           refine RFn.gA Try.func16 #[.slice Ao97 t410.length co97] rfl ?_
           with_reducible refine (law09_Ours.calls kj40 _ _ t410 t425 _ ?side1 ?side2 A55.out).mono ?_
           (case side1 => exact RFn.mC (Kd.R_reads' HO_7.out).2.2)
           (case side2 => exact (Kd.R_reads' HO_7.out).2.1)
           rintro e w98 ⟨v426, rfl, ho0, hb⟩
           refine ⟨_, rfl, ?_⟩
           have n0_ := Aside0.mk (Kd.R_below (RFn.mR HO_7) hb)
           have n1_ := Aside0.mk (Kd.R_elder' (RFn.mR HO_9) (Kd.R_base ho0) hb)
           have n2_ := Aside0.mk (Kd.R_lower (Kd.R_new' ho0 (Kd.R_lt (RFn.mR HO_9))) (below_size RFn.bels))
           have n3_ := Aside0.mk (blk_below (g := gb395) RFn.blk hb)
           have n4_ := Aside0.mk (below_step RFn.bels hb)
           clear HO_7
           clear HO_9
           clear BK395
           clear HB
           have HO_7 := n0_
           have HO_9 := n1_
           have HO427 := n2_
           have BK395 := n3_
           have HB := n4_
           clear n0_ n1_ n2_ n3_ n4_
           (try clear hb)
           (try clear hk)
           (try clear ho0)
           obtain ⟨Ao99, co99, eo99⟩ := Kd.R_slice HO427.out
           (first | subst eo99 | (injection eo99 with f1_ f2_ f3_; have f4_ := f1_.symm; have f5_ := f3_.symm; clear f1_ f2_ f3_; subst f4_; subst f5_))
           obtain ⟨Ao100, co100, eo100⟩ := Kd.R_slice HO_9.out
           (first | subst eo100 | (injection eo100 with f1_ f2_ f3_; have f4_ := f1_.symm; have f5_ := f3_.symm; clear f1_ f2_ f3_; subst f4_; subst f5_))
           refine hK.out _ _ (RFn.bc5 BK395) (fun hHeld => ?_)
           clear hK K
           refine RFn.nm (some 75) ?_
           refine RFn.o1 (i := 3) (N := some 77) (bs 47 15) HT_ fun K hK => ?_
           refine RFn.gA Try.func15 #[.slice Ao99 t425.length co99, .slice Ao100 t414.length co100] rfl ?_
           with_reducible refine (ref09_Same.calls kj40 _ _ t425 _ _ t414 true _ ?side1 ?side2 ?side3 ?side4 A56.out).mono ?_
           (case side1 => exact RFn.mC (Kd.R_reads' HO427.out).2.2)
           (case side2 => exact (Kd.R_reads' HO427.out).2.1)
           (case side3 => exact RFn.mC (Kd.R_reads' HO_9.out).2.2)
           (case side4 => exact (Kd.R_reads' HO_9.out).2.1)
           rintro e w' ⟨rfl, ⟨nd, rfl⟩⟩
           refine ⟨_, rfl, ?_⟩
           refine hK.out _ _ (RFn.bc5 BK395) (fun hHeld => ?_)
           clear hK K
           refine RFn.nm (some 77) ?_
           refine RFn.pA (i := 4) (N := some 78) (bs 47 31) HT_ ?_
           refine RFn.pA (i := 5) (N := some 79) (bs 47 63) HT_ ?_
           refine RFn.pA (i := 6) (N := some 80) (bs 47 127) HT_ ?_
           refine RFn.pA (i := 7) (N := some 81) (bs 47 255) HT_ ?_
           refine RFn.pA (i := 8) (N := some 82) (bs 47 511) HT_ ?_
           refine RFn.pA (i := 9) (N := some 83) (bs 47 1023) HT_ ?_
           refine RFn.pA (i := 10) (N := some 84) (bs 47 2047) HT_ ?_
           refine RFn.pA (i := 14) (N := some 88) (bs 47 18431) HT_ ?_
           refine RFn.tA (i := 12) (N := some 86) (bs 47 22527) rfl HT_ HW_ hHeld (by rintro w' ⟨s0, s1, s2, s3, s4⟩; go_simp; with_reducible rfl) ?_
           refine RFn.tA (i := 15) (N := some 89) (bs 47 55295) rfl HT_ HW_ hHeld (by rintro w' ⟨s0, s1, s2, s3, s4⟩; go_simp; with_reducible rfl) ?_
           refine RFn.o1 (i := 11) (N := some 85) (bs 47 57343) HT_ fun K hK => ?_
           refine RFn.gA Try.func13 #[.slice A0 l0.length c0] rfl ?_
           with_reducible refine (law09_Theirs.calls kj40 _ _ l0 t429 _ ?side1 ?side2 A59.out).mono ?_
           (case side1 => exact RFn.mC (Kd.C_below HR0.out RFn.bels))
           (case side2 => exact HC0.out)
           rintro e w101 ⟨v430, rfl, ho0, hb⟩
           refine ⟨_, rfl, ?_⟩
           have n0_ := Aside0.mk (Kd.R_elder' (RFn.mR HO_7) (Kd.R_base ho0) hb)
           have n1_ := Aside0.mk (Kd.R_below (RFn.mR HO_9) hb)
           have n2_ := Aside0.mk (Kd.R_below (RFn.mR HO427) hb)
           have n3_ := Aside0.mk (Kd.R_lower (Kd.R_new' ho0 (Kd.R_lt (RFn.mR HO_7))) (below_size RFn.bels))
           have n4_ := Aside0.mk (blk_below (g := gb395) RFn.blk hb)
           have n5_ := Aside0.mk (below_step RFn.bels hb)
           clear HO_7
           clear HO_9
           clear HO427
           clear BK395
           clear HB
           have HO_7 := n0_
           have HO_9 := n1_
           have HO427 := n2_
           have HO431 := n3_
           have BK395 := n4_
           have HB := n5_
           clear n0_ n1_ n2_ n3_ n4_ n5_
           (try clear hb)
           (try clear hk)
           (try clear ho0)
           obtain ⟨Ao102, co102, eo102⟩ := Kd.R_slice HO431.out
           (first | subst eo102 | (injection eo102 with f1_ f2_ f3_; have f4_ := f1_.symm; have f5_ := f3_.symm; clear f1_ f2_ f3_; subst f4_; subst f5_))
           refine hK.out _ _ (RFn.bc5 BK395) (fun hHeld => ?_)
           clear hK K
           refine RFn.nm (some 85) ?_
           refine RFn.o1 (i := 13) (N := some 87) (bs 47 65535) HT_ fun K hK => ?_
           refine RFn.gA Try.func25 #[.slice Ao102 t429.length co102, .agg #[.string a2_0, .string a2_1, .string a2_2, .string a2_3, .int .i64 a2_4]] rfl ?_
           with_reducible refine (fact_Get.calls kj40 _ _ t429 a2_0 a2_1 a2_2 a2_3 a2_4 t432 _ ?side1 ?side2 A60.out).mono ?_
           (case side1 => exact RFn.mC (Kd.R_reads' HO431.out).2.2)
           (case side2 => exact (Kd.R_reads' HO431.out).2.1)
           rintro e w103 ⟨rfl, hb⟩
           refine ⟨_, rfl, ?_⟩
           have n0_ := Aside0.mk (Kd.R_below (RFn.mR HO_7) hb)
           have n1_ := Aside0.mk (Kd.R_below (RFn.mR HO_9) hb)
           have n2_ := Aside0.mk (Kd.R_below (RFn.mR HO427) hb)
           have n3_ := Aside0.mk (Kd.R_below (RFn.mR HO431) hb)
           have n4_ := Aside0.mk (blk_below (g := gb395) RFn.blk hb)
           have n5_ := Aside0.mk (below_step RFn.bels hb)
           clear HO_7
           clear HO_9
           clear HO427
           clear HO431
           clear BK395
           clear HB
           have HO_7 := n0_
           have HO_9 := n1_
           have HO427 := n2_
           have HO431 := n3_
           have BK395 := n4_
           have HB := n5_
           clear n0_ n1_ n2_ n3_ n4_ n5_
           (try clear hb)
           (try clear hk)
           refine hK.out _ _ (RFn.bc5 BK395) (fun hHeld => ?_)
           clear hK K
           refine RFn.nm (some 87) ?_
           refine RFn.o1 (i := 16) (N := some 90) (bs 47 131071) HT_ fun K hK => ?_
           refine RFn.gA Try.func26 #[.slice A0 l0.length c0, .agg #[.string a2_0, .string a2_1, .string a2_2, .string a2_3, .int .i64 a2_4]] rfl ?_
           with_reducible refine (ref09_Get.calls kj40 _ _ l0 a2_0 a2_1 a2_2 a2_3 a2_4 t433 _ ?side1 ?side2 A61.out).mono ?_
           (case side1 => exact RFn.mC (Kd.C_below HR0.out HB.out))
           (case side2 => exact HC0.out)
           rintro e w104 ⟨rfl, hb⟩
           refine ⟨_, rfl, ?_⟩
           have n0_ := Aside0.mk (Kd.R_below (RFn.mR HO_7) hb)
           have n1_ := Aside0.mk (Kd.R_below (RFn.mR HO_9) hb)
           have n2_ := Aside0.mk (Kd.R_below (RFn.mR HO427) hb)
           have n3_ := Aside0.mk (Kd.R_below (RFn.mR HO431) hb)
           have n4_ := Aside0.mk (blk_below (g := gb395) RFn.blk hb)
           have n5_ := Aside0.mk (below_step RFn.bels hb)
           clear HO_7
           clear HO_9
           clear HO427
           clear HO431
           clear BK395
           clear HB
           have HO_7 := n0_
           have HO_9 := n1_
           have HO427 := n2_
           have HO431 := n3_
           have BK395 := n4_
           have HB := n5_
           clear n0_ n1_ n2_ n3_ n4_ n5_
           (try clear hb)
           (try clear hk)
           refine hK.out _ _ (RFn.bc5 BK395) (fun hHeld => ?_)
           clear hK K
           refine RFn.nm (some 90) ?_
           refine RFn.pA (i := 17) (N := some 91) (bs 47 262143) HT_ ?_
           refine RFn.pA (i := 18) (N := some 92) (bs 47 524287) HT_ ?_
           refine RFn.pA (i := 19) (N := some 93) (bs 47 1048575) HT_ ?_
           refine RFn.pA (i := 20) (N := some 94) (bs 47 2097151) HT_ ?_
           refine RFn.pA (i := 21) (N := some 95) (bs 47 4194303) HT_ ?_
           refine RFn.pA (i := 22) (N := some 96) (bs 47 8388607) HT_ ?_
           refine RFn.pA (i := 23) (N := some 97) (bs 47 16777215) HT_ ?_
           refine RFn.pA (i := 24) (N := some 98) (bs 47 33554431) HT_ ?_
           refine RFn.pU (i := 25) (N := some 99) (bs 47 67108863) HT_ ?_
           refine RFn.pU (i := 26) (N := some 100) (bs 47 134217727) HT_ ?_
           refine RFn.pU (i := 27) (N := some 101) (bs 47 268435455) HT_ ?_
           refine RFn.pA (i := 28) (N := some 102) (bs 47 536870911) HT_ ?_
           refine RFn.pA (i := 29) (N := some 103) (bs 47 1073741823) HT_ ?_
           refine RFn.pU (i := 30) (N := some 104) (bs 47 2147483647) HT_ ?_
           refine RFn.pU (i := 31) (N := some 105) (bs 47 4294967295) HT_ ?_
           refine RFn.pU (i := 32) (N := some 106) (bs 47 8589934591) HT_ ?_
           refine RFn.pU (i := 33) (N := some 107) (bs 47 17179869183) HT_ ?_
           refine RFn.pU (i := 34) (N := some 108) (bs 47 34359738367) HT_ ?_
           refine RFn.pU (i := 35) (N := some 109) (bs 47 68719476735) HT_ ?_
           refine RFn.pU (i := 36) (N := some 110) (bs 47 137438953471) HT_ ?_
           refine RFn.pU (i := 37) (N := some 111) (bs 47 274877906943) HT_ ?_
           refine RFn.pU (i := 38) (N := some 112) (bs 47 549755813887) HT_ ?_
           refine RFn.pU (i := 39) (N := some 113) (bs 47 1099511627775) HT_ ?_
           refine RFn.pU (i := 40) (N := some 114) (bs 47 2199023255551) HT_ ?_
           refine RFn.pU (i := 41) (N := some 115) (bs 47 4398046511103) HT_ ?_
           refine RFn.pU (i := 42) (N := some 116) (bs 47 8796093022207) HT_ ?_
           refine RFn.pU (i := 43) (N := some 117) (bs 47 17592186044415) HT_ ?_
           refine RFn.pU (i := 44) (N := some 118) (bs 47 35184372088831) HT_ ?_
           refine RFn.pA (i := 45) (N := some 119) (bs 47 70368744177663) HT_ ?_
           refine RFn.pA (i := 46) (N := some 6) (bs 47 140737488355327) HT_ ?_
           refine RFn.dn HT_ ?_
           try go_wp2
           go_ret
           exact ⟨by first | rfl | (simp [errW_none, errW_some] <;> rfl) | (simp [*, errW_none, errW_some] <;> rfl), RFn.bels⟩
         ·rw [if_neg c62] at H
          have c62b0 : (t432 == t433) = false := beq_eq_false_iff_ne.mpr c62
          have c62b1 : (t432 != t433) = true := bne_iff_ne.mpr c62
          obtain rfl := Option.some.inj H
          try go_wp2
          have n0_ := Aside0.mk (Kd.R_drew HO_7.out)
          have n1_ := Aside0.mk (Kd.R_drew HO_9.out)
          have n2_ := Aside0.mk (blk_drew BK395.out)
          have n3_ := Aside0.mk (below_drew1 HB.out)
          clear HO_7
          clear HO_9
          clear BK395
          clear HB
          have HO_7 := n0_
          have HO_9 := n1_
          have BK395 := n2_
          have HB := n3_
          clear n0_ n1_ n2_ n3_
          obtain ⟨Ao106, co106, eo106⟩ := Kd.R_slice HO_7.out
          (first | subst eo106 | (injection eo106 with f1_ f2_ f3_; have f4_ := f1_.symm; have f5_ := f3_.symm; clear f1_ f2_ f3_; subst f4_; subst f5_))
          refine start_ (n := 47) (S := fun w' => w'.cell? ⟨gb395, 0, none⟩ = some (.string a2_0) ∧ w'.cell? ⟨gb395, 1, none⟩ = some (.string a2_1) ∧ w'.cell? ⟨gb395, 2, none⟩ = some (.string a2_2) ∧ w'.cell? ⟨gb395, 3, none⟩ = some (.string a2_3) ∧ w'.cell? ⟨gb395, 4, none⟩ = some (.int .i64 a2_4)) (ds := []) (bs 47 0) (by kernel_rfl) rfl rfl (RFn.bc5 BK395) (fun hHeld => ?_); refine with_tabW law09_FactCalls.tab9 law09_FactCalls.bits9 (fun HT_ HW_ => ?_)
          generalize wc.drew = w105 at HO_7 HO_9 BK395 HB hHeld ⊢
          refine RFn.pA (i := 0) (N := some 74) (bs 47 1) HT_ ?_
          refine RFn.pA (i := 2) (N := some 76) (bs 47 5) HT_ ?_
          refine RFn.o1 (i := 1) (N := some 75) (bs 47 7) HT_ fun K hK => ?_
          refine RFn.gA Try.func16 #[.slice Ao106 t410.length co106] rfl ?_
          with_reducible refine (law09_Ours.calls kj40 _ _ t410 t425 _ ?side1 ?side2 A55.out).mono ?_
          (case side1 => exact RFn.mC (Kd.R_reads' HO_7.out).2.2)
          (case side2 => exact (Kd.R_reads' HO_7.out).2.1)
          rintro e w107 ⟨v426, rfl, ho0, hb⟩
          refine ⟨_, rfl, ?_⟩
          have n0_ := Aside0.mk (Kd.R_below (RFn.mR HO_7) hb)
          have n1_ := Aside0.mk (Kd.R_elder' (RFn.mR HO_9) (Kd.R_base ho0) hb)
          have n2_ := Aside0.mk (Kd.R_lower (Kd.R_new' ho0 (Kd.R_lt (RFn.mR HO_9))) (below_size RFn.bels))
          have n3_ := Aside0.mk (blk_below (g := gb395) RFn.blk hb)
          have n4_ := Aside0.mk (below_step RFn.bels hb)
          clear HO_7
          clear HO_9
          clear BK395
          clear HB
          have HO_7 := n0_
          have HO_9 := n1_
          have HO427 := n2_
          have BK395 := n3_
          have HB := n4_
          clear n0_ n1_ n2_ n3_ n4_
          (try clear hb)
          (try clear hk)
          (try clear ho0)
          obtain ⟨Ao108, co108, eo108⟩ := Kd.R_slice HO427.out
          (first | subst eo108 | (injection eo108 with f1_ f2_ f3_; have f4_ := f1_.symm; have f5_ := f3_.symm; clear f1_ f2_ f3_; subst f4_; subst f5_))
          obtain ⟨Ao109, co109, eo109⟩ := Kd.R_slice HO_9.out
          (first | subst eo109 | (injection eo109 with f1_ f2_ f3_; have f4_ := f1_.symm; have f5_ := f3_.symm; clear f1_ f2_ f3_; subst f4_; subst f5_))
          refine hK.out _ _ (RFn.bc5 BK395) (fun hHeld => ?_)
          clear hK K
          refine RFn.nm (some 75) ?_
          refine RFn.o1 (i := 3) (N := some 77) (bs 47 15) HT_ fun K hK => ?_
          refine RFn.gA Try.func15 #[.slice Ao108 t425.length co108, .slice Ao109 t414.length co109] rfl ?_
          with_reducible refine (ref09_Same.calls kj40 _ _ t425 _ _ t414 true _ ?side1 ?side2 ?side3 ?side4 A56.out).mono ?_
          (case side1 => exact RFn.mC (Kd.R_reads' HO427.out).2.2)
          (case side2 => exact (Kd.R_reads' HO427.out).2.1)
          (case side3 => exact RFn.mC (Kd.R_reads' HO_9.out).2.2)
          (case side4 => exact (Kd.R_reads' HO_9.out).2.1)
          rintro e w' ⟨rfl, ⟨nd, rfl⟩⟩
          refine ⟨_, rfl, ?_⟩
          refine hK.out _ _ (RFn.bc5 BK395) (fun hHeld => ?_)
          clear hK K
          refine RFn.nm (some 77) ?_
          refine RFn.pA (i := 4) (N := some 78) (bs 47 31) HT_ ?_
          refine RFn.pA (i := 5) (N := some 79) (bs 47 63) HT_ ?_
          refine RFn.pA (i := 6) (N := some 80) (bs 47 127) HT_ ?_
          refine RFn.pA (i := 7) (N := some 81) (bs 47 255) HT_ ?_
          refine RFn.pA (i := 8) (N := some 82) (bs 47 511) HT_ ?_
          refine RFn.pA (i := 9) (N := some 83) (bs 47 1023) HT_ ?_
          refine RFn.pA (i := 10) (N := some 84) (bs 47 2047) HT_ ?_
          refine RFn.pA (i := 14) (N := some 88) (bs 47 18431) HT_ ?_
          refine RFn.tA (i := 12) (N := some 86) (bs 47 22527) rfl HT_ HW_ hHeld (by rintro w' ⟨s0, s1, s2, s3, s4⟩; go_simp; with_reducible rfl) ?_
          refine RFn.tA (i := 15) (N := some 89) (bs 47 55295) rfl HT_ HW_ hHeld (by rintro w' ⟨s0, s1, s2, s3, s4⟩; go_simp; with_reducible rfl) ?_
          refine RFn.o1 (i := 11) (N := some 85) (bs 47 57343) HT_ fun K hK => ?_
          refine RFn.gA Try.func13 #[.slice A0 l0.length c0] rfl ?_
          with_reducible refine (law09_Theirs.calls kj40 _ _ l0 t429 _ ?side1 ?side2 A59.out).mono ?_
          (case side1 => exact RFn.mC (Kd.C_below HR0.out RFn.bels))
          (case side2 => exact HC0.out)
          rintro e w110 ⟨v430, rfl, ho0, hb⟩
          refine ⟨_, rfl, ?_⟩
          have n0_ := Aside0.mk (Kd.R_elder' (RFn.mR HO_7) (Kd.R_base ho0) hb)
          have n1_ := Aside0.mk (Kd.R_below (RFn.mR HO_9) hb)
          have n2_ := Aside0.mk (Kd.R_below (RFn.mR HO427) hb)
          have n3_ := Aside0.mk (Kd.R_lower (Kd.R_new' ho0 (Kd.R_lt (RFn.mR HO_7))) (below_size RFn.bels))
          have n4_ := Aside0.mk (blk_below (g := gb395) RFn.blk hb)
          have n5_ := Aside0.mk (below_step RFn.bels hb)
          clear HO_7
          clear HO_9
          clear HO427
          clear BK395
          clear HB
          have HO_7 := n0_
          have HO_9 := n1_
          have HO427 := n2_
          have HO431 := n3_
          have BK395 := n4_
          have HB := n5_
          clear n0_ n1_ n2_ n3_ n4_ n5_
          (try clear hb)
          (try clear hk)
          (try clear ho0)
          obtain ⟨Ao111, co111, eo111⟩ := Kd.R_slice HO431.out
          (first | subst eo111 | (injection eo111 with f1_ f2_ f3_; have f4_ := f1_.symm; have f5_ := f3_.symm; clear f1_ f2_ f3_; subst f4_; subst f5_))
          refine hK.out _ _ (RFn.bc5 BK395) (fun hHeld => ?_)
          clear hK K
          refine RFn.nm (some 85) ?_
          refine RFn.o1 (i := 13) (N := some 87) (bs 47 65535) HT_ fun K hK => ?_
          refine RFn.gA Try.func25 #[.slice Ao111 t429.length co111, .agg #[.string a2_0, .string a2_1, .string a2_2, .string a2_3, .int .i64 a2_4]] rfl ?_
          with_reducible refine (fact_Get.calls kj40 _ _ t429 a2_0 a2_1 a2_2 a2_3 a2_4 t432 _ ?side1 ?side2 A60.out).mono ?_
          (case side1 => exact RFn.mC (Kd.R_reads' HO431.out).2.2)
          (case side2 => exact (Kd.R_reads' HO431.out).2.1)
          rintro e w112 ⟨rfl, hb⟩
          refine ⟨_, rfl, ?_⟩
          have n0_ := Aside0.mk (Kd.R_below (RFn.mR HO_7) hb)
          have n1_ := Aside0.mk (Kd.R_below (RFn.mR HO_9) hb)
          have n2_ := Aside0.mk (Kd.R_below (RFn.mR HO427) hb)
          have n3_ := Aside0.mk (Kd.R_below (RFn.mR HO431) hb)
          have n4_ := Aside0.mk (blk_below (g := gb395) RFn.blk hb)
          have n5_ := Aside0.mk (below_step RFn.bels hb)
          clear HO_7
          clear HO_9
          clear HO427
          clear HO431
          clear BK395
          clear HB
          have HO_7 := n0_
          have HO_9 := n1_
          have HO427 := n2_
          have HO431 := n3_
          have BK395 := n4_
          have HB := n5_
          clear n0_ n1_ n2_ n3_ n4_ n5_
          (try clear hb)
          (try clear hk)
          refine hK.out _ _ (RFn.bc5 BK395) (fun hHeld => ?_)
          clear hK K
          refine RFn.nm (some 87) ?_
          refine RFn.o1 (i := 16) (N := some 90) (bs 47 131071) HT_ fun K hK => ?_
          refine RFn.gA Try.func26 #[.slice A0 l0.length c0, .agg #[.string a2_0, .string a2_1, .string a2_2, .string a2_3, .int .i64 a2_4]] rfl ?_
          with_reducible refine (ref09_Get.calls kj40 _ _ l0 a2_0 a2_1 a2_2 a2_3 a2_4 t433 _ ?side1 ?side2 A61.out).mono ?_
          (case side1 => exact RFn.mC (Kd.C_below HR0.out HB.out))
          (case side2 => exact HC0.out)
          rintro e w113 ⟨rfl, hb⟩
          refine ⟨_, rfl, ?_⟩
          have n0_ := Aside0.mk (Kd.R_below (RFn.mR HO_7) hb)
          have n1_ := Aside0.mk (Kd.R_below (RFn.mR HO_9) hb)
          have n2_ := Aside0.mk (Kd.R_below (RFn.mR HO427) hb)
          have n3_ := Aside0.mk (Kd.R_below (RFn.mR HO431) hb)
          have n4_ := Aside0.mk (blk_below (g := gb395) RFn.blk hb)
          have n5_ := Aside0.mk (below_step RFn.bels hb)
          clear HO_7
          clear HO_9
          clear HO427
          clear HO431
          clear BK395
          clear HB
          have HO_7 := n0_
          have HO_9 := n1_
          have HO427 := n2_
          have HO431 := n3_
          have BK395 := n4_
          have HB := n5_
          clear n0_ n1_ n2_ n3_ n4_ n5_
          (try clear hb)
          (try clear hk)
          refine hK.out _ _ (RFn.bc5 BK395) (fun hHeld => ?_)
          clear hK K
          refine RFn.nm (some 90) ?_
          refine RFn.pA (i := 17) (N := some 91) (bs 47 262143) HT_ ?_
          refine RFn.pA (i := 18) (N := some 92) (bs 47 524287) HT_ ?_
          refine RFn.pA (i := 19) (N := some 93) (bs 47 1048575) HT_ ?_
          refine RFn.pU (i := 20) (N := some 94) (bs 47 2097151) HT_ ?_
          refine RFn.pU (i := 21) (N := some 95) (bs 47 4194303) HT_ ?_
          refine RFn.pU (i := 22) (N := some 96) (bs 47 8388607) HT_ ?_
          refine RFn.pA (i := 23) (N := some 97) (bs 47 16777215) HT_ ?_
          refine RFn.pA (i := 24) (N := some 98) (bs 47 33554431) HT_ ?_
          refine RFn.pU (i := 25) (N := some 99) (bs 47 67108863) HT_ ?_
          refine RFn.pU (i := 26) (N := some 100) (bs 47 134217727) HT_ ?_
          refine RFn.pU (i := 27) (N := some 101) (bs 47 268435455) HT_ ?_
          refine RFn.pA (i := 28) (N := some 102) (bs 47 536870911) HT_ ?_
          refine RFn.pA (i := 29) (N := some 103) (bs 47 1073741823) HT_ ?_
          refine RFn.pU (i := 30) (N := some 104) (bs 47 2147483647) HT_ ?_
          refine RFn.pU (i := 31) (N := some 105) (bs 47 4294967295) HT_ ?_
          refine RFn.pU (i := 32) (N := some 106) (bs 47 8589934591) HT_ ?_
          refine RFn.pU (i := 33) (N := some 107) (bs 47 17179869183) HT_ ?_
          refine RFn.pU (i := 34) (N := some 108) (bs 47 34359738367) HT_ ?_
          refine RFn.pU (i := 35) (N := some 109) (bs 47 68719476735) HT_ ?_
          refine RFn.pU (i := 36) (N := some 110) (bs 47 137438953471) HT_ ?_
          refine RFn.pU (i := 37) (N := some 111) (bs 47 274877906943) HT_ ?_
          refine RFn.pU (i := 38) (N := some 112) (bs 47 549755813887) HT_ ?_
          refine RFn.pU (i := 39) (N := some 113) (bs 47 1099511627775) HT_ ?_
          refine RFn.pU (i := 40) (N := some 114) (bs 47 2199023255551) HT_ ?_
          refine RFn.pU (i := 41) (N := some 115) (bs 47 4398046511103) HT_ ?_
          refine RFn.pU (i := 42) (N := some 116) (bs 47 8796093022207) HT_ ?_
          refine RFn.pU (i := 43) (N := some 117) (bs 47 17592186044415) HT_ ?_
          refine RFn.pU (i := 44) (N := some 118) (bs 47 35184372088831) HT_ ?_
          refine RFn.pA (i := 45) (N := some 119) (bs 47 70368744177663) HT_ ?_
          refine RFn.pA (i := 46) (N := some 6) (bs 47 140737488355327) HT_ ?_
          refine RFn.dn HT_ ?_
          try go_wp2
          go_ret
          exact ⟨by first | rfl | (simp [errW_none, errW_some] <;> rfl) | (simp [*, errW_none, errW_some] <;> rfl), RFn.bels⟩
        ·rw [if_neg c58] at H
         have c58b0 : (t411 == t415) = false := beq_eq_false_iff_ne.mpr c58
         have c58b1 : (t411 != t415) = true := bne_iff_ne.mpr c58
         obtain rfl := Option.some.inj H
         try go_wp2
         have n0_ := Aside0.mk (Kd.R_drew HO_7.out)
         have n1_ := Aside0.mk (Kd.R_drew HO_9.out)
         have n2_ := Aside0.mk (blk_drew BK395.out)
         have n3_ := Aside0.mk (below_drew1 HB.out)
         clear HO_7
         clear HO_9
         clear BK395
         clear HB
         have HO_7 := n0_
         have HO_9 := n1_
         have BK395 := n2_
         have HB := n3_
         clear n0_ n1_ n2_ n3_
         obtain ⟨Ao115, co115, eo115⟩ := Kd.R_slice HO_7.out
         (first | subst eo115 | (injection eo115 with f1_ f2_ f3_; have f4_ := f1_.symm; have f5_ := f3_.symm; clear f1_ f2_ f3_; subst f4_; subst f5_))
         refine start_ (n := 47) (S := fun w' => True) (ds := []) (bs 47 0) (by kernel_rfl) rfl rfl trivial (fun hHeld => ?_); refine with_tabW law09_FactCalls.tab9 law09_FactCalls.bits9 (fun HT_ HW_ => ?_)
         generalize wc.drew = w114 at HO_7 HO_9 BK395 HB hHeld ⊢
         refine RFn.pA (i := 0) (N := some 74) (bs 47 1) HT_ ?_
         refine RFn.pA (i := 2) (N := some 76) (bs 47 5) HT_ ?_
         refine RFn.o1 (i := 1) (N := some 75) (bs 47 7) HT_ fun K hK => ?_
         refine RFn.gA Try.func16 #[.slice Ao115 t410.length co115] rfl ?_
         with_reducible refine (law09_Ours.calls kj40 _ _ t410 t425 _ ?side1 ?side2 A55.out).mono ?_
         (case side1 => exact RFn.mC (Kd.R_reads' HO_7.out).2.2)
         (case side2 => exact (Kd.R_reads' HO_7.out).2.1)
         rintro e w116 ⟨v426, rfl, ho0, hb⟩
         refine ⟨_, rfl, ?_⟩
         have n0_ := Aside0.mk (Kd.R_below (RFn.mR HO_7) hb)
         have n1_ := Aside0.mk (Kd.R_elder' (RFn.mR HO_9) (Kd.R_base ho0) hb)
         have n2_ := Aside0.mk (Kd.R_lower (Kd.R_new' ho0 (Kd.R_lt (RFn.mR HO_9))) (below_size RFn.bels))
         have n3_ := Aside0.mk (blk_below (g := gb395) RFn.blk hb)
         have n4_ := Aside0.mk (below_step RFn.bels hb)
         clear HO_7
         clear HO_9
         clear BK395
         clear HB
         have HO_7 := n0_
         have HO_9 := n1_
         have HO427 := n2_
         have BK395 := n3_
         have HB := n4_
         clear n0_ n1_ n2_ n3_ n4_
         (try clear hb)
         (try clear hk)
         (try clear ho0)
         obtain ⟨Ao117, co117, eo117⟩ := Kd.R_slice HO427.out
         (first | subst eo117 | (injection eo117 with f1_ f2_ f3_; have f4_ := f1_.symm; have f5_ := f3_.symm; clear f1_ f2_ f3_; subst f4_; subst f5_))
         obtain ⟨Ao118, co118, eo118⟩ := Kd.R_slice HO_9.out
         (first | subst eo118 | (injection eo118 with f1_ f2_ f3_; have f4_ := f1_.symm; have f5_ := f3_.symm; clear f1_ f2_ f3_; subst f4_; subst f5_))
         refine hK.out _ _ trivial (fun hHeld => ?_)
         clear hK K
         refine RFn.nm (some 75) ?_
         refine RFn.o1 (i := 3) (N := some 77) (bs 47 15) HT_ fun K hK => ?_
         refine RFn.gA Try.func15 #[.slice Ao117 t425.length co117, .slice Ao118 t414.length co118] rfl ?_
         with_reducible refine (ref09_Same.calls kj40 _ _ t425 _ _ t414 true _ ?side1 ?side2 ?side3 ?side4 A56.out).mono ?_
         (case side1 => exact RFn.mC (Kd.R_reads' HO427.out).2.2)
         (case side2 => exact (Kd.R_reads' HO427.out).2.1)
         (case side3 => exact RFn.mC (Kd.R_reads' HO_9.out).2.2)
         (case side4 => exact (Kd.R_reads' HO_9.out).2.1)
         rintro e w' ⟨rfl, ⟨nd, rfl⟩⟩
         refine ⟨_, rfl, ?_⟩
         refine hK.out _ _ trivial (fun hHeld => ?_)
         clear hK K
         refine RFn.nm (some 77) ?_
         refine RFn.pA (i := 4) (N := some 78) (bs 47 31) HT_ ?_
         refine RFn.pA (i := 5) (N := some 79) (bs 47 63) HT_ ?_
         refine RFn.pA (i := 6) (N := some 80) (bs 47 127) HT_ ?_
         refine RFn.pA (i := 7) (N := some 81) (bs 47 255) HT_ ?_
         refine RFn.pA (i := 8) (N := some 82) (bs 47 511) HT_ ?_
         refine RFn.pA (i := 9) (N := some 83) (bs 47 1023) HT_ ?_
         refine RFn.pU (i := 10) (N := some 84) (bs 47 2047) HT_ ?_
         refine RFn.pU (i := 11) (N := some 85) (bs 47 4095) HT_ ?_
         refine RFn.pU (i := 12) (N := some 86) (bs 47 8191) HT_ ?_
         refine RFn.pU (i := 13) (N := some 87) (bs 47 16383) HT_ ?_
         refine RFn.pU (i := 14) (N := some 88) (bs 47 32767) HT_ ?_
         refine RFn.pU (i := 15) (N := some 89) (bs 47 65535) HT_ ?_
         refine RFn.pU (i := 16) (N := some 90) (bs 47 131071) HT_ ?_
         refine RFn.pU (i := 17) (N := some 91) (bs 47 262143) HT_ ?_
         refine RFn.pA (i := 18) (N := some 92) (bs 47 524287) HT_ ?_
         refine RFn.pA (i := 19) (N := some 93) (bs 47 1048575) HT_ ?_
         refine RFn.pU (i := 20) (N := some 94) (bs 47 2097151) HT_ ?_
         refine RFn.pU (i := 21) (N := some 95) (bs 47 4194303) HT_ ?_
         refine RFn.pU (i := 22) (N := some 96) (bs 47 8388607) HT_ ?_
         refine RFn.pA (i := 23) (N := some 97) (bs 47 16777215) HT_ ?_
         refine RFn.pA (i := 24) (N := some 98) (bs 47 33554431) HT_ ?_
         refine RFn.pU (i := 25) (N := some 99) (bs 47 67108863) HT_ ?_
         refine RFn.pU (i := 26) (N := some 100) (bs 47 134217727) HT_ ?_
         refine RFn.pU (i := 27) (N := some 101) (bs 47 268435455) HT_ ?_
         refine RFn.pA (i := 28) (N := some 102) (bs 47 536870911) HT_ ?_
         refine RFn.pA (i := 29) (N := some 103) (bs 47 1073741823) HT_ ?_
         refine RFn.pU (i := 30) (N := some 104) (bs 47 2147483647) HT_ ?_
         refine RFn.pU (i := 31) (N := some 105) (bs 47 4294967295) HT_ ?_
         refine RFn.pU (i := 32) (N := some 106) (bs 47 8589934591) HT_ ?_
         refine RFn.pU (i := 33) (N := some 107) (bs 47 17179869183) HT_ ?_
         refine RFn.pU (i := 34) (N := some 108) (bs 47 34359738367) HT_ ?_
         refine RFn.pU (i := 35) (N := some 109) (bs 47 68719476735) HT_ ?_
         refine RFn.pU (i := 36) (N := some 110) (bs 47 137438953471) HT_ ?_
         refine RFn.pU (i := 37) (N := some 111) (bs 47 274877906943) HT_ ?_
         refine RFn.pU (i := 38) (N := some 112) (bs 47 549755813887) HT_ ?_
         refine RFn.pU (i := 39) (N := some 113) (bs 47 1099511627775) HT_ ?_
         refine RFn.pU (i := 40) (N := some 114) (bs 47 2199023255551) HT_ ?_
         refine RFn.pU (i := 41) (N := some 115) (bs 47 4398046511103) HT_ ?_
         refine RFn.pU (i := 42) (N := some 116) (bs 47 8796093022207) HT_ ?_
         refine RFn.pU (i := 43) (N := some 117) (bs 47 17592186044415) HT_ ?_
         refine RFn.pU (i := 44) (N := some 118) (bs 47 35184372088831) HT_ ?_
         refine RFn.pA (i := 45) (N := some 119) (bs 47 70368744177663) HT_ ?_
         refine RFn.pA (i := 46) (N := some 6) (bs 47 140737488355327) HT_ ?_
         refine RFn.dn HT_ ?_
         try go_wp2
         go_ret
         exact ⟨by first | rfl | (simp [errW_none, errW_some] <;> rfl) | (simp [*, errW_none, errW_some] <;> rfl), RFn.bels⟩
       ·replace c57 := Bool.eq_false_iff.mpr c57
        subst c57
        have H1 : (some false) = some r := by rw [if_neg (show ¬ (false = true) by decide)] at H; exact H
        clear H
        have H := H1
        clear H1
        obtain rfl := Option.some.inj H
        try go_wp2
        have n0_ := Aside0.mk (Kd.R_drew HO_7.out)
        have n1_ := Aside0.mk (Kd.R_drew HO_9.out)
        have n2_ := Aside0.mk (blk_drew BK395.out)
        have n3_ := Aside0.mk (below_drew1 HB.out)
        clear HO_7
        clear HO_9
        clear BK395
        clear HB
        have HO_7 := n0_
        have HO_9 := n1_
        have BK395 := n2_
        have HB := n3_
        clear n0_ n1_ n2_ n3_
        obtain ⟨Ao120, co120, eo120⟩ := Kd.R_slice HO_7.out
        (first | subst eo120 | (injection eo120 with f1_ f2_ f3_; have f4_ := f1_.symm; have f5_ := f3_.symm; clear f1_ f2_ f3_; subst f4_; subst f5_))
        refine start_ (n := 47) (S := fun w' => True) (ds := []) (bs 47 0) (by kernel_rfl) rfl rfl trivial (fun hHeld => ?_); refine with_tabW law09_FactCalls.tab9 law09_FactCalls.bits9 (fun HT_ HW_ => ?_)
        generalize wc.drew = w119 at HO_7 HO_9 BK395 HB hHeld ⊢
        refine RFn.pA (i := 0) (N := some 74) (bs 47 1) HT_ ?_
        refine RFn.pA (i := 2) (N := some 76) (bs 47 5) HT_ ?_
        refine RFn.o1 (i := 1) (N := some 75) (bs 47 7) HT_ fun K hK => ?_
        refine RFn.gA Try.func16 #[.slice Ao120 t410.length co120] rfl ?_
        with_reducible refine (law09_Ours.calls kj40 _ _ t410 t425 _ ?side1 ?side2 A55.out).mono ?_
        (case side1 => exact RFn.mC (Kd.R_reads' HO_7.out).2.2)
        (case side2 => exact (Kd.R_reads' HO_7.out).2.1)
        rintro e w121 ⟨v426, rfl, ho0, hb⟩
        refine ⟨_, rfl, ?_⟩
        have n0_ := Aside0.mk (Kd.R_below (RFn.mR HO_7) hb)
        have n1_ := Aside0.mk (Kd.R_elder' (RFn.mR HO_9) (Kd.R_base ho0) hb)
        have n2_ := Aside0.mk (Kd.R_lower (Kd.R_new' ho0 (Kd.R_lt (RFn.mR HO_9))) (below_size RFn.bels))
        have n3_ := Aside0.mk (blk_below (g := gb395) RFn.blk hb)
        have n4_ := Aside0.mk (below_step RFn.bels hb)
        clear HO_7
        clear HO_9
        clear BK395
        clear HB
        have HO_7 := n0_
        have HO_9 := n1_
        have HO427 := n2_
        have BK395 := n3_
        have HB := n4_
        clear n0_ n1_ n2_ n3_ n4_
        (try clear hb)
        (try clear hk)
        (try clear ho0)
        obtain ⟨Ao122, co122, eo122⟩ := Kd.R_slice HO427.out
        (first | subst eo122 | (injection eo122 with f1_ f2_ f3_; have f4_ := f1_.symm; have f5_ := f3_.symm; clear f1_ f2_ f3_; subst f4_; subst f5_))
        obtain ⟨Ao123, co123, eo123⟩ := Kd.R_slice HO_9.out
        (first | subst eo123 | (injection eo123 with f1_ f2_ f3_; have f4_ := f1_.symm; have f5_ := f3_.symm; clear f1_ f2_ f3_; subst f4_; subst f5_))
        refine hK.out _ _ trivial (fun hHeld => ?_)
        clear hK K
        refine RFn.nm (some 75) ?_
        refine RFn.o1 (i := 3) (N := some 77) (bs 47 15) HT_ fun K hK => ?_
        refine RFn.gA Try.func15 #[.slice Ao122 t425.length co122, .slice Ao123 t414.length co123] rfl ?_
        with_reducible refine (ref09_Same.calls kj40 _ _ t425 _ _ t414 false _ ?side1 ?side2 ?side3 ?side4 A56.out).mono ?_
        (case side1 => exact RFn.mC (Kd.R_reads' HO427.out).2.2)
        (case side2 => exact (Kd.R_reads' HO427.out).2.1)
        (case side3 => exact RFn.mC (Kd.R_reads' HO_9.out).2.2)
        (case side4 => exact (Kd.R_reads' HO_9.out).2.1)
        rintro e w' ⟨rfl, ⟨nd, rfl⟩⟩
        refine ⟨_, rfl, ?_⟩
        refine hK.out _ _ trivial (fun hHeld => ?_)
        clear hK K
        refine RFn.nm (some 77) ?_
        refine RFn.pA (i := 4) (N := some 78) (bs 47 31) HT_ ?_
        refine RFn.pU (i := 5) (N := some 79) (bs 47 63) HT_ ?_
        refine RFn.pU (i := 6) (N := some 80) (bs 47 127) HT_ ?_
        refine RFn.pU (i := 7) (N := some 81) (bs 47 255) HT_ ?_
        refine RFn.pA (i := 8) (N := some 82) (bs 47 511) HT_ ?_
        refine RFn.pA (i := 9) (N := some 83) (bs 47 1023) HT_ ?_
        refine RFn.pU (i := 10) (N := some 84) (bs 47 2047) HT_ ?_
        refine RFn.pU (i := 11) (N := some 85) (bs 47 4095) HT_ ?_
        refine RFn.pU (i := 12) (N := some 86) (bs 47 8191) HT_ ?_
        refine RFn.pU (i := 13) (N := some 87) (bs 47 16383) HT_ ?_
        refine RFn.pU (i := 14) (N := some 88) (bs 47 32767) HT_ ?_
        refine RFn.pU (i := 15) (N := some 89) (bs 47 65535) HT_ ?_
        refine RFn.pU (i := 16) (N := some 90) (bs 47 131071) HT_ ?_
        refine RFn.pU (i := 17) (N := some 91) (bs 47 262143) HT_ ?_
        refine RFn.pA (i := 18) (N := some 92) (bs 47 524287) HT_ ?_
        refine RFn.pA (i := 19) (N := some 93) (bs 47 1048575) HT_ ?_
        refine RFn.pU (i := 20) (N := some 94) (bs 47 2097151) HT_ ?_
        refine RFn.pU (i := 21) (N := some 95) (bs 47 4194303) HT_ ?_
        refine RFn.pU (i := 22) (N := some 96) (bs 47 8388607) HT_ ?_
        refine RFn.pA (i := 23) (N := some 97) (bs 47 16777215) HT_ ?_
        refine RFn.pA (i := 24) (N := some 98) (bs 47 33554431) HT_ ?_
        refine RFn.pU (i := 25) (N := some 99) (bs 47 67108863) HT_ ?_
        refine RFn.pU (i := 26) (N := some 100) (bs 47 134217727) HT_ ?_
        refine RFn.pU (i := 27) (N := some 101) (bs 47 268435455) HT_ ?_
        refine RFn.pA (i := 28) (N := some 102) (bs 47 536870911) HT_ ?_
        refine RFn.pA (i := 29) (N := some 103) (bs 47 1073741823) HT_ ?_
        refine RFn.pU (i := 30) (N := some 104) (bs 47 2147483647) HT_ ?_
        refine RFn.pU (i := 31) (N := some 105) (bs 47 4294967295) HT_ ?_
        refine RFn.pU (i := 32) (N := some 106) (bs 47 8589934591) HT_ ?_
        refine RFn.pU (i := 33) (N := some 107) (bs 47 17179869183) HT_ ?_
        refine RFn.pU (i := 34) (N := some 108) (bs 47 34359738367) HT_ ?_
        refine RFn.pU (i := 35) (N := some 109) (bs 47 68719476735) HT_ ?_
        refine RFn.pU (i := 36) (N := some 110) (bs 47 137438953471) HT_ ?_
        refine RFn.pU (i := 37) (N := some 111) (bs 47 274877906943) HT_ ?_
        refine RFn.pU (i := 38) (N := some 112) (bs 47 549755813887) HT_ ?_
        refine RFn.pU (i := 39) (N := some 113) (bs 47 1099511627775) HT_ ?_
        refine RFn.pU (i := 40) (N := some 114) (bs 47 2199023255551) HT_ ?_
        refine RFn.pU (i := 41) (N := some 115) (bs 47 4398046511103) HT_ ?_
        refine RFn.pU (i := 42) (N := some 116) (bs 47 8796093022207) HT_ ?_
        refine RFn.pU (i := 43) (N := some 117) (bs 47 17592186044415) HT_ ?_
        refine RFn.pU (i := 44) (N := some 118) (bs 47 35184372088831) HT_ ?_
        refine RFn.pA (i := 45) (N := some 119) (bs 47 70368744177663) HT_ ?_
        refine RFn.pA (i := 46) (N := some 6) (bs 47 140737488355327) HT_ ?_
        refine RFn.dn HT_ ?_
        try go_wp2
        go_ret
        exact ⟨by first | rfl | (simp [errW_none, errW_some] <;> rfl) | (simp [*, errW_none, errW_some] <;> rfl), RFn.bels⟩
 ·replace c5 := Bool.eq_false_iff.mpr c5
  subst c5
  have H1 : (some false) = some r := by rw [if_neg (show ¬ (false = true) by decide)] at H; exact H
  clear H
  have H := H1
  clear H1
  obtain rfl := Option.some.inj H
  go_enter Try.func4, Try.ntmps4
  go_wp2_with (first | ((with_reducible refine gate_dst (N := 5) rfl ?_); (try (refine gate_guard (by rfl) ?_; dsimp only)); refine box_event ?hg (N := 5) ?hd (cs := #[.string a2_0, .string a2_1, .string a2_2, .string a2_3, .int .i64 a2_4]) (t := 24) ?hr ?_; (case hd => rfl); (case hg => rfl); (case hr => first | (go_simp; done) | (go_simp; rfl)); intro gb395 hg w124 hbox hb; have n0_ := Aside0.mk (below_step (RFn.bel) hb); have n1_ := Aside0.mk (hbox); have n2_ := Aside0.mk ((by rw [hg]; exact (below_size (RFn.bel)) : w.heap.size ≤ gb395)); have n3_ := Aside0.mk ((by rw [hg]; exact (below_size (RFn.bel)) : w.heap.size ≤ gb395)); clear HB; have HB := n0_; have BK395 := n1_; have GW395 := n2_; have GE395 := n3_; clear n0_ n1_ n2_ n3_; clear hb hbox hg) | ((with_reducible refine gate_callee (f := 10) rfl ?_); refine RFn.goesM (some 15) Try.func10 #[] rfl ?_; (with_reducible refine (law09_alive.calls k  false _ A4.out).mono ?_); rintro e w125 ⟨rfl, hb⟩; refine ⟨_, rfl, ?_⟩; have n0_ := Aside0.mk (blk_below (g := gb395) RFn.blk hb); have n1_ := Aside0.mk (below_step RFn.bels hb); clear BK395; clear HB; have BK395 := n0_; have HB := n1_; clear n0_ n1_; (try clear hb)))
  go_ret
  exact ⟨by first | rfl | (simp [errW_none, errW_some] <;> rfl) | (simp [*, errW_none, errW_some] <;> rfl), RFn.bels⟩
/-- THE ONE PURE STATEMENT of law09_FactCalls: ours. -/
def law09_FactCalls.Pure : Prop := ∀ (l0 : List (S28)) (l1 : List (S28)) (a2_0 : ByteArray) (a2_1 : ByteArray) (a2_2 : ByteArray) (a2_3 : ByteArray) (a2_4 : Int), l0.length ≤ 9223372036854775807 → (∀ x ∈ l0, g28 x) → l1.length ≤ 9223372036854775807 → (∀ x ∈ l1, g28 x) → a2_0.size ≤ 9223372036854775807 → a2_1.size ≤ 9223372036854775807 → a2_2.size ≤ 9223372036854775807 → a2_3.size ≤ 9223372036854775807 → (Lit.int .i64 a2_4).wf = true → ∃ k, law09_FactCalls.f k l0 l1 a2_0 a2_1 a2_2 a2_3 a2_4 = some true
end Go.Proofs.Ytgheapbhakamaaa.Q
