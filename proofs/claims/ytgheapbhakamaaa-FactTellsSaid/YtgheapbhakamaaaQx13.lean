/- printed by a program of this session (wip/tools/pr.sh): it is not a print of the kit -/
import Derived.Test.YtgheapbhakamaaaQx0
import Derived.Test.YtgheapbhakamaaaQx3
import Derived.Test.YtgheapbhakamaaaQx6
import Derived.Test.YtgheapbhakamaaaQx7
import Derived.Test.YtgheapbhakamaaaQx10
import Derived.Test.YtgheapbhakamaaaQx11
import Derived.Test.YtgheapbhakamaaaQx12
namespace Go.Proofs.Ytgheapbhakamaaa.Q
open Go.RowKit Go.Proofs.YtgheapbhakamaaaW.PrintWords Go.Proofs.YtgheapbhakamaaaW.PrintLast Go.Proofs.YtgheapbhakamaaaW.PrintMore
attribute [local go_sem] max2_int min2_int max_two min_two max_three min_three max_four min_four RFn.gtr_str   -- for this text's walks alone
set_option linter.unusedVariables false
set_option linter.unusedSimpArgs false

/-! ### law09_FactTells: function 3 -/
mutual
def law09_FactTells.j0 : Nat → List (S28) → Bool → ByteArray → ByteArray → ByteArray → ByteArray → Int → ByteArray → ByteArray → ByteArray → ByteArray → Int → Option (Bool)
 | 0, _, _, _, _, _, _, _, _, _, _, _, _ => none
 | k + 1, x0, x24, x295000, x295001, x295002, x295003, x295004, x296000, x296001, x296002, x296003, x296004 => if x24 = true then (some true) else ((law09_Theirs.f k x0).bind fun t302 => ((fact_Of.f k t302).bind fun bt305 => ((ref09_Of.f k x0).bind fun bt309 => (law09_FactTells.j1 k x0 bt305.1 bt305.2 bt309.1 bt309.2 x295000 x295001 x295002 x295003 x295004 x296000 x296001 x296002 x296003 x296004))))
def law09_FactTells.j1 : Nat → List (S28) → List (S60) → Int → List (S28) → Int → ByteArray → ByteArray → ByteArray → ByteArray → Int → ByteArray → ByteArray → ByteArray → ByteArray → Int → Option (Bool)
 | 0, _, _, _, _, _, _, _, _, _, _, _, _, _, _, _ => none
 | k + 1, x0, x7, x8, x9, x10, x295000, x295001, x295002, x295003, x295004, x296000, x296001, x296002, x296003, x296004 => (law09_Ours.f k x7).bind fun t313 => ((ref09_Same.f k t313 x9).bind fun t316 => (if t316 = true then (if x8 = x10 then ((fact_Cmp.f k x295000 x295001 x295002 x295003 x295004 x296000 x296001 x296002 x296003 x296004).bind fun t317 => ((ref09_Cmp.f k x295000 x295001 x295002 x295003 x295004 x296000 x296001 x296002 x296003 x296004).bind fun t318 => (if t317 = t318 then ((law09_Theirs.f k x0).bind fun t319 => ((fact_Right.f k t319).bind fun t322 => ((ref09_Right.f k x0).bind fun t323 => (some (t322 == t323))))) else (some false)))) else (some false)) else (some false)))
end
def law09_FactTells.f (k : Nat) (l0 : List (S28)) (a1_0 : ByteArray) (a1_1 : ByteArray) (a1_2 : ByteArray) (a1_3 : ByteArray) (a1_4 : Int) (a2_0 : ByteArray) (a2_1 : ByteArray) (a2_2 : ByteArray) (a2_3 : ByteArray) (a2_4 : Int) : Option (Bool) := (law09_alive.f k).bind fun t296 => (if t296 = true then ((law09_Few.f k l0).bind fun t297 => (if t297 = true then ((law09_Few.f k (([(⟨(⟨a1_0, a1_1, a1_2, a1_3, a1_4⟩ : S24), 0⟩ : S28), (⟨(⟨a2_0, a2_1, a2_2, a2_3, a2_4⟩ : S24), 0⟩ : S28)] : List (S28)))).bind fun t301 => (law09_FactTells.j0 k l0 (!t301) a1_0 a1_1 a1_2 a1_3 a1_4 a2_0 a2_1 a2_2 a2_3 a2_4)) else (law09_FactTells.j0 k l0 true a1_0 a1_1 a1_2 a1_3 a1_4 a2_0 a2_1 a2_2 a2_3 a2_4))) else (some false))
theorem law09_FactTells.mono_l : ∀ k, (∀ y0 y1 y2 y3 y4 y5 y6 y7 y8 y9 y10 y11, LeO (law09_FactTells.j0 k y0 y1 y2 y3 y4 y5 y6 y7 y8 y9 y10 y11) (law09_FactTells.j0 (k + 1) y0 y1 y2 y3 y4 y5 y6 y7 y8 y9 y10 y11)) ∧ (∀ y0 y1 y2 y3 y4 y5 y6 y7 y8 y9 y10 y11 y12 y13 y14, LeO (law09_FactTells.j1 k y0 y1 y2 y3 y4 y5 y6 y7 y8 y9 y10 y11 y12 y13 y14) (law09_FactTells.j1 (k + 1) y0 y1 y2 y3 y4 y5 y6 y7 y8 y9 y10 y11 y12 y13 y14))
 | 0 => ⟨fun _ _ _ _ _ _ _ _ _ _ _ _ r h => by simp [law09_FactTells.j0] at h, fun _ _ _ _ _ _ _ _ _ _ _ _ _ _ _ r h => by simp [law09_FactTells.j1] at h⟩
 | k + 1 => by
  obtain ⟨ih0, ih1⟩ := law09_FactTells.mono_l k
  refine ⟨?_, ?_⟩
  ·intro y0 y1 y2 y3 y4 y5 y6 y7 y8 y9 y10 y11
   unfold law09_FactTells.j0
   repeat' first
   | (with_reducible exact ih0 _ _ _ _ _ _ _ _ _ _ _ _)
   | (with_reducible exact ih1 _ _ _ _ _ _ _ _ _ _ _ _ _ _ _)
   | (with_reducible exact fact_Cmp.mono _ _ _ _ _ _ _ _ _ _ _)
   | (with_reducible exact fact_Of.mono _ _)
   | (with_reducible exact fact_Right.mono _ _)
   | (with_reducible exact law09_Few.mono _ _)
   | (with_reducible exact law09_Ours.mono _ _)
   | (with_reducible exact law09_Theirs.mono _ _)
   | (with_reducible exact law09_alive.mono _)
   | (with_reducible exact ref09_Cmp.mono _ _ _ _ _ _ _ _ _ _ _)
   | (with_reducible exact ref09_Of.mono _ _)
   | (with_reducible exact ref09_Right.mono _ _)
   | (with_reducible exact ref09_Same.mono _ _ _)
   | (with_reducible exact LeO.refl _)
   | (with_reducible exact LeO.none _)
   | (with_reducible refine LeO.ite ?_ ?_)
   | (with_reducible refine LeO.bind ?_ (fun _ => ?_))
   | exact ih0 _ _ _ _ _ _ _ _ _ _ _ _
   | exact ih1 _ _ _ _ _ _ _ _ _ _ _ _ _ _ _
   | exact fact_Cmp.mono _ _ _ _ _ _ _ _ _ _ _
   | exact fact_Of.mono _ _
   | exact fact_Right.mono _ _
   | exact law09_Few.mono _ _
   | exact law09_Ours.mono _ _
   | exact law09_Theirs.mono _ _
   | exact law09_alive.mono _
   | exact ref09_Cmp.mono _ _ _ _ _ _ _ _ _ _ _
   | exact ref09_Of.mono _ _
   | exact ref09_Right.mono _ _
   | exact ref09_Same.mono _ _ _
   | exact LeO.none _
   | refine LeO.ite ?_ ?_
   | refine LeO.bind ?_ (fun _ => ?_)
  ·intro y0 y1 y2 y3 y4 y5 y6 y7 y8 y9 y10 y11 y12 y13 y14
   unfold law09_FactTells.j1
   repeat' first
   | (with_reducible exact ih0 _ _ _ _ _ _ _ _ _ _ _ _)
   | (with_reducible exact ih1 _ _ _ _ _ _ _ _ _ _ _ _ _ _ _)
   | (with_reducible exact fact_Cmp.mono _ _ _ _ _ _ _ _ _ _ _)
   | (with_reducible exact fact_Of.mono _ _)
   | (with_reducible exact fact_Right.mono _ _)
   | (with_reducible exact law09_Few.mono _ _)
   | (with_reducible exact law09_Ours.mono _ _)
   | (with_reducible exact law09_Theirs.mono _ _)
   | (with_reducible exact law09_alive.mono _)
   | (with_reducible exact ref09_Cmp.mono _ _ _ _ _ _ _ _ _ _ _)
   | (with_reducible exact ref09_Of.mono _ _)
   | (with_reducible exact ref09_Right.mono _ _)
   | (with_reducible exact ref09_Same.mono _ _ _)
   | (with_reducible exact LeO.refl _)
   | (with_reducible exact LeO.none _)
   | (with_reducible refine LeO.ite ?_ ?_)
   | (with_reducible refine LeO.bind ?_ (fun _ => ?_))
   | exact ih0 _ _ _ _ _ _ _ _ _ _ _ _
   | exact ih1 _ _ _ _ _ _ _ _ _ _ _ _ _ _ _
   | exact fact_Cmp.mono _ _ _ _ _ _ _ _ _ _ _
   | exact fact_Of.mono _ _
   | exact fact_Right.mono _ _
   | exact law09_Few.mono _ _
   | exact law09_Ours.mono _ _
   | exact law09_Theirs.mono _ _
   | exact law09_alive.mono _
   | exact ref09_Cmp.mono _ _ _ _ _ _ _ _ _ _ _
   | exact ref09_Of.mono _ _
   | exact ref09_Right.mono _ _
   | exact ref09_Same.mono _ _ _
   | exact LeO.none _
   | refine LeO.ite ?_ ?_
   | refine LeO.bind ?_ (fun _ => ?_)
theorem law09_FactTells.mono : ∀ a0 a1 a2 a3 a4 a5 a6 a7 a8 a9 a10 k, LeO (law09_FactTells.f k a0 a1 a2 a3 a4 a5 a6 a7 a8 a9 a10) (law09_FactTells.f (k + 1) a0 a1 a2 a3 a4 a5 a6 a7 a8 a9 a10) := by
 intro a0 a1 a2 a3 a4 a5 a6 a7 a8 a9 a10 k
 obtain ⟨ih0, ih1⟩ := law09_FactTells.mono_l k
 unfold law09_FactTells.f
 repeat' first
   | (with_reducible exact ih0 _ _ _ _ _ _ _ _ _ _ _ _)
   | (with_reducible exact ih1 _ _ _ _ _ _ _ _ _ _ _ _ _ _ _)
   | (with_reducible exact fact_Cmp.mono _ _ _ _ _ _ _ _ _ _ _)
   | (with_reducible exact fact_Of.mono _ _)
   | (with_reducible exact fact_Right.mono _ _)
   | (with_reducible exact law09_Few.mono _ _)
   | (with_reducible exact law09_Ours.mono _ _)
   | (with_reducible exact law09_Theirs.mono _ _)
   | (with_reducible exact law09_alive.mono _)
   | (with_reducible exact ref09_Cmp.mono _ _ _ _ _ _ _ _ _ _ _)
   | (with_reducible exact ref09_Of.mono _ _)
   | (with_reducible exact ref09_Right.mono _ _)
   | (with_reducible exact ref09_Same.mono _ _ _)
   | (with_reducible exact LeO.refl _)
   | (with_reducible exact LeO.none _)
   | (with_reducible refine LeO.ite ?_ ?_)
   | (with_reducible refine LeO.bind ?_ (fun _ => ?_))
   | exact ih0 _ _ _ _ _ _ _ _ _ _ _ _
   | exact ih1 _ _ _ _ _ _ _ _ _ _ _ _ _ _ _
   | exact fact_Cmp.mono _ _ _ _ _ _ _ _ _ _ _
   | exact fact_Of.mono _ _
   | exact fact_Right.mono _ _
   | exact law09_Few.mono _ _
   | exact law09_Ours.mono _ _
   | exact law09_Theirs.mono _ _
   | exact law09_alive.mono _
   | exact ref09_Cmp.mono _ _ _ _ _ _ _ _ _ _ _
   | exact ref09_Of.mono _ _
   | exact ref09_Right.mono _ _
   | exact ref09_Same.mono _ _ _
   | exact LeO.none _
   | refine LeO.ite ?_ ?_
   | refine LeO.bind ?_ (fun _ => ?_)
def law09_FactTells.T7 : Bool × List (List Nat × List Nat) := (true, [([], []), ([0], [0]), ([], []), ([1, 2, 1], [1, 2]), ([3, 3], [3]), ([4], [4]), ([4], [4]), ([5, 6, 4], [4, 5, 6]), ([4, 7], [4, 7]), ([8, 4], [8]), ([9], [9]), ([9], [9]), ([10, 11, 9, 9], [9, 10, 11]), ([9], [9]), ([9], [9]), ([13, 14, 12, 9], [9, 13, 14]), ([12, 15, 9], [9, 12, 15]), ([9, 16], [9, 16]), ([17, 15], [17]), ([18], [18]), ([19, 18, 18], [18, 19]), ([20, 20, 18], [18, 20]), ([18], [18]), ([22, 21, 18], [18, 22]), ([21, 23, 18], [18, 21, 23]), ([18, 24], [18, 24]), ([25, 23, 0, 1, 2, 3, 4, 5, 6, 7, 8, 9, 10, 11, 12, 13, 14, 15, 16, 17, 18, 19, 20, 21, 22, 23, 24, 25], [25])])
def law09_FactTells.B7 : List Nat := [0, 1, 0, 7, 15, 31, 31, 127, 255, 511, 1023, 1023, 4095, 1023, 1023, 32767, 65535, 131071, 262143, 524287, 1048575, 2097151, 524287, 8388607, 16777215, 33554431, 67108863]
theorem law09_FactTells.tab7 : rtab .any (opsOf Try.f3 7) = law09_FactTells.T7 := by kernel_rfl
theorem law09_FactTells.bits7 : waitsOk law09_FactTells.T7.2 law09_FactTells.B7 = true := by kernel_rfl
set_option maxHeartbeats 8000000 in
set_option maxRecDepth 100000 in
theorem law09_FactTells.calls (k : Nat) (A0 : Option Addr) (c0 : Nat) (l0 : List (S28)) (a1_0 : ByteArray) (a1_1 : ByteArray) (a1_2 : ByteArray) (a1_3 : ByteArray) (a1_4 : Int) (a2_0 : ByteArray) (a2_1 : ByteArray) (a2_2 : ByteArray) (a2_3 : ByteArray) (a2_4 : Int) (r : Bool) (w : World) (hr0 : Kd.C k28 w A0 l0.length l0) (hc0 : l0.length ≤ c0) (h : law09_FactTells.f k l0 a1_0 a1_1 a1_2 a1_3 a1_4 a2_0 a2_1 a2_2 a2_3 a2_4 = some r) :
  Calls Try.prog 3 #[.slice A0 l0.length c0, .agg #[.string a1_0, .string a1_1, .string a1_2, .string a1_3, .int .i64 a1_4], .agg #[.string a2_0, .string a2_1, .string a2_2, .string a2_3, .int .i64 a2_4]] w fun e w' => e = .returned (.bool r) ∧ Below w.heap.size w w' := by
 have hu24 := Try.underlying24
 have hu28 := Try.underlying28
 have HR0 := Aside0.mk hr0
 have HC0 := Aside0.mk hc0
 clear hr0 hc0
 have HB := Aside0.mk (Below.refl w.heap.size w)
 have H : ((law09_alive.f k).bind fun t296 => (if t296 = true then ((law09_Few.f k l0).bind fun t297 => (if t297 = true then ((law09_Few.f k (([(⟨(⟨a1_0, a1_1, a1_2, a1_3, a1_4⟩ : S24), 0⟩ : S28), (⟨(⟨a2_0, a2_1, a2_2, a2_3, a2_4⟩ : S24), 0⟩ : S28)] : List (S28)))).bind fun t301 => (law09_FactTells.j0 k l0 (!t301) a1_0 a1_1 a1_2 a1_3 a1_4 a2_0 a2_1 a2_2 a2_3 a2_4)) else (law09_FactTells.j0 k l0 true a1_0 a1_1 a1_2 a1_3 a1_4 a2_0 a2_1 a2_2 a2_3 a2_4))) else (some false))) = some r := h
 clear h
 replace H := Option.bind_eq_some_iff.mp H
 obtain ⟨t296, A40, H⟩ := H
 replace H : (if t296 = true then ((law09_Few.f k l0).bind fun t297 => (if t297 = true then ((law09_Few.f k (([(⟨(⟨a1_0, a1_1, a1_2, a1_3, a1_4⟩ : S24), 0⟩ : S28), (⟨(⟨a2_0, a2_1, a2_2, a2_3, a2_4⟩ : S24), 0⟩ : S28)] : List (S28)))).bind fun t301 => (law09_FactTells.j0 k l0 (!t301) a1_0 a1_1 a1_2 a1_3 a1_4 a2_0 a2_1 a2_2 a2_3 a2_4)) else (law09_FactTells.j0 k l0 true a1_0 a1_1 a1_2 a1_3 a1_4 a2_0 a2_1 a2_2 a2_3 a2_4))) else (some false)) = some r := H
 have A4 := Aside0.mk A40
 clear A40
 by_cases c5 : t296 = true
 ·subst c5
  have H1 : ((law09_Few.f k l0).bind fun t297 => (if t297 = true then ((law09_Few.f k (([(⟨(⟨a1_0, a1_1, a1_2, a1_3, a1_4⟩ : S24), 0⟩ : S28), (⟨(⟨a2_0, a2_1, a2_2, a2_3, a2_4⟩ : S24), 0⟩ : S28)] : List (S28)))).bind fun t301 => (law09_FactTells.j0 k l0 (!t301) a1_0 a1_1 a1_2 a1_3 a1_4 a2_0 a2_1 a2_2 a2_3 a2_4)) else (law09_FactTells.j0 k l0 true a1_0 a1_1 a1_2 a1_3 a1_4 a2_0 a2_1 a2_2 a2_3 a2_4))) = some r := by rw [if_pos rfl] at H; exact H
  clear H
  have H := H1
  clear H1
  have HC6 := Aside0.mk H
  clear H
  go_enter Try.func3, Try.ntmps3
  go_upto_region 3 with (first | ((with_reducible refine gate_dst (N := 4) rfl ?_); (try (refine gate_guard (by rfl) ?_; dsimp only)); refine box_event ?hg (N := 4) ?hd (cs := #[.string a1_0, .string a1_1, .string a1_2, .string a1_3, .int .i64 a1_4]) (t := 24) ?hr ?_; (case hd => rfl); (case hg => rfl); (case hr => first | (go_simp; done) | (go_simp; rfl)); intro gb294 hg w7 hbox hb; have n0_ := Aside0.mk (below_step (RFn.bel) hb); have n1_ := Aside0.mk (hbox); have n2_ := Aside0.mk ((by rw [hg]; exact (below_size (RFn.bel)) : w.heap.size ≤ gb294)); have n3_ := Aside0.mk ((by rw [hg]; exact (below_size (RFn.bel)) : w.heap.size ≤ gb294)); clear HB; have HB := n0_; have BK294 := n1_; have GW294 := n2_; have GE294 := n3_; clear n0_ n1_ n2_ n3_; clear hb hbox hg) | ((with_reducible refine gate_dst (N := 5) rfl ?_); (try (refine gate_guard (by rfl) ?_; dsimp only)); refine box_event ?hg (N := 5) ?hd (cs := #[.string a2_0, .string a2_1, .string a2_2, .string a2_3, .int .i64 a2_4]) (t := 24) ?hr ?_; (case hd => rfl); (case hg => rfl); (case hr => first | (go_simp; done) | (go_simp; rfl)); intro gb295 hg w8 hbox hb; have n0_ := Aside0.mk (blk_below (g := gb294) RFn.blk hb); have n1_ := Aside0.mk (below_step RFn.bels hb); have n2_ := Aside0.mk (hbox); have n3_ := Aside0.mk ((by rw [hg]; exact (below_size RFn.bels) : w.heap.size ≤ gb295)); have n4_ := Aside0.mk ((by rw [hg]; exact (below_size RFn.bels) : w.heap.size ≤ gb295)); have n5_ := Aside0.mk ((by rw [hg]; exact Nat.ne_of_lt (blk_lt (g := gb294) RFn.blk) : gb294 ≠ gb295)); have n6_ := Aside0.mk ((by rw [hg]; exact Nat.ne_of_gt (blk_lt (g := gb294) RFn.blk) : gb295 ≠ gb294)); clear BK294; clear HB; have BK294 := n0_; have HB := n1_; have BK295 := n2_; have GW295 := n3_; have GE295 := n4_; have NB294_295 := n5_; have NB295_294 := n6_; clear n0_ n1_ n2_ n3_ n4_ n5_ n6_; clear hb hbox hg) | ((with_reducible refine gate_callee (f := 10) rfl ?_); refine RFn.goesM (some 11) Try.func10 #[] rfl ?_; (with_reducible refine (law09_alive.calls k  true _ A4.out).mono ?_); rintro e w9 ⟨rfl, hb⟩; refine ⟨_, rfl, ?_⟩; have n0_ := Aside0.mk (blk_below (g := gb294) RFn.blk hb); have n1_ := Aside0.mk (blk_below (g := gb295) RFn.blk hb); have n2_ := Aside0.mk (below_step RFn.bels hb); clear BK294; clear BK295; clear HB; have BK294 := n0_; have BK295 := n1_; have HB := n2_; clear n0_ n1_ n2_; (try clear hb); (try clear hb2); (try clear hk); (try clear hi)))
  (try simp only [Act.put, List.setIfInBounds_toArray, List.set_cons_zero, List.set_cons_succ])
  go_cut [24] (fun v24 wc => ∃ (kq : Nat) (x24_5 : Bool), v24 = .bool x24_5 ∧ Aside0 (law09_FactTells.j0 kq l0 x24_5 a1_0 a1_1 a1_2 a1_3 a1_4 a2_0 a2_1 a2_2 a2_3 a2_4 = some r) ∧ Aside0 (kq ≤ k) ∧ Aside0 (wc.heap[gb294]? = some (.cells #[.string a1_0, .string a1_1, .string a1_2, .string a1_3, .int .i64 a1_4] 24 (0, 0))) ∧ Aside0 (wc.heap[gb295]? = some (.cells #[.string a2_0, .string a2_1, .string a2_2, .string a2_3, .int .i64 a2_4] 24 (0, 0))) ∧ Aside0 (Below w.heap.size w wc))
  case first =>
   have H := HC6.out
   clear HC6
   replace H := Option.bind_eq_some_iff.mp H
   obtain ⟨t297, A100, H⟩ := H
   replace H : (if t297 = true then ((law09_Few.f k (([(⟨(⟨a1_0, a1_1, a1_2, a1_3, a1_4⟩ : S24), 0⟩ : S28), (⟨(⟨a2_0, a2_1, a2_2, a2_3, a2_4⟩ : S24), 0⟩ : S28)] : List (S28)))).bind fun t301 => (law09_FactTells.j0 k l0 (!t301) a1_0 a1_1 a1_2 a1_3 a1_4 a2_0 a2_1 a2_2 a2_3 a2_4)) else (law09_FactTells.j0 k l0 true a1_0 a1_1 a1_2 a1_3 a1_4 a2_0 a2_1 a2_2 a2_3 a2_4)) = some r := H
   have A10 := Aside0.mk A100
   clear A100
   by_cases c11 : t297 = true
   ·subst c11
    have H1 : ((law09_Few.f k (([(⟨(⟨a1_0, a1_1, a1_2, a1_3, a1_4⟩ : S24), 0⟩ : S28), (⟨(⟨a2_0, a2_1, a2_2, a2_3, a2_4⟩ : S24), 0⟩ : S28)] : List (S28)))).bind fun t301 => (law09_FactTells.j0 k l0 (!t301) a1_0 a1_1 a1_2 a1_3 a1_4 a2_0 a2_1 a2_2 a2_3 a2_4)) = some r := by rw [if_pos rfl] at H; exact H
    clear H
    have H := H1
    clear H1
    obtain ⟨y298, hy298⟩ : ∃ y_ : List (S28), y_ = (([(⟨(⟨a1_0, a1_1, a1_2, a1_3, a1_4⟩ : S24), 0⟩ : S28), (⟨(⟨a2_0, a2_1, a2_2, a2_3, a2_4⟩ : S24), 0⟩ : S28)] : List (S28))) := ⟨_, rfl⟩
    replace H : ((law09_Few.f k y298).bind fun t301 => (law09_FactTells.j0 k l0 (!t301) a1_0 a1_1 a1_2 a1_3 a1_4 a2_0 a2_1 a2_2 a2_3 a2_4)) = some r := by first | (rw [hy298]; with_reducible exact H) | (have H2_ := (Option.bind_some _ _).symm.trans H; rw [hy298]; with_reducible exact H2_) | (have H2_ := (Option.bind_some _ _).symm.trans H; with_reducible exact H2_) | with_reducible exact H | (rw [hy298]; exact H) | exact H
    have Ny298 := Aside0.mk hy298
    clear hy298
    replace H := Option.bind_eq_some_iff.mp H
    obtain ⟨t301, A120, H⟩ := H
    replace H : (law09_FactTells.j0 k l0 (!t301) a1_0 a1_1 a1_2 a1_3 a1_4 a2_0 a2_1 a2_2 a2_3 a2_4) = some r := H
    have A12 := Aside0.mk A120
    clear A120
    have H' := Aside0.mk H
    clear H
    go_wp2_with (first | ((with_reducible refine gate_callee (f := 11) rfl ?_); refine RFn.goesM (some 14) Try.func11 #[.slice A0 l0.length c0] rfl ?_; (with_reducible refine (law09_Few.calls k _ _ l0 true _ ?side1 ?side2 A10.out).mono ?_); (case side1 => exact RFn.mC (Kd.C_below HR0.out HB.out)); (case side2 => exact HC0.out); rintro e w13 ⟨rfl, hb⟩; refine ⟨_, rfl, ?_⟩; have n0_ := Aside0.mk (blk_below (g := gb294) RFn.blk hb); have n1_ := Aside0.mk (blk_below (g := gb295) RFn.blk hb); have n2_ := Aside0.mk (below_step RFn.bels hb); clear BK294; clear BK295; clear HB; have BK294 := n0_; have BK295 := n1_; have HB := n2_; clear n0_ n1_ n2_; (try clear hb); (try clear hb2); (try clear hk); (try clear hi); have hnb14 := NB294_295.out; have hnc14 := NB295_294.out; have hcz15_0 : w13.cell? ⟨gb294, 0, none⟩ = some (.string a1_0) := (blk_cell BK294.out 0).trans rfl; have hcz15_1 : w13.cell? ⟨gb294, 1, none⟩ = some (.string a1_1) := (blk_cell BK294.out 1).trans rfl; have hcz15_2 : w13.cell? ⟨gb294, 2, none⟩ = some (.string a1_2) := (blk_cell BK294.out 2).trans rfl; have hcz15_3 : w13.cell? ⟨gb294, 3, none⟩ = some (.string a1_3) := (blk_cell BK294.out 3).trans rfl; have hcz15_4 : w13.cell? ⟨gb294, 4, none⟩ = some (.int .i64 a1_4) := (blk_cell BK294.out 4).trans rfl; have hfz15_0 := blk_frozen BK294.out 0; have hfz15_1 := blk_frozen BK294.out 1; have hfz15_2 := blk_frozen BK294.out 2; have hfz15_3 := blk_frozen BK294.out 3; have hfz15_4 := blk_frozen BK294.out 4; have hcz16_0 : w13.cell? ⟨gb295, 0, none⟩ = some (.string a2_0) := (blk_cell BK295.out 0).trans rfl; have hcz16_1 : w13.cell? ⟨gb295, 1, none⟩ = some (.string a2_1) := (blk_cell BK295.out 1).trans rfl; have hcz16_2 : w13.cell? ⟨gb295, 2, none⟩ = some (.string a2_2) := (blk_cell BK295.out 2).trans rfl; have hcz16_3 : w13.cell? ⟨gb295, 3, none⟩ = some (.string a2_3) := (blk_cell BK295.out 3).trans rfl; have hcz16_4 : w13.cell? ⟨gb295, 4, none⟩ = some (.int .i64 a2_4) := (blk_cell BK295.out 4).trans rfl; have hfz16_0 := blk_frozen BK295.out 0; have hfz16_1 := blk_frozen BK295.out 1; have hfz16_2 := blk_frozen BK295.out 2; have hfz16_3 := blk_frozen BK295.out 3; have hfz16_4 := blk_frozen BK295.out 4) | ((with_reducible refine gate_dst (N := 21) rfl ?_); (try (refine gate_guard (by rfl) ?_; dsimp only)); refine Kd.R_lit k28 _ 28 ?hg (N := 21) ?hd (xs := ([(⟨(⟨a1_0, a1_1, a1_2, a1_3, a1_4⟩ : S24), 0⟩ : S28), (⟨(⟨a2_0, a2_1, a2_2, a2_3, a2_4⟩ : S24), 0⟩ : S28)] : List (S28))) (inner := [.string a1_0, .string a1_1, .string a1_2, .string a1_3, .int .i64 a1_4, .int .i64 0, .string a2_0, .string a2_1, .string a2_2, .string a2_3, .int .i64 a2_4, .int .i64 0]) (ok := fun _ => True) (okp := fun _ => True) ?hr ?hp (fun _ hk => hk) trivial (Below.refl _ _) (Nat.le_refl _) (by simp) ?_; (case hd => rfl); (case hg => rfl); (case hr => first | (go_simp; done) | (go_simp; rfl)); (case hp => exact (Reps.c6 (show Kd.M k28 _ _ _ (⟨(⟨a1_0, a1_1, a1_2, a1_3, a1_4⟩ : S24), 0⟩ : S28) [.string a1_0, .string a1_1, .string a1_2, .string a1_3, .int .i64 a1_4, .int .i64 0] from (k28_mkM _ _ _ (⟨(⟨a1_0, a1_1, a1_2, a1_3, a1_4⟩ : S24), 0⟩ : S28) )) (Reps.c6 (show Kd.M k28 _ _ _ (⟨(⟨a2_0, a2_1, a2_2, a2_3, a2_4⟩ : S24), 0⟩ : S28) [.string a2_0, .string a2_1, .string a2_2, .string a2_3, .int .i64 a2_4, .int .i64 0] from (k28_mkM _ _ _ (⟨(⟨a2_0, a2_1, a2_2, a2_3, a2_4⟩ : S24), 0⟩ : S28) )) (Reps.none _ _)))); intro v299 w17 ho18 hb hg_ hnew_; clear hg_ hnew_; (first | rw [← Ny298.out] at ho18 | (simp only [Int.reduceToNat] at ho18; rw [← Ny298.out] at ho18)); have n0_ := Aside0.mk (Kd.R_lower ho18 (below_size RFn.bels)); have n1_ := Aside0.mk (blk_below (g := gb294) RFn.blk hb); have n2_ := Aside0.mk (blk_below (g := gb295) RFn.blk hb); have n3_ := Aside0.mk (below_step RFn.bels hb); clear BK294; clear BK295; clear HB; have HO300 := n0_; have BK294 := n1_; have BK295 := n2_; have HB := n3_; clear n0_ n1_ n2_ n3_; clear hb ho18; obtain ⟨Ao19, co19, eo19⟩ := Kd.R_slice HO300.out; subst eo19) | (go_at_call 11; (with_reducible refine (law09_Few.calls k _ _ y298 t301 _ ?side1 ?side2 A12.out).mono ?_); (case side1 => exact RFn.mC (Kd.R_reads' HO300.out).2.2); (case side2 => exact (Kd.R_reads' HO300.out).2.1); rintro e w20 ⟨rfl, hb⟩; have n0_ := Aside0.mk (Kd.R_below (RFn.mR HO300) hb); have n1_ := Aside0.mk (blk_below (g := gb294) RFn.blk hb); have n2_ := Aside0.mk (blk_below (g := gb295) RFn.blk hb); have n3_ := Aside0.mk (below_step RFn.bels hb); clear HO300; clear BK294; clear BK295; clear HB; have HO300 := n0_; have BK294 := n1_; have BK295 := n2_; have HB := n3_; clear n0_ n1_ n2_ n3_; (try clear hb); (try clear hb2); (try clear hk); (try clear hi)))
    go_meet
    case rel => exact ⟨_, (!t301), (by first | rfl | (simp; done) | (simp [*]; done)), H', ⟨by first | omega | exact Nat.le_refl _⟩, ⟨RFn.mB BK294⟩, ⟨RFn.mB BK295⟩, ⟨RFn.bels⟩⟩
   ·replace c11 := Bool.eq_false_iff.mpr c11
    subst c11
    have H1 : (law09_FactTells.j0 k l0 true a1_0 a1_1 a1_2 a1_3 a1_4 a2_0 a2_1 a2_2 a2_3 a2_4) = some r := by rw [if_neg (show ¬ (false = true) by decide)] at H; exact H
    clear H
    have H := H1
    clear H1
    have H' := Aside0.mk H
    clear H
    go_wp2_with (first | ((with_reducible refine gate_callee (f := 11) rfl ?_); refine RFn.goesM (some 14) Try.func11 #[.slice A0 l0.length c0] rfl ?_; (with_reducible refine (law09_Few.calls k _ _ l0 false _ ?side1 ?side2 A10.out).mono ?_); (case side1 => exact RFn.mC (Kd.C_below HR0.out HB.out)); (case side2 => exact HC0.out); rintro e w21 ⟨rfl, hb⟩; refine ⟨_, rfl, ?_⟩; have n0_ := Aside0.mk (blk_below (g := gb294) RFn.blk hb); have n1_ := Aside0.mk (blk_below (g := gb295) RFn.blk hb); have n2_ := Aside0.mk (below_step RFn.bels hb); clear BK294; clear BK295; clear HB; have BK294 := n0_; have BK295 := n1_; have HB := n2_; clear n0_ n1_ n2_; (try clear hb); (try clear hb2); (try clear hk); (try clear hi)))
    go_meet
    case rel => exact ⟨_, (true), (by first | rfl | (simp; done) | (simp [*]; done)), H', ⟨by first | omega | exact Nat.le_refl _⟩, ⟨RFn.mB BK294⟩, ⟨RFn.mB BK295⟩, ⟨RFn.bels⟩⟩
  case rest =>
   clear HC6
   try clear c1
   try clear p2
   try clear c3
   try clear c5
   try clear c6
   try clear c10
   try clear c11
   try clear c14
   try clear hcz15_0
   try clear hcz15_1
   try clear hcz15_2
   try clear hcz15_3
   try clear hcz15_4
   try clear hcz16_0
   try clear hcz16_1
   try clear hcz16_2
   try clear hcz16_3
   try clear hcz16_4
   try clear hfz15_0
   try clear hfz15_1
   try clear hfz15_2
   try clear hfz15_3
   try clear hfz15_4
   try clear hfz16_0
   try clear hfz16_1
   try clear hfz16_2
   try clear hfz16_3
   try clear hfz16_4
   obtain ⟨kq, x24_5, rfl, HA, HJ5, BK294, BK295, HB⟩ := hcut
   cases kq with
   | zero => exact absurd HA.out (by simp [law09_FactTells.j0])
   | succ kj5 =>
    have H := HA.out
    clear HA
    simp only [law09_FactTells.j0] at H
    by_cases c22 : x24_5 = true
    ·subst c22
     have H1 : (some true) = some r := by rw [if_pos rfl] at H; exact H
     clear H
     have H := H1
     clear H1
     obtain rfl := Option.some.inj H
     go_wp2
     go_ret
     exact ⟨by first | rfl | (simp [errW_none, errW_some] <;> rfl) | (simp [*, errW_none, errW_some] <;> rfl), RFn.bels⟩
    ·replace c22 := Bool.eq_false_iff.mpr c22
     subst c22
     have H1 : ((law09_Theirs.f kj5 l0).bind fun t302 => ((fact_Of.f kj5 t302).bind fun bt305 => ((ref09_Of.f kj5 l0).bind fun bt309 => (law09_FactTells.j1 kj5 l0 bt305.1 bt305.2 bt309.1 bt309.2 a1_0 a1_1 a1_2 a1_3 a1_4 a2_0 a2_1 a2_2 a2_3 a2_4)))) = some r := by rw [if_neg (show ¬ (false = true) by decide)] at H; exact H
     clear H
     have H := H1
     clear H1
     replace H := Option.bind_eq_some_iff.mp H
     obtain ⟨t302, A230, H⟩ := H
     replace H : ((fact_Of.f kj5 t302).bind fun bt305 => ((ref09_Of.f kj5 l0).bind fun bt309 => (law09_FactTells.j1 kj5 l0 bt305.1 bt305.2 bt309.1 bt309.2 a1_0 a1_1 a1_2 a1_3 a1_4 a2_0 a2_1 a2_2 a2_3 a2_4))) = some r := H
     have A23 := Aside0.mk A230
     clear A230
     replace H := Option.bind_eq_some_iff.mp H
     obtain ⟨⟨t305, t306⟩, A240, H⟩ := H
     replace H : ((ref09_Of.f kj5 l0).bind fun bt309 => (law09_FactTells.j1 kj5 l0 t305 t306 bt309.1 bt309.2 a1_0 a1_1 a1_2 a1_3 a1_4 a2_0 a2_1 a2_2 a2_3 a2_4)) = some r := H
     have A24 := Aside0.mk A240
     clear A240
     have HC25 := Aside0.mk H
     clear H
     go_upto_region 6 with (first | ((with_reducible refine gate_callee (f := 13) rfl ?_); refine RFn.goesM (some 27) Try.func13 #[.slice A0 l0.length c0] rfl ?_; (with_reducible refine (law09_Theirs.calls kj5 _ _ l0 t302 _ ?side1 ?side2 A23.out).mono ?_); (case side1 => exact RFn.mC (Kd.C_below HR0.out HB.out)); (case side2 => exact HC0.out); rintro e w26 ⟨v303, rfl, ho0, hb⟩; refine ⟨_, rfl, ?_⟩; have n0_ := Aside0.mk (Kd.R_lower ho0 (below_size RFn.bels)); have n1_ := Aside0.mk (blk_below (g := gb294) RFn.blk hb); have n2_ := Aside0.mk (blk_below (g := gb295) RFn.blk hb); have n3_ := Aside0.mk (below_step RFn.bels hb); clear BK294; clear BK295; clear HB; have HO304 := n0_; have BK294 := n1_; have BK295 := n2_; have HB := n3_; clear n0_ n1_ n2_ n3_; (try clear hb); (try clear hb2); (try clear hk); (try clear hi); (try clear ho0); obtain ⟨Ao27, co27, eo27⟩ := Kd.R_slice HO304.out; subst eo27) | ((with_reducible refine gate_callee (f := 12) rfl ?_); refine RFn.goesM (some 28) Try.func12 #[.slice Ao27 t302.length co27] rfl ?_; (with_reducible refine (fact_Of.calls kj5 _ _ t302 t305 t306 _ ?side1 ?side2 A24.out).mono ?_); (case side1 => exact RFn.mC (Kd.R_reads' HO304.out).2.2); (case side2 => exact (Kd.R_reads' HO304.out).2.1); rintro e w28 ⟨v307, rfl, ho0, hb⟩; refine ⟨_, rfl, ?_⟩; have n0_ := Aside0.mk (Kd.R_elder' (RFn.mR HO304) (Kd.R_base ho0) hb); have n1_ := Aside0.mk (Kd.R_lower (Kd.R_new' ho0 (Kd.R_lt (RFn.mR HO304))) (below_size RFn.bels)); have n2_ := Aside0.mk (blk_below (g := gb294) RFn.blk hb); have n3_ := Aside0.mk (blk_below (g := gb295) RFn.blk hb); have n4_ := Aside0.mk (below_step RFn.bels hb); clear HO304; clear BK294; clear BK295; clear HB; have HO304 := n0_; have HO308 := n1_; have BK294 := n2_; have BK295 := n3_; have HB := n4_; clear n0_ n1_ n2_ n3_ n4_; (try clear hb); (try clear hb2); (try clear hk); (try clear hi); (try clear ho0)))
     (try simp only [Act.put, List.setIfInBounds_toArray, List.set_cons_zero, List.set_cons_succ])
     go_cut [9, 10] (fun v9 v10 wc => ∃ (kq : Nat) (x9_24 : List (S28)) (x10_24 : Int), v10 = .int .i64 x10_24 ∧ Aside0 (law09_FactTells.j1 kq l0 t305 t306 x9_24 x10_24 a1_0 a1_1 a1_2 a1_3 a1_4 a2_0 a2_1 a2_2 a2_3 a2_4 = some r) ∧ Aside0 (kq ≤ kj5) ∧ Aside0 (Kd.R k60 60 wc w.heap.size (fun _ => True) v307 t305) ∧ Aside0 (Kd.R k28 28 wc w.heap.size (fun _ => True) v9 x9_24) ∧ Aside0 (wc.heap[gb294]? = some (.cells #[.string a1_0, .string a1_1, .string a1_2, .string a1_3, .int .i64 a1_4] 24 (0, 0))) ∧ Aside0 (wc.heap[gb295]? = some (.cells #[.string a2_0, .string a2_1, .string a2_2, .string a2_3, .int .i64 a2_4] 24 (0, 0))) ∧ Aside0 (Below w.heap.size w wc))
     case first =>
      have H := HC25.out
      clear HC25
      replace H := Option.bind_eq_some_iff.mp H
      obtain ⟨⟨t309, t310⟩, A290, H⟩ := H
      replace H : (law09_FactTells.j1 kj5 l0 t305 t306 t309 t310 a1_0 a1_1 a1_2 a1_3 a1_4 a2_0 a2_1 a2_2 a2_3 a2_4) = some r := H
      have A29 := Aside0.mk A290
      clear A290
      have H' := Aside0.mk H
      clear H
      go_wp2_with (first | ((with_reducible refine gate_callee (f := 14) rfl ?_); refine RFn.goesM (some 33) Try.func14 #[.slice A0 l0.length c0] rfl ?_; (with_reducible refine (ref09_Of.calls kj5 _ _ l0 t309 t310 _ ?side1 ?side2 A29.out).mono ?_); (case side1 => exact RFn.mC (Kd.C_below HR0.out HB.out)); (case side2 => exact HC0.out); rintro e w30 ⟨v311, rfl, ho0, hb⟩; refine ⟨_, rfl, ?_⟩; have n0_ := Aside0.mk (Kd.R_below (RFn.mR HO304) hb); have n1_ := Aside0.mk (Kd.R_below (RFn.mR HO308) hb); have n2_ := Aside0.mk (Kd.R_lower ho0 (below_size RFn.bels)); have n3_ := Aside0.mk (blk_below (g := gb294) RFn.blk hb); have n4_ := Aside0.mk (blk_below (g := gb295) RFn.blk hb); have n5_ := Aside0.mk (below_step RFn.bels hb); clear HO304; clear HO308; clear BK294; clear BK295; clear HB; have HO304 := n0_; have HO308 := n1_; have HO312 := n2_; have BK294 := n3_; have BK295 := n4_; have HB := n5_; clear n0_ n1_ n2_ n3_ n4_ n5_; (try clear hb); (try clear hb2); (try clear hk); (try clear hi); (try clear ho0)))
      go_meet
      case rel => exact ⟨_, (t309), (t310), (by first | rfl | (simp; done) | (simp [*]; done)), H', ⟨by have := HJ5.out; first | omega | exact Nat.le_refl _⟩, ⟨by (with_reducible repeat (first | apply Kd.R_alloc | apply Kd.R_drewN | apply Kd.R_drew)); exact Kd.R_mono HO308.out (fun _ hk => by first | exact trivial | exact trivial)⟩, ⟨RFn.mR HO312⟩, ⟨RFn.mB BK294⟩, ⟨RFn.mB BK295⟩, ⟨RFn.bels⟩⟩
     case rest =>
      clear HC25
      try clear c1
      try clear c2
      try clear p2
      try clear c3
      try clear c5
      try clear c6
      try clear c10
      try clear c11
      try clear c12
      try clear c13
      try clear c14
      try clear c22
      try clear hcz15_0
      try clear hcz15_1
      try clear hcz15_2
      try clear hcz15_3
      try clear hcz15_4
      try clear hcz16_0
      try clear hcz16_1
      try clear hcz16_2
      try clear hcz16_3
      try clear hcz16_4
      try clear hfz15_0
      try clear hfz15_1
      try clear hfz15_2
      try clear hfz15_3
      try clear hfz15_4
      try clear hfz16_0
      try clear hfz16_1
      try clear hfz16_2
      try clear hfz16_3
      try clear hfz16_4
      try clear p2
      obtain ⟨kq, x9_24, x10_24, rfl, HA, HJ24, HO_7, HO_9, BK294, BK295, HB⟩ := hcut
      cases kq with
      | zero => exact absurd HA.out (by simp [law09_FactTells.j1])
      | succ kj24 =>
       have H := HA.out
       clear HA
       simp only [law09_FactTells.j1] at H
       replace H := Option.bind_eq_some_iff.mp H
       obtain ⟨t313, A310, H⟩ := H
       replace H : ((ref09_Same.f kj24 t313 x9_24).bind fun t316 => (if t316 = true then (if t306 = x10_24 then ((fact_Cmp.f kj24 a1_0 a1_1 a1_2 a1_3 a1_4 a2_0 a2_1 a2_2 a2_3 a2_4).bind fun t317 => ((ref09_Cmp.f kj24 a1_0 a1_1 a1_2 a1_3 a1_4 a2_0 a2_1 a2_2 a2_3 a2_4).bind fun t318 => (if t317 = t318 then ((law09_Theirs.f kj24 l0).bind fun t319 => ((fact_Right.f kj24 t319).bind fun t322 => ((ref09_Right.f kj24 l0).bind fun t323 => (some (t322 == t323))))) else (some false)))) else (some false)) else (some false))) = some r := H
       have A31 := Aside0.mk A310
       clear A310
       replace H := Option.bind_eq_some_iff.mp H
       obtain ⟨t316, A320, H⟩ := H
       replace H : (if t316 = true then (if t306 = x10_24 then ((fact_Cmp.f kj24 a1_0 a1_1 a1_2 a1_3 a1_4 a2_0 a2_1 a2_2 a2_3 a2_4).bind fun t317 => ((ref09_Cmp.f kj24 a1_0 a1_1 a1_2 a1_3 a1_4 a2_0 a2_1 a2_2 a2_3 a2_4).bind fun t318 => (if t317 = t318 then ((law09_Theirs.f kj24 l0).bind fun t319 => ((fact_Right.f kj24 t319).bind fun t322 => ((ref09_Right.f kj24 l0).bind fun t323 => (some (t322 == t323))))) else (some false)))) else (some false)) else (some false)) = some r := H
       have A32 := Aside0.mk A320
       clear A320
       by_cases c33 : t316 = true
       ·subst c33
        have H1 : (if t306 = x10_24 then ((fact_Cmp.f kj24 a1_0 a1_1 a1_2 a1_3 a1_4 a2_0 a2_1 a2_2 a2_3 a2_4).bind fun t317 => ((ref09_Cmp.f kj24 a1_0 a1_1 a1_2 a1_3 a1_4 a2_0 a2_1 a2_2 a2_3 a2_4).bind fun t318 => (if t317 = t318 then ((law09_Theirs.f kj24 l0).bind fun t319 => ((fact_Right.f kj24 t319).bind fun t322 => ((ref09_Right.f kj24 l0).bind fun t323 => (some (t322 == t323))))) else (some false)))) else (some false)) = some r := by rw [if_pos rfl] at H; exact H
        clear H
        have H := H1
        clear H1
        by_cases c34 : t306 = x10_24
        ·rw [if_pos c34] at H
         have c34b0 : (t306 == x10_24) = true := beq_iff_eq.mpr c34
         have c34b1 : (t306 != x10_24) = false := bne_eq_false_iff_eq.mpr c34
         clear c34
         replace H := Option.bind_eq_some_iff.mp H
         obtain ⟨t317, A350, H⟩ := H
         replace H : ((ref09_Cmp.f kj24 a1_0 a1_1 a1_2 a1_3 a1_4 a2_0 a2_1 a2_2 a2_3 a2_4).bind fun t318 => (if t317 = t318 then ((law09_Theirs.f kj24 l0).bind fun t319 => ((fact_Right.f kj24 t319).bind fun t322 => ((ref09_Right.f kj24 l0).bind fun t323 => (some (t322 == t323))))) else (some false))) = some r := H
         have A35 := Aside0.mk A350
         clear A350
         replace H := Option.bind_eq_some_iff.mp H
         obtain ⟨t318, A360, H⟩ := H
         replace H : (if t317 = t318 then ((law09_Theirs.f kj24 l0).bind fun t319 => ((fact_Right.f kj24 t319).bind fun t322 => ((ref09_Right.f kj24 l0).bind fun t323 => (some (t322 == t323))))) else (some false)) = some r := H
         have A36 := Aside0.mk A360
         clear A360
         by_cases c37 : t317 = t318
         ·rw [if_pos c37] at H
          have c37b0 : (t317 == t318) = true := beq_iff_eq.mpr c37
          have c37b1 : (t317 != t318) = false := bne_eq_false_iff_eq.mpr c37
          clear c37
          replace H := Option.bind_eq_some_iff.mp H
          obtain ⟨t319, A380, H⟩ := H
          replace H : ((fact_Right.f kj24 t319).bind fun t322 => ((ref09_Right.f kj24 l0).bind fun t323 => (some (t322 == t323)))) = some r := H
          have A38 := Aside0.mk A380
          clear A380
          replace H := Option.bind_eq_some_iff.mp H
          obtain ⟨t322, A390, H⟩ := H
          replace H : ((ref09_Right.f kj24 l0).bind fun t323 => (some (t322 == t323))) = some r := H
          have A39 := Aside0.mk A390
          clear A390
          replace H := Option.bind_eq_some_iff.mp H
          obtain ⟨t323, A400, H⟩ := H
          replace H : (some (t322 == t323)) = some r := H
          have A40 := Aside0.mk A400
          clear A400
          obtain rfl := Option.some.inj H
          try go_wp2
          have n0_ := Aside0.mk (Kd.R_drew HO_7.out)
          have n1_ := Aside0.mk (Kd.R_drew HO_9.out)
          have n2_ := Aside0.mk (blk_drew BK294.out)
          have n3_ := Aside0.mk (blk_drew BK295.out)
          have n4_ := Aside0.mk (below_drew1 HB.out)
          clear HO_7
          clear HO_9
          clear BK294
          clear BK295
          clear HB
          have HO_7 := n0_
          have HO_9 := n1_
          have BK294 := n2_
          have BK295 := n3_
          have HB := n4_
          clear n0_ n1_ n2_ n3_ n4_
          obtain ⟨Ao42, co42, eo42⟩ := Kd.R_slice HO_7.out
          (first | subst eo42 | (injection eo42 with f1_ f2_ f3_; have f4_ := f1_.symm; have f5_ := f3_.symm; clear f1_ f2_ f3_; subst f4_; subst f5_))
          refine start_ (n := 27) (S := fun w' => w'.cell? ⟨gb294, 0, none⟩ = some (.string a1_0) ∧ w'.cell? ⟨gb294, 1, none⟩ = some (.string a1_1) ∧ w'.cell? ⟨gb294, 2, none⟩ = some (.string a1_2) ∧ w'.cell? ⟨gb294, 3, none⟩ = some (.string a1_3) ∧ w'.cell? ⟨gb294, 4, none⟩ = some (.int .i64 a1_4) ∧ w'.cell? ⟨gb295, 0, none⟩ = some (.string a2_0) ∧ w'.cell? ⟨gb295, 1, none⟩ = some (.string a2_1) ∧ w'.cell? ⟨gb295, 2, none⟩ = some (.string a2_2) ∧ w'.cell? ⟨gb295, 3, none⟩ = some (.string a2_3) ∧ w'.cell? ⟨gb295, 4, none⟩ = some (.int .i64 a2_4)) (ds := []) #[ff,ff,ff,ff,ff,ff,ff,ff,ff,ff,ff,ff,ff,ff,ff,ff,ff,ff,ff,ff,ff,ff,ff,ff,ff,ff,ff] (by kernel_rfl) rfl rfl ⟨(blk_cell BK294.out 0).trans rfl, (blk_cell BK294.out 1).trans rfl, (blk_cell BK294.out 2).trans rfl, (blk_cell BK294.out 3).trans rfl, (blk_cell BK294.out 4).trans rfl, (blk_cell BK295.out 0).trans rfl, (blk_cell BK295.out 1).trans rfl, (blk_cell BK295.out 2).trans rfl, (blk_cell BK295.out 3).trans rfl, (blk_cell BK295.out 4).trans rfl⟩ (fun hHeld => ?_); refine with_tabW law09_FactTells.tab7 law09_FactTells.bits7 (fun HT_ HW_ => ?_)
          generalize wc.drew = w41 at HO_7 HO_9 BK294 BK295 HB hHeld ⊢
          refine RFn.pA (i := 0) (N := some 36) #[tt,ff,ff,ff,ff,ff,ff,ff,ff,ff,ff,ff,ff,ff,ff,ff,ff,ff,ff,ff,ff,ff,ff,ff,ff,ff,ff] HT_ ?_
          refine RFn.pA (i := 2) (N := some 38) #[tt,ff,tt,ff,ff,ff,ff,ff,ff,ff,ff,ff,ff,ff,ff,ff,ff,ff,ff,ff,ff,ff,ff,ff,ff,ff,ff] HT_ ?_
          refine one_ (i := 1) (N := some 37) #[tt,tt,tt,ff,ff,ff,ff,ff,ff,ff,ff,ff,ff,ff,ff,ff,ff,ff,ff,ff,ff,ff,ff,ff,ff,ff,ff] rfl rfl (one_of HT_.out (by kernel_rfl)) (by decide) (fun K hK => ?_)
          refine goes_ Try.func16 (by kernel_rfl) rfl #[.slice Ao42 t305.length co42] (by rfl) rfl rfl (by (try simp only [List.map_toArray, List.map_cons, List.map_nil]); first | done | rfl | (simp only [List.length_drop, List.length_take]; rfl)) ?_
          with_reducible refine (law09_Ours.calls kj24 _ _ t305 t313 _ ?side1 ?side2 A31.out).mono ?_
          (case side1 => exact RFn.mC (Kd.R_reads' HO_7.out).2.2)
          (case side2 => exact (Kd.R_reads' HO_7.out).2.1)
          rintro e w43 ⟨v314, rfl, ho0, hb⟩
          refine ⟨_, rfl, ?_⟩
          have n0_ := Aside0.mk (Kd.R_below (RFn.mR HO_7) hb)
          have n1_ := Aside0.mk (Kd.R_elder' (RFn.mR HO_9) (Kd.R_base ho0) hb)
          have n2_ := Aside0.mk (Kd.R_lower (Kd.R_new' ho0 (Kd.R_lt (RFn.mR HO_9))) (below_size RFn.bels))
          have n3_ := Aside0.mk (blk_below (g := gb294) RFn.blk hb)
          have n4_ := Aside0.mk (blk_below (g := gb295) RFn.blk hb)
          have n5_ := Aside0.mk (below_step RFn.bels hb)
          clear HO_7
          clear HO_9
          clear BK294
          clear BK295
          clear HB
          have HO_7 := n0_
          have HO_9 := n1_
          have HO315 := n2_
          have BK294 := n3_
          have BK295 := n4_
          have HB := n5_
          clear n0_ n1_ n2_ n3_ n4_ n5_
          (try clear hb)
          (try clear hb2)
          (try clear hk)
          (try clear hi)
          (try clear ho0)
          obtain ⟨Ao44, co44, eo44⟩ := Kd.R_slice HO315.out
          (first | subst eo44 | (injection eo44 with f1_ f2_ f3_; have f4_ := f1_.symm; have f5_ := f3_.symm; clear f1_ f2_ f3_; subst f4_; subst f5_))
          obtain ⟨Ao45, co45, eo45⟩ := Kd.R_slice HO_9.out
          (first | subst eo45 | (injection eo45 with f1_ f2_ f3_; have f4_ := f1_.symm; have f5_ := f3_.symm; clear f1_ f2_ f3_; subst f4_; subst f5_))
          refine hK.out _ _ ⟨(blk_cell BK294.out 0).trans rfl, (blk_cell BK294.out 1).trans rfl, (blk_cell BK294.out 2).trans rfl, (blk_cell BK294.out 3).trans rfl, (blk_cell BK294.out 4).trans rfl, (blk_cell BK295.out 0).trans rfl, (blk_cell BK295.out 1).trans rfl, (blk_cell BK295.out 2).trans rfl, (blk_cell BK295.out 3).trans rfl, (blk_cell BK295.out 4).trans rfl⟩ (fun hHeld => ?_)
          clear hK K
          refine norm_ (a' := ?_) ?_ ?_
          rotate_left
          ·show Act.put _ (some 37) _ = _
           simp only [Act.put, List.setIfInBounds_toArray, List.set_cons_zero, List.set_cons_succ, i64_w, i32_w]
           rfl
          refine one_ (i := 3) (N := some 39) #[tt,tt,tt,tt,ff,ff,ff,ff,ff,ff,ff,ff,ff,ff,ff,ff,ff,ff,ff,ff,ff,ff,ff,ff,ff,ff,ff] rfl rfl (one_of HT_.out (by kernel_rfl)) (by decide) (fun K hK => ?_)
          refine goes_ Try.func15 (by kernel_rfl) rfl #[.slice Ao44 t313.length co44, .slice Ao45 x9_24.length co45] (by rfl) rfl rfl (by (try simp only [List.map_toArray, List.map_cons, List.map_nil]); first | done | rfl | (simp only [List.length_drop, List.length_take]; rfl)) ?_
          with_reducible refine (ref09_Same.calls kj24 _ _ t313 _ _ x9_24 true _ ?side1 ?side2 ?side3 ?side4 A32.out).mono ?_
          (case side1 => exact RFn.mC (Kd.R_reads' HO315.out).2.2)
          (case side2 => exact (Kd.R_reads' HO315.out).2.1)
          (case side3 => exact RFn.mC (Kd.R_reads' HO_9.out).2.2)
          (case side4 => exact (Kd.R_reads' HO_9.out).2.1)
          rintro e w' ⟨rfl, ⟨nd, rfl⟩⟩
          refine ⟨_, rfl, ?_⟩
          refine hK.out _ _ ⟨(blk_cell BK294.out 0).trans rfl, (blk_cell BK294.out 1).trans rfl, (blk_cell BK294.out 2).trans rfl, (blk_cell BK294.out 3).trans rfl, (blk_cell BK294.out 4).trans rfl, (blk_cell BK295.out 0).trans rfl, (blk_cell BK295.out 1).trans rfl, (blk_cell BK295.out 2).trans rfl, (blk_cell BK295.out 3).trans rfl, (blk_cell BK295.out 4).trans rfl⟩ (fun hHeld => ?_)
          clear hK K
          refine norm_ (a' := ?_) ?_ ?_
          rotate_left
          ·show Act.put _ (some 39) _ = _
           simp only [Act.put, List.setIfInBounds_toArray, List.set_cons_zero, List.set_cons_succ, i64_w, i32_w]
           rfl
          refine RFn.pA (i := 4) (N := some 40) #[tt,tt,tt,tt,tt,ff,ff,ff,ff,ff,ff,ff,ff,ff,ff,ff,ff,ff,ff,ff,ff,ff,ff,ff,ff,ff,ff] HT_ ?_
          refine RFn.pA (i := 5) (N := some 41) #[tt,tt,tt,tt,tt,tt,ff,ff,ff,ff,ff,ff,ff,ff,ff,ff,ff,ff,ff,ff,ff,ff,ff,ff,ff,ff,ff] HT_ ?_
          refine RFn.pA (i := 6) (N := some 42) #[tt,tt,tt,tt,tt,tt,tt,ff,ff,ff,ff,ff,ff,ff,ff,ff,ff,ff,ff,ff,ff,ff,ff,ff,ff,ff,ff] HT_ ?_
          refine RFn.pA (i := 7) (N := some 43) #[tt,tt,tt,tt,tt,tt,tt,tt,ff,ff,ff,ff,ff,ff,ff,ff,ff,ff,ff,ff,ff,ff,ff,ff,ff,ff,ff] HT_ ?_
          refine RFn.pA (i := 8) (N := some 44) #[tt,tt,tt,tt,tt,tt,tt,tt,tt,ff,ff,ff,ff,ff,ff,ff,ff,ff,ff,ff,ff,ff,ff,ff,ff,ff,ff] HT_ ?_
          refine RFn.pA (i := 9) (N := some 45) #[tt,tt,tt,tt,tt,tt,tt,tt,tt,tt,ff,ff,ff,ff,ff,ff,ff,ff,ff,ff,ff,ff,ff,ff,ff,ff,ff] HT_ ?_
          refine RFn.tA (i := 10) (N := some 46) #[tt,tt,tt,tt,tt,tt,tt,tt,tt,tt,tt,ff,ff,ff,ff,ff,ff,ff,ff,ff,ff,ff,ff,ff,ff,ff,ff] rfl HT_ HW_ hHeld (by rintro w' ⟨s0, s1, s2, s3, s4, s5, s6, s7, s8, s9⟩; go_simp; with_reducible rfl) ?_
          refine RFn.tA (i := 11) (N := some 47) #[tt,tt,tt,tt,tt,tt,tt,tt,tt,tt,tt,tt,ff,ff,ff,ff,ff,ff,ff,ff,ff,ff,ff,ff,ff,ff,ff] rfl HT_ HW_ hHeld (by rintro w' ⟨s0, s1, s2, s3, s4, s5, s6, s7, s8, s9⟩; go_simp; with_reducible rfl) ?_
          refine RFn.tA (i := 13) (N := some 49) #[tt,tt,tt,tt,tt,tt,tt,tt,tt,tt,tt,tt,ff,tt,ff,ff,ff,ff,ff,ff,ff,ff,ff,ff,ff,ff,ff] rfl HT_ HW_ hHeld (by rintro w' ⟨s0, s1, s2, s3, s4, s5, s6, s7, s8, s9⟩; go_simp; with_reducible rfl) ?_
          refine RFn.tA (i := 14) (N := some 50) #[tt,tt,tt,tt,tt,tt,tt,tt,tt,tt,tt,tt,ff,tt,tt,ff,ff,ff,ff,ff,ff,ff,ff,ff,ff,ff,ff] rfl HT_ HW_ hHeld (by rintro w' ⟨s0, s1, s2, s3, s4, s5, s6, s7, s8, s9⟩; go_simp; with_reducible rfl) ?_
          refine one_ (i := 12) (N := some 48) #[tt,tt,tt,tt,tt,tt,tt,tt,tt,tt,tt,tt,tt,tt,tt,ff,ff,ff,ff,ff,ff,ff,ff,ff,ff,ff,ff] rfl rfl (one_of HT_.out (by kernel_rfl)) (by decide) (fun K hK => ?_)
          refine goes_ Try.func17 (by kernel_rfl) rfl #[.agg #[.string a1_0, .string a1_1, .string a1_2, .string a1_3, .int .i64 a1_4], .agg #[.string a2_0, .string a2_1, .string a2_2, .string a2_3, .int .i64 a2_4]] (by rfl) rfl rfl (by (try simp only [List.map_toArray, List.map_cons, List.map_nil]); first | done | rfl | (simp only [List.length_drop, List.length_take]; rfl)) ?_
          with_reducible refine (fact_Cmp.calls kj24 a1_0 a1_1 a1_2 a1_3 a1_4 a2_0 a2_1 a2_2 a2_3 a2_4 t317 _ A35.out).mono ?_
          rintro e w46 ⟨rfl, hb⟩
          refine ⟨_, rfl, ?_⟩
          have n0_ := Aside0.mk (Kd.R_below (RFn.mR HO_7) hb)
          have n1_ := Aside0.mk (Kd.R_below (RFn.mR HO_9) hb)
          have n2_ := Aside0.mk (Kd.R_below (RFn.mR HO315) hb)
          have n3_ := Aside0.mk (blk_below (g := gb294) RFn.blk hb)
          have n4_ := Aside0.mk (blk_below (g := gb295) RFn.blk hb)
          have n5_ := Aside0.mk (below_step RFn.bels hb)
          clear HO_7
          clear HO_9
          clear HO315
          clear BK294
          clear BK295
          clear HB
          have HO_7 := n0_
          have HO_9 := n1_
          have HO315 := n2_
          have BK294 := n3_
          have BK295 := n4_
          have HB := n5_
          clear n0_ n1_ n2_ n3_ n4_ n5_
          (try clear hb)
          (try clear hb2)
          (try clear hk)
          (try clear hi)
          refine hK.out _ _ ⟨(blk_cell BK294.out 0).trans rfl, (blk_cell BK294.out 1).trans rfl, (blk_cell BK294.out 2).trans rfl, (blk_cell BK294.out 3).trans rfl, (blk_cell BK294.out 4).trans rfl, (blk_cell BK295.out 0).trans rfl, (blk_cell BK295.out 1).trans rfl, (blk_cell BK295.out 2).trans rfl, (blk_cell BK295.out 3).trans rfl, (blk_cell BK295.out 4).trans rfl⟩ (fun hHeld => ?_)
          clear hK K
          refine norm_ (a' := ?_) ?_ ?_
          rotate_left
          ·show Act.put _ (some 48) _ = _
           simp only [Act.put, List.setIfInBounds_toArray, List.set_cons_zero, List.set_cons_succ, i64_w, i32_w]
           rfl
          refine one_ (i := 15) (N := some 51) #[tt,tt,tt,tt,tt,tt,tt,tt,tt,tt,tt,tt,tt,tt,tt,tt,ff,ff,ff,ff,ff,ff,ff,ff,ff,ff,ff] rfl rfl (one_of HT_.out (by kernel_rfl)) (by decide) (fun K hK => ?_)
          refine goes_ Try.func18 (by kernel_rfl) rfl #[.agg #[.string a1_0, .string a1_1, .string a1_2, .string a1_3, .int .i64 a1_4], .agg #[.string a2_0, .string a2_1, .string a2_2, .string a2_3, .int .i64 a2_4]] (by rfl) rfl rfl (by (try simp only [List.map_toArray, List.map_cons, List.map_nil]); first | done | rfl | (simp only [List.length_drop, List.length_take]; rfl)) ?_
          with_reducible refine (ref09_Cmp.calls kj24 a1_0 a1_1 a1_2 a1_3 a1_4 a2_0 a2_1 a2_2 a2_3 a2_4 t318 _ A36.out).mono ?_
          rintro e w47 ⟨rfl, hb⟩
          refine ⟨_, rfl, ?_⟩
          have n0_ := Aside0.mk (Kd.R_below (RFn.mR HO_7) hb)
          have n1_ := Aside0.mk (Kd.R_below (RFn.mR HO_9) hb)
          have n2_ := Aside0.mk (Kd.R_below (RFn.mR HO315) hb)
          have n3_ := Aside0.mk (blk_below (g := gb294) RFn.blk hb)
          have n4_ := Aside0.mk (blk_below (g := gb295) RFn.blk hb)
          have n5_ := Aside0.mk (below_step RFn.bels hb)
          clear HO_7
          clear HO_9
          clear HO315
          clear BK294
          clear BK295
          clear HB
          have HO_7 := n0_
          have HO_9 := n1_
          have HO315 := n2_
          have BK294 := n3_
          have BK295 := n4_
          have HB := n5_
          clear n0_ n1_ n2_ n3_ n4_ n5_
          (try clear hb)
          (try clear hb2)
          (try clear hk)
          (try clear hi)
          refine hK.out _ _ ⟨(blk_cell BK294.out 0).trans rfl, (blk_cell BK294.out 1).trans rfl, (blk_cell BK294.out 2).trans rfl, (blk_cell BK294.out 3).trans rfl, (blk_cell BK294.out 4).trans rfl, (blk_cell BK295.out 0).trans rfl, (blk_cell BK295.out 1).trans rfl, (blk_cell BK295.out 2).trans rfl, (blk_cell BK295.out 3).trans rfl, (blk_cell BK295.out 4).trans rfl⟩ (fun hHeld => ?_)
          clear hK K
          refine norm_ (a' := ?_) ?_ ?_
          rotate_left
          ·show Act.put _ (some 51) _ = _
           simp only [Act.put, List.setIfInBounds_toArray, List.set_cons_zero, List.set_cons_succ, i64_w, i32_w]
           rfl
          refine RFn.pA (i := 16) (N := some 52) #[tt,tt,tt,tt,tt,tt,tt,tt,tt,tt,tt,tt,tt,tt,tt,tt,tt,ff,ff,ff,ff,ff,ff,ff,ff,ff,ff] HT_ ?_
          refine RFn.pA (i := 17) (N := some 53) #[tt,tt,tt,tt,tt,tt,tt,tt,tt,tt,tt,tt,tt,tt,tt,tt,tt,tt,ff,ff,ff,ff,ff,ff,ff,ff,ff] HT_ ?_
          refine RFn.pA (i := 18) (N := some 54) #[tt,tt,tt,tt,tt,tt,tt,tt,tt,tt,tt,tt,tt,tt,tt,tt,tt,tt,tt,ff,ff,ff,ff,ff,ff,ff,ff] HT_ ?_
          refine RFn.pA (i := 19) (N := some 55) #[tt,tt,tt,tt,tt,tt,tt,tt,tt,tt,tt,tt,tt,tt,tt,tt,tt,tt,tt,tt,ff,ff,ff,ff,ff,ff,ff] HT_ ?_
          refine RFn.pA (i := 22) (N := some 58) #[tt,tt,tt,tt,tt,tt,tt,tt,tt,tt,tt,tt,tt,tt,tt,tt,tt,tt,tt,tt,ff,ff,tt,ff,ff,ff,ff] HT_ ?_
          refine one_ (i := 20) (N := some 56) #[tt,tt,tt,tt,tt,tt,tt,tt,tt,tt,tt,tt,tt,tt,tt,tt,tt,tt,tt,tt,tt,ff,tt,ff,ff,ff,ff] rfl rfl (one_of HT_.out (by kernel_rfl)) (by decide) (fun K hK => ?_)
          refine goes_ Try.func13 (by kernel_rfl) rfl #[.slice A0 l0.length c0] (by rfl) rfl rfl (by (try simp only [List.map_toArray, List.map_cons, List.map_nil]); first | done | rfl | (simp only [List.length_drop, List.length_take]; rfl)) ?_
          with_reducible refine (law09_Theirs.calls kj24 _ _ l0 t319 _ ?side1 ?side2 A38.out).mono ?_
          (case side1 => exact RFn.mC (Kd.C_below HR0.out HB.out))
          (case side2 => exact HC0.out)
          rintro e w48 ⟨v320, rfl, ho0, hb⟩
          refine ⟨_, rfl, ?_⟩
          have n0_ := Aside0.mk (Kd.R_elder' (RFn.mR HO_7) (Kd.R_base ho0) hb)
          have n1_ := Aside0.mk (Kd.R_below (RFn.mR HO_9) hb)
          have n2_ := Aside0.mk (Kd.R_below (RFn.mR HO315) hb)
          have n3_ := Aside0.mk (Kd.R_lower (Kd.R_new' ho0 (Kd.R_lt (RFn.mR HO_7))) (below_size RFn.bels))
          have n4_ := Aside0.mk (blk_below (g := gb294) RFn.blk hb)
          have n5_ := Aside0.mk (blk_below (g := gb295) RFn.blk hb)
          have n6_ := Aside0.mk (below_step RFn.bels hb)
          clear HO_7
          clear HO_9
          clear HO315
          clear BK294
          clear BK295
          clear HB
          have HO_7 := n0_
          have HO_9 := n1_
          have HO315 := n2_
          have HO321 := n3_
          have BK294 := n4_
          have BK295 := n5_
          have HB := n6_
          clear n0_ n1_ n2_ n3_ n4_ n5_ n6_
          (try clear hb)
          (try clear hb2)
          (try clear hk)
          (try clear hi)
          (try clear ho0)
          obtain ⟨Ao49, co49, eo49⟩ := Kd.R_slice HO321.out
          (first | subst eo49 | (injection eo49 with f1_ f2_ f3_; have f4_ := f1_.symm; have f5_ := f3_.symm; clear f1_ f2_ f3_; subst f4_; subst f5_))
          refine hK.out _ _ ⟨(blk_cell BK294.out 0).trans rfl, (blk_cell BK294.out 1).trans rfl, (blk_cell BK294.out 2).trans rfl, (blk_cell BK294.out 3).trans rfl, (blk_cell BK294.out 4).trans rfl, (blk_cell BK295.out 0).trans rfl, (blk_cell BK295.out 1).trans rfl, (blk_cell BK295.out 2).trans rfl, (blk_cell BK295.out 3).trans rfl, (blk_cell BK295.out 4).trans rfl⟩ (fun hHeld => ?_)
          clear hK K
          refine norm_ (a' := ?_) ?_ ?_
          rotate_left
          ·show Act.put _ (some 56) _ = _
           simp only [Act.put, List.setIfInBounds_toArray, List.set_cons_zero, List.set_cons_succ, i64_w, i32_w]
           rfl
          refine one_ (i := 21) (N := some 57) #[tt,tt,tt,tt,tt,tt,tt,tt,tt,tt,tt,tt,tt,tt,tt,tt,tt,tt,tt,tt,tt,tt,tt,ff,ff,ff,ff] rfl rfl (one_of HT_.out (by kernel_rfl)) (by decide) (fun K hK => ?_)
          refine goes_ Try.func19 (by kernel_rfl) rfl #[.slice Ao49 t319.length co49] (by rfl) rfl rfl (by (try simp only [List.map_toArray, List.map_cons, List.map_nil]); first | done | rfl | (simp only [List.length_drop, List.length_take]; rfl)) ?_
          with_reducible refine (fact_Right.calls kj24 _ _ t319 t322 _ ?side1 ?side2 A39.out).mono ?_
          (case side1 => exact RFn.mC (Kd.R_reads' HO321.out).2.2)
          (case side2 => exact (Kd.R_reads' HO321.out).2.1)
          rintro e w50 ⟨rfl, hb⟩
          refine ⟨_, rfl, ?_⟩
          have n0_ := Aside0.mk (Kd.R_below (RFn.mR HO_7) hb)
          have n1_ := Aside0.mk (Kd.R_below (RFn.mR HO_9) hb)
          have n2_ := Aside0.mk (Kd.R_below (RFn.mR HO315) hb)
          have n3_ := Aside0.mk (Kd.R_below (RFn.mR HO321) hb)
          have n4_ := Aside0.mk (blk_below (g := gb294) RFn.blk hb)
          have n5_ := Aside0.mk (blk_below (g := gb295) RFn.blk hb)
          have n6_ := Aside0.mk (below_step RFn.bels hb)
          clear HO_7
          clear HO_9
          clear HO315
          clear HO321
          clear BK294
          clear BK295
          clear HB
          have HO_7 := n0_
          have HO_9 := n1_
          have HO315 := n2_
          have HO321 := n3_
          have BK294 := n4_
          have BK295 := n5_
          have HB := n6_
          clear n0_ n1_ n2_ n3_ n4_ n5_ n6_
          (try clear hb)
          (try clear hb2)
          (try clear hk)
          (try clear hi)
          refine hK.out _ _ ⟨(blk_cell BK294.out 0).trans rfl, (blk_cell BK294.out 1).trans rfl, (blk_cell BK294.out 2).trans rfl, (blk_cell BK294.out 3).trans rfl, (blk_cell BK294.out 4).trans rfl, (blk_cell BK295.out 0).trans rfl, (blk_cell BK295.out 1).trans rfl, (blk_cell BK295.out 2).trans rfl, (blk_cell BK295.out 3).trans rfl, (blk_cell BK295.out 4).trans rfl⟩ (fun hHeld => ?_)
          clear hK K
          refine norm_ (a' := ?_) ?_ ?_
          rotate_left
          ·show Act.put _ (some 57) _ = _
           simp only [Act.put, List.setIfInBounds_toArray, List.set_cons_zero, List.set_cons_succ, i64_w, i32_w]
           rfl
          refine one_ (i := 23) (N := some 59) #[tt,tt,tt,tt,tt,tt,tt,tt,tt,tt,tt,tt,tt,tt,tt,tt,tt,tt,tt,tt,tt,tt,tt,tt,ff,ff,ff] rfl rfl (one_of HT_.out (by kernel_rfl)) (by decide) (fun K hK => ?_)
          refine goes_ Try.func20 (by kernel_rfl) rfl #[.slice A0 l0.length c0] (by rfl) rfl rfl (by (try simp only [List.map_toArray, List.map_cons, List.map_nil]); first | done | rfl | (simp only [List.length_drop, List.length_take]; rfl)) ?_
          with_reducible refine (ref09_Right.calls kj24 _ _ l0 t323 _ ?side1 ?side2 A40.out).mono ?_
          (case side1 => exact RFn.mC (Kd.C_below HR0.out HB.out))
          (case side2 => exact HC0.out)
          rintro e w51 ⟨rfl, hb⟩
          refine ⟨_, rfl, ?_⟩
          have n0_ := Aside0.mk (Kd.R_below (RFn.mR HO_7) hb)
          have n1_ := Aside0.mk (Kd.R_below (RFn.mR HO_9) hb)
          have n2_ := Aside0.mk (Kd.R_below (RFn.mR HO315) hb)
          have n3_ := Aside0.mk (Kd.R_below (RFn.mR HO321) hb)
          have n4_ := Aside0.mk (blk_below (g := gb294) RFn.blk hb)
          have n5_ := Aside0.mk (blk_below (g := gb295) RFn.blk hb)
          have n6_ := Aside0.mk (below_step RFn.bels hb)
          clear HO_7
          clear HO_9
          clear HO315
          clear HO321
          clear BK294
          clear BK295
          clear HB
          have HO_7 := n0_
          have HO_9 := n1_
          have HO315 := n2_
          have HO321 := n3_
          have BK294 := n4_
          have BK295 := n5_
          have HB := n6_
          clear n0_ n1_ n2_ n3_ n4_ n5_ n6_
          (try clear hb)
          (try clear hb2)
          (try clear hk)
          (try clear hi)
          refine hK.out _ _ ⟨(blk_cell BK294.out 0).trans rfl, (blk_cell BK294.out 1).trans rfl, (blk_cell BK294.out 2).trans rfl, (blk_cell BK294.out 3).trans rfl, (blk_cell BK294.out 4).trans rfl, (blk_cell BK295.out 0).trans rfl, (blk_cell BK295.out 1).trans rfl, (blk_cell BK295.out 2).trans rfl, (blk_cell BK295.out 3).trans rfl, (blk_cell BK295.out 4).trans rfl⟩ (fun hHeld => ?_)
          clear hK K
          refine norm_ (a' := ?_) ?_ ?_
          rotate_left
          ·show Act.put _ (some 59) _ = _
           simp only [Act.put, List.setIfInBounds_toArray, List.set_cons_zero, List.set_cons_succ, i64_w, i32_w]
           rfl
          refine RFn.pA (i := 24) (N := some 60) #[tt,tt,tt,tt,tt,tt,tt,tt,tt,tt,tt,tt,tt,tt,tt,tt,tt,tt,tt,tt,tt,tt,tt,tt,tt,ff,ff] HT_ ?_
          refine RFn.pA (i := 25) (N := some 61) #[tt,tt,tt,tt,tt,tt,tt,tt,tt,tt,tt,tt,tt,tt,tt,tt,tt,tt,tt,tt,tt,tt,tt,tt,tt,tt,ff] HT_ ?_
          refine RFn.pA (i := 26) (N := some 6) #[tt,tt,tt,tt,tt,tt,tt,tt,tt,tt,tt,tt,tt,tt,tt,tt,tt,tt,tt,tt,tt,tt,tt,tt,tt,tt,tt] HT_ ?_
          refine done_ (done_of HT_.out (by kernel_rfl)) ?_
          try go_wp2
          go_ret
          exact ⟨by first | rfl | (simp [errW_none, errW_some] <;> rfl) | (simp [*, errW_none, errW_some] <;> rfl), RFn.bels⟩
         ·rw [if_neg c37] at H
          have c37b0 : (t317 == t318) = false := beq_eq_false_iff_ne.mpr c37
          have c37b1 : (t317 != t318) = true := bne_iff_ne.mpr c37
          obtain rfl := Option.some.inj H
          try go_wp2
          have n0_ := Aside0.mk (Kd.R_drew HO_7.out)
          have n1_ := Aside0.mk (Kd.R_drew HO_9.out)
          have n2_ := Aside0.mk (blk_drew BK294.out)
          have n3_ := Aside0.mk (blk_drew BK295.out)
          have n4_ := Aside0.mk (below_drew1 HB.out)
          clear HO_7
          clear HO_9
          clear BK294
          clear BK295
          clear HB
          have HO_7 := n0_
          have HO_9 := n1_
          have BK294 := n2_
          have BK295 := n3_
          have HB := n4_
          clear n0_ n1_ n2_ n3_ n4_
          obtain ⟨Ao53, co53, eo53⟩ := Kd.R_slice HO_7.out
          (first | subst eo53 | (injection eo53 with f1_ f2_ f3_; have f4_ := f1_.symm; have f5_ := f3_.symm; clear f1_ f2_ f3_; subst f4_; subst f5_))
          refine start_ (n := 27) (S := fun w' => w'.cell? ⟨gb294, 0, none⟩ = some (.string a1_0) ∧ w'.cell? ⟨gb294, 1, none⟩ = some (.string a1_1) ∧ w'.cell? ⟨gb294, 2, none⟩ = some (.string a1_2) ∧ w'.cell? ⟨gb294, 3, none⟩ = some (.string a1_3) ∧ w'.cell? ⟨gb294, 4, none⟩ = some (.int .i64 a1_4) ∧ w'.cell? ⟨gb295, 0, none⟩ = some (.string a2_0) ∧ w'.cell? ⟨gb295, 1, none⟩ = some (.string a2_1) ∧ w'.cell? ⟨gb295, 2, none⟩ = some (.string a2_2) ∧ w'.cell? ⟨gb295, 3, none⟩ = some (.string a2_3) ∧ w'.cell? ⟨gb295, 4, none⟩ = some (.int .i64 a2_4)) (ds := []) #[ff,ff,ff,ff,ff,ff,ff,ff,ff,ff,ff,ff,ff,ff,ff,ff,ff,ff,ff,ff,ff,ff,ff,ff,ff,ff,ff] (by kernel_rfl) rfl rfl ⟨(blk_cell BK294.out 0).trans rfl, (blk_cell BK294.out 1).trans rfl, (blk_cell BK294.out 2).trans rfl, (blk_cell BK294.out 3).trans rfl, (blk_cell BK294.out 4).trans rfl, (blk_cell BK295.out 0).trans rfl, (blk_cell BK295.out 1).trans rfl, (blk_cell BK295.out 2).trans rfl, (blk_cell BK295.out 3).trans rfl, (blk_cell BK295.out 4).trans rfl⟩ (fun hHeld => ?_); refine with_tabW law09_FactTells.tab7 law09_FactTells.bits7 (fun HT_ HW_ => ?_)
          generalize wc.drew = w52 at HO_7 HO_9 BK294 BK295 HB hHeld ⊢
          refine RFn.pA (i := 0) (N := some 36) #[tt,ff,ff,ff,ff,ff,ff,ff,ff,ff,ff,ff,ff,ff,ff,ff,ff,ff,ff,ff,ff,ff,ff,ff,ff,ff,ff] HT_ ?_
          refine RFn.pA (i := 2) (N := some 38) #[tt,ff,tt,ff,ff,ff,ff,ff,ff,ff,ff,ff,ff,ff,ff,ff,ff,ff,ff,ff,ff,ff,ff,ff,ff,ff,ff] HT_ ?_
          refine one_ (i := 1) (N := some 37) #[tt,tt,tt,ff,ff,ff,ff,ff,ff,ff,ff,ff,ff,ff,ff,ff,ff,ff,ff,ff,ff,ff,ff,ff,ff,ff,ff] rfl rfl (one_of HT_.out (by kernel_rfl)) (by decide) (fun K hK => ?_)
          refine goes_ Try.func16 (by kernel_rfl) rfl #[.slice Ao53 t305.length co53] (by rfl) rfl rfl (by (try simp only [List.map_toArray, List.map_cons, List.map_nil]); first | done | rfl | (simp only [List.length_drop, List.length_take]; rfl)) ?_
          with_reducible refine (law09_Ours.calls kj24 _ _ t305 t313 _ ?side1 ?side2 A31.out).mono ?_
          (case side1 => exact RFn.mC (Kd.R_reads' HO_7.out).2.2)
          (case side2 => exact (Kd.R_reads' HO_7.out).2.1)
          rintro e w54 ⟨v314, rfl, ho0, hb⟩
          refine ⟨_, rfl, ?_⟩
          have n0_ := Aside0.mk (Kd.R_below (RFn.mR HO_7) hb)
          have n1_ := Aside0.mk (Kd.R_elder' (RFn.mR HO_9) (Kd.R_base ho0) hb)
          have n2_ := Aside0.mk (Kd.R_lower (Kd.R_new' ho0 (Kd.R_lt (RFn.mR HO_9))) (below_size RFn.bels))
          have n3_ := Aside0.mk (blk_below (g := gb294) RFn.blk hb)
          have n4_ := Aside0.mk (blk_below (g := gb295) RFn.blk hb)
          have n5_ := Aside0.mk (below_step RFn.bels hb)
          clear HO_7
          clear HO_9
          clear BK294
          clear BK295
          clear HB
          have HO_7 := n0_
          have HO_9 := n1_
          have HO315 := n2_
          have BK294 := n3_
          have BK295 := n4_
          have HB := n5_
          clear n0_ n1_ n2_ n3_ n4_ n5_
          (try clear hb)
          (try clear hb2)
          (try clear hk)
          (try clear hi)
          (try clear ho0)
          obtain ⟨Ao55, co55, eo55⟩ := Kd.R_slice HO315.out
          (first | subst eo55 | (injection eo55 with f1_ f2_ f3_; have f4_ := f1_.symm; have f5_ := f3_.symm; clear f1_ f2_ f3_; subst f4_; subst f5_))
          obtain ⟨Ao56, co56, eo56⟩ := Kd.R_slice HO_9.out
          (first | subst eo56 | (injection eo56 with f1_ f2_ f3_; have f4_ := f1_.symm; have f5_ := f3_.symm; clear f1_ f2_ f3_; subst f4_; subst f5_))
          refine hK.out _ _ ⟨(blk_cell BK294.out 0).trans rfl, (blk_cell BK294.out 1).trans rfl, (blk_cell BK294.out 2).trans rfl, (blk_cell BK294.out 3).trans rfl, (blk_cell BK294.out 4).trans rfl, (blk_cell BK295.out 0).trans rfl, (blk_cell BK295.out 1).trans rfl, (blk_cell BK295.out 2).trans rfl, (blk_cell BK295.out 3).trans rfl, (blk_cell BK295.out 4).trans rfl⟩ (fun hHeld => ?_)
          clear hK K
          refine norm_ (a' := ?_) ?_ ?_
          rotate_left
          ·show Act.put _ (some 37) _ = _
           simp only [Act.put, List.setIfInBounds_toArray, List.set_cons_zero, List.set_cons_succ, i64_w, i32_w]
           rfl
          refine one_ (i := 3) (N := some 39) #[tt,tt,tt,tt,ff,ff,ff,ff,ff,ff,ff,ff,ff,ff,ff,ff,ff,ff,ff,ff,ff,ff,ff,ff,ff,ff,ff] rfl rfl (one_of HT_.out (by kernel_rfl)) (by decide) (fun K hK => ?_)
          refine goes_ Try.func15 (by kernel_rfl) rfl #[.slice Ao55 t313.length co55, .slice Ao56 x9_24.length co56] (by rfl) rfl rfl (by (try simp only [List.map_toArray, List.map_cons, List.map_nil]); first | done | rfl | (simp only [List.length_drop, List.length_take]; rfl)) ?_
          with_reducible refine (ref09_Same.calls kj24 _ _ t313 _ _ x9_24 true _ ?side1 ?side2 ?side3 ?side4 A32.out).mono ?_
          (case side1 => exact RFn.mC (Kd.R_reads' HO315.out).2.2)
          (case side2 => exact (Kd.R_reads' HO315.out).2.1)
          (case side3 => exact RFn.mC (Kd.R_reads' HO_9.out).2.2)
          (case side4 => exact (Kd.R_reads' HO_9.out).2.1)
          rintro e w' ⟨rfl, ⟨nd, rfl⟩⟩
          refine ⟨_, rfl, ?_⟩
          refine hK.out _ _ ⟨(blk_cell BK294.out 0).trans rfl, (blk_cell BK294.out 1).trans rfl, (blk_cell BK294.out 2).trans rfl, (blk_cell BK294.out 3).trans rfl, (blk_cell BK294.out 4).trans rfl, (blk_cell BK295.out 0).trans rfl, (blk_cell BK295.out 1).trans rfl, (blk_cell BK295.out 2).trans rfl, (blk_cell BK295.out 3).trans rfl, (blk_cell BK295.out 4).trans rfl⟩ (fun hHeld => ?_)
          clear hK K
          refine norm_ (a' := ?_) ?_ ?_
          rotate_left
          ·show Act.put _ (some 39) _ = _
           simp only [Act.put, List.setIfInBounds_toArray, List.set_cons_zero, List.set_cons_succ, i64_w, i32_w]
           rfl
          refine RFn.pA (i := 4) (N := some 40) #[tt,tt,tt,tt,tt,ff,ff,ff,ff,ff,ff,ff,ff,ff,ff,ff,ff,ff,ff,ff,ff,ff,ff,ff,ff,ff,ff] HT_ ?_
          refine RFn.pA (i := 5) (N := some 41) #[tt,tt,tt,tt,tt,tt,ff,ff,ff,ff,ff,ff,ff,ff,ff,ff,ff,ff,ff,ff,ff,ff,ff,ff,ff,ff,ff] HT_ ?_
          refine RFn.pA (i := 6) (N := some 42) #[tt,tt,tt,tt,tt,tt,tt,ff,ff,ff,ff,ff,ff,ff,ff,ff,ff,ff,ff,ff,ff,ff,ff,ff,ff,ff,ff] HT_ ?_
          refine RFn.pA (i := 7) (N := some 43) #[tt,tt,tt,tt,tt,tt,tt,tt,ff,ff,ff,ff,ff,ff,ff,ff,ff,ff,ff,ff,ff,ff,ff,ff,ff,ff,ff] HT_ ?_
          refine RFn.pA (i := 8) (N := some 44) #[tt,tt,tt,tt,tt,tt,tt,tt,tt,ff,ff,ff,ff,ff,ff,ff,ff,ff,ff,ff,ff,ff,ff,ff,ff,ff,ff] HT_ ?_
          refine RFn.pA (i := 9) (N := some 45) #[tt,tt,tt,tt,tt,tt,tt,tt,tt,tt,ff,ff,ff,ff,ff,ff,ff,ff,ff,ff,ff,ff,ff,ff,ff,ff,ff] HT_ ?_
          refine RFn.tA (i := 10) (N := some 46) #[tt,tt,tt,tt,tt,tt,tt,tt,tt,tt,tt,ff,ff,ff,ff,ff,ff,ff,ff,ff,ff,ff,ff,ff,ff,ff,ff] rfl HT_ HW_ hHeld (by rintro w' ⟨s0, s1, s2, s3, s4, s5, s6, s7, s8, s9⟩; go_simp; with_reducible rfl) ?_
          refine RFn.tA (i := 11) (N := some 47) #[tt,tt,tt,tt,tt,tt,tt,tt,tt,tt,tt,tt,ff,ff,ff,ff,ff,ff,ff,ff,ff,ff,ff,ff,ff,ff,ff] rfl HT_ HW_ hHeld (by rintro w' ⟨s0, s1, s2, s3, s4, s5, s6, s7, s8, s9⟩; go_simp; with_reducible rfl) ?_
          refine RFn.tA (i := 13) (N := some 49) #[tt,tt,tt,tt,tt,tt,tt,tt,tt,tt,tt,tt,ff,tt,ff,ff,ff,ff,ff,ff,ff,ff,ff,ff,ff,ff,ff] rfl HT_ HW_ hHeld (by rintro w' ⟨s0, s1, s2, s3, s4, s5, s6, s7, s8, s9⟩; go_simp; with_reducible rfl) ?_
          refine RFn.tA (i := 14) (N := some 50) #[tt,tt,tt,tt,tt,tt,tt,tt,tt,tt,tt,tt,ff,tt,tt,ff,ff,ff,ff,ff,ff,ff,ff,ff,ff,ff,ff] rfl HT_ HW_ hHeld (by rintro w' ⟨s0, s1, s2, s3, s4, s5, s6, s7, s8, s9⟩; go_simp; with_reducible rfl) ?_
          refine one_ (i := 12) (N := some 48) #[tt,tt,tt,tt,tt,tt,tt,tt,tt,tt,tt,tt,tt,tt,tt,ff,ff,ff,ff,ff,ff,ff,ff,ff,ff,ff,ff] rfl rfl (one_of HT_.out (by kernel_rfl)) (by decide) (fun K hK => ?_)
          refine goes_ Try.func17 (by kernel_rfl) rfl #[.agg #[.string a1_0, .string a1_1, .string a1_2, .string a1_3, .int .i64 a1_4], .agg #[.string a2_0, .string a2_1, .string a2_2, .string a2_3, .int .i64 a2_4]] (by rfl) rfl rfl (by (try simp only [List.map_toArray, List.map_cons, List.map_nil]); first | done | rfl | (simp only [List.length_drop, List.length_take]; rfl)) ?_
          with_reducible refine (fact_Cmp.calls kj24 a1_0 a1_1 a1_2 a1_3 a1_4 a2_0 a2_1 a2_2 a2_3 a2_4 t317 _ A35.out).mono ?_
          rintro e w57 ⟨rfl, hb⟩
          refine ⟨_, rfl, ?_⟩
          have n0_ := Aside0.mk (Kd.R_below (RFn.mR HO_7) hb)
          have n1_ := Aside0.mk (Kd.R_below (RFn.mR HO_9) hb)
          have n2_ := Aside0.mk (Kd.R_below (RFn.mR HO315) hb)
          have n3_ := Aside0.mk (blk_below (g := gb294) RFn.blk hb)
          have n4_ := Aside0.mk (blk_below (g := gb295) RFn.blk hb)
          have n5_ := Aside0.mk (below_step RFn.bels hb)
          clear HO_7
          clear HO_9
          clear HO315
          clear BK294
          clear BK295
          clear HB
          have HO_7 := n0_
          have HO_9 := n1_
          have HO315 := n2_
          have BK294 := n3_
          have BK295 := n4_
          have HB := n5_
          clear n0_ n1_ n2_ n3_ n4_ n5_
          (try clear hb)
          (try clear hb2)
          (try clear hk)
          (try clear hi)
          refine hK.out _ _ ⟨(blk_cell BK294.out 0).trans rfl, (blk_cell BK294.out 1).trans rfl, (blk_cell BK294.out 2).trans rfl, (blk_cell BK294.out 3).trans rfl, (blk_cell BK294.out 4).trans rfl, (blk_cell BK295.out 0).trans rfl, (blk_cell BK295.out 1).trans rfl, (blk_cell BK295.out 2).trans rfl, (blk_cell BK295.out 3).trans rfl, (blk_cell BK295.out 4).trans rfl⟩ (fun hHeld => ?_)
          clear hK K
          refine norm_ (a' := ?_) ?_ ?_
          rotate_left
          ·show Act.put _ (some 48) _ = _
           simp only [Act.put, List.setIfInBounds_toArray, List.set_cons_zero, List.set_cons_succ, i64_w, i32_w]
           rfl
          refine one_ (i := 15) (N := some 51) #[tt,tt,tt,tt,tt,tt,tt,tt,tt,tt,tt,tt,tt,tt,tt,tt,ff,ff,ff,ff,ff,ff,ff,ff,ff,ff,ff] rfl rfl (one_of HT_.out (by kernel_rfl)) (by decide) (fun K hK => ?_)
          refine goes_ Try.func18 (by kernel_rfl) rfl #[.agg #[.string a1_0, .string a1_1, .string a1_2, .string a1_3, .int .i64 a1_4], .agg #[.string a2_0, .string a2_1, .string a2_2, .string a2_3, .int .i64 a2_4]] (by rfl) rfl rfl (by (try simp only [List.map_toArray, List.map_cons, List.map_nil]); first | done | rfl | (simp only [List.length_drop, List.length_take]; rfl)) ?_
          with_reducible refine (ref09_Cmp.calls kj24 a1_0 a1_1 a1_2 a1_3 a1_4 a2_0 a2_1 a2_2 a2_3 a2_4 t318 _ A36.out).mono ?_
          rintro e w58 ⟨rfl, hb⟩
          refine ⟨_, rfl, ?_⟩
          have n0_ := Aside0.mk (Kd.R_below (RFn.mR HO_7) hb)
          have n1_ := Aside0.mk (Kd.R_below (RFn.mR HO_9) hb)
          have n2_ := Aside0.mk (Kd.R_below (RFn.mR HO315) hb)
          have n3_ := Aside0.mk (blk_below (g := gb294) RFn.blk hb)
          have n4_ := Aside0.mk (blk_below (g := gb295) RFn.blk hb)
          have n5_ := Aside0.mk (below_step RFn.bels hb)
          clear HO_7
          clear HO_9
          clear HO315
          clear BK294
          clear BK295
          clear HB
          have HO_7 := n0_
          have HO_9 := n1_
          have HO315 := n2_
          have BK294 := n3_
          have BK295 := n4_
          have HB := n5_
          clear n0_ n1_ n2_ n3_ n4_ n5_
          (try clear hb)
          (try clear hb2)
          (try clear hk)
          (try clear hi)
          refine hK.out _ _ ⟨(blk_cell BK294.out 0).trans rfl, (blk_cell BK294.out 1).trans rfl, (blk_cell BK294.out 2).trans rfl, (blk_cell BK294.out 3).trans rfl, (blk_cell BK294.out 4).trans rfl, (blk_cell BK295.out 0).trans rfl, (blk_cell BK295.out 1).trans rfl, (blk_cell BK295.out 2).trans rfl, (blk_cell BK295.out 3).trans rfl, (blk_cell BK295.out 4).trans rfl⟩ (fun hHeld => ?_)
          clear hK K
          refine norm_ (a' := ?_) ?_ ?_
          rotate_left
          ·show Act.put _ (some 51) _ = _
           simp only [Act.put, List.setIfInBounds_toArray, List.set_cons_zero, List.set_cons_succ, i64_w, i32_w]
           rfl
          refine RFn.pA (i := 16) (N := some 52) #[tt,tt,tt,tt,tt,tt,tt,tt,tt,tt,tt,tt,tt,tt,tt,tt,tt,ff,ff,ff,ff,ff,ff,ff,ff,ff,ff] HT_ ?_
          refine RFn.pA (i := 17) (N := some 53) #[tt,tt,tt,tt,tt,tt,tt,tt,tt,tt,tt,tt,tt,tt,tt,tt,tt,tt,ff,ff,ff,ff,ff,ff,ff,ff,ff] HT_ ?_
          refine RFn.pA (i := 18) (N := some 54) #[tt,tt,tt,tt,tt,tt,tt,tt,tt,tt,tt,tt,tt,tt,tt,tt,tt,tt,tt,ff,ff,ff,ff,ff,ff,ff,ff] HT_ ?_
          refine RFn.pU (i := 19) (N := some 55) #[tt,tt,tt,tt,tt,tt,tt,tt,tt,tt,tt,tt,tt,tt,tt,tt,tt,tt,tt,tt,ff,ff,ff,ff,ff,ff,ff] HT_ ?_
          refine RFn.pU (i := 20) (N := some 56) #[tt,tt,tt,tt,tt,tt,tt,tt,tt,tt,tt,tt,tt,tt,tt,tt,tt,tt,tt,tt,tt,ff,ff,ff,ff,ff,ff] HT_ ?_
          refine RFn.pU (i := 21) (N := some 57) #[tt,tt,tt,tt,tt,tt,tt,tt,tt,tt,tt,tt,tt,tt,tt,tt,tt,tt,tt,tt,tt,tt,ff,ff,ff,ff,ff] HT_ ?_
          refine RFn.pU (i := 22) (N := some 58) #[tt,tt,tt,tt,tt,tt,tt,tt,tt,tt,tt,tt,tt,tt,tt,tt,tt,tt,tt,tt,tt,tt,tt,ff,ff,ff,ff] HT_ ?_
          refine RFn.pU (i := 23) (N := some 59) #[tt,tt,tt,tt,tt,tt,tt,tt,tt,tt,tt,tt,tt,tt,tt,tt,tt,tt,tt,tt,tt,tt,tt,tt,ff,ff,ff] HT_ ?_
          refine RFn.pU (i := 24) (N := some 60) #[tt,tt,tt,tt,tt,tt,tt,tt,tt,tt,tt,tt,tt,tt,tt,tt,tt,tt,tt,tt,tt,tt,tt,tt,tt,ff,ff] HT_ ?_
          refine RFn.pA (i := 25) (N := some 61) #[tt,tt,tt,tt,tt,tt,tt,tt,tt,tt,tt,tt,tt,tt,tt,tt,tt,tt,tt,tt,tt,tt,tt,tt,tt,tt,ff] HT_ ?_
          refine RFn.pA (i := 26) (N := some 6) #[tt,tt,tt,tt,tt,tt,tt,tt,tt,tt,tt,tt,tt,tt,tt,tt,tt,tt,tt,tt,tt,tt,tt,tt,tt,tt,tt] HT_ ?_
          refine done_ (done_of HT_.out (by kernel_rfl)) ?_
          try go_wp2
          go_ret
          exact ⟨by first | rfl | (simp [errW_none, errW_some] <;> rfl) | (simp [*, errW_none, errW_some] <;> rfl), RFn.bels⟩
        ·rw [if_neg c34] at H
         have c34b0 : (t306 == x10_24) = false := beq_eq_false_iff_ne.mpr c34
         have c34b1 : (t306 != x10_24) = true := bne_iff_ne.mpr c34
         obtain rfl := Option.some.inj H
         try go_wp2
         have n0_ := Aside0.mk (Kd.R_drew HO_7.out)
         have n1_ := Aside0.mk (Kd.R_drew HO_9.out)
         have n2_ := Aside0.mk (blk_drew BK294.out)
         have n3_ := Aside0.mk (blk_drew BK295.out)
         have n4_ := Aside0.mk (below_drew1 HB.out)
         clear HO_7
         clear HO_9
         clear BK294
         clear BK295
         clear HB
         have HO_7 := n0_
         have HO_9 := n1_
         have BK294 := n2_
         have BK295 := n3_
         have HB := n4_
         clear n0_ n1_ n2_ n3_ n4_
         obtain ⟨Ao60, co60, eo60⟩ := Kd.R_slice HO_7.out
         (first | subst eo60 | (injection eo60 with f1_ f2_ f3_; have f4_ := f1_.symm; have f5_ := f3_.symm; clear f1_ f2_ f3_; subst f4_; subst f5_))
         refine start_ (n := 27) (S := fun w' => True) (ds := []) #[ff,ff,ff,ff,ff,ff,ff,ff,ff,ff,ff,ff,ff,ff,ff,ff,ff,ff,ff,ff,ff,ff,ff,ff,ff,ff,ff] (by kernel_rfl) rfl rfl trivial (fun hHeld => ?_); refine with_tabW law09_FactTells.tab7 law09_FactTells.bits7 (fun HT_ HW_ => ?_)
         generalize wc.drew = w59 at HO_7 HO_9 BK294 BK295 HB hHeld ⊢
         refine RFn.pA (i := 0) (N := some 36) #[tt,ff,ff,ff,ff,ff,ff,ff,ff,ff,ff,ff,ff,ff,ff,ff,ff,ff,ff,ff,ff,ff,ff,ff,ff,ff,ff] HT_ ?_
         refine RFn.pA (i := 2) (N := some 38) #[tt,ff,tt,ff,ff,ff,ff,ff,ff,ff,ff,ff,ff,ff,ff,ff,ff,ff,ff,ff,ff,ff,ff,ff,ff,ff,ff] HT_ ?_
         refine one_ (i := 1) (N := some 37) #[tt,tt,tt,ff,ff,ff,ff,ff,ff,ff,ff,ff,ff,ff,ff,ff,ff,ff,ff,ff,ff,ff,ff,ff,ff,ff,ff] rfl rfl (one_of HT_.out (by kernel_rfl)) (by decide) (fun K hK => ?_)
         refine goes_ Try.func16 (by kernel_rfl) rfl #[.slice Ao60 t305.length co60] (by rfl) rfl rfl (by (try simp only [List.map_toArray, List.map_cons, List.map_nil]); first | done | rfl | (simp only [List.length_drop, List.length_take]; rfl)) ?_
         with_reducible refine (law09_Ours.calls kj24 _ _ t305 t313 _ ?side1 ?side2 A31.out).mono ?_
         (case side1 => exact RFn.mC (Kd.R_reads' HO_7.out).2.2)
         (case side2 => exact (Kd.R_reads' HO_7.out).2.1)
         rintro e w61 ⟨v314, rfl, ho0, hb⟩
         refine ⟨_, rfl, ?_⟩
         have n0_ := Aside0.mk (Kd.R_below (RFn.mR HO_7) hb)
         have n1_ := Aside0.mk (Kd.R_elder' (RFn.mR HO_9) (Kd.R_base ho0) hb)
         have n2_ := Aside0.mk (Kd.R_lower (Kd.R_new' ho0 (Kd.R_lt (RFn.mR HO_9))) (below_size RFn.bels))
         have n3_ := Aside0.mk (blk_below (g := gb294) RFn.blk hb)
         have n4_ := Aside0.mk (blk_below (g := gb295) RFn.blk hb)
         have n5_ := Aside0.mk (below_step RFn.bels hb)
         clear HO_7
         clear HO_9
         clear BK294
         clear BK295
         clear HB
         have HO_7 := n0_
         have HO_9 := n1_
         have HO315 := n2_
         have BK294 := n3_
         have BK295 := n4_
         have HB := n5_
         clear n0_ n1_ n2_ n3_ n4_ n5_
         (try clear hb)
         (try clear hb2)
         (try clear hk)
         (try clear hi)
         (try clear ho0)
         obtain ⟨Ao62, co62, eo62⟩ := Kd.R_slice HO315.out
         (first | subst eo62 | (injection eo62 with f1_ f2_ f3_; have f4_ := f1_.symm; have f5_ := f3_.symm; clear f1_ f2_ f3_; subst f4_; subst f5_))
         obtain ⟨Ao63, co63, eo63⟩ := Kd.R_slice HO_9.out
         (first | subst eo63 | (injection eo63 with f1_ f2_ f3_; have f4_ := f1_.symm; have f5_ := f3_.symm; clear f1_ f2_ f3_; subst f4_; subst f5_))
         refine hK.out _ _ trivial (fun hHeld => ?_)
         clear hK K
         refine norm_ (a' := ?_) ?_ ?_
         rotate_left
         ·show Act.put _ (some 37) _ = _
          simp only [Act.put, List.setIfInBounds_toArray, List.set_cons_zero, List.set_cons_succ, i64_w, i32_w]
          rfl
         refine one_ (i := 3) (N := some 39) #[tt,tt,tt,tt,ff,ff,ff,ff,ff,ff,ff,ff,ff,ff,ff,ff,ff,ff,ff,ff,ff,ff,ff,ff,ff,ff,ff] rfl rfl (one_of HT_.out (by kernel_rfl)) (by decide) (fun K hK => ?_)
         refine goes_ Try.func15 (by kernel_rfl) rfl #[.slice Ao62 t313.length co62, .slice Ao63 x9_24.length co63] (by rfl) rfl rfl (by (try simp only [List.map_toArray, List.map_cons, List.map_nil]); first | done | rfl | (simp only [List.length_drop, List.length_take]; rfl)) ?_
         with_reducible refine (ref09_Same.calls kj24 _ _ t313 _ _ x9_24 true _ ?side1 ?side2 ?side3 ?side4 A32.out).mono ?_
         (case side1 => exact RFn.mC (Kd.R_reads' HO315.out).2.2)
         (case side2 => exact (Kd.R_reads' HO315.out).2.1)
         (case side3 => exact RFn.mC (Kd.R_reads' HO_9.out).2.2)
         (case side4 => exact (Kd.R_reads' HO_9.out).2.1)
         rintro e w' ⟨rfl, ⟨nd, rfl⟩⟩
         refine ⟨_, rfl, ?_⟩
         refine hK.out _ _ trivial (fun hHeld => ?_)
         clear hK K
         refine norm_ (a' := ?_) ?_ ?_
         rotate_left
         ·show Act.put _ (some 39) _ = _
          simp only [Act.put, List.setIfInBounds_toArray, List.set_cons_zero, List.set_cons_succ, i64_w, i32_w]
          rfl
         refine RFn.pA (i := 4) (N := some 40) #[tt,tt,tt,tt,tt,ff,ff,ff,ff,ff,ff,ff,ff,ff,ff,ff,ff,ff,ff,ff,ff,ff,ff,ff,ff,ff,ff] HT_ ?_
         refine RFn.pA (i := 5) (N := some 41) #[tt,tt,tt,tt,tt,tt,ff,ff,ff,ff,ff,ff,ff,ff,ff,ff,ff,ff,ff,ff,ff,ff,ff,ff,ff,ff,ff] HT_ ?_
         refine RFn.pA (i := 6) (N := some 42) #[tt,tt,tt,tt,tt,tt,tt,ff,ff,ff,ff,ff,ff,ff,ff,ff,ff,ff,ff,ff,ff,ff,ff,ff,ff,ff,ff] HT_ ?_
         refine RFn.pA (i := 7) (N := some 43) #[tt,tt,tt,tt,tt,tt,tt,tt,ff,ff,ff,ff,ff,ff,ff,ff,ff,ff,ff,ff,ff,ff,ff,ff,ff,ff,ff] HT_ ?_
         refine RFn.pA (i := 8) (N := some 44) #[tt,tt,tt,tt,tt,tt,tt,tt,tt,ff,ff,ff,ff,ff,ff,ff,ff,ff,ff,ff,ff,ff,ff,ff,ff,ff,ff] HT_ ?_
         refine RFn.pA (i := 9) (N := some 45) #[tt,tt,tt,tt,tt,tt,tt,tt,tt,tt,ff,ff,ff,ff,ff,ff,ff,ff,ff,ff,ff,ff,ff,ff,ff,ff,ff] HT_ ?_
         refine RFn.pU (i := 10) (N := some 46) #[tt,tt,tt,tt,tt,tt,tt,tt,tt,tt,tt,ff,ff,ff,ff,ff,ff,ff,ff,ff,ff,ff,ff,ff,ff,ff,ff] HT_ ?_
         refine RFn.pU (i := 11) (N := some 47) #[tt,tt,tt,tt,tt,tt,tt,tt,tt,tt,tt,tt,ff,ff,ff,ff,ff,ff,ff,ff,ff,ff,ff,ff,ff,ff,ff] HT_ ?_
         refine RFn.pU (i := 12) (N := some 48) #[tt,tt,tt,tt,tt,tt,tt,tt,tt,tt,tt,tt,tt,ff,ff,ff,ff,ff,ff,ff,ff,ff,ff,ff,ff,ff,ff] HT_ ?_
         refine RFn.pU (i := 13) (N := some 49) #[tt,tt,tt,tt,tt,tt,tt,tt,tt,tt,tt,tt,tt,tt,ff,ff,ff,ff,ff,ff,ff,ff,ff,ff,ff,ff,ff] HT_ ?_
         refine RFn.pU (i := 14) (N := some 50) #[tt,tt,tt,tt,tt,tt,tt,tt,tt,tt,tt,tt,tt,tt,tt,ff,ff,ff,ff,ff,ff,ff,ff,ff,ff,ff,ff] HT_ ?_
         refine RFn.pU (i := 15) (N := some 51) #[tt,tt,tt,tt,tt,tt,tt,tt,tt,tt,tt,tt,tt,tt,tt,tt,ff,ff,ff,ff,ff,ff,ff,ff,ff,ff,ff] HT_ ?_
         refine RFn.pU (i := 16) (N := some 52) #[tt,tt,tt,tt,tt,tt,tt,tt,tt,tt,tt,tt,tt,tt,tt,tt,tt,ff,ff,ff,ff,ff,ff,ff,ff,ff,ff] HT_ ?_
         refine RFn.pA (i := 17) (N := some 53) #[tt,tt,tt,tt,tt,tt,tt,tt,tt,tt,tt,tt,tt,tt,tt,tt,tt,tt,ff,ff,ff,ff,ff,ff,ff,ff,ff] HT_ ?_
         refine RFn.pA (i := 18) (N := some 54) #[tt,tt,tt,tt,tt,tt,tt,tt,tt,tt,tt,tt,tt,tt,tt,tt,tt,tt,tt,ff,ff,ff,ff,ff,ff,ff,ff] HT_ ?_
         refine RFn.pU (i := 19) (N := some 55) #[tt,tt,tt,tt,tt,tt,tt,tt,tt,tt,tt,tt,tt,tt,tt,tt,tt,tt,tt,tt,ff,ff,ff,ff,ff,ff,ff] HT_ ?_
         refine RFn.pU (i := 20) (N := some 56) #[tt,tt,tt,tt,tt,tt,tt,tt,tt,tt,tt,tt,tt,tt,tt,tt,tt,tt,tt,tt,tt,ff,ff,ff,ff,ff,ff] HT_ ?_
         refine RFn.pU (i := 21) (N := some 57) #[tt,tt,tt,tt,tt,tt,tt,tt,tt,tt,tt,tt,tt,tt,tt,tt,tt,tt,tt,tt,tt,tt,ff,ff,ff,ff,ff] HT_ ?_
         refine RFn.pU (i := 22) (N := some 58) #[tt,tt,tt,tt,tt,tt,tt,tt,tt,tt,tt,tt,tt,tt,tt,tt,tt,tt,tt,tt,tt,tt,tt,ff,ff,ff,ff] HT_ ?_
         refine RFn.pU (i := 23) (N := some 59) #[tt,tt,tt,tt,tt,tt,tt,tt,tt,tt,tt,tt,tt,tt,tt,tt,tt,tt,tt,tt,tt,tt,tt,tt,ff,ff,ff] HT_ ?_
         refine RFn.pU (i := 24) (N := some 60) #[tt,tt,tt,tt,tt,tt,tt,tt,tt,tt,tt,tt,tt,tt,tt,tt,tt,tt,tt,tt,tt,tt,tt,tt,tt,ff,ff] HT_ ?_
         refine RFn.pA (i := 25) (N := some 61) #[tt,tt,tt,tt,tt,tt,tt,tt,tt,tt,tt,tt,tt,tt,tt,tt,tt,tt,tt,tt,tt,tt,tt,tt,tt,tt,ff] HT_ ?_
         refine RFn.pA (i := 26) (N := some 6) #[tt,tt,tt,tt,tt,tt,tt,tt,tt,tt,tt,tt,tt,tt,tt,tt,tt,tt,tt,tt,tt,tt,tt,tt,tt,tt,tt] HT_ ?_
         refine done_ (done_of HT_.out (by kernel_rfl)) ?_
         try go_wp2
         go_ret
         exact ⟨by first | rfl | (simp [errW_none, errW_some] <;> rfl) | (simp [*, errW_none, errW_some] <;> rfl), RFn.bels⟩
       ·replace c33 := Bool.eq_false_iff.mpr c33
        subst c33
        have H1 : (some false) = some r := by rw [if_neg (show ¬ (false = true) by decide)] at H; exact H
        clear H
        have H := H1
        clear H1
        obtain rfl := Option.some.inj H
        try go_wp2
        have n0_ := Aside0.mk (Kd.R_drew HO_7.out)
        have n1_ := Aside0.mk (Kd.R_drew HO_9.out)
        have n2_ := Aside0.mk (blk_drew BK294.out)
        have n3_ := Aside0.mk (blk_drew BK295.out)
        have n4_ := Aside0.mk (below_drew1 HB.out)
        clear HO_7
        clear HO_9
        clear BK294
        clear BK295
        clear HB
        have HO_7 := n0_
        have HO_9 := n1_
        have BK294 := n2_
        have BK295 := n3_
        have HB := n4_
        clear n0_ n1_ n2_ n3_ n4_
        obtain ⟨Ao65, co65, eo65⟩ := Kd.R_slice HO_7.out
        (first | subst eo65 | (injection eo65 with f1_ f2_ f3_; have f4_ := f1_.symm; have f5_ := f3_.symm; clear f1_ f2_ f3_; subst f4_; subst f5_))
        refine start_ (n := 27) (S := fun w' => True) (ds := []) #[ff,ff,ff,ff,ff,ff,ff,ff,ff,ff,ff,ff,ff,ff,ff,ff,ff,ff,ff,ff,ff,ff,ff,ff,ff,ff,ff] (by kernel_rfl) rfl rfl trivial (fun hHeld => ?_); refine with_tabW law09_FactTells.tab7 law09_FactTells.bits7 (fun HT_ HW_ => ?_)
        generalize wc.drew = w64 at HO_7 HO_9 BK294 BK295 HB hHeld ⊢
        refine RFn.pA (i := 0) (N := some 36) #[tt,ff,ff,ff,ff,ff,ff,ff,ff,ff,ff,ff,ff,ff,ff,ff,ff,ff,ff,ff,ff,ff,ff,ff,ff,ff,ff] HT_ ?_
        refine RFn.pA (i := 2) (N := some 38) #[tt,ff,tt,ff,ff,ff,ff,ff,ff,ff,ff,ff,ff,ff,ff,ff,ff,ff,ff,ff,ff,ff,ff,ff,ff,ff,ff] HT_ ?_
        refine one_ (i := 1) (N := some 37) #[tt,tt,tt,ff,ff,ff,ff,ff,ff,ff,ff,ff,ff,ff,ff,ff,ff,ff,ff,ff,ff,ff,ff,ff,ff,ff,ff] rfl rfl (one_of HT_.out (by kernel_rfl)) (by decide) (fun K hK => ?_)
        refine goes_ Try.func16 (by kernel_rfl) rfl #[.slice Ao65 t305.length co65] (by rfl) rfl rfl (by (try simp only [List.map_toArray, List.map_cons, List.map_nil]); first | done | rfl | (simp only [List.length_drop, List.length_take]; rfl)) ?_
        with_reducible refine (law09_Ours.calls kj24 _ _ t305 t313 _ ?side1 ?side2 A31.out).mono ?_
        (case side1 => exact RFn.mC (Kd.R_reads' HO_7.out).2.2)
        (case side2 => exact (Kd.R_reads' HO_7.out).2.1)
        rintro e w66 ⟨v314, rfl, ho0, hb⟩
        refine ⟨_, rfl, ?_⟩
        have n0_ := Aside0.mk (Kd.R_below (RFn.mR HO_7) hb)
        have n1_ := Aside0.mk (Kd.R_elder' (RFn.mR HO_9) (Kd.R_base ho0) hb)
        have n2_ := Aside0.mk (Kd.R_lower (Kd.R_new' ho0 (Kd.R_lt (RFn.mR HO_9))) (below_size RFn.bels))
        have n3_ := Aside0.mk (blk_below (g := gb294) RFn.blk hb)
        have n4_ := Aside0.mk (blk_below (g := gb295) RFn.blk hb)
        have n5_ := Aside0.mk (below_step RFn.bels hb)
        clear HO_7
        clear HO_9
        clear BK294
        clear BK295
        clear HB
        have HO_7 := n0_
        have HO_9 := n1_
        have HO315 := n2_
        have BK294 := n3_
        have BK295 := n4_
        have HB := n5_
        clear n0_ n1_ n2_ n3_ n4_ n5_
        (try clear hb)
        (try clear hb2)
        (try clear hk)
        (try clear hi)
        (try clear ho0)
        obtain ⟨Ao67, co67, eo67⟩ := Kd.R_slice HO315.out
        (first | subst eo67 | (injection eo67 with f1_ f2_ f3_; have f4_ := f1_.symm; have f5_ := f3_.symm; clear f1_ f2_ f3_; subst f4_; subst f5_))
        obtain ⟨Ao68, co68, eo68⟩ := Kd.R_slice HO_9.out
        (first | subst eo68 | (injection eo68 with f1_ f2_ f3_; have f4_ := f1_.symm; have f5_ := f3_.symm; clear f1_ f2_ f3_; subst f4_; subst f5_))
        refine hK.out _ _ trivial (fun hHeld => ?_)
        clear hK K
        refine norm_ (a' := ?_) ?_ ?_
        rotate_left
        ·show Act.put _ (some 37) _ = _
         simp only [Act.put, List.setIfInBounds_toArray, List.set_cons_zero, List.set_cons_succ, i64_w, i32_w]
         rfl
        refine one_ (i := 3) (N := some 39) #[tt,tt,tt,tt,ff,ff,ff,ff,ff,ff,ff,ff,ff,ff,ff,ff,ff,ff,ff,ff,ff,ff,ff,ff,ff,ff,ff] rfl rfl (one_of HT_.out (by kernel_rfl)) (by decide) (fun K hK => ?_)
        refine goes_ Try.func15 (by kernel_rfl) rfl #[.slice Ao67 t313.length co67, .slice Ao68 x9_24.length co68] (by rfl) rfl rfl (by (try simp only [List.map_toArray, List.map_cons, List.map_nil]); first | done | rfl | (simp only [List.length_drop, List.length_take]; rfl)) ?_
        with_reducible refine (ref09_Same.calls kj24 _ _ t313 _ _ x9_24 false _ ?side1 ?side2 ?side3 ?side4 A32.out).mono ?_
        (case side1 => exact RFn.mC (Kd.R_reads' HO315.out).2.2)
        (case side2 => exact (Kd.R_reads' HO315.out).2.1)
        (case side3 => exact RFn.mC (Kd.R_reads' HO_9.out).2.2)
        (case side4 => exact (Kd.R_reads' HO_9.out).2.1)
        rintro e w' ⟨rfl, ⟨nd, rfl⟩⟩
        refine ⟨_, rfl, ?_⟩
        refine hK.out _ _ trivial (fun hHeld => ?_)
        clear hK K
        refine norm_ (a' := ?_) ?_ ?_
        rotate_left
        ·show Act.put _ (some 39) _ = _
         simp only [Act.put, List.setIfInBounds_toArray, List.set_cons_zero, List.set_cons_succ, i64_w, i32_w]
         rfl
        refine RFn.pA (i := 4) (N := some 40) #[tt,tt,tt,tt,tt,ff,ff,ff,ff,ff,ff,ff,ff,ff,ff,ff,ff,ff,ff,ff,ff,ff,ff,ff,ff,ff,ff] HT_ ?_
        refine RFn.pU (i := 5) (N := some 41) #[tt,tt,tt,tt,tt,tt,ff,ff,ff,ff,ff,ff,ff,ff,ff,ff,ff,ff,ff,ff,ff,ff,ff,ff,ff,ff,ff] HT_ ?_
        refine RFn.pU (i := 6) (N := some 42) #[tt,tt,tt,tt,tt,tt,tt,ff,ff,ff,ff,ff,ff,ff,ff,ff,ff,ff,ff,ff,ff,ff,ff,ff,ff,ff,ff] HT_ ?_
        refine RFn.pU (i := 7) (N := some 43) #[tt,tt,tt,tt,tt,tt,tt,tt,ff,ff,ff,ff,ff,ff,ff,ff,ff,ff,ff,ff,ff,ff,ff,ff,ff,ff,ff] HT_ ?_
        refine RFn.pA (i := 8) (N := some 44) #[tt,tt,tt,tt,tt,tt,tt,tt,tt,ff,ff,ff,ff,ff,ff,ff,ff,ff,ff,ff,ff,ff,ff,ff,ff,ff,ff] HT_ ?_
        refine RFn.pA (i := 9) (N := some 45) #[tt,tt,tt,tt,tt,tt,tt,tt,tt,tt,ff,ff,ff,ff,ff,ff,ff,ff,ff,ff,ff,ff,ff,ff,ff,ff,ff] HT_ ?_
        refine RFn.pU (i := 10) (N := some 46) #[tt,tt,tt,tt,tt,tt,tt,tt,tt,tt,tt,ff,ff,ff,ff,ff,ff,ff,ff,ff,ff,ff,ff,ff,ff,ff,ff] HT_ ?_
        refine RFn.pU (i := 11) (N := some 47) #[tt,tt,tt,tt,tt,tt,tt,tt,tt,tt,tt,tt,ff,ff,ff,ff,ff,ff,ff,ff,ff,ff,ff,ff,ff,ff,ff] HT_ ?_
        refine RFn.pU (i := 12) (N := some 48) #[tt,tt,tt,tt,tt,tt,tt,tt,tt,tt,tt,tt,tt,ff,ff,ff,ff,ff,ff,ff,ff,ff,ff,ff,ff,ff,ff] HT_ ?_
        refine RFn.pU (i := 13) (N := some 49) #[tt,tt,tt,tt,tt,tt,tt,tt,tt,tt,tt,tt,tt,tt,ff,ff,ff,ff,ff,ff,ff,ff,ff,ff,ff,ff,ff] HT_ ?_
        refine RFn.pU (i := 14) (N := some 50) #[tt,tt,tt,tt,tt,tt,tt,tt,tt,tt,tt,tt,tt,tt,tt,ff,ff,ff,ff,ff,ff,ff,ff,ff,ff,ff,ff] HT_ ?_
        refine RFn.pU (i := 15) (N := some 51) #[tt,tt,tt,tt,tt,tt,tt,tt,tt,tt,tt,tt,tt,tt,tt,tt,ff,ff,ff,ff,ff,ff,ff,ff,ff,ff,ff] HT_ ?_
        refine RFn.pU (i := 16) (N := some 52) #[tt,tt,tt,tt,tt,tt,tt,tt,tt,tt,tt,tt,tt,tt,tt,tt,tt,ff,ff,ff,ff,ff,ff,ff,ff,ff,ff] HT_ ?_
        refine RFn.pA (i := 17) (N := some 53) #[tt,tt,tt,tt,tt,tt,tt,tt,tt,tt,tt,tt,tt,tt,tt,tt,tt,tt,ff,ff,ff,ff,ff,ff,ff,ff,ff] HT_ ?_
        refine RFn.pA (i := 18) (N := some 54) #[tt,tt,tt,tt,tt,tt,tt,tt,tt,tt,tt,tt,tt,tt,tt,tt,tt,tt,tt,ff,ff,ff,ff,ff,ff,ff,ff] HT_ ?_
        refine RFn.pU (i := 19) (N := some 55) #[tt,tt,tt,tt,tt,tt,tt,tt,tt,tt,tt,tt,tt,tt,tt,tt,tt,tt,tt,tt,ff,ff,ff,ff,ff,ff,ff] HT_ ?_
        refine RFn.pU (i := 20) (N := some 56) #[tt,tt,tt,tt,tt,tt,tt,tt,tt,tt,tt,tt,tt,tt,tt,tt,tt,tt,tt,tt,tt,ff,ff,ff,ff,ff,ff] HT_ ?_
        refine RFn.pU (i := 21) (N := some 57) #[tt,tt,tt,tt,tt,tt,tt,tt,tt,tt,tt,tt,tt,tt,tt,tt,tt,tt,tt,tt,tt,tt,ff,ff,ff,ff,ff] HT_ ?_
        refine RFn.pU (i := 22) (N := some 58) #[tt,tt,tt,tt,tt,tt,tt,tt,tt,tt,tt,tt,tt,tt,tt,tt,tt,tt,tt,tt,tt,tt,tt,ff,ff,ff,ff] HT_ ?_
        refine RFn.pU (i := 23) (N := some 59) #[tt,tt,tt,tt,tt,tt,tt,tt,tt,tt,tt,tt,tt,tt,tt,tt,tt,tt,tt,tt,tt,tt,tt,tt,ff,ff,ff] HT_ ?_
        refine RFn.pU (i := 24) (N := some 60) #[tt,tt,tt,tt,tt,tt,tt,tt,tt,tt,tt,tt,tt,tt,tt,tt,tt,tt,tt,tt,tt,tt,tt,tt,tt,ff,ff] HT_ ?_
        refine RFn.pA (i := 25) (N := some 61) #[tt,tt,tt,tt,tt,tt,tt,tt,tt,tt,tt,tt,tt,tt,tt,tt,tt,tt,tt,tt,tt,tt,tt,tt,tt,tt,ff] HT_ ?_
        refine RFn.pA (i := 26) (N := some 6) #[tt,tt,tt,tt,tt,tt,tt,tt,tt,tt,tt,tt,tt,tt,tt,tt,tt,tt,tt,tt,tt,tt,tt,tt,tt,tt,tt] HT_ ?_
        refine done_ (done_of HT_.out (by kernel_rfl)) ?_
        try go_wp2
        go_ret
        exact ⟨by first | rfl | (simp [errW_none, errW_some] <;> rfl) | (simp [*, errW_none, errW_some] <;> rfl), RFn.bels⟩
 ·replace c5 := Bool.eq_false_iff.mpr c5
  subst c5
  have H1 : (some false) = some r := by rw [if_neg (show ¬ (false = true) by decide)] at H; exact H
  clear H
  have H := H1
  clear H1
  obtain rfl := Option.some.inj H
  go_enter Try.func3, Try.ntmps3
  go_wp2_with (first | ((with_reducible refine gate_dst (N := 4) rfl ?_); (try (refine gate_guard (by rfl) ?_; dsimp only)); refine box_event ?hg (N := 4) ?hd (cs := #[.string a1_0, .string a1_1, .string a1_2, .string a1_3, .int .i64 a1_4]) (t := 24) ?hr ?_; (case hd => rfl); (case hg => rfl); (case hr => first | (go_simp; done) | (go_simp; rfl)); intro gb294 hg w69 hbox hb; have n0_ := Aside0.mk (below_step (RFn.bel) hb); have n1_ := Aside0.mk (hbox); have n2_ := Aside0.mk ((by rw [hg]; exact (below_size (RFn.bel)) : w.heap.size ≤ gb294)); have n3_ := Aside0.mk ((by rw [hg]; exact (below_size (RFn.bel)) : w.heap.size ≤ gb294)); clear HB; have HB := n0_; have BK294 := n1_; have GW294 := n2_; have GE294 := n3_; clear n0_ n1_ n2_ n3_; clear hb hbox hg) | ((with_reducible refine gate_dst (N := 5) rfl ?_); (try (refine gate_guard (by rfl) ?_; dsimp only)); refine box_event ?hg (N := 5) ?hd (cs := #[.string a2_0, .string a2_1, .string a2_2, .string a2_3, .int .i64 a2_4]) (t := 24) ?hr ?_; (case hd => rfl); (case hg => rfl); (case hr => first | (go_simp; done) | (go_simp; rfl)); intro gb295 hg w70 hbox hb; have n0_ := Aside0.mk (blk_below (g := gb294) RFn.blk hb); have n1_ := Aside0.mk (below_step RFn.bels hb); have n2_ := Aside0.mk (hbox); have n3_ := Aside0.mk ((by rw [hg]; exact (below_size RFn.bels) : w.heap.size ≤ gb295)); have n4_ := Aside0.mk ((by rw [hg]; exact (below_size RFn.bels) : w.heap.size ≤ gb295)); have n5_ := Aside0.mk ((by rw [hg]; exact Nat.ne_of_lt (blk_lt (g := gb294) RFn.blk) : gb294 ≠ gb295)); have n6_ := Aside0.mk ((by rw [hg]; exact Nat.ne_of_gt (blk_lt (g := gb294) RFn.blk) : gb295 ≠ gb294)); clear BK294; clear HB; have BK294 := n0_; have HB := n1_; have BK295 := n2_; have GW295 := n3_; have GE295 := n4_; have NB294_295 := n5_; have NB295_294 := n6_; clear n0_ n1_ n2_ n3_ n4_ n5_ n6_; clear hb hbox hg) | ((with_reducible refine gate_callee (f := 10) rfl ?_); refine RFn.goesM (some 11) Try.func10 #[] rfl ?_; (with_reducible refine (law09_alive.calls k  false _ A4.out).mono ?_); rintro e w71 ⟨rfl, hb⟩; refine ⟨_, rfl, ?_⟩; have n0_ := Aside0.mk (blk_below (g := gb294) RFn.blk hb); have n1_ := Aside0.mk (blk_below (g := gb295) RFn.blk hb); have n2_ := Aside0.mk (below_step RFn.bels hb); clear BK294; clear BK295; clear HB; have BK294 := n0_; have BK295 := n1_; have HB := n2_; clear n0_ n1_ n2_; (try clear hb); (try clear hb2); (try clear hk); (try clear hi)))
  go_ret
  exact ⟨by first | rfl | (simp [errW_none, errW_some] <;> rfl) | (simp [*, errW_none, errW_some] <;> rfl), RFn.bels⟩

/-- THE ONE PURE STATEMENT of law09_FactTells: ours. -/
def law09_FactTells.Pure : Prop := ∀ (l0 : List (S28)) (a1_0 : ByteArray) (a1_1 : ByteArray) (a1_2 : ByteArray) (a1_3 : ByteArray) (a1_4 : Int) (a2_0 : ByteArray) (a2_1 : ByteArray) (a2_2 : ByteArray) (a2_3 : ByteArray) (a2_4 : Int), l0.length ≤ 9223372036854775807 → (∀ x ∈ l0, g28 x) → a1_0.size ≤ 9223372036854775807 → a1_1.size ≤ 9223372036854775807 → a1_2.size ≤ 9223372036854775807 → a1_3.size ≤ 9223372036854775807 → (Lit.int .i64 a1_4).wf = true → a2_0.size ≤ 9223372036854775807 → a2_1.size ≤ 9223372036854775807 → a2_2.size ≤ 9223372036854775807 → a2_3.size ≤ 9223372036854775807 → (Lit.int .i64 a2_4).wf = true → ∃ k, law09_FactTells.f k l0 a1_0 a1_1 a1_2 a1_3 a1_4 a2_0 a2_1 a2_2 a2_3 a2_4 = some true

end Go.Proofs.Ytgheapbhakamaaa.Q
