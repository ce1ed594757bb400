/- printed by a program of this session (wip/tools/pr.sh): it is not a print of the kit -/
import Derived.Test.YtgheapbhakamaaaQx0
import Derived.Test.YtgheapbhakamaaaQx3
import Derived.Test.YtgheapbhakamaaaQx6
import Derived.Test.YtgheapbhakamaaaQx7
import Derived.Test.YtgheapbhakamaaaQx8
import Derived.Test.YtgheapbhakamaaaQx9
namespace Go.Proofs.Ytgheapbhakamaaa.Q
open Go.RowKit Go.Proofs.YtgheapbhakamaaaW.PrintWords Go.Proofs.YtgheapbhakamaaaW.PrintLast Go.Proofs.YtgheapbhakamaaaW.PrintMore
attribute [local go_sem] max2_int min2_int max_two min_two max_three min_three max_four min_four RFn.gtr_str   -- for this text's walks alone
set_option linter.unusedVariables false
set_option linter.unusedSimpArgs false
/-! ### law09_alive: function 10 -/
def law09_alive.j0 : Nat → List (S60) → Int → Int → Int → List (S60) → Int → ByteArray → ByteArray → ByteArray → ByteArray → Int → ByteArray → ByteArray → ByteArray → ByteArray → Int → Option (Bool)
 | 0, _, _, _, _, _, _, _, _, _, _, _, _, _, _, _, _ => none
 | k + 1, x3, x4, x5, x6, x7, x8, x191000, x191001, x191002, x191003, x191004, x192000, x192001, x192002, x192003, x192004 => if x4 = 0 then (if (x3.length : Int) = 2 then (if 0 < (x3.length : Int) then (if ((rd_T60 x3 0).f1) = 3 then (if x5 = 8 then (if x6 = 0 then (if x8 = 0 then (if (x7.length : Int) = 1 then ((fact_Get.f k x3 x192000 x192001 x192002 x192003 x192004).bind fun t209 => (if t209 = 5 then ((fact_Cmp.f k x191000 x191001 x191002 x191003 x191004 x192000 x192001 x192002 x192003 x192004).bind fun t210 => (if t210 = (-1) then ((fact_Right.f k x3).bind fun t211 => (if t211 = true then ((fact_Pick.f k x3 (⟨#[69]⟩ : ByteArray) 0).bind fun t212 => (some ((t212.length : Int) == 2))) else (some false))) else (some false))) else (some false))) else (some false)) else (some false)) else (some false)) else (some false)) else (some false)) else (none)) else (some false)) else (some false)
def law09_alive.f (k : Nat)  : Option (Bool) := (fact_Of.f k (([(⟨(⟨(⟨#[69]⟩ : ByteArray), (⟨#[98]⟩ : ByteArray), (⟨#[]⟩ : ByteArray), (⟨#[]⟩ : ByteArray), 0⟩ : S40), 5⟩ : S60), (⟨(⟨(⟨#[69]⟩ : ByteArray), (⟨#[97]⟩ : ByteArray), (⟨#[]⟩ : ByteArray), (⟨#[]⟩ : ByteArray), 0⟩ : S40), 1⟩ : S60), (⟨(⟨(⟨#[69]⟩ : ByteArray), (⟨#[97]⟩ : ByteArray), (⟨#[]⟩ : ByteArray), (⟨#[]⟩ : ByteArray), 0⟩ : S40), 2⟩ : S60)] : List (S60)))).bind fun bt195 => ((fact_Sum.f k bt195.1 (⟨#[]⟩ : ByteArray) (⟨#[]⟩ : ByteArray) (⟨#[]⟩ : ByteArray)).bind fun bt199 => ((fact_Add.f k bt195.1 (([(⟨(⟨(⟨#[69]⟩ : ByteArray), (⟨#[98]⟩ : ByteArray), (⟨#[]⟩ : ByteArray), (⟨#[]⟩ : ByteArray), 0⟩ : S40), (-5)⟩ : S60)] : List (S60)))).bind fun bt204 => (law09_alive.j0 k bt195.1 bt195.2 bt199.1 bt199.2 bt204.1 bt204.2 (⟨#[69]⟩ : ByteArray) (⟨#[97]⟩ : ByteArray) (⟨#[]⟩ : ByteArray) (⟨#[]⟩ : ByteArray) 0 (⟨#[69]⟩ : ByteArray) (⟨#[98]⟩ : ByteArray) (⟨#[]⟩ : ByteArray) (⟨#[]⟩ : ByteArray) 0)))
theorem law09_alive.mono_l : ∀ k, (∀ y0 y1 y2 y3 y4 y5 y6 y7 y8 y9 y10 y11 y12 y13 y14 y15, LeO (law09_alive.j0 k y0 y1 y2 y3 y4 y5 y6 y7 y8 y9 y10 y11 y12 y13 y14 y15) (law09_alive.j0 (k + 1) y0 y1 y2 y3 y4 y5 y6 y7 y8 y9 y10 y11 y12 y13 y14 y15))
 | 0 => fun _ _ _ _ _ _ _ _ _ _ _ _ _ _ _ _ r h => by simp [law09_alive.j0] at h
 | k + 1 => by
  have ih0 := law09_alive.mono_l k
  ·intro y0 y1 y2 y3 y4 y5 y6 y7 y8 y9 y10 y11 y12 y13 y14 y15
   unfold law09_alive.j0
   repeat' first | exact LeO.refl _ | with_reducible first | apply ih0 | apply fact_Add.mono | apply fact_Cmp.mono | apply fact_Get.mono | apply fact_Of.mono | apply fact_Pick.mono | apply fact_Right.mono | apply fact_Sum.mono | exact LeO.none _ | apply LeO.ite | refine LeO.bind ?_ fun _ => ?_
theorem law09_alive.mono : ∀ k, LeO (law09_alive.f k ) (law09_alive.f (k + 1) ) := by
 intro  k
 have ih0 := law09_alive.mono_l k
 unfold law09_alive.f
 repeat' first | exact LeO.refl _ | with_reducible first | apply ih0 | apply fact_Add.mono | apply fact_Cmp.mono | apply fact_Get.mono | apply fact_Of.mono | apply fact_Pick.mono | apply fact_Right.mono | apply fact_Sum.mono | exact LeO.none _ | apply LeO.ite | refine LeO.bind ?_ fun _ => ?_
set_option maxHeartbeats 8000000 in
set_option maxRecDepth 100000 in
theorem law09_alive.calls (k : Nat)  (r : Bool) (w : World) (h : law09_alive.f k  = some r) :
  Calls Try.prog 10 #[] w fun e w' => e = .returned (.bool r) ∧ Below w.heap.size w w' := by
 have hu40 := Try.underlying40
 have hu60 := Try.underlying60
 have HB := Aside0.mk (Below.refl w.heap.size w)
 have H : ((fact_Of.f k (([(⟨(⟨(⟨#[69]⟩ : ByteArray), (⟨#[98]⟩ : ByteArray), (⟨#[]⟩ : ByteArray), (⟨#[]⟩ : ByteArray), 0⟩ : S40), 5⟩ : S60), (⟨(⟨(⟨#[69]⟩ : ByteArray), (⟨#[97]⟩ : ByteArray), (⟨#[]⟩ : ByteArray), (⟨#[]⟩ : ByteArray), 0⟩ : S40), 1⟩ : S60), (⟨(⟨(⟨#[69]⟩ : ByteArray), (⟨#[97]⟩ : ByteArray), (⟨#[]⟩ : ByteArray), (⟨#[]⟩ : ByteArray), 0⟩ : S40), 2⟩ : S60)] : List (S60)))).bind fun bt195 => ((fact_Sum.f k bt195.1 (⟨#[]⟩ : ByteArray) (⟨#[]⟩ : ByteArray) (⟨#[]⟩ : ByteArray)).bind fun bt199 => ((fact_Add.f k bt195.1 (([(⟨(⟨(⟨#[69]⟩ : ByteArray), (⟨#[98]⟩ : ByteArray), (⟨#[]⟩ : ByteArray), (⟨#[]⟩ : ByteArray), 0⟩ : S40), (-5)⟩ : S60)] : List (S60)))).bind fun bt204 => (law09_alive.j0 k bt195.1 bt195.2 bt199.1 bt199.2 bt204.1 bt204.2 (⟨#[69]⟩ : ByteArray) (⟨#[97]⟩ : ByteArray) (⟨#[]⟩ : ByteArray) (⟨#[]⟩ : ByteArray) 0 (⟨#[69]⟩ : ByteArray) (⟨#[98]⟩ : ByteArray) (⟨#[]⟩ : ByteArray) (⟨#[]⟩ : ByteArray) 0)))) = some r := h
 clear h
 obtain ⟨y192, hy192⟩ : ∃ y_ : List (S60), y_ = (([(⟨(⟨(⟨#[69]⟩ : ByteArray), (⟨#[98]⟩ : ByteArray), (⟨#[]⟩ : ByteArray), (⟨#[]⟩ : ByteArray), 0⟩ : S40), 5⟩ : S60), (⟨(⟨(⟨#[69]⟩ : ByteArray), (⟨#[97]⟩ : ByteArray), (⟨#[]⟩ : ByteArray), (⟨#[]⟩ : ByteArray), 0⟩ : S40), 1⟩ : S60), (⟨(⟨(⟨#[69]⟩ : ByteArray), (⟨#[97]⟩ : ByteArray), (⟨#[]⟩ : ByteArray), (⟨#[]⟩ : ByteArray), 0⟩ : S40), 2⟩ : S60)] : List (S60))) := ⟨_, rfl⟩
 replace H : ((fact_Of.f k y192).bind fun bt195 => ((fact_Sum.f k bt195.1 (⟨#[]⟩ : ByteArray) (⟨#[]⟩ : ByteArray) (⟨#[]⟩ : ByteArray)).bind fun bt199 => ((fact_Add.f k bt195.1 (([(⟨(⟨(⟨#[69]⟩ : ByteArray), (⟨#[98]⟩ : ByteArray), (⟨#[]⟩ : ByteArray), (⟨#[]⟩ : ByteArray), 0⟩ : S40), (-5)⟩ : S60)] : List (S60)))).bind fun bt204 => (law09_alive.j0 k bt195.1 bt195.2 bt199.1 bt199.2 bt204.1 bt204.2 (⟨#[69]⟩ : ByteArray) (⟨#[97]⟩ : ByteArray) (⟨#[]⟩ : ByteArray) (⟨#[]⟩ : ByteArray) 0 (⟨#[69]⟩ : ByteArray) (⟨#[98]⟩ : ByteArray) (⟨#[]⟩ : ByteArray) (⟨#[]⟩ : ByteArray) 0)))) = some r := RFn.rp H hy192
 have Ny192 := Aside0.mk hy192
 clear hy192
 obtain ⟨⟨t195, t196⟩, A1, H⟩ := RFn.bn H
 obtain ⟨⟨t199, t200⟩, A2, H⟩ := RFn.bn H
 have HC3 := Aside0.mk H
 clear H
 go_enter Try.func10, Try.ntmps10
 go_upto_region 4 with (first | ((with_reducible refine gate_dst (N := 1) rfl ?_); (try (refine gate_guard (by rfl) ?_; dsimp only)); refine box_event ?hg (N := 1) ?hd (cs := #[.string (⟨#[]⟩ : ByteArray), .string (⟨#[]⟩ : ByteArray), .string (⟨#[]⟩ : ByteArray), .string (⟨#[]⟩ : ByteArray), .int .i64 0]) (t := 40) ?hr ?_; (case hd => rfl); (case hg => rfl); (case hr => first | (go_simp; done) | (go_simp; rfl)); intro gb190 hg w4 hbox hb; have n0_ := Aside0.mk (below_step (RFn.bel) hb); have n1_ := Aside0.mk (hbox); have n2_ := Aside0.mk ((by rw [hg]; exact (below_size (RFn.bel)) : w.heap.size ≤ gb190)); have n3_ := Aside0.mk ((by rw [hg]; exact (below_size (RFn.bel)) : w.heap.size ≤ gb190)); clear HB; have HB := n0_; have BK190 := n1_; have GW190 := n2_; have GE190 := n3_; clear n0_ n1_ n2_ n3_; clear hb hbox hg) | ((with_reducible refine gate_dst (N := 2) rfl ?_); (try (refine gate_guard (by rfl) ?_; dsimp only)); refine box_event ?hg (N := 2) ?hd (cs := #[.string (⟨#[]⟩ : ByteArray), .string (⟨#[]⟩ : ByteArray), .string (⟨#[]⟩ : ByteArray), .string (⟨#[]⟩ : ByteArray), .int .i64 0]) (t := 40) ?hr ?_; (case hd => rfl); (case hg => rfl); (case hr => first | (go_simp; done) | (go_simp; rfl)); intro gb191 hg w5 hbox hb; have n0_ := Aside0.mk (blk_below (g := gb190) (RFn.mB BK190) hb); have n1_ := Aside0.mk (below_step RFn.bels hb); have n2_ := Aside0.mk (hbox); have n3_ := Aside0.mk ((by rw [hg]; exact (below_size RFn.bels) : w.heap.size ≤ gb191)); have n4_ := Aside0.mk ((by rw [hg]; exact (below_size RFn.bels) : w.heap.size ≤ gb191)); have n5_ := Aside0.mk ((by rw [hg]; exact Nat.ne_of_lt (blk_lt (g := gb190) (RFn.mB BK190)) : gb190 ≠ gb191)); have n6_ := Aside0.mk ((by rw [hg]; exact Nat.ne_of_gt (blk_lt (g := gb190) (RFn.mB BK190)) : gb191 ≠ gb190)); clear BK190; clear HB; have BK190 := n0_; have HB := n1_; have BK191 := n2_; have GW191 := n3_; have GE191 := n4_; have NB190_191 := n5_; have NB191_190 := n6_; clear n0_ n1_ n2_ n3_ n4_ n5_ n6_; clear hb hbox hg; have hnb6 := NB190_191.out; have hnc6 := NB191_190.out; obtain ⟨hcz7_0, hcz7_1, hcz7_2, hcz7_3, hcz7_4⟩ := RFn.bc5 BK190; obtain ⟨hfz7_0, hfz7_1, hfz7_2, hfz7_3, hfz7_4⟩ := RFn.bf5 BK190; obtain ⟨hcz8_0, hcz8_1, hcz8_2, hcz8_3, hcz8_4⟩ := RFn.bc5 BK191; obtain ⟨hfz8_0, hfz8_1, hfz8_2, hfz8_3, hfz8_4⟩ := RFn.bf5 BK191) | ((with_reducible refine gate_dst (N := 18) rfl ?_); (try (refine gate_guard (by rfl) ?_; dsimp only)); refine Kd.R_lit k60 _ 60 ?hg (N := 18) ?hd (xs := ([(⟨(⟨(⟨#[69]⟩ : ByteArray), (⟨#[98]⟩ : ByteArray), (⟨#[]⟩ : ByteArray), (⟨#[]⟩ : ByteArray), 0⟩ : S40), 5⟩ : S60), (⟨(⟨(⟨#[69]⟩ : ByteArray), (⟨#[97]⟩ : ByteArray), (⟨#[]⟩ : ByteArray), (⟨#[]⟩ : ByteArray), 0⟩ : S40), 1⟩ : S60), (⟨(⟨(⟨#[69]⟩ : ByteArray), (⟨#[97]⟩ : ByteArray), (⟨#[]⟩ : ByteArray), (⟨#[]⟩ : ByteArray), 0⟩ : S40), 2⟩ : S60)] : List (S60))) (inner := [.string (⟨#[69]⟩ : ByteArray), .string (⟨#[98]⟩ : ByteArray), .string (⟨#[]⟩ : ByteArray), .string (⟨#[]⟩ : ByteArray), .int .i64 0, .int .i64 5, .string (⟨#[69]⟩ : ByteArray), .string (⟨#[97]⟩ : ByteArray), .string (⟨#[]⟩ : ByteArray), .string (⟨#[]⟩ : ByteArray), .int .i64 0, .int .i64 1, .string (⟨#[69]⟩ : ByteArray), .string (⟨#[97]⟩ : ByteArray), .string (⟨#[]⟩ : ByteArray), .string (⟨#[]⟩ : ByteArray), .int .i64 0, .int .i64 2]) (ok := fun _ => True) (okp := fun _ => True) ?hr ?hp (fun _ hk => hk) trivial (Below.refl _ _) (Nat.le_refl _) (by simp) ?_; (case hd => rfl); (case hg => rfl); (case hr => first | (go_simp; done) | (go_simp; rfl)); (case hp => exact (Reps.c6 (show Kd.M k60 _ _ _ (⟨(⟨(⟨#[69]⟩ : ByteArray), (⟨#[98]⟩ : ByteArray), (⟨#[]⟩ : ByteArray), (⟨#[]⟩ : ByteArray), 0⟩ : S40), 5⟩ : S60) [.string (⟨#[69]⟩ : ByteArray), .string (⟨#[98]⟩ : ByteArray), .string (⟨#[]⟩ : ByteArray), .string (⟨#[]⟩ : ByteArray), .int .i64 0, .int .i64 5] from (k60_mkM _ _ _ (⟨(⟨(⟨#[69]⟩ : ByteArray), (⟨#[98]⟩ : ByteArray), (⟨#[]⟩ : ByteArray), (⟨#[]⟩ : ByteArray), 0⟩ : S40), 5⟩ : S60) )) (Reps.c6 (show Kd.M k60 _ _ _ (⟨(⟨(⟨#[69]⟩ : ByteArray), (⟨#[97]⟩ : ByteArray), (⟨#[]⟩ : ByteArray), (⟨#[]⟩ : ByteArray), 0⟩ : S40), 1⟩ : S60) [.string (⟨#[69]⟩ : ByteArray), .string (⟨#[97]⟩ : ByteArray), .string (⟨#[]⟩ : ByteArray), .string (⟨#[]⟩ : ByteArray), .int .i64 0, .int .i64 1] from (k60_mkM _ _ _ (⟨(⟨(⟨#[69]⟩ : ByteArray), (⟨#[97]⟩ : ByteArray), (⟨#[]⟩ : ByteArray), (⟨#[]⟩ : ByteArray), 0⟩ : S40), 1⟩ : S60) )) (Reps.c6 (show Kd.M k60 _ _ _ (⟨(⟨(⟨#[69]⟩ : ByteArray), (⟨#[97]⟩ : ByteArray), (⟨#[]⟩ : ByteArray), (⟨#[]⟩ : ByteArray), 0⟩ : S40), 2⟩ : S60) [.string (⟨#[69]⟩ : ByteArray), .string (⟨#[97]⟩ : ByteArray), .string (⟨#[]⟩ : ByteArray), .string (⟨#[]⟩ : ByteArray), .int .i64 0, .int .i64 2] from (k60_mkM _ _ _ (⟨(⟨(⟨#[69]⟩ : ByteArray), (⟨#[97]⟩ : ByteArray), (⟨#[]⟩ : ByteArray), (⟨#[]⟩ : ByteArray), 0⟩ : S40), 2⟩ : S60) )) (Reps.none _ _))))); intro v193 w9 ho10 hb hg_ hnew_; clear hg_ hnew_; (first | rw [← Ny192.out] at ho10 | (simp only [Int.reduceToNat] at ho10; rw [← Ny192.out] at ho10)); have n0_ := Aside0.mk (Kd.R_lower ho10 (below_size RFn.bels)); have n1_ := Aside0.mk (blk_below (g := gb190) (o := .cells #[.string (⟨#[69]⟩ : ByteArray), .string (⟨#[97]⟩ : ByteArray), .string (⟨#[]⟩ : ByteArray), .string (⟨#[]⟩ : ByteArray), .int .i64 0] 40 (0, 0)) (by refine RFn.d3 ?_; refine blk_far ?_ NB190_191.out _; refine RFn.d3 ?_; refine blk_far ?_ NB190_191.out _; refine RFn.d3 ?_; refine blk_far ?_ NB190_191.out _; refine RFn.d3 ?_; refine blk_far ?_ NB190_191.out _; refine RFn.d3 ?_; refine blk_far ?_ NB190_191.out _; refine RFn.d3 ?_; refine blk_put (cs := #[.string (⟨#[69]⟩ : ByteArray), .string (⟨#[97]⟩ : ByteArray), .string (⟨#[]⟩ : ByteArray), .string (⟨#[]⟩ : ByteArray), .int .i64 0]) ?_ 4 _ rfl; refine RFn.d3 ?_; refine blk_put (cs := #[.string (⟨#[69]⟩ : ByteArray), .string (⟨#[97]⟩ : ByteArray), .string (⟨#[]⟩ : ByteArray), .string (⟨#[]⟩ : ByteArray), .int .i64 0]) ?_ 3 _ rfl; refine RFn.d3 ?_; refine blk_put (cs := #[.string (⟨#[69]⟩ : ByteArray), .string (⟨#[97]⟩ : ByteArray), .string (⟨#[]⟩ : ByteArray), .string (⟨#[]⟩ : ByteArray), .int .i64 0]) ?_ 2 _ rfl; refine RFn.d3 ?_; refine blk_put (cs := #[.string (⟨#[69]⟩ : ByteArray), .string (⟨#[]⟩ : ByteArray), .string (⟨#[]⟩ : ByteArray), .string (⟨#[]⟩ : ByteArray), .int .i64 0]) ?_ 1 _ rfl; refine RFn.d3 ?_; refine blk_put (cs := #[.string (⟨#[]⟩ : ByteArray), .string (⟨#[]⟩ : ByteArray), .string (⟨#[]⟩ : ByteArray), .string (⟨#[]⟩ : ByteArray), .int .i64 0]) ?_ 0 _ rfl; refine RFn.d3 ?_; exact BK190.out) hb); have n2_ := Aside0.mk (blk_below (g := gb191) (o := .cells #[.string (⟨#[69]⟩ : ByteArray), .string (⟨#[98]⟩ : ByteArray), .string (⟨#[]⟩ : ByteArray), .string (⟨#[]⟩ : ByteArray), .int .i64 0] 40 (0, 0)) (by refine RFn.d3 ?_; refine blk_put (cs := #[.string (⟨#[69]⟩ : ByteArray), .string (⟨#[98]⟩ : ByteArray), .string (⟨#[]⟩ : ByteArray), .string (⟨#[]⟩ : ByteArray), .int .i64 0]) ?_ 4 _ rfl; refine RFn.d3 ?_; refine blk_put (cs := #[.string (⟨#[69]⟩ : ByteArray), .string (⟨#[98]⟩ : ByteArray), .string (⟨#[]⟩ : ByteArray), .string (⟨#[]⟩ : ByteArray), .int .i64 0]) ?_ 3 _ rfl; refine RFn.d3 ?_; refine blk_put (cs := #[.string (⟨#[69]⟩ : ByteArray), .string (⟨#[98]⟩ : ByteArray), .string (⟨#[]⟩ : ByteArray), .string (⟨#[]⟩ : ByteArray), .int .i64 0]) ?_ 2 _ rfl; refine RFn.d3 ?_; refine blk_put (cs := #[.string (⟨#[69]⟩ : ByteArray), .string (⟨#[]⟩ : ByteArray), .string (⟨#[]⟩ : ByteArray), .string (⟨#[]⟩ : ByteArray), .int .i64 0]) ?_ 1 _ rfl; refine RFn.d3 ?_; refine blk_put (cs := #[.string (⟨#[]⟩ : ByteArray), .string (⟨#[]⟩ : ByteArray), .string (⟨#[]⟩ : ByteArray), .string (⟨#[]⟩ : ByteArray), .int .i64 0]) ?_ 0 _ rfl; refine RFn.d3 ?_; refine blk_far ?_ NB191_190.out _; refine RFn.d3 ?_; refine blk_far ?_ NB191_190.out _; refine RFn.d3 ?_; refine blk_far ?_ NB191_190.out _; refine RFn.d3 ?_; refine blk_far ?_ NB191_190.out _; refine RFn.d3 ?_; refine blk_far ?_ NB191_190.out _; refine RFn.d3 ?_; exact BK191.out) hb); have n3_ := Aside0.mk (below_step RFn.bels hb); clear BK190; clear BK191; clear HB; have HO194 := n0_; have BK190 := n1_; have BK191 := n2_; have HB := n3_; clear n0_ n1_ n2_ n3_; clear hb ho10; obtain ⟨Ao11, co11, eo11⟩ := Kd.R_slice HO194.out; subst eo11) | ((with_reducible refine gate_callee (f := 12) rfl ?_); refine RFn.goesM (some 19) Try.func12 #[.slice Ao11 y192.length co11] rfl ?_; (with_reducible refine (fact_Of.calls k _ _ y192 t195 t196 _ ?side1 ?side2 A1.out).mono ?_); (case side1 => exact RFn.mC (Kd.R_reads' HO194.out).2.2); (case side2 => exact (Kd.R_reads' HO194.out).2.1); rintro e w12 ⟨v197, rfl, ho0, hb⟩; refine ⟨_, rfl, ?_⟩; have n0_ := Aside0.mk (Kd.R_elder' (RFn.mR HO194) (Kd.R_base ho0) hb); have n1_ := Aside0.mk (Kd.R_lower (Kd.R_new' ho0 (Kd.R_lt (RFn.mR HO194))) (below_size RFn.bels)); have n2_ := Aside0.mk (blk_below (g := gb190) (RFn.mB BK190) hb); have n3_ := Aside0.mk (blk_below (g := gb191) (RFn.mB BK191) hb); have n4_ := Aside0.mk (below_step RFn.bels hb); clear HO194; clear BK190; clear BK191; clear HB; have HO194 := n0_; have HO198 := n1_; have BK190 := n2_; have BK191 := n3_; have HB := n4_; clear n0_ n1_ n2_ n3_ n4_; (try clear hb); (try clear hb2); (try clear hk); (try clear hi); (try clear ho0); obtain ⟨Ao13, co13, eo13⟩ := Kd.R_slice HO198.out; subst eo13) | ((with_reducible refine gate_callee (f := 23) rfl ?_); refine RFn.goesM (some 24) Try.func23 #[.slice Ao13 t195.length co13, .string (⟨#[]⟩ : ByteArray), .string (⟨#[]⟩ : ByteArray), .string (⟨#[]⟩ : ByteArray)] rfl ?_; (with_reducible refine (fact_Sum.calls k _ _ t195 (⟨#[]⟩ : ByteArray) (⟨#[]⟩ : ByteArray) (⟨#[]⟩ : ByteArray) t199 t200 _ ?side1 ?side2 A2.out).mono ?_); (case side1 => exact RFn.mC (Kd.R_reads' HO198.out).2.2); (case side2 => exact (Kd.R_reads' HO198.out).2.1); rintro e w14 ⟨rfl, hb⟩; refine ⟨_, rfl, ?_⟩; have n0_ := Aside0.mk (Kd.R_below (RFn.mR HO194) hb); have n1_ := Aside0.mk (Kd.R_below (RFn.mR HO198) hb); have n2_ := Aside0.mk (blk_below (g := gb190) (RFn.mB BK190) hb); have n3_ := Aside0.mk (blk_below (g := gb191) (RFn.mB BK191) hb); have n4_ := Aside0.mk (below_step RFn.bels hb); clear HO194; clear HO198; clear BK190; clear BK191; clear HB; have HO194 := n0_; have HO198 := n1_; have BK190 := n2_; have BK191 := n3_; have HB := n4_; clear n0_ n1_ n2_ n3_ n4_; (try clear hb); (try clear hb2); (try clear hk); (try clear hi)))
 (try simp only [Act.put, List.setIfInBounds_toArray, List.set_cons_zero, List.set_cons_succ])
 go_cut [7, 8] (fun v7 v8 wc => ∃ (kq : Nat) (x7_2 : List (S60)) (x8_2 : Int), v8 = .int .i64 x8_2 ∧ Aside0 (law09_alive.j0 kq t195 t196 t199 t200 x7_2 x8_2 (⟨#[69]⟩ : ByteArray) (⟨#[97]⟩ : ByteArray) (⟨#[]⟩ : ByteArray) (⟨#[]⟩ : ByteArray) 0 (⟨#[69]⟩ : ByteArray) (⟨#[98]⟩ : ByteArray) (⟨#[]⟩ : ByteArray) (⟨#[]⟩ : ByteArray) 0 = some r) ∧ Aside0 (kq ≤ k) ∧ Aside0 (Kd.R k60 60 wc w.heap.size (fun _ => True) (.slice Ao13 t195.length co13) t195) ∧ Aside0 (Kd.R k60 60 wc w.heap.size (fun _ => True) v7 x7_2) ∧ Aside0 (wc.heap[gb190]? = some (.cells #[.string (⟨#[69]⟩ : ByteArray), .string (⟨#[97]⟩ : ByteArray), .string (⟨#[]⟩ : ByteArray), .string (⟨#[]⟩ : ByteArray), .int .i64 0] 40 (0, 0))) ∧ Aside0 (wc.heap[gb191]? = some (.cells #[.string (⟨#[69]⟩ : ByteArray), .string (⟨#[98]⟩ : ByteArray), .string (⟨#[]⟩ : ByteArray), .string (⟨#[]⟩ : ByteArray), .int .i64 0] 40 (0, 0))) ∧ Aside0 (Below w.heap.size w wc))
 case first =>
  have H := HC3.out
  clear HC3
  obtain ⟨y201, hy201⟩ : ∃ y_ : List (S60), y_ = (([(⟨(⟨(⟨#[69]⟩ : ByteArray), (⟨#[98]⟩ : ByteArray), (⟨#[]⟩ : ByteArray), (⟨#[]⟩ : ByteArray), 0⟩ : S40), (-5)⟩ : S60)] : List (S60))) := ⟨_, rfl⟩
  replace H : ((fact_Add.f k t195 y201).bind fun bt204 => (law09_alive.j0 k t195 t196 t199 t200 bt204.1 bt204.2 (⟨#[69]⟩ : ByteArray) (⟨#[97]⟩ : ByteArray) (⟨#[]⟩ : ByteArray) (⟨#[]⟩ : ByteArray) 0 (⟨#[69]⟩ : ByteArray) (⟨#[98]⟩ : ByteArray) (⟨#[]⟩ : ByteArray) (⟨#[]⟩ : ByteArray) 0)) = some r := RFn.rp H hy201
  have Ny201 := Aside0.mk hy201
  clear hy201
  obtain ⟨⟨t204, t205⟩, A15, H⟩ := RFn.bn H
  have H' := Aside0.mk H
  clear H
  have hnb16 := NB191_190.out
  have hnc16 := NB190_191.out
  obtain ⟨hcz17_0, hcz17_1, hcz17_2, hcz17_3, hcz17_4⟩ := RFn.bc5 BK191
  obtain ⟨hfz17_0, hfz17_1, hfz17_2, hfz17_3, hfz17_4⟩ := RFn.bf5 BK191
  go_wp2_with (first | ((with_reducible refine gate_dst (N := 31) rfl ?_); (try (refine gate_guard (by rfl) ?_; dsimp only)); refine Kd.R_lit k60 _ 60 ?hg (N := 31) ?hd (xs := ([(⟨(⟨(⟨#[69]⟩ : ByteArray), (⟨#[98]⟩ : ByteArray), (⟨#[]⟩ : ByteArray), (⟨#[]⟩ : ByteArray), 0⟩ : S40), (-5)⟩ : S60)] : List (S60))) (inner := [.string (⟨#[69]⟩ : ByteArray), .string (⟨#[98]⟩ : ByteArray), .string (⟨#[]⟩ : ByteArray), .string (⟨#[]⟩ : ByteArray), .int .i64 0, .int .i64 (-5)]) (ok := fun _ => True) (okp := fun _ => True) ?hr ?hp (fun _ hk => hk) trivial (Below.refl _ _) (Nat.le_refl _) (by simp) ?_; (case hd => rfl); (case hg => rfl); (case hr => first | (go_simp; done) | (go_simp; rfl)); (case hp => exact (Reps.c6 (show Kd.M k60 _ _ _ (⟨(⟨(⟨#[69]⟩ : ByteArray), (⟨#[98]⟩ : ByteArray), (⟨#[]⟩ : ByteArray), (⟨#[]⟩ : ByteArray), 0⟩ : S40), (-5)⟩ : S60) [.string (⟨#[69]⟩ : ByteArray), .string (⟨#[98]⟩ : ByteArray), .string (⟨#[]⟩ : ByteArray), .string (⟨#[]⟩ : ByteArray), .int .i64 0, .int .i64 (-5)] from (k60_mkM _ _ _ (⟨(⟨(⟨#[69]⟩ : ByteArray), (⟨#[98]⟩ : ByteArray), (⟨#[]⟩ : ByteArray), (⟨#[]⟩ : ByteArray), 0⟩ : S40), (-5)⟩ : S60) )) (Reps.none _ _))); intro v202 w18 ho19 hb hg_ hnew_; clear hg_ hnew_; (first | rw [← Ny201.out] at ho19 | (simp only [Int.reduceToNat] at ho19; rw [← Ny201.out] at ho19)); have n0_ := Aside0.mk (Kd.R_elder' (RFn.mR HO194) (Kd.R_base ho19) hb); have n1_ := Aside0.mk (Kd.R_elder' (RFn.mR HO198) (Kd.R_base ho19) hb); have n2_ := Aside0.mk (Kd.R_lower (Kd.R_new' (Kd.R_new' ho19 (Kd.R_lt (RFn.mR HO194))) (Kd.R_lt (RFn.mR HO198))) (below_size RFn.bels)); have n3_ := Aside0.mk (blk_below (g := gb190) (RFn.mB BK190) hb); have n4_ := Aside0.mk (blk_below (g := gb191) (RFn.mB BK191) hb); have n5_ := Aside0.mk (below_step RFn.bels hb); clear HO194; clear HO198; clear BK190; clear BK191; clear HB; have HO194 := n0_; have HO198 := n1_; have HO203 := n2_; have BK190 := n3_; have BK191 := n4_; have HB := n5_; clear n0_ n1_ n2_ n3_ n4_ n5_; clear hb ho19; obtain ⟨Ao20, co20, eo20⟩ := Kd.R_slice HO203.out; subst eo20) | ((with_reducible refine gate_callee (f := 21) rfl ?_); refine RFn.goesM (some 32) Try.func21 #[.slice Ao13 t195.length co13, .slice Ao20 y201.length co20] rfl ?_; (with_reducible refine (fact_Add.calls k _ _ t195 _ _ y201 t204 t205 _ ?side1 ?side2 ?side3 ?side4 A15.out).mono ?_); (case side1 => exact RFn.mC (Kd.R_reads' HO198.out).2.2); (case side2 => exact (Kd.R_reads' HO198.out).2.1); (case side3 => exact RFn.mC (Kd.R_reads' HO203.out).2.2); (case side4 => exact (Kd.R_reads' HO203.out).2.1); rintro e w21 ⟨v206, rfl, ho0, hb⟩; refine ⟨_, rfl, ?_⟩; have n0_ := Aside0.mk (Kd.R_elder' (RFn.mR HO194) (Kd.R_base ho0) hb); have n1_ := Aside0.mk (Kd.R_elder' (RFn.mR HO198) (Kd.R_base ho0) hb); have n2_ := Aside0.mk (Kd.R_elder' (RFn.mR HO203) (Kd.R_base ho0) hb); have n3_ := Aside0.mk (Kd.R_lower (Kd.R_new' (Kd.R_new' (Kd.R_new' ho0 (Kd.R_lt (RFn.mR HO194))) (Kd.R_lt (RFn.mR HO198))) (Kd.R_lt (RFn.mR HO203))) (below_size RFn.bels)); have n4_ := Aside0.mk (blk_below (g := gb190) (RFn.mB BK190) hb); have n5_ := Aside0.mk (blk_below (g := gb191) (RFn.mB BK191) hb); have n6_ := Aside0.mk (below_step RFn.bels hb); clear HO194; clear HO198; clear HO203; clear BK190; clear BK191; clear HB; have HO194 := n0_; have HO198 := n1_; have HO203 := n2_; have HO207 := n3_; have BK190 := n4_; have BK191 := n5_; have HB := n6_; clear n0_ n1_ n2_ n3_ n4_ n5_ n6_; (try clear hb); (try clear hb2); (try clear hk); (try clear hi); (try clear ho0)))
  go_meet
  case rel => exact ⟨_, (t204), (t205), (by first | rfl | (simp; done) | (simp [*]; done)), H', ⟨by first | omega | exact Nat.le_refl _⟩, ⟨by (with_reducible repeat (first | apply Kd.R_alloc | apply Kd.R_drewN | apply Kd.R_drew)); exact Kd.R_mono HO198.out (fun _ hk => by first | exact hk.2 | exact trivial)⟩, ⟨by (with_reducible repeat (first | apply Kd.R_alloc | apply Kd.R_drewN | apply Kd.R_drew)); exact Kd.R_mono HO207.out (fun _ hk => by first | exact hk.1.2 | exact trivial)⟩, ⟨RFn.mB BK190⟩, ⟨RFn.mB BK191⟩, ⟨RFn.bels⟩⟩
 case rest =>
  clear HC3
  try clear c1
  try clear c2
  try clear p2
  try clear c6
  try clear c10
  try clear c12
  try clear c16
  try clear c21
  try clear hcz17_0
  try clear hcz17_1
  try clear hcz17_2
  try clear hcz17_3
  try clear hcz17_4
  try clear hcz7_0
  try clear hcz7_1
  try clear hcz7_2
  try clear hcz7_3
  try clear hcz7_4
  try clear hcz8_0
  try clear hcz8_1
  try clear hcz8_2
  try clear hcz8_3
  try clear hcz8_4
  try clear hfz17_0
  try clear hfz17_1
  try clear hfz17_2
  try clear hfz17_3
  try clear hfz17_4
  try clear hfz7_0
  try clear hfz7_1
  try clear hfz7_2
  try clear hfz7_3
  try clear hfz7_4
  try clear hfz8_0
  try clear hfz8_1
  try clear hfz8_2
  try clear hfz8_3
  try clear hfz8_4
  obtain ⟨kq, x7_2, x8_2, rfl, HA, HJ2, HO_3, HO_7, BK190, BK191, HB⟩ := hcut
  cases kq with
  | zero => exact absurd HA.out (by simp [law09_alive.j0])
  | succ kj2 =>
   have H := HA.out
   clear HA
   simp only [law09_alive.j0] at H
   by_cases c22 : t196 = 0
   ·rw [if_pos c22] at H
    have c22b0 : (t196 == 0) = true := beq_iff_eq.mpr c22
    have c22b1 : (t196 != 0) = false := bne_eq_false_iff_eq.mpr c22
    clear c22
    by_cases c23 : (t195.length : Int) = 2
    ·rw [if_pos c23] at H
     have c23b0 : ((t195.length : Int) == 2) = true := beq_iff_eq.mpr c23
     have c23b1 : ((t195.length : Int) != 2) = false := bne_eq_false_iff_eq.mpr c23
     clear c23
     by_cases c24 : 0 < (t195.length : Int)
     ·rw [if_pos c24] at H
      have c24b0 : decide (0 < (t195.length : Int)) = true := decide_eq_true c24
      have c24b1 : decide (0 < t195.length) = true := decide_eq_true (by omega)
      clear c24
      by_cases c25 : ((rd_T60 t195 0).f1) = 3
      ·rw [if_pos c25] at H
       have c25b0 : (((rd_T60 t195 0).f1) == 3) = true := beq_iff_eq.mpr c25
       have c25b1 : (((rd_T60 t195 0).f1) != 3) = false := bne_eq_false_iff_eq.mpr c25
       clear c25
       by_cases c26 : t199 = 8
       ·rw [if_pos c26] at H
        have c26b0 : (t199 == 8) = true := beq_iff_eq.mpr c26
        have c26b1 : (t199 != 8) = false := bne_eq_false_iff_eq.mpr c26
        clear c26
        by_cases c27 : t200 = 0
        ·rw [if_pos c27] at H
         have c27b0 : (t200 == 0) = true := beq_iff_eq.mpr c27
         have c27b1 : (t200 != 0) = false := bne_eq_false_iff_eq.mpr c27
         clear c27
         by_cases c28 : x8_2 = 0
         ·rw [if_pos c28] at H
          have c28b0 : (x8_2 == 0) = true := beq_iff_eq.mpr c28
          have c28b1 : (x8_2 != 0) = false := bne_eq_false_iff_eq.mpr c28
          clear c28
          by_cases c29 : (x7_2.length : Int) = 1
          ·rw [if_pos c29] at H
           have c29b0 : ((x7_2.length : Int) == 1) = true := beq_iff_eq.mpr c29
           have c29b1 : ((x7_2.length : Int) != 1) = false := bne_eq_false_iff_eq.mpr c29
           clear c29
           obtain ⟨t209, A30, H⟩ := RFn.bn H
           by_cases c31 : t209 = 5
           ·rw [if_pos c31] at H
            have c31b0 : (t209 == 5) = true := beq_iff_eq.mpr c31
            have c31b1 : (t209 != 5) = false := bne_eq_false_iff_eq.mpr c31
            clear c31
            obtain ⟨t210, A32, H⟩ := RFn.bn H
            by_cases c33 : t210 = (-1)
            ·rw [if_pos c33] at H
             have c33b0 : (t210 == (-1)) = true := beq_iff_eq.mpr c33
             have c33b1 : (t210 != (-1)) = false := bne_eq_false_iff_eq.mpr c33
             clear c33
             obtain ⟨t211, A34, H⟩ := RFn.bn H
             by_cases c35 : t211 = true
             ·subst c35
              have H1 : ((fact_Pick.f kj2 t195 (⟨#[69]⟩ : ByteArray) 0).bind fun t212 => (some ((t212.length : Int) == 2))) = some r := by rw [if_pos rfl] at H; exact H
              clear H
              have H := H1
              clear H1
              obtain ⟨t212, A36, H⟩ := RFn.bn H
              obtain rfl := Option.some.inj H
              have p208 : 0 ≤ (0 : Int) := (by omega)
              have q208 : 0 < (t195.length : Int) := RFn.od
              obtain ⟨ad208, e208, hx208_0, hx208_1, hx208_2, hx208_3, hx208_4, hx208_5⟩ := at_T60 (Kd.R_reads' HO_3.out).2.2 0 p208 q208
              cases e208
              have qi208 : (0 < t195.length) = True := eq_true (by omega)
              (try rw [show ((0 : Int)).toNat = 0 from rfl] at hx208_0)
              (try rw [show 0 * 6 = 0 from rfl] at hx208_0)
              (try rw [Addr.add_zero'] at hx208_0)
              (try rw [show ((0 : Int)).toNat = 0 from rfl] at hx208_1)
              (try rw [show 0 * 6 = 0 from rfl] at hx208_1)
              (try rw [Addr.add_zero'] at hx208_1)
              (try rw [show ((0 : Int)).toNat = 0 from rfl] at hx208_2)
              (try rw [show 0 * 6 = 0 from rfl] at hx208_2)
              (try rw [Addr.add_zero'] at hx208_2)
              (try rw [show ((0 : Int)).toNat = 0 from rfl] at hx208_3)
              (try rw [show 0 * 6 = 0 from rfl] at hx208_3)
              (try rw [Addr.add_zero'] at hx208_3)
              (try rw [show ((0 : Int)).toNat = 0 from rfl] at hx208_4)
              (try rw [show 0 * 6 = 0 from rfl] at hx208_4)
              (try rw [Addr.add_zero'] at hx208_4)
              (try rw [show ((0 : Int)).toNat = 0 from rfl] at hx208_5)
              (try rw [show 0 * 6 = 0 from rfl] at hx208_5)
              (try rw [Addr.add_zero'] at hx208_5)
              replace p208 := eq_true p208
              replace q208 := eq_true q208
              obtain ⟨Ao37, co37, eo37⟩ := Kd.R_slice HO_7.out
              subst eo37
              have hnb38 := NB191_190.out
              have hnc38 := NB190_191.out
              obtain ⟨hcz39_0, hcz39_1, hcz39_2, hcz39_3, hcz39_4⟩ := RFn.bc5 BK191
              obtain ⟨hfz39_0, hfz39_1, hfz39_2, hfz39_3, hfz39_4⟩ := RFn.bf5 BK191
              go_wp2_with (first | (go_at_call 25; (with_reducible refine (fact_Get.calls kj2 _ _ t195 (⟨#[69]⟩ : ByteArray) (⟨#[98]⟩ : ByteArray) (⟨#[]⟩ : ByteArray) (⟨#[]⟩ : ByteArray) 0 t209 _ ?side1 ?side2 A30.out).mono ?_); (case side1 => exact RFn.mC (Kd.R_reads' HO_3.out).2.2); (case side2 => exact (Kd.R_reads' HO_3.out).2.1); rintro e w40 ⟨rfl, hb⟩; have n0_ := Aside0.mk (Kd.R_below (RFn.mR HO_3) hb); have n1_ := Aside0.mk (Kd.R_below (RFn.mR HO_7) hb); have n2_ := Aside0.mk (blk_below (g := gb190) (RFn.mB BK190) hb); have n3_ := Aside0.mk (blk_below (g := gb191) (RFn.mB BK191) hb); have n4_ := Aside0.mk (below_step RFn.bels hb); clear HO_3; clear HO_7; clear BK190; clear BK191; clear HB; have HO_3 := n0_; have HO_7 := n1_; have BK190 := n2_; have BK191 := n3_; have HB := n4_; clear n0_ n1_ n2_ n3_ n4_; (try clear hb); (try clear hb2); (try clear hk); (try clear hi); obtain ⟨hcz41_0, hcz41_1, hcz41_2, hcz41_3, hcz41_4⟩ := RFn.bc5 BK190; obtain ⟨hfz41_0, hfz41_1, hfz41_2, hfz41_3, hfz41_4⟩ := RFn.bf5 BK190; obtain ⟨hcz42_0, hcz42_1, hcz42_2, hcz42_3, hcz42_4⟩ := RFn.bc5 BK191; obtain ⟨hfz42_0, hfz42_1, hfz42_2, hfz42_3, hfz42_4⟩ := RFn.bf5 BK191) | (go_at_call 17; (with_reducible refine (fact_Cmp.calls kj2 (⟨#[69]⟩ : ByteArray) (⟨#[97]⟩ : ByteArray) (⟨#[]⟩ : ByteArray) (⟨#[]⟩ : ByteArray) 0 (⟨#[69]⟩ : ByteArray) (⟨#[98]⟩ : ByteArray) (⟨#[]⟩ : ByteArray) (⟨#[]⟩ : ByteArray) 0 t210 _ A32.out).mono ?_); rintro e w43 ⟨rfl, hb⟩; have n0_ := Aside0.mk (Kd.R_below (RFn.mR HO_3) hb); have n1_ := Aside0.mk (Kd.R_below (RFn.mR HO_7) hb); have n2_ := Aside0.mk (blk_below (g := gb190) (RFn.mB BK190) hb); have n3_ := Aside0.mk (blk_below (g := gb191) (RFn.mB BK191) hb); have n4_ := Aside0.mk (below_step RFn.bels hb); clear HO_3; clear HO_7; clear BK190; clear BK191; clear HB; have HO_3 := n0_; have HO_7 := n1_; have BK190 := n2_; have BK191 := n3_; have HB := n4_; clear n0_ n1_ n2_ n3_ n4_; (try clear hb); (try clear hb2); (try clear hk); (try clear hi)) | (go_at_call 19; (with_reducible refine (fact_Right.calls kj2 _ _ t195 true _ ?side1 ?side2 A34.out).mono ?_); (case side1 => exact RFn.mC (Kd.R_reads' HO_3.out).2.2); (case side2 => exact (Kd.R_reads' HO_3.out).2.1); rintro e w44 ⟨rfl, hb⟩; have n0_ := Aside0.mk (Kd.R_below (RFn.mR HO_3) hb); have n1_ := Aside0.mk (Kd.R_below (RFn.mR HO_7) hb); have n2_ := Aside0.mk (blk_below (g := gb190) (RFn.mB BK190) hb); have n3_ := Aside0.mk (blk_below (g := gb191) (RFn.mB BK191) hb); have n4_ := Aside0.mk (below_step RFn.bels hb); clear HO_3; clear HO_7; clear BK190; clear BK191; clear HB; have HO_3 := n0_; have HO_7 := n1_; have BK190 := n2_; have BK191 := n3_; have HB := n4_; clear n0_ n1_ n2_ n3_ n4_; (try clear hb); (try clear hb2); (try clear hk); (try clear hi)) | (go_at_call 27; (with_reducible refine (fact_Pick.calls kj2 _ _ t195 (⟨#[69]⟩ : ByteArray) 0 t212 _ ?side1 ?side2 A36.out).mono ?_); (case side1 => exact RFn.mC (Kd.R_reads' HO_3.out).2.2); (case side2 => exact (Kd.R_reads' HO_3.out).2.1); rintro e w45 ⟨v213, rfl, ho0, hb⟩; have n0_ := Aside0.mk (Kd.R_elder' (RFn.mR HO_3) (Kd.R_base ho0) hb); have n1_ := Aside0.mk (Kd.R_elder' (RFn.mR HO_7) (Kd.R_base ho0) hb); have n2_ := Aside0.mk (Kd.R_lower (Kd.R_new' (Kd.R_new' ho0 (Kd.R_lt (RFn.mR HO_3))) (Kd.R_lt (RFn.mR HO_7))) (below_size RFn.bels)); have n3_ := Aside0.mk (blk_below (g := gb190) (RFn.mB BK190) hb); have n4_ := Aside0.mk (blk_below (g := gb191) (RFn.mB BK191) hb); have n5_ := Aside0.mk (below_step RFn.bels hb); clear HO_3; clear HO_7; clear BK190; clear BK191; clear HB; have HO_3 := n0_; have HO_7 := n1_; have HO214 := n2_; have BK190 := n3_; have BK191 := n4_; have HB := n5_; clear n0_ n1_ n2_ n3_ n4_ n5_; (try clear hb); (try clear hb2); (try clear hk); (try clear hi); (try clear ho0); obtain ⟨Ao46, co46, eo46⟩ := Kd.R_slice HO214.out; subst eo46))
              go_ret
              exact ⟨by first | rfl | (simp [errW_none, errW_some] <;> rfl) | (simp [*, errW_none, errW_some] <;> rfl), RFn.bels⟩
             ·replace c35 := Bool.eq_false_iff.mpr c35
              subst c35
              have H1 : (some false) = some r := by rw [if_neg (show ¬ (false = true) by decide)] at H; exact H
              clear H
              have H := H1
              clear H1
              obtain rfl := Option.some.inj H
              have p208 : 0 ≤ (0 : Int) := (by omega)
              have q208 : 0 < (t195.length : Int) := RFn.od
              obtain ⟨ad208, e208, hx208_0, hx208_1, hx208_2, hx208_3, hx208_4, hx208_5⟩ := at_T60 (Kd.R_reads' HO_3.out).2.2 0 p208 q208
              cases e208
              have qi208 : (0 < t195.length) = True := eq_true (by omega)
              (try rw [show ((0 : Int)).toNat = 0 from rfl] at hx208_0)
              (try rw [show 0 * 6 = 0 from rfl] at hx208_0)
              (try rw [Addr.add_zero'] at hx208_0)
              (try rw [show ((0 : Int)).toNat = 0 from rfl] at hx208_1)
              (try rw [show 0 * 6 = 0 from rfl] at hx208_1)
              (try rw [Addr.add_zero'] at hx208_1)
              (try rw [show ((0 : Int)).toNat = 0 from rfl] at hx208_2)
              (try rw [show 0 * 6 = 0 from rfl] at hx208_2)
              (try rw [Addr.add_zero'] at hx208_2)
              (try rw [show ((0 : Int)).toNat = 0 from rfl] at hx208_3)
              (try rw [show 0 * 6 = 0 from rfl] at hx208_3)
              (try rw [Addr.add_zero'] at hx208_3)
              (try rw [show ((0 : Int)).toNat = 0 from rfl] at hx208_4)
              (try rw [show 0 * 6 = 0 from rfl] at hx208_4)
              (try rw [Addr.add_zero'] at hx208_4)
              (try rw [show ((0 : Int)).toNat = 0 from rfl] at hx208_5)
              (try rw [show 0 * 6 = 0 from rfl] at hx208_5)
              (try rw [Addr.add_zero'] at hx208_5)
              replace p208 := eq_true p208
              replace q208 := eq_true q208
              obtain ⟨Ao47, co47, eo47⟩ := Kd.R_slice HO_7.out
              subst eo47
              have hnb48 := NB191_190.out
              have hnc48 := NB190_191.out
              obtain ⟨hcz49_0, hcz49_1, hcz49_2, hcz49_3, hcz49_4⟩ := RFn.bc5 BK191
              obtain ⟨hfz49_0, hfz49_1, hfz49_2, hfz49_3, hfz49_4⟩ := RFn.bf5 BK191
              go_wp2_with (first | (go_at_call 25; (with_reducible refine (fact_Get.calls kj2 _ _ t195 (⟨#[69]⟩ : ByteArray) (⟨#[98]⟩ : ByteArray) (⟨#[]⟩ : ByteArray) (⟨#[]⟩ : ByteArray) 0 t209 _ ?side1 ?side2 A30.out).mono ?_); (case side1 => exact RFn.mC (Kd.R_reads' HO_3.out).2.2); (case side2 => exact (Kd.R_reads' HO_3.out).2.1); rintro e w50 ⟨rfl, hb⟩; have n0_ := Aside0.mk (Kd.R_below (RFn.mR HO_3) hb); have n1_ := Aside0.mk (Kd.R_below (RFn.mR HO_7) hb); have n2_ := Aside0.mk (blk_below (g := gb190) (RFn.mB BK190) hb); have n3_ := Aside0.mk (blk_below (g := gb191) (RFn.mB BK191) hb); have n4_ := Aside0.mk (below_step RFn.bels hb); clear HO_3; clear HO_7; clear BK190; clear BK191; clear HB; have HO_3 := n0_; have HO_7 := n1_; have BK190 := n2_; have BK191 := n3_; have HB := n4_; clear n0_ n1_ n2_ n3_ n4_; (try clear hb); (try clear hb2); (try clear hk); (try clear hi); obtain ⟨hcz51_0, hcz51_1, hcz51_2, hcz51_3, hcz51_4⟩ := RFn.bc5 BK190; obtain ⟨hfz51_0, hfz51_1, hfz51_2, hfz51_3, hfz51_4⟩ := RFn.bf5 BK190; obtain ⟨hcz52_0, hcz52_1, hcz52_2, hcz52_3, hcz52_4⟩ := RFn.bc5 BK191; obtain ⟨hfz52_0, hfz52_1, hfz52_2, hfz52_3, hfz52_4⟩ := RFn.bf5 BK191) | (go_at_call 17; (with_reducible refine (fact_Cmp.calls kj2 (⟨#[69]⟩ : ByteArray) (⟨#[97]⟩ : ByteArray) (⟨#[]⟩ : ByteArray) (⟨#[]⟩ : ByteArray) 0 (⟨#[69]⟩ : ByteArray) (⟨#[98]⟩ : ByteArray) (⟨#[]⟩ : ByteArray) (⟨#[]⟩ : ByteArray) 0 t210 _ A32.out).mono ?_); rintro e w53 ⟨rfl, hb⟩; have n0_ := Aside0.mk (Kd.R_below (RFn.mR HO_3) hb); have n1_ := Aside0.mk (Kd.R_below (RFn.mR HO_7) hb); have n2_ := Aside0.mk (blk_below (g := gb190) (RFn.mB BK190) hb); have n3_ := Aside0.mk (blk_below (g := gb191) (RFn.mB BK191) hb); have n4_ := Aside0.mk (below_step RFn.bels hb); clear HO_3; clear HO_7; clear BK190; clear BK191; clear HB; have HO_3 := n0_; have HO_7 := n1_; have BK190 := n2_; have BK191 := n3_; have HB := n4_; clear n0_ n1_ n2_ n3_ n4_; (try clear hb); (try clear hb2); (try clear hk); (try clear hi)) | (go_at_call 19; (with_reducible refine (fact_Right.calls kj2 _ _ t195 false _ ?side1 ?side2 A34.out).mono ?_); (case side1 => exact RFn.mC (Kd.R_reads' HO_3.out).2.2); (case side2 => exact (Kd.R_reads' HO_3.out).2.1); rintro e w54 ⟨rfl, hb⟩; have n0_ := Aside0.mk (Kd.R_below (RFn.mR HO_3) hb); have n1_ := Aside0.mk (Kd.R_below (RFn.mR HO_7) hb); have n2_ := Aside0.mk (blk_below (g := gb190) (RFn.mB BK190) hb); have n3_ := Aside0.mk (blk_below (g := gb191) (RFn.mB BK191) hb); have n4_ := Aside0.mk (below_step RFn.bels hb); clear HO_3; clear HO_7; clear BK190; clear BK191; clear HB; have HO_3 := n0_; have HO_7 := n1_; have BK190 := n2_; have BK191 := n3_; have HB := n4_; clear n0_ n1_ n2_ n3_ n4_; (try clear hb); (try clear hb2); (try clear hk); (try clear hi)))
              go_ret
              exact ⟨by first | rfl | (simp [errW_none, errW_some] <;> rfl) | (simp [*, errW_none, errW_some] <;> rfl), RFn.bels⟩
            ·rw [if_neg c33] at H
             have c33b0 : (t210 == (-1)) = false := beq_eq_false_iff_ne.mpr c33
             have c33b1 : (t210 != (-1)) = true := bne_iff_ne.mpr c33
             obtain rfl := Option.some.inj H
             have p208 : 0 ≤ (0 : Int) := (by omega)
             have q208 : 0 < (t195.length : Int) := RFn.od
             obtain ⟨ad208, e208, hx208_0, hx208_1, hx208_2, hx208_3, hx208_4, hx208_5⟩ := at_T60 (Kd.R_reads' HO_3.out).2.2 0 p208 q208
             cases e208
             have qi208 : (0 < t195.length) = True := eq_true (by omega)
             (try rw [show ((0 : Int)).toNat = 0 from rfl] at hx208_0)
             (try rw [show 0 * 6 = 0 from rfl] at hx208_0)
             (try rw [Addr.add_zero'] at hx208_0)
             (try rw [show ((0 : Int)).toNat = 0 from rfl] at hx208_1)
             (try rw [show 0 * 6 = 0 from rfl] at hx208_1)
             (try rw [Addr.add_zero'] at hx208_1)
             (try rw [show ((0 : Int)).toNat = 0 from rfl] at hx208_2)
             (try rw [show 0 * 6 = 0 from rfl] at hx208_2)
             (try rw [Addr.add_zero'] at hx208_2)
             (try rw [show ((0 : Int)).toNat = 0 from rfl] at hx208_3)
             (try rw [show 0 * 6 = 0 from rfl] at hx208_3)
             (try rw [Addr.add_zero'] at hx208_3)
             (try rw [show ((0 : Int)).toNat = 0 from rfl] at hx208_4)
             (try rw [show 0 * 6 = 0 from rfl] at hx208_4)
             (try rw [Addr.add_zero'] at hx208_4)
             (try rw [show ((0 : Int)).toNat = 0 from rfl] at hx208_5)
             (try rw [show 0 * 6 = 0 from rfl] at hx208_5)
             (try rw [Addr.add_zero'] at hx208_5)
             replace p208 := eq_true p208
             replace q208 := eq_true q208
             obtain ⟨Ao55, co55, eo55⟩ := Kd.R_slice HO_7.out
             subst eo55
             have hnb56 := NB191_190.out
             have hnc56 := NB190_191.out
             obtain ⟨hcz57_0, hcz57_1, hcz57_2, hcz57_3, hcz57_4⟩ := RFn.bc5 BK191
             obtain ⟨hfz57_0, hfz57_1, hfz57_2, hfz57_3, hfz57_4⟩ := RFn.bf5 BK191
             go_wp2_with (first | (go_at_call 25; (with_reducible refine (fact_Get.calls kj2 _ _ t195 (⟨#[69]⟩ : ByteArray) (⟨#[98]⟩ : ByteArray) (⟨#[]⟩ : ByteArray) (⟨#[]⟩ : ByteArray) 0 t209 _ ?side1 ?side2 A30.out).mono ?_); (case side1 => exact RFn.mC (Kd.R_reads' HO_3.out).2.2); (case side2 => exact (Kd.R_reads' HO_3.out).2.1); rintro e w58 ⟨rfl, hb⟩; have n0_ := Aside0.mk (Kd.R_below (RFn.mR HO_3) hb); have n1_ := Aside0.mk (Kd.R_below (RFn.mR HO_7) hb); have n2_ := Aside0.mk (blk_below (g := gb190) (RFn.mB BK190) hb); have n3_ := Aside0.mk (blk_below (g := gb191) (RFn.mB BK191) hb); have n4_ := Aside0.mk (below_step RFn.bels hb); clear HO_3; clear HO_7; clear BK190; clear BK191; clear HB; have HO_3 := n0_; have HO_7 := n1_; have BK190 := n2_; have BK191 := n3_; have HB := n4_; clear n0_ n1_ n2_ n3_ n4_; (try clear hb); (try clear hb2); (try clear hk); (try clear hi); obtain ⟨hcz59_0, hcz59_1, hcz59_2, hcz59_3, hcz59_4⟩ := RFn.bc5 BK190; obtain ⟨hfz59_0, hfz59_1, hfz59_2, hfz59_3, hfz59_4⟩ := RFn.bf5 BK190; obtain ⟨hcz60_0, hcz60_1, hcz60_2, hcz60_3, hcz60_4⟩ := RFn.bc5 BK191; obtain ⟨hfz60_0, hfz60_1, hfz60_2, hfz60_3, hfz60_4⟩ := RFn.bf5 BK191) | (go_at_call 17; (with_reducible refine (fact_Cmp.calls kj2 (⟨#[69]⟩ : ByteArray) (⟨#[97]⟩ : ByteArray) (⟨#[]⟩ : ByteArray) (⟨#[]⟩ : ByteArray) 0 (⟨#[69]⟩ : ByteArray) (⟨#[98]⟩ : ByteArray) (⟨#[]⟩ : ByteArray) (⟨#[]⟩ : ByteArray) 0 t210 _ A32.out).mono ?_); rintro e w61 ⟨rfl, hb⟩; have n0_ := Aside0.mk (Kd.R_below (RFn.mR HO_3) hb); have n1_ := Aside0.mk (Kd.R_below (RFn.mR HO_7) hb); have n2_ := Aside0.mk (blk_below (g := gb190) (RFn.mB BK190) hb); have n3_ := Aside0.mk (blk_below (g := gb191) (RFn.mB BK191) hb); have n4_ := Aside0.mk (below_step RFn.bels hb); clear HO_3; clear HO_7; clear BK190; clear BK191; clear HB; have HO_3 := n0_; have HO_7 := n1_; have BK190 := n2_; have BK191 := n3_; have HB := n4_; clear n0_ n1_ n2_ n3_ n4_; (try clear hb); (try clear hb2); (try clear hk); (try clear hi)))
             go_ret
             exact ⟨by first | rfl | (simp [errW_none, errW_some] <;> rfl) | (simp [*, errW_none, errW_some] <;> rfl), RFn.bels⟩
           ·rw [if_neg c31] at H
            have c31b0 : (t209 == 5) = false := beq_eq_false_iff_ne.mpr c31
            have c31b1 : (t209 != 5) = true := bne_iff_ne.mpr c31
            obtain rfl := Option.some.inj H
            have p208 : 0 ≤ (0 : Int) := (by omega)
            have q208 : 0 < (t195.length : Int) := RFn.od
            obtain ⟨ad208, e208, hx208_0, hx208_1, hx208_2, hx208_3, hx208_4, hx208_5⟩ := at_T60 (Kd.R_reads' HO_3.out).2.2 0 p208 q208
            cases e208
            have qi208 : (0 < t195.length) = True := eq_true (by omega)
            (try rw [show ((0 : Int)).toNat = 0 from rfl] at hx208_0)
            (try rw [show 0 * 6 = 0 from rfl] at hx208_0)
            (try rw [Addr.add_zero'] at hx208_0)
            (try rw [show ((0 : Int)).toNat = 0 from rfl] at hx208_1)
            (try rw [show 0 * 6 = 0 from rfl] at hx208_1)
            (try rw [Addr.add_zero'] at hx208_1)
            (try rw [show ((0 : Int)).toNat = 0 from rfl] at hx208_2)
            (try rw [show 0 * 6 = 0 from rfl] at hx208_2)
            (try rw [Addr.add_zero'] at hx208_2)
            (try rw [show ((0 : Int)).toNat = 0 from rfl] at hx208_3)
            (try rw [show 0 * 6 = 0 from rfl] at hx208_3)
            (try rw [Addr.add_zero'] at hx208_3)
            (try rw [show ((0 : Int)).toNat = 0 from rfl] at hx208_4)
            (try rw [show 0 * 6 = 0 from rfl] at hx208_4)
            (try rw [Addr.add_zero'] at hx208_4)
            (try rw [show ((0 : Int)).toNat = 0 from rfl] at hx208_5)
            (try rw [show 0 * 6 = 0 from rfl] at hx208_5)
            (try rw [Addr.add_zero'] at hx208_5)
            replace p208 := eq_true p208
            replace q208 := eq_true q208
            obtain ⟨Ao62, co62, eo62⟩ := Kd.R_slice HO_7.out
            subst eo62
            have hnb63 := NB191_190.out
            have hnc63 := NB190_191.out
            obtain ⟨hcz64_0, hcz64_1, hcz64_2, hcz64_3, hcz64_4⟩ := RFn.bc5 BK191
            obtain ⟨hfz64_0, hfz64_1, hfz64_2, hfz64_3, hfz64_4⟩ := RFn.bf5 BK191
            go_wp2_with (first | (go_at_call 25; (with_reducible refine (fact_Get.calls kj2 _ _ t195 (⟨#[69]⟩ : ByteArray) (⟨#[98]⟩ : ByteArray) (⟨#[]⟩ : ByteArray) (⟨#[]⟩ : ByteArray) 0 t209 _ ?side1 ?side2 A30.out).mono ?_); (case side1 => exact RFn.mC (Kd.R_reads' HO_3.out).2.2); (case side2 => exact (Kd.R_reads' HO_3.out).2.1); rintro e w65 ⟨rfl, hb⟩; have n0_ := Aside0.mk (Kd.R_below (RFn.mR HO_3) hb); have n1_ := Aside0.mk (Kd.R_below (RFn.mR HO_7) hb); have n2_ := Aside0.mk (blk_below (g := gb190) (RFn.mB BK190) hb); have n3_ := Aside0.mk (blk_below (g := gb191) (RFn.mB BK191) hb); have n4_ := Aside0.mk (below_step RFn.bels hb); clear HO_3; clear HO_7; clear BK190; clear BK191; clear HB; have HO_3 := n0_; have HO_7 := n1_; have BK190 := n2_; have BK191 := n3_; have HB := n4_; clear n0_ n1_ n2_ n3_ n4_; (try clear hb); (try clear hb2); (try clear hk); (try clear hi)))
            go_ret
            exact ⟨by first | rfl | (simp [errW_none, errW_some] <;> rfl) | (simp [*, errW_none, errW_some] <;> rfl), RFn.bels⟩
          ·rw [if_neg c29] at H
           have c29b0 : ((x7_2.length : Int) == 1) = false := beq_eq_false_iff_ne.mpr c29
           have c29b1 : ((x7_2.length : Int) != 1) = true := bne_iff_ne.mpr c29
           obtain rfl := Option.some.inj H
           have p208 : 0 ≤ (0 : Int) := (by omega)
           have q208 : 0 < (t195.length : Int) := RFn.od
           obtain ⟨ad208, e208, hx208_0, hx208_1, hx208_2, hx208_3, hx208_4, hx208_5⟩ := at_T60 (Kd.R_reads' HO_3.out).2.2 0 p208 q208
           cases e208
           have qi208 : (0 < t195.length) = True := eq_true (by omega)
           (try rw [show ((0 : Int)).toNat = 0 from rfl] at hx208_0)
           (try rw [show 0 * 6 = 0 from rfl] at hx208_0)
           (try rw [Addr.add_zero'] at hx208_0)
           (try rw [show ((0 : Int)).toNat = 0 from rfl] at hx208_1)
           (try rw [show 0 * 6 = 0 from rfl] at hx208_1)
           (try rw [Addr.add_zero'] at hx208_1)
           (try rw [show ((0 : Int)).toNat = 0 from rfl] at hx208_2)
           (try rw [show 0 * 6 = 0 from rfl] at hx208_2)
           (try rw [Addr.add_zero'] at hx208_2)
           (try rw [show ((0 : Int)).toNat = 0 from rfl] at hx208_3)
           (try rw [show 0 * 6 = 0 from rfl] at hx208_3)
           (try rw [Addr.add_zero'] at hx208_3)
           (try rw [show ((0 : Int)).toNat = 0 from rfl] at hx208_4)
           (try rw [show 0 * 6 = 0 from rfl] at hx208_4)
           (try rw [Addr.add_zero'] at hx208_4)
           (try rw [show ((0 : Int)).toNat = 0 from rfl] at hx208_5)
           (try rw [show 0 * 6 = 0 from rfl] at hx208_5)
           (try rw [Addr.add_zero'] at hx208_5)
           replace p208 := eq_true p208
           replace q208 := eq_true q208
           obtain ⟨Ao66, co66, eo66⟩ := Kd.R_slice HO_7.out
           subst eo66
           go_wp2
           go_ret
           exact ⟨by first | rfl | (simp [errW_none, errW_some] <;> rfl) | (simp [*, errW_none, errW_some] <;> rfl), RFn.bels⟩
         ·rw [if_neg c28] at H
          have c28b0 : (x8_2 == 0) = false := beq_eq_false_iff_ne.mpr c28
          have c28b1 : (x8_2 != 0) = true := bne_iff_ne.mpr c28
          obtain rfl := Option.some.inj H
          have p208 : 0 ≤ (0 : Int) := (by omega)
          have q208 : 0 < (t195.length : Int) := RFn.od
          obtain ⟨ad208, e208, hx208_0, hx208_1, hx208_2, hx208_3, hx208_4, hx208_5⟩ := at_T60 (Kd.R_reads' HO_3.out).2.2 0 p208 q208
          cases e208
          have qi208 : (0 < t195.length) = True := eq_true (by omega)
          (try rw [show ((0 : Int)).toNat = 0 from rfl] at hx208_0)
          (try rw [show 0 * 6 = 0 from rfl] at hx208_0)
          (try rw [Addr.add_zero'] at hx208_0)
          (try rw [show ((0 : Int)).toNat = 0 from rfl] at hx208_1)
          (try rw [show 0 * 6 = 0 from rfl] at hx208_1)
          (try rw [Addr.add_zero'] at hx208_1)
          (try rw [show ((0 : Int)).toNat = 0 from rfl] at hx208_2)
          (try rw [show 0 * 6 = 0 from rfl] at hx208_2)
          (try rw [Addr.add_zero'] at hx208_2)
          (try rw [show ((0 : Int)).toNat = 0 from rfl] at hx208_3)
          (try rw [show 0 * 6 = 0 from rfl] at hx208_3)
          (try rw [Addr.add_zero'] at hx208_3)
          (try rw [show ((0 : Int)).toNat = 0 from rfl] at hx208_4)
          (try rw [show 0 * 6 = 0 from rfl] at hx208_4)
          (try rw [Addr.add_zero'] at hx208_4)
          (try rw [show ((0 : Int)).toNat = 0 from rfl] at hx208_5)
          (try rw [show 0 * 6 = 0 from rfl] at hx208_5)
          (try rw [Addr.add_zero'] at hx208_5)
          replace p208 := eq_true p208
          replace q208 := eq_true q208
          go_wp2
          go_ret
          exact ⟨by first | rfl | (simp [errW_none, errW_some] <;> rfl) | (simp [*, errW_none, errW_some] <;> rfl), RFn.bels⟩
        ·rw [if_neg c27] at H
         have c27b0 : (t200 == 0) = false := beq_eq_false_iff_ne.mpr c27
         have c27b1 : (t200 != 0) = true := bne_iff_ne.mpr c27
         obtain rfl := Option.some.inj H
         have p208 : 0 ≤ (0 : Int) := (by omega)
         have q208 : 0 < (t195.length : Int) := RFn.od
         obtain ⟨ad208, e208, hx208_0, hx208_1, hx208_2, hx208_3, hx208_4, hx208_5⟩ := at_T60 (Kd.R_reads' HO_3.out).2.2 0 p208 q208
         cases e208
         have qi208 : (0 < t195.length) = True := eq_true (by omega)
         (try rw [show ((0 : Int)).toNat = 0 from rfl] at hx208_0)
         (try rw [show 0 * 6 = 0 from rfl] at hx208_0)
         (try rw [Addr.add_zero'] at hx208_0)
         (try rw [show ((0 : Int)).toNat = 0 from rfl] at hx208_1)
         (try rw [show 0 * 6 = 0 from rfl] at hx208_1)
         (try rw [Addr.add_zero'] at hx208_1)
         (try rw [show ((0 : Int)).toNat = 0 from rfl] at hx208_2)
         (try rw [show 0 * 6 = 0 from rfl] at hx208_2)
         (try rw [Addr.add_zero'] at hx208_2)
         (try rw [show ((0 : Int)).toNat = 0 from rfl] at hx208_3)
         (try rw [show 0 * 6 = 0 from rfl] at hx208_3)
         (try rw [Addr.add_zero'] at hx208_3)
         (try rw [show ((0 : Int)).toNat = 0 from rfl] at hx208_4)
         (try rw [show 0 * 6 = 0 from rfl] at hx208_4)
         (try rw [Addr.add_zero'] at hx208_4)
         (try rw [show ((0 : Int)).toNat = 0 from rfl] at hx208_5)
         (try rw [show 0 * 6 = 0 from rfl] at hx208_5)
         (try rw [Addr.add_zero'] at hx208_5)
         replace p208 := eq_true p208
         replace q208 := eq_true q208
         go_wp2
         go_ret
         exact ⟨by first | rfl | (simp [errW_none, errW_some] <;> rfl) | (simp [*, errW_none, errW_some] <;> rfl), RFn.bels⟩
       ·rw [if_neg c26] at H
        have c26b0 : (t199 == 8) = false := beq_eq_false_iff_ne.mpr c26
        have c26b1 : (t199 != 8) = true := bne_iff_ne.mpr c26
        obtain rfl := Option.some.inj H
        have p208 : 0 ≤ (0 : Int) := (by omega)
        have q208 : 0 < (t195.length : Int) := RFn.od
        obtain ⟨ad208, e208, hx208_0, hx208_1, hx208_2, hx208_3, hx208_4, hx208_5⟩ := at_T60 (Kd.R_reads' HO_3.out).2.2 0 p208 q208
        cases e208
        have qi208 : (0 < t195.length) = True := eq_true (by omega)
        (try rw [show ((0 : Int)).toNat = 0 from rfl] at hx208_0)
        (try rw [show 0 * 6 = 0 from rfl] at hx208_0)
        (try rw [Addr.add_zero'] at hx208_0)
        (try rw [show ((0 : Int)).toNat = 0 from rfl] at hx208_1)
        (try rw [show 0 * 6 = 0 from rfl] at hx208_1)
        (try rw [Addr.add_zero'] at hx208_1)
        (try rw [show ((0 : Int)).toNat = 0 from rfl] at hx208_2)
        (try rw [show 0 * 6 = 0 from rfl] at hx208_2)
        (try rw [Addr.add_zero'] at hx208_2)
        (try rw [show ((0 : Int)).toNat = 0 from rfl] at hx208_3)
        (try rw [show 0 * 6 = 0 from rfl] at hx208_3)
        (try rw [Addr.add_zero'] at hx208_3)
        (try rw [show ((0 : Int)).toNat = 0 from rfl] at hx208_4)
        (try rw [show 0 * 6 = 0 from rfl] at hx208_4)
        (try rw [Addr.add_zero'] at hx208_4)
        (try rw [show ((0 : Int)).toNat = 0 from rfl] at hx208_5)
        (try rw [show 0 * 6 = 0 from rfl] at hx208_5)
        (try rw [Addr.add_zero'] at hx208_5)
        replace p208 := eq_true p208
        replace q208 := eq_true q208
        go_wp2
        go_ret
        exact ⟨by first | rfl | (simp [errW_none, errW_some] <;> rfl) | (simp [*, errW_none, errW_some] <;> rfl), RFn.bels⟩
      ·rw [if_neg c25] at H
       have c25b0 : (((rd_T60 t195 0).f1) == 3) = false := beq_eq_false_iff_ne.mpr c25
       have c25b1 : (((rd_T60 t195 0).f1) != 3) = true := bne_iff_ne.mpr c25
       obtain rfl := Option.some.inj H
       have p208 : 0 ≤ (0 : Int) := (by omega)
       have q208 : 0 < (t195.length : Int) := RFn.od
       obtain ⟨ad208, e208, hx208_0, hx208_1, hx208_2, hx208_3, hx208_4, hx208_5⟩ := at_T60 (Kd.R_reads' HO_3.out).2.2 0 p208 q208
       cases e208
       have qi208 : (0 < t195.length) = True := eq_true (by omega)
       (try rw [show ((0 : Int)).toNat = 0 from rfl] at hx208_0)
       (try rw [show 0 * 6 = 0 from rfl] at hx208_0)
       (try rw [Addr.add_zero'] at hx208_0)
       (try rw [show ((0 : Int)).toNat = 0 from rfl] at hx208_1)
       (try rw [show 0 * 6 = 0 from rfl] at hx208_1)
       (try rw [Addr.add_zero'] at hx208_1)
       (try rw [show ((0 : Int)).toNat = 0 from rfl] at hx208_2)
       (try rw [show 0 * 6 = 0 from rfl] at hx208_2)
       (try rw [Addr.add_zero'] at hx208_2)
       (try rw [show ((0 : Int)).toNat = 0 from rfl] at hx208_3)
       (try rw [show 0 * 6 = 0 from rfl] at hx208_3)
       (try rw [Addr.add_zero'] at hx208_3)
       (try rw [show ((0 : Int)).toNat = 0 from rfl] at hx208_4)
       (try rw [show 0 * 6 = 0 from rfl] at hx208_4)
       (try rw [Addr.add_zero'] at hx208_4)
       (try rw [show ((0 : Int)).toNat = 0 from rfl] at hx208_5)
       (try rw [show 0 * 6 = 0 from rfl] at hx208_5)
       (try rw [Addr.add_zero'] at hx208_5)
       replace p208 := eq_true p208
       replace q208 := eq_true q208
       go_wp2
       go_ret
       exact ⟨by first | rfl | (simp [errW_none, errW_some] <;> rfl) | (simp [*, errW_none, errW_some] <;> rfl), RFn.bels⟩
     ·rw [if_neg c24] at H
      exact absurd H (by simp)
    ·rw [if_neg c23] at H
     have c23b0 : ((t195.length : Int) == 2) = false := beq_eq_false_iff_ne.mpr c23
     have c23b1 : ((t195.length : Int) != 2) = true := bne_iff_ne.mpr c23
     obtain rfl := Option.some.inj H
     go_wp2
     go_ret
     exact ⟨by first | rfl | (simp [errW_none, errW_some] <;> rfl) | (simp [*, errW_none, errW_some] <;> rfl), RFn.bels⟩
   ·rw [if_neg c22] at H
    have c22b0 : (t196 == 0) = false := beq_eq_false_iff_ne.mpr c22
    have c22b1 : (t196 != 0) = true := bne_iff_ne.mpr c22
    obtain rfl := Option.some.inj H
    go_wp2
    go_ret
    exact ⟨by first | rfl | (simp [errW_none, errW_some] <;> rfl) | (simp [*, errW_none, errW_some] <;> rfl), RFn.bels⟩
/-! ### law09_Few: function 11 -/
def law09_Few.l0 : Nat → List (S28) → List (S28) → Int → Int → Option (Bool)
 | 0, _, _, _, _ => none
 | k + 1, x0, x6, x7, x8 => if x8 < x7 then (if 0 ≤ x8 then (if x8 < (x6.length : Int) then (if (((rd_T28 x6 x8).f0.f0).size : Int) > 40 then (some false) else (if (((rd_T28 x6 x8).f0.f1).size : Int) > 40 then (some false) else (if (((rd_T28 x6 x8).f0.f2).size : Int) > 40 then (some false) else (if (((rd_T28 x6 x8).f0.f3).size : Int) > 40 then (some false) else (law09_Few.l0 k x0 x6 x7 (wrap64 (x8 + 1))))))) else (none)) else (none)) else (some (decide ((x0.length : Int) ≤ 150)))
def law09_Few.f (k : Nat) (l0 : List (S28)) : Option (Bool) := law09_Few.l0 k l0 l0 (l0.length : Int) 0
theorem law09_Few.mono_l : ∀ k, (∀ y0 y1 y2 y3, LeO (law09_Few.l0 k y0 y1 y2 y3) (law09_Few.l0 (k + 1) y0 y1 y2 y3))
 | 0 => fun _ _ _ _ r h => by simp [law09_Few.l0] at h
 | k + 1 => by
  have ih0 := law09_Few.mono_l k
  ·intro y0 y1 y2 y3
   unfold law09_Few.l0
   repeat' first | exact LeO.refl _ | with_reducible first | apply ih0 | exact LeO.none _ | apply LeO.ite | refine LeO.bind ?_ fun _ => ?_
theorem law09_Few.mono : ∀ a0 k, LeO (law09_Few.f k a0) (law09_Few.f (k + 1) a0) := by
 intro a0 k
 have ih0 := law09_Few.mono_l k
 unfold law09_Few.f
 repeat' first | exact LeO.refl _ | with_reducible first | apply ih0 | exact LeO.none _ | apply LeO.ite | refine LeO.bind ?_ fun _ => ?_
set_option maxHeartbeats 8000000 in
set_option maxRecDepth 100000 in
theorem law09_Few.calls (k : Nat) (A0 : Option Addr) (c0 : Nat) (l0 : List (S28)) (r : Bool) (w : World) (hr0 : Kd.C k28 w A0 l0.length l0) (hc0 : l0.length ≤ c0) (h : law09_Few.f k l0 = some r) :
  Calls Try.prog 11 #[.slice A0 l0.length c0] w fun e w' => e = .returned (.bool r) ∧ Below w.heap.size w w' := by
 have hu28 := Try.underlying28
 have hu24 := Try.underlying24
 have HR0 := Aside0.mk hr0
 have HC0 := Aside0.mk hc0
 clear hr0 hc0
 have HB := Aside0.mk (Below.refl w.heap.size w)
 have H : (law09_Few.l0 k l0 l0 (l0.length : Int) 0) = some r := h
 clear h
 have H' := Aside0.mk H
 clear H
 go_enter Try.func11, Try.ntmps11
 go_wp2
 go_loopg [8] k (fun kq v8 w' => ∃ (x8_1 : Int), v8 = .int .i64 x8_1 ∧ Aside0 (law09_Few.l0 kq l0 l0 (l0.length : Int) x8_1 = some r) ∧ Aside0 (kq ≤ k) ∧ Aside0 (Below w.heap.size w w'))
 case atStart => exact ⟨(0), (by first | rfl | (simp; done) | (simp [*]; done)), H', ⟨Nat.le_refl _⟩, ⟨RFn.bel⟩⟩
 case round =>
  clear H'
  try clear c1
  obtain ⟨x8_1, rfl, HA, HK1, HB⟩ := hrel
  cases gk with
  | zero => exact absurd HA.out (by simp [law09_Few.l0])
  | succ k1 =>
   have H := HA.out
   clear HA
   simp only [law09_Few.l0] at H
   by_cases c2 : x8_1 < (l0.length : Int)
   ·rw [if_pos c2] at H
    have c2b0 : decide (x8_1 < (l0.length : Int)) = true := decide_eq_true c2
    clear c2
    by_cases c3 : 0 ≤ x8_1
    ·rw [if_pos c3] at H
     have c3b0 : decide (0 ≤ x8_1) = true := decide_eq_true c3
     clear c3
     by_cases c4 : x8_1 < (l0.length : Int)
     ·rw [if_pos c4] at H
      have c4b0 : decide (x8_1 < (l0.length : Int)) = true := decide_eq_true c4
      clear c4
      by_cases c5 : (((rd_T28 l0 x8_1).f0.f0).size : Int) > 40
      ·rw [if_pos c5] at H
       have c5b0 : decide (40 < (((rd_T28 l0 x8_1).f0.f0).size : Int)) = true := decide_eq_true c5
       have c5b1 : decide (40 < ((rd_T28 l0 x8_1).f0.f0).size) = true := decide_eq_true (by omega)
       clear c5
       obtain rfl := Option.some.inj H
       have p215 : 0 ≤ (x8_1 : Int) := RFn.od
       have q215 : x8_1 < (l0.length : Int) := RFn.od
       obtain ⟨ad215, e215, hx215_0, hx215_1, hx215_2, hx215_3, hx215_4, hx215_5⟩ := at_T28 HR0.out x8_1 p215 q215
       cases e215
       replace hx215_0 := RFn.hb HB hx215_0
       replace hx215_1 := RFn.hb HB hx215_1
       replace hx215_2 := RFn.hb HB hx215_2
       replace hx215_3 := RFn.hb HB hx215_3
       replace hx215_4 := RFn.hb HB hx215_4
       replace hx215_5 := RFn.hb HB hx215_5
       replace p215 := eq_true p215
       replace q215 := eq_true q215
       go_wp2_with (first | ((with_reducible refine gate_dst (N := 4) rfl ?_); (try (refine gate_guard (by rfl) ?_; dsimp only)); refine box_event ?hg (N := 4) ?hd (cs := #[.string (⟨#[]⟩ : ByteArray), .string (⟨#[]⟩ : ByteArray), .string (⟨#[]⟩ : ByteArray), .string (⟨#[]⟩ : ByteArray), .int .i64 0, .int .i64 0]) (t := 28) ?hr ?_; (case hd => rfl); (case hg => rfl); (case hr => first | (go_simp; done) | (go_simp; rfl)); intro gb216 hg w6 hbox hb; have n0_ := Aside0.mk (below_step (RFn.bel) hb); have n1_ := Aside0.mk (hbox); have n2_ := Aside0.mk ((by rw [hg]; exact (below_size (RFn.bel)) : w.heap.size ≤ gb216)); have n3_ := Aside0.mk ((by rw [hg]; exact (below_size (RFn.bel)) : w.heap.size ≤ gb216)); clear HB; have HB := n0_; have BK216 := n1_; have GW216 := n2_; have GE216 := n3_; clear n0_ n1_ n2_ n3_; clear hb hbox hg; obtain ⟨hcz7_0, hcz7_1, hcz7_2, hcz7_3, hcz7_4, hcz7_5⟩ := RFn.bc6 BK216; obtain ⟨hfz7_0, hfz7_1, hfz7_2, hfz7_3, hfz7_4, hfz7_5⟩ := RFn.bf6 BK216) | ((with_reducible refine gate_dst (N := 5) rfl ?_); (try (refine gate_guard (by rfl) ?_; dsimp only)); refine box_event ?hg (N := 5) ?hd (cs := #[.string (⟨#[]⟩ : ByteArray), .string (⟨#[]⟩ : ByteArray), .string (⟨#[]⟩ : ByteArray), .string (⟨#[]⟩ : ByteArray), .int .i64 0]) (t := 24) ?hr ?_; (case hd => rfl); (case hg => rfl); (case hr => first | (go_simp; done) | (go_simp; rfl)); intro gb217 hg w8 hbox hb; have n0_ := Aside0.mk (blk_below (g := gb216) (o := .cells #[.string ((rd_T28 l0 x8_1).f0.f0), .string ((rd_T28 l0 x8_1).f0.f1), .string ((rd_T28 l0 x8_1).f0.f2), .string ((rd_T28 l0 x8_1).f0.f3), .int .i64 ((rd_T28 l0 x8_1).f0.f4), .int .i64 ((rd_T28 l0 x8_1).f1)] 28 (0, 0)) (by refine RFn.d3 ?_; refine blk_put (cs := #[.string ((rd_T28 l0 x8_1).f0.f0), .string ((rd_T28 l0 x8_1).f0.f1), .string ((rd_T28 l0 x8_1).f0.f2), .string ((rd_T28 l0 x8_1).f0.f3), .int .i64 ((rd_T28 l0 x8_1).f0.f4), .int .i64 0]) ?_ 5 _ rfl; refine RFn.d3 ?_; refine blk_put (cs := #[.string ((rd_T28 l0 x8_1).f0.f0), .string ((rd_T28 l0 x8_1).f0.f1), .string ((rd_T28 l0 x8_1).f0.f2), .string ((rd_T28 l0 x8_1).f0.f3), .int .i64 0, .int .i64 0]) ?_ 4 _ rfl; refine RFn.d3 ?_; refine blk_put (cs := #[.string ((rd_T28 l0 x8_1).f0.f0), .string ((rd_T28 l0 x8_1).f0.f1), .string ((rd_T28 l0 x8_1).f0.f2), .string (⟨#[]⟩ : ByteArray), .int .i64 0, .int .i64 0]) ?_ 3 _ rfl; refine RFn.d3 ?_; refine blk_put (cs := #[.string ((rd_T28 l0 x8_1).f0.f0), .string ((rd_T28 l0 x8_1).f0.f1), .string (⟨#[]⟩ : ByteArray), .string (⟨#[]⟩ : ByteArray), .int .i64 0, .int .i64 0]) ?_ 2 _ rfl; refine RFn.d3 ?_; refine blk_put (cs := #[.string ((rd_T28 l0 x8_1).f0.f0), .string (⟨#[]⟩ : ByteArray), .string (⟨#[]⟩ : ByteArray), .string (⟨#[]⟩ : ByteArray), .int .i64 0, .int .i64 0]) ?_ 1 _ rfl; refine RFn.d3 ?_; refine blk_put (cs := #[.string (⟨#[]⟩ : ByteArray), .string (⟨#[]⟩ : ByteArray), .string (⟨#[]⟩ : ByteArray), .string (⟨#[]⟩ : ByteArray), .int .i64 0, .int .i64 0]) ?_ 0 _ rfl; refine RFn.d3 ?_; exact BK216.out) hb); have n1_ := Aside0.mk (below_step RFn.bels hb); have n2_ := Aside0.mk (hbox); have n3_ := Aside0.mk ((by rw [hg]; exact (below_size RFn.bels) : w.heap.size ≤ gb217)); have n4_ := Aside0.mk ((by rw [hg]; exact (below_size RFn.bels) : w.heap.size ≤ gb217)); have n5_ := Aside0.mk ((by rw [hg]; exact Nat.ne_of_lt (blk_lt (g := gb216) (o := .cells #[.string ((rd_T28 l0 x8_1).f0.f0), .string ((rd_T28 l0 x8_1).f0.f1), .string ((rd_T28 l0 x8_1).f0.f2), .string ((rd_T28 l0 x8_1).f0.f3), .int .i64 ((rd_T28 l0 x8_1).f0.f4), .int .i64 ((rd_T28 l0 x8_1).f1)] 28 (0, 0)) (by refine RFn.d3 ?_; refine blk_put (cs := #[.string ((rd_T28 l0 x8_1).f0.f0), .string ((rd_T28 l0 x8_1).f0.f1), .string ((rd_T28 l0 x8_1).f0.f2), .string ((rd_T28 l0 x8_1).f0.f3), .int .i64 ((rd_T28 l0 x8_1).f0.f4), .int .i64 0]) ?_ 5 _ rfl; refine RFn.d3 ?_; refine blk_put (cs := #[.string ((rd_T28 l0 x8_1).f0.f0), .string ((rd_T28 l0 x8_1).f0.f1), .string ((rd_T28 l0 x8_1).f0.f2), .string ((rd_T28 l0 x8_1).f0.f3), .int .i64 0, .int .i64 0]) ?_ 4 _ rfl; refine RFn.d3 ?_; refine blk_put (cs := #[.string ((rd_T28 l0 x8_1).f0.f0), .string ((rd_T28 l0 x8_1).f0.f1), .string ((rd_T28 l0 x8_1).f0.f2), .string (⟨#[]⟩ : ByteArray), .int .i64 0, .int .i64 0]) ?_ 3 _ rfl; refine RFn.d3 ?_; refine blk_put (cs := #[.string ((rd_T28 l0 x8_1).f0.f0), .string ((rd_T28 l0 x8_1).f0.f1), .string (⟨#[]⟩ : ByteArray), .string (⟨#[]⟩ : ByteArray), .int .i64 0, .int .i64 0]) ?_ 2 _ rfl; refine RFn.d3 ?_; refine blk_put (cs := #[.string ((rd_T28 l0 x8_1).f0.f0), .string (⟨#[]⟩ : ByteArray), .string (⟨#[]⟩ : ByteArray), .string (⟨#[]⟩ : ByteArray), .int .i64 0, .int .i64 0]) ?_ 1 _ rfl; refine RFn.d3 ?_; refine blk_put (cs := #[.string (⟨#[]⟩ : ByteArray), .string (⟨#[]⟩ : ByteArray), .string (⟨#[]⟩ : ByteArray), .string (⟨#[]⟩ : ByteArray), .int .i64 0, .int .i64 0]) ?_ 0 _ rfl; refine RFn.d3 ?_; exact BK216.out)) : gb216 ≠ gb217)); have n6_ := Aside0.mk ((by rw [hg]; exact Nat.ne_of_gt (blk_lt (g := gb216) (o := .cells #[.string ((rd_T28 l0 x8_1).f0.f0), .string ((rd_T28 l0 x8_1).f0.f1), .string ((rd_T28 l0 x8_1).f0.f2), .string ((rd_T28 l0 x8_1).f0.f3), .int .i64 ((rd_T28 l0 x8_1).f0.f4), .int .i64 ((rd_T28 l0 x8_1).f1)] 28 (0, 0)) (by refine RFn.d3 ?_; refine blk_put (cs := #[.string ((rd_T28 l0 x8_1).f0.f0), .string ((rd_T28 l0 x8_1).f0.f1), .string ((rd_T28 l0 x8_1).f0.f2), .string ((rd_T28 l0 x8_1).f0.f3), .int .i64 ((rd_T28 l0 x8_1).f0.f4), .int .i64 0]) ?_ 5 _ rfl; refine RFn.d3 ?_; refine blk_put (cs := #[.string ((rd_T28 l0 x8_1).f0.f0), .string ((rd_T28 l0 x8_1).f0.f1), .string ((rd_T28 l0 x8_1).f0.f2), .string ((rd_T28 l0 x8_1).f0.f3), .int .i64 0, .int .i64 0]) ?_ 4 _ rfl; refine RFn.d3 ?_; refine blk_put (cs := #[.string ((rd_T28 l0 x8_1).f0.f0), .string ((rd_T28 l0 x8_1).f0.f1), .string ((rd_T28 l0 x8_1).f0.f2), .string (⟨#[]⟩ : ByteArray), .int .i64 0, .int .i64 0]) ?_ 3 _ rfl; refine RFn.d3 ?_; refine blk_put (cs := #[.string ((rd_T28 l0 x8_1).f0.f0), .string ((rd_T28 l0 x8_1).f0.f1), .string (⟨#[]⟩ : ByteArray), .string (⟨#[]⟩ : ByteArray), .int .i64 0, .int .i64 0]) ?_ 2 _ rfl; refine RFn.d3 ?_; refine blk_put (cs := #[.string ((rd_T28 l0 x8_1).f0.f0), .string (⟨#[]⟩ : ByteArray), .string (⟨#[]⟩ : ByteArray), .string (⟨#[]⟩ : ByteArray), .int .i64 0, .int .i64 0]) ?_ 1 _ rfl; refine RFn.d3 ?_; refine blk_put (cs := #[.string (⟨#[]⟩ : ByteArray), .string (⟨#[]⟩ : ByteArray), .string (⟨#[]⟩ : ByteArray), .string (⟨#[]⟩ : ByteArray), .int .i64 0, .int .i64 0]) ?_ 0 _ rfl; refine RFn.d3 ?_; exact BK216.out)) : gb217 ≠ gb216)); clear BK216; clear HB; have BK216 := n0_; have HB := n1_; have BK217 := n2_; have GW217 := n3_; have GE217 := n4_; have NB216_217 := n5_; have NB217_216 := n6_; clear n0_ n1_ n2_ n3_ n4_ n5_ n6_; clear hb hbox hg; have hnb9 := NB217_216.out; have hnc9 := NB216_217.out; obtain ⟨hcz10_0, hcz10_1, hcz10_2, hcz10_3, hcz10_4⟩ := RFn.bc5 BK217; obtain ⟨hfz10_0, hfz10_1, hfz10_2, hfz10_3, hfz10_4⟩ := RFn.bf5 BK217))
       go_ret
       exact ⟨by first | rfl | (simp [errW_none, errW_some] <;> rfl) | (simp [*, errW_none, errW_some] <;> rfl), RFn.bels⟩
      ·rw [if_neg c5] at H
       have c5b0 : decide (40 < (((rd_T28 l0 x8_1).f0.f0).size : Int)) = false := decide_eq_false c5
       have c5b1 : decide (40 < ((rd_T28 l0 x8_1).f0.f0).size) = false := decide_eq_false (by omega)
       clear c5
       by_cases c11 : (((rd_T28 l0 x8_1).f0.f1).size : Int) > 40
       ·rw [if_pos c11] at H
        have c11b0 : decide (40 < (((rd_T28 l0 x8_1).f0.f1).size : Int)) = true := decide_eq_true c11
        have c11b1 : decide (40 < ((rd_T28 l0 x8_1).f0.f1).size) = true := decide_eq_true (by omega)
        clear c11
        obtain rfl := Option.some.inj H
        have p215 : 0 ≤ (x8_1 : Int) := RFn.od
        have q215 : x8_1 < (l0.length : Int) := RFn.od
        obtain ⟨ad215, e215, hx215_0, hx215_1, hx215_2, hx215_3, hx215_4, hx215_5⟩ := at_T28 HR0.out x8_1 p215 q215
        cases e215
        replace hx215_0 := RFn.hb HB hx215_0
        replace hx215_1 := RFn.hb HB hx215_1
        replace hx215_2 := RFn.hb HB hx215_2
        replace hx215_3 := RFn.hb HB hx215_3
        replace hx215_4 := RFn.hb HB hx215_4
        replace hx215_5 := RFn.hb HB hx215_5
        replace p215 := eq_true p215
        replace q215 := eq_true q215
        go_wp2_with (first | ((with_reducible refine gate_dst (N := 4) rfl ?_); (try (refine gate_guard (by rfl) ?_; dsimp only)); refine box_event ?hg (N := 4) ?hd (cs := #[.string (⟨#[]⟩ : ByteArray), .string (⟨#[]⟩ : ByteArray), .string (⟨#[]⟩ : ByteArray), .string (⟨#[]⟩ : ByteArray), .int .i64 0, .int .i64 0]) (t := 28) ?hr ?_; (case hd => rfl); (case hg => rfl); (case hr => first | (go_simp; done) | (go_simp; rfl)); intro gb216 hg w12 hbox hb; have n0_ := Aside0.mk (below_step (RFn.bel) hb); have n1_ := Aside0.mk (hbox); have n2_ := Aside0.mk ((by rw [hg]; exact (below_size (RFn.bel)) : w.heap.size ≤ gb216)); have n3_ := Aside0.mk ((by rw [hg]; exact (below_size (RFn.bel)) : w.heap.size ≤ gb216)); clear HB; have HB := n0_; have BK216 := n1_; have GW216 := n2_; have GE216 := n3_; clear n0_ n1_ n2_ n3_; clear hb hbox hg; obtain ⟨hcz13_0, hcz13_1, hcz13_2, hcz13_3, hcz13_4, hcz13_5⟩ := RFn.bc6 BK216; obtain ⟨hfz13_0, hfz13_1, hfz13_2, hfz13_3, hfz13_4, hfz13_5⟩ := RFn.bf6 BK216) | ((with_reducible refine gate_dst (N := 5) rfl ?_); (try (refine gate_guard (by rfl) ?_; dsimp only)); refine box_event ?hg (N := 5) ?hd (cs := #[.string (⟨#[]⟩ : ByteArray), .string (⟨#[]⟩ : ByteArray), .string (⟨#[]⟩ : ByteArray), .string (⟨#[]⟩ : ByteArray), .int .i64 0]) (t := 24) ?hr ?_; (case hd => rfl); (case hg => rfl); (case hr => first | (go_simp; done) | (go_simp; rfl)); intro gb217 hg w14 hbox hb; have n0_ := Aside0.mk (blk_below (g := gb216) (o := .cells #[.string ((rd_T28 l0 x8_1).f0.f0), .string ((rd_T28 l0 x8_1).f0.f1), .string ((rd_T28 l0 x8_1).f0.f2), .string ((rd_T28 l0 x8_1).f0.f3), .int .i64 ((rd_T28 l0 x8_1).f0.f4), .int .i64 ((rd_T28 l0 x8_1).f1)] 28 (0, 0)) (by refine RFn.d3 ?_; refine blk_put (cs := #[.string ((rd_T28 l0 x8_1).f0.f0), .string ((rd_T28 l0 x8_1).f0.f1), .string ((rd_T28 l0 x8_1).f0.f2), .string ((rd_T28 l0 x8_1).f0.f3), .int .i64 ((rd_T28 l0 x8_1).f0.f4), .int .i64 0]) ?_ 5 _ rfl; refine RFn.d3 ?_; refine blk_put (cs := #[.string ((rd_T28 l0 x8_1).f0.f0), .string ((rd_T28 l0 x8_1).f0.f1), .string ((rd_T28 l0 x8_1).f0.f2), .string ((rd_T28 l0 x8_1).f0.f3), .int .i64 0, .int .i64 0]) ?_ 4 _ rfl; refine RFn.d3 ?_; refine blk_put (cs := #[.string ((rd_T28 l0 x8_1).f0.f0), .string ((rd_T28 l0 x8_1).f0.f1), .string ((rd_T28 l0 x8_1).f0.f2), .string (⟨#[]⟩ : ByteArray), .int .i64 0, .int .i64 0]) ?_ 3 _ rfl; refine RFn.d3 ?_; refine blk_put (cs := #[.string ((rd_T28 l0 x8_1).f0.f0), .string ((rd_T28 l0 x8_1).f0.f1), .string (⟨#[]⟩ : ByteArray), .string (⟨#[]⟩ : ByteArray), .int .i64 0, .int .i64 0]) ?_ 2 _ rfl; refine RFn.d3 ?_; refine blk_put (cs := #[.string ((rd_T28 l0 x8_1).f0.f0), .string (⟨#[]⟩ : ByteArray), .string (⟨#[]⟩ : ByteArray), .string (⟨#[]⟩ : ByteArray), .int .i64 0, .int .i64 0]) ?_ 1 _ rfl; refine RFn.d3 ?_; refine blk_put (cs := #[.string (⟨#[]⟩ : ByteArray), .string (⟨#[]⟩ : ByteArray), .string (⟨#[]⟩ : ByteArray), .string (⟨#[]⟩ : ByteArray), .int .i64 0, .int .i64 0]) ?_ 0 _ rfl; refine RFn.d3 ?_; exact BK216.out) hb); have n1_ := Aside0.mk (below_step RFn.bels hb); have n2_ := Aside0.mk (hbox); have n3_ := Aside0.mk ((by rw [hg]; exact (below_size RFn.bels) : w.heap.size ≤ gb217)); have n4_ := Aside0.mk ((by rw [hg]; exact (below_size RFn.bels) : w.heap.size ≤ gb217)); have n5_ := Aside0.mk ((by rw [hg]; exact Nat.ne_of_lt (blk_lt (g := gb216) (o := .cells #[.string ((rd_T28 l0 x8_1).f0.f0), .string ((rd_T28 l0 x8_1).f0.f1), .string ((rd_T28 l0 x8_1).f0.f2), .string ((rd_T28 l0 x8_1).f0.f3), .int .i64 ((rd_T28 l0 x8_1).f0.f4), .int .i64 ((rd_T28 l0 x8_1).f1)] 28 (0, 0)) (by refine RFn.d3 ?_; refine blk_put (cs := #[.string ((rd_T28 l0 x8_1).f0.f0), .string ((rd_T28 l0 x8_1).f0.f1), .string ((rd_T28 l0 x8_1).f0.f2), .string ((rd_T28 l0 x8_1).f0.f3), .int .i64 ((rd_T28 l0 x8_1).f0.f4), .int .i64 0]) ?_ 5 _ rfl; refine RFn.d3 ?_; refine blk_put (cs := #[.string ((rd_T28 l0 x8_1).f0.f0), .string ((rd_T28 l0 x8_1).f0.f1), .string ((rd_T28 l0 x8_1).f0.f2), .string ((rd_T28 l0 x8_1).f0.f3), .int .i64 0, .int .i64 0]) ?_ 4 _ rfl; refine RFn.d3 ?_; refine blk_put (cs := #[.string ((rd_T28 l0 x8_1).f0.f0), .string ((rd_T28 l0 x8_1).f0.f1), .string ((rd_T28 l0 x8_1).f0.f2), .string (⟨#[]⟩ : ByteArray), .int .i64 0, .int .i64 0]) ?_ 3 _ rfl; refine RFn.d3 ?_; refine blk_put (cs := #[.string ((rd_T28 l0 x8_1).f0.f0), .string ((rd_T28 l0 x8_1).f0.f1), .string (⟨#[]⟩ : ByteArray), .string (⟨#[]⟩ : ByteArray), .int .i64 0, .int .i64 0]) ?_ 2 _ rfl; refine RFn.d3 ?_; refine blk_put (cs := #[.string ((rd_T28 l0 x8_1).f0.f0), .string (⟨#[]⟩ : ByteArray), .string (⟨#[]⟩ : ByteArray), .string (⟨#[]⟩ : ByteArray), .int .i64 0, .int .i64 0]) ?_ 1 _ rfl; refine RFn.d3 ?_; refine blk_put (cs := #[.string (⟨#[]⟩ : ByteArray), .string (⟨#[]⟩ : ByteArray), .string (⟨#[]⟩ : ByteArray), .string (⟨#[]⟩ : ByteArray), .int .i64 0, .int .i64 0]) ?_ 0 _ rfl; refine RFn.d3 ?_; exact BK216.out)) : gb216 ≠ gb217)); have n6_ := Aside0.mk ((by rw [hg]; exact Nat.ne_of_gt (blk_lt (g := gb216) (o := .cells #[.string ((rd_T28 l0 x8_1).f0.f0), .string ((rd_T28 l0 x8_1).f0.f1), .string ((rd_T28 l0 x8_1).f0.f2), .string ((rd_T28 l0 x8_1).f0.f3), .int .i64 ((rd_T28 l0 x8_1).f0.f4), .int .i64 ((rd_T28 l0 x8_1).f1)] 28 (0, 0)) (by refine RFn.d3 ?_; refine blk_put (cs := #[.string ((rd_T28 l0 x8_1).f0.f0), .string ((rd_T28 l0 x8_1).f0.f1), .string ((rd_T28 l0 x8_1).f0.f2), .string ((rd_T28 l0 x8_1).f0.f3), .int .i64 ((rd_T28 l0 x8_1).f0.f4), .int .i64 0]) ?_ 5 _ rfl; refine RFn.d3 ?_; refine blk_put (cs := #[.string ((rd_T28 l0 x8_1).f0.f0), .string ((rd_T28 l0 x8_1).f0.f1), .string ((rd_T28 l0 x8_1).f0.f2), .string ((rd_T28 l0 x8_1).f0.f3), .int .i64 0, .int .i64 0]) ?_ 4 _ rfl; refine RFn.d3 ?_; refine blk_put (cs := #[.string ((rd_T28 l0 x8_1).f0.f0), .string ((rd_T28 l0 x8_1).f0.f1), .string ((rd_T28 l0 x8_1).f0.f2), .string (⟨#[]⟩ : ByteArray), .int .i64 0, .int .i64 0]) ?_ 3 _ rfl; refine RFn.d3 ?_; refine blk_put (cs := #[.string ((rd_T28 l0 x8_1).f0.f0), .string ((rd_T28 l0 x8_1).f0.f1), .string (⟨#[]⟩ : ByteArray), .string (⟨#[]⟩ : ByteArray), .int .i64 0, .int .i64 0]) ?_ 2 _ rfl; refine RFn.d3 ?_; refine blk_put (cs := #[.string ((rd_T28 l0 x8_1).f0.f0), .string (⟨#[]⟩ : ByteArray), .string (⟨#[]⟩ : ByteArray), .string (⟨#[]⟩ : ByteArray), .int .i64 0, .int .i64 0]) ?_ 1 _ rfl; refine RFn.d3 ?_; refine blk_put (cs := #[.string (⟨#[]⟩ : ByteArray), .string (⟨#[]⟩ : ByteArray), .string (⟨#[]⟩ : ByteArray), .string (⟨#[]⟩ : ByteArray), .int .i64 0, .int .i64 0]) ?_ 0 _ rfl; refine RFn.d3 ?_; exact BK216.out)) : gb217 ≠ gb216)); clear BK216; clear HB; have BK216 := n0_; have HB := n1_; have BK217 := n2_; have GW217 := n3_; have GE217 := n4_; have NB216_217 := n5_; have NB217_216 := n6_; clear n0_ n1_ n2_ n3_ n4_ n5_ n6_; clear hb hbox hg; have hnb15 := NB217_216.out; have hnc15 := NB216_217.out; obtain ⟨hcz16_0, hcz16_1, hcz16_2, hcz16_3, hcz16_4⟩ := RFn.bc5 BK217; obtain ⟨hfz16_0, hfz16_1, hfz16_2, hfz16_3, hfz16_4⟩ := RFn.bf5 BK217))
        go_ret
        exact ⟨by first | rfl | (simp [errW_none, errW_some] <;> rfl) | (simp [*, errW_none, errW_some] <;> rfl), RFn.bels⟩
       ·rw [if_neg c11] at H
        have c11b0 : decide (40 < (((rd_T28 l0 x8_1).f0.f1).size : Int)) = false := decide_eq_false c11
        have c11b1 : decide (40 < ((rd_T28 l0 x8_1).f0.f1).size) = false := decide_eq_false (by omega)
        clear c11
        by_cases c17 : (((rd_T28 l0 x8_1).f0.f2).size : Int) > 40
        ·rw [if_pos c17] at H
         have c17b0 : decide (40 < (((rd_T28 l0 x8_1).f0.f2).size : Int)) = true := decide_eq_true c17
         have c17b1 : decide (40 < ((rd_T28 l0 x8_1).f0.f2).size) = true := decide_eq_true (by omega)
         clear c17
         obtain rfl := Option.some.inj H
         have p215 : 0 ≤ (x8_1 : Int) := RFn.od
         have q215 : x8_1 < (l0.length : Int) := RFn.od
         obtain ⟨ad215, e215, hx215_0, hx215_1, hx215_2, hx215_3, hx215_4, hx215_5⟩ := at_T28 HR0.out x8_1 p215 q215
         cases e215
         replace hx215_0 := RFn.hb HB hx215_0
         replace hx215_1 := RFn.hb HB hx215_1
         replace hx215_2 := RFn.hb HB hx215_2
         replace hx215_3 := RFn.hb HB hx215_3
         replace hx215_4 := RFn.hb HB hx215_4
         replace hx215_5 := RFn.hb HB hx215_5
         replace p215 := eq_true p215
         replace q215 := eq_true q215
         go_wp2_with (first | ((with_reducible refine gate_dst (N := 4) rfl ?_); (try (refine gate_guard (by rfl) ?_; dsimp only)); refine box_event ?hg (N := 4) ?hd (cs := #[.string (⟨#[]⟩ : ByteArray), .string (⟨#[]⟩ : ByteArray), .string (⟨#[]⟩ : ByteArray), .string (⟨#[]⟩ : ByteArray), .int .i64 0, .int .i64 0]) (t := 28) ?hr ?_; (case hd => rfl); (case hg => rfl); (case hr => first | (go_simp; done) | (go_simp; rfl)); intro gb216 hg w18 hbox hb; have n0_ := Aside0.mk (below_step (RFn.bel) hb); have n1_ := Aside0.mk (hbox); have n2_ := Aside0.mk ((by rw [hg]; exact (below_size (RFn.bel)) : w.heap.size ≤ gb216)); have n3_ := Aside0.mk ((by rw [hg]; exact (below_size (RFn.bel)) : w.heap.size ≤ gb216)); clear HB; have HB := n0_; have BK216 := n1_; have GW216 := n2_; have GE216 := n3_; clear n0_ n1_ n2_ n3_; clear hb hbox hg; obtain ⟨hcz19_0, hcz19_1, hcz19_2, hcz19_3, hcz19_4, hcz19_5⟩ := RFn.bc6 BK216; obtain ⟨hfz19_0, hfz19_1, hfz19_2, hfz19_3, hfz19_4, hfz19_5⟩ := RFn.bf6 BK216) | ((with_reducible refine gate_dst (N := 5) rfl ?_); (try (refine gate_guard (by rfl) ?_; dsimp only)); refine box_event ?hg (N := 5) ?hd (cs := #[.string (⟨#[]⟩ : ByteArray), .string (⟨#[]⟩ : ByteArray), .string (⟨#[]⟩ : ByteArray), .string (⟨#[]⟩ : ByteArray), .int .i64 0]) (t := 24) ?hr ?_; (case hd => rfl); (case hg => rfl); (case hr => first | (go_simp; done) | (go_simp; rfl)); intro gb217 hg w20 hbox hb; have n0_ := Aside0.mk (blk_below (g := gb216) (o := .cells #[.string ((rd_T28 l0 x8_1).f0.f0), .string ((rd_T28 l0 x8_1).f0.f1), .string ((rd_T28 l0 x8_1).f0.f2), .string ((rd_T28 l0 x8_1).f0.f3), .int .i64 ((rd_T28 l0 x8_1).f0.f4), .int .i64 ((rd_T28 l0 x8_1).f1)] 28 (0, 0)) (by refine RFn.d3 ?_; refine blk_put (cs := #[.string ((rd_T28 l0 x8_1).f0.f0), .string ((rd_T28 l0 x8_1).f0.f1), .string ((rd_T28 l0 x8_1).f0.f2), .string ((rd_T28 l0 x8_1).f0.f3), .int .i64 ((rd_T28 l0 x8_1).f0.f4), .int .i64 0]) ?_ 5 _ rfl; refine RFn.d3 ?_; refine blk_put (cs := #[.string ((rd_T28 l0 x8_1).f0.f0), .string ((rd_T28 l0 x8_1).f0.f1), .string ((rd_T28 l0 x8_1).f0.f2), .string ((rd_T28 l0 x8_1).f0.f3), .int .i64 0, .int .i64 0]) ?_ 4 _ rfl; refine RFn.d3 ?_; refine blk_put (cs := #[.string ((rd_T28 l0 x8_1).f0.f0), .string ((rd_T28 l0 x8_1).f0.f1), .string ((rd_T28 l0 x8_1).f0.f2), .string (⟨#[]⟩ : ByteArray), .int .i64 0, .int .i64 0]) ?_ 3 _ rfl; refine RFn.d3 ?_; refine blk_put (cs := #[.string ((rd_T28 l0 x8_1).f0.f0), .string ((rd_T28 l0 x8_1).f0.f1), .string (⟨#[]⟩ : ByteArray), .string (⟨#[]⟩ : ByteArray), .int .i64 0, .int .i64 0]) ?_ 2 _ rfl; refine RFn.d3 ?_; refine blk_put (cs := #[.string ((rd_T28 l0 x8_1).f0.f0), .string (⟨#[]⟩ : ByteArray), .string (⟨#[]⟩ : ByteArray), .string (⟨#[]⟩ : ByteArray), .int .i64 0, .int .i64 0]) ?_ 1 _ rfl; refine RFn.d3 ?_; refine blk_put (cs := #[.string (⟨#[]⟩ : ByteArray), .string (⟨#[]⟩ : ByteArray), .string (⟨#[]⟩ : ByteArray), .string (⟨#[]⟩ : ByteArray), .int .i64 0, .int .i64 0]) ?_ 0 _ rfl; refine RFn.d3 ?_; exact BK216.out) hb); have n1_ := Aside0.mk (below_step RFn.bels hb); have n2_ := Aside0.mk (hbox); have n3_ := Aside0.mk ((by rw [hg]; exact (below_size RFn.bels) : w.heap.size ≤ gb217)); have n4_ := Aside0.mk ((by rw [hg]; exact (below_size RFn.bels) : w.heap.size ≤ gb217)); have n5_ := Aside0.mk ((by rw [hg]; exact Nat.ne_of_lt (blk_lt (g := gb216) (o := .cells #[.string ((rd_T28 l0 x8_1).f0.f0), .string ((rd_T28 l0 x8_1).f0.f1), .string ((rd_T28 l0 x8_1).f0.f2), .string ((rd_T28 l0 x8_1).f0.f3), .int .i64 ((rd_T28 l0 x8_1).f0.f4), .int .i64 ((rd_T28 l0 x8_1).f1)] 28 (0, 0)) (by refine RFn.d3 ?_; refine blk_put (cs := #[.string ((rd_T28 l0 x8_1).f0.f0), .string ((rd_T28 l0 x8_1).f0.f1), .string ((rd_T28 l0 x8_1).f0.f2), .string ((rd_T28 l0 x8_1).f0.f3), .int .i64 ((rd_T28 l0 x8_1).f0.f4), .int .i64 0]) ?_ 5 _ rfl; refine RFn.d3 ?_; refine blk_put (cs := #[.string ((rd_T28 l0 x8_1).f0.f0), .string ((rd_T28 l0 x8_1).f0.f1), .string ((rd_T28 l0 x8_1).f0.f2), .string ((rd_T28 l0 x8_1).f0.f3), .int .i64 0, .int .i64 0]) ?_ 4 _ rfl; refine RFn.d3 ?_; refine blk_put (cs := #[.string ((rd_T28 l0 x8_1).f0.f0), .string ((rd_T28 l0 x8_1).f0.f1), .string ((rd_T28 l0 x8_1).f0.f2), .string (⟨#[]⟩ : ByteArray), .int .i64 0, .int .i64 0]) ?_ 3 _ rfl; refine RFn.d3 ?_; refine blk_put (cs := #[.string ((rd_T28 l0 x8_1).f0.f0), .string ((rd_T28 l0 x8_1).f0.f1), .string (⟨#[]⟩ : ByteArray), .string (⟨#[]⟩ : ByteArray), .int .i64 0, .int .i64 0]) ?_ 2 _ rfl; refine RFn.d3 ?_; refine blk_put (cs := #[.string ((rd_T28 l0 x8_1).f0.f0), .string (⟨#[]⟩ : ByteArray), .string (⟨#[]⟩ : ByteArray), .string (⟨#[]⟩ : ByteArray), .int .i64 0, .int .i64 0]) ?_ 1 _ rfl; refine RFn.d3 ?_; refine blk_put (cs := #[.string (⟨#[]⟩ : ByteArray), .string (⟨#[]⟩ : ByteArray), .string (⟨#[]⟩ : ByteArray), .string (⟨#[]⟩ : ByteArray), .int .i64 0, .int .i64 0]) ?_ 0 _ rfl; refine RFn.d3 ?_; exact BK216.out)) : gb216 ≠ gb217)); have n6_ := Aside0.mk ((by rw [hg]; exact Nat.ne_of_gt (blk_lt (g := gb216) (o := .cells #[.string ((rd_T28 l0 x8_1).f0.f0), .string ((rd_T28 l0 x8_1).f0.f1), .string ((rd_T28 l0 x8_1).f0.f2), .string ((rd_T28 l0 x8_1).f0.f3), .int .i64 ((rd_T28 l0 x8_1).f0.f4), .int .i64 ((rd_T28 l0 x8_1).f1)] 28 (0, 0)) (by refine RFn.d3 ?_; refine blk_put (cs := #[.string ((rd_T28 l0 x8_1).f0.f0), .string ((rd_T28 l0 x8_1).f0.f1), .string ((rd_T28 l0 x8_1).f0.f2), .string ((rd_T28 l0 x8_1).f0.f3), .int .i64 ((rd_T28 l0 x8_1).f0.f4), .int .i64 0]) ?_ 5 _ rfl; refine RFn.d3 ?_; refine blk_put (cs := #[.string ((rd_T28 l0 x8_1).f0.f0), .string ((rd_T28 l0 x8_1).f0.f1), .string ((rd_T28 l0 x8_1).f0.f2), .string ((rd_T28 l0 x8_1).f0.f3), .int .i64 0, .int .i64 0]) ?_ 4 _ rfl; refine RFn.d3 ?_; refine blk_put (cs := #[.string ((rd_T28 l0 x8_1).f0.f0), .string ((rd_T28 l0 x8_1).f0.f1), .string ((rd_T28 l0 x8_1).f0.f2), .string (⟨#[]⟩ : ByteArray), .int .i64 0, .int .i64 0]) ?_ 3 _ rfl; refine RFn.d3 ?_; refine blk_put (cs := #[.string ((rd_T28 l0 x8_1).f0.f0), .string ((rd_T28 l0 x8_1).f0.f1), .string (⟨#[]⟩ : ByteArray), .string (⟨#[]⟩ : ByteArray), .int .i64 0, .int .i64 0]) ?_ 2 _ rfl; refine RFn.d3 ?_; refine blk_put (cs := #[.string ((rd_T28 l0 x8_1).f0.f0), .string (⟨#[]⟩ : ByteArray), .string (⟨#[]⟩ : ByteArray), .string (⟨#[]⟩ : ByteArray), .int .i64 0, .int .i64 0]) ?_ 1 _ rfl; refine RFn.d3 ?_; refine blk_put (cs := #[.string (⟨#[]⟩ : ByteArray), .string (⟨#[]⟩ : ByteArray), .string (⟨#[]⟩ : ByteArray), .string (⟨#[]⟩ : ByteArray), .int .i64 0, .int .i64 0]) ?_ 0 _ rfl; refine RFn.d3 ?_; exact BK216.out)) : gb217 ≠ gb216)); clear BK216; clear HB; have BK216 := n0_; have HB := n1_; have BK217 := n2_; have GW217 := n3_; have GE217 := n4_; have NB216_217 := n5_; have NB217_216 := n6_; clear n0_ n1_ n2_ n3_ n4_ n5_ n6_; clear hb hbox hg; have hnb21 := NB217_216.out; have hnc21 := NB216_217.out; obtain ⟨hcz22_0, hcz22_1, hcz22_2, hcz22_3, hcz22_4⟩ := RFn.bc5 BK217; obtain ⟨hfz22_0, hfz22_1, hfz22_2, hfz22_3, hfz22_4⟩ := RFn.bf5 BK217))
         go_ret
         exact ⟨by first | rfl | (simp [errW_none, errW_some] <;> rfl) | (simp [*, errW_none, errW_some] <;> rfl), RFn.bels⟩
        ·rw [if_neg c17] at H
         have c17b0 : decide (40 < (((rd_T28 l0 x8_1).f0.f2).size : Int)) = false := decide_eq_false c17
         have c17b1 : decide (40 < ((rd_T28 l0 x8_1).f0.f2).size) = false := decide_eq_false (by omega)
         clear c17
         by_cases c23 : (((rd_T28 l0 x8_1).f0.f3).size : Int) > 40
         ·rw [if_pos c23] at H
          have c23b0 : decide (40 < (((rd_T28 l0 x8_1).f0.f3).size : Int)) = true := decide_eq_true c23
          have c23b1 : decide (40 < ((rd_T28 l0 x8_1).f0.f3).size) = true := decide_eq_true (by omega)
          clear c23
          obtain rfl := Option.some.inj H
          have p215 : 0 ≤ (x8_1 : Int) := RFn.od
          have q215 : x8_1 < (l0.length : Int) := RFn.od
          obtain ⟨ad215, e215, hx215_0, hx215_1, hx215_2, hx215_3, hx215_4, hx215_5⟩ := at_T28 HR0.out x8_1 p215 q215
          cases e215
          replace hx215_0 := RFn.hb HB hx215_0
          replace hx215_1 := RFn.hb HB hx215_1
          replace hx215_2 := RFn.hb HB hx215_2
          replace hx215_3 := RFn.hb HB hx215_3
          replace hx215_4 := RFn.hb HB hx215_4
          replace hx215_5 := RFn.hb HB hx215_5
          replace p215 := eq_true p215
          replace q215 := eq_true q215
          go_wp2_with (first | ((with_reducible refine gate_dst (N := 4) rfl ?_); (try (refine gate_guard (by rfl) ?_; dsimp only)); refine box_event ?hg (N := 4) ?hd (cs := #[.string (⟨#[]⟩ : ByteArray), .string (⟨#[]⟩ : ByteArray), .string (⟨#[]⟩ : ByteArray), .string (⟨#[]⟩ : ByteArray), .int .i64 0, .int .i64 0]) (t := 28) ?hr ?_; (case hd => rfl); (case hg => rfl); (case hr => first | (go_simp; done) | (go_simp; rfl)); intro gb216 hg w24 hbox hb; have n0_ := Aside0.mk (below_step (RFn.bel) hb); have n1_ := Aside0.mk (hbox); have n2_ := Aside0.mk ((by rw [hg]; exact (below_size (RFn.bel)) : w.heap.size ≤ gb216)); have n3_ := Aside0.mk ((by rw [hg]; exact (below_size (RFn.bel)) : w.heap.size ≤ gb216)); clear HB; have HB := n0_; have BK216 := n1_; have GW216 := n2_; have GE216 := n3_; clear n0_ n1_ n2_ n3_; clear hb hbox hg; obtain ⟨hcz25_0, hcz25_1, hcz25_2, hcz25_3, hcz25_4, hcz25_5⟩ := RFn.bc6 BK216; obtain ⟨hfz25_0, hfz25_1, hfz25_2, hfz25_3, hfz25_4, hfz25_5⟩ := RFn.bf6 BK216) | ((with_reducible refine gate_dst (N := 5) rfl ?_); (try (refine gate_guard (by rfl) ?_; dsimp only)); refine box_event ?hg (N := 5) ?hd (cs := #[.string (⟨#[]⟩ : ByteArray), .string (⟨#[]⟩ : ByteArray), .string (⟨#[]⟩ : ByteArray), .string (⟨#[]⟩ : ByteArray), .int .i64 0]) (t := 24) ?hr ?_; (case hd => rfl); (case hg => rfl); (case hr => first | (go_simp; done) | (go_simp; rfl)); intro gb217 hg w26 hbox hb; have n0_ := Aside0.mk (blk_below (g := gb216) (o := .cells #[.string ((rd_T28 l0 x8_1).f0.f0), .string ((rd_T28 l0 x8_1).f0.f1), .string ((rd_T28 l0 x8_1).f0.f2), .string ((rd_T28 l0 x8_1).f0.f3), .int .i64 ((rd_T28 l0 x8_1).f0.f4), .int .i64 ((rd_T28 l0 x8_1).f1)] 28 (0, 0)) (by refine RFn.d3 ?_; refine blk_put (cs := #[.string ((rd_T28 l0 x8_1).f0.f0), .string ((rd_T28 l0 x8_1).f0.f1), .string ((rd_T28 l0 x8_1).f0.f2), .string ((rd_T28 l0 x8_1).f0.f3), .int .i64 ((rd_T28 l0 x8_1).f0.f4), .int .i64 0]) ?_ 5 _ rfl; refine RFn.d3 ?_; refine blk_put (cs := #[.string ((rd_T28 l0 x8_1).f0.f0), .string ((rd_T28 l0 x8_1).f0.f1), .string ((rd_T28 l0 x8_1).f0.f2), .string ((rd_T28 l0 x8_1).f0.f3), .int .i64 0, .int .i64 0]) ?_ 4 _ rfl; refine RFn.d3 ?_; refine blk_put (cs := #[.string ((rd_T28 l0 x8_1).f0.f0), .string ((rd_T28 l0 x8_1).f0.f1), .string ((rd_T28 l0 x8_1).f0.f2), .string (⟨#[]⟩ : ByteArray), .int .i64 0, .int .i64 0]) ?_ 3 _ rfl; refine RFn.d3 ?_; refine blk_put (cs := #[.string ((rd_T28 l0 x8_1).f0.f0), .string ((rd_T28 l0 x8_1).f0.f1), .string (⟨#[]⟩ : ByteArray), .string (⟨#[]⟩ : ByteArray), .int .i64 0, .int .i64 0]) ?_ 2 _ rfl; refine RFn.d3 ?_; refine blk_put (cs := #[.string ((rd_T28 l0 x8_1).f0.f0), .string (⟨#[]⟩ : ByteArray), .string (⟨#[]⟩ : ByteArray), .string (⟨#[]⟩ : ByteArray), .int .i64 0, .int .i64 0]) ?_ 1 _ rfl; refine RFn.d3 ?_; refine blk_put (cs := #[.string (⟨#[]⟩ : ByteArray), .string (⟨#[]⟩ : ByteArray), .string (⟨#[]⟩ : ByteArray), .string (⟨#[]⟩ : ByteArray), .int .i64 0, .int .i64 0]) ?_ 0 _ rfl; refine RFn.d3 ?_; exact BK216.out) hb); have n1_ := Aside0.mk (below_step RFn.bels hb); have n2_ := Aside0.mk (hbox); have n3_ := Aside0.mk ((by rw [hg]; exact (below_size RFn.bels) : w.heap.size ≤ gb217)); have n4_ := Aside0.mk ((by rw [hg]; exact (below_size RFn.bels) : w.heap.size ≤ gb217)); have n5_ := Aside0.mk ((by rw [hg]; exact Nat.ne_of_lt (blk_lt (g := gb216) (o := .cells #[.string ((rd_T28 l0 x8_1).f0.f0), .string ((rd_T28 l0 x8_1).f0.f1), .string ((rd_T28 l0 x8_1).f0.f2), .string ((rd_T28 l0 x8_1).f0.f3), .int .i64 ((rd_T28 l0 x8_1).f0.f4), .int .i64 ((rd_T28 l0 x8_1).f1)] 28 (0, 0)) (by refine RFn.d3 ?_; refine blk_put (cs := #[.string ((rd_T28 l0 x8_1).f0.f0), .string ((rd_T28 l0 x8_1).f0.f1), .string ((rd_T28 l0 x8_1).f0.f2), .string ((rd_T28 l0 x8_1).f0.f3), .int .i64 ((rd_T28 l0 x8_1).f0.f4), .int .i64 0]) ?_ 5 _ rfl; refine RFn.d3 ?_; refine blk_put (cs := #[.string ((rd_T28 l0 x8_1).f0.f0), .string ((rd_T28 l0 x8_1).f0.f1), .string ((rd_T28 l0 x8_1).f0.f2), .string ((rd_T28 l0 x8_1).f0.f3), .int .i64 0, .int .i64 0]) ?_ 4 _ rfl; refine RFn.d3 ?_; refine blk_put (cs := #[.string ((rd_T28 l0 x8_1).f0.f0), .string ((rd_T28 l0 x8_1).f0.f1), .string ((rd_T28 l0 x8_1).f0.f2), .string (⟨#[]⟩ : ByteArray), .int .i64 0, .int .i64 0]) ?_ 3 _ rfl; refine RFn.d3 ?_; refine blk_put (cs := #[.string ((rd_T28 l0 x8_1).f0.f0), .string ((rd_T28 l0 x8_1).f0.f1), .string (⟨#[]⟩ : ByteArray), .string (⟨#[]⟩ : ByteArray), .int .i64 0, .int .i64 0]) ?_ 2 _ rfl; refine RFn.d3 ?_; refine blk_put (cs := #[.string ((rd_T28 l0 x8_1).f0.f0), .string (⟨#[]⟩ : ByteArray), .string (⟨#[]⟩ : ByteArray), .string (⟨#[]⟩ : ByteArray), .int .i64 0, .int .i64 0]) ?_ 1 _ rfl; refine RFn.d3 ?_; refine blk_put (cs := #[.string (⟨#[]⟩ : ByteArray), .string (⟨#[]⟩ : ByteArray), .string (⟨#[]⟩ : ByteArray), .string (⟨#[]⟩ : ByteArray), .int .i64 0, .int .i64 0]) ?_ 0 _ rfl; refine RFn.d3 ?_; exact BK216.out)) : gb216 ≠ gb217)); have n6_ := Aside0.mk ((by rw [hg]; exact Nat.ne_of_gt (blk_lt (g := gb216) (o := .cells #[.string ((rd_T28 l0 x8_1).f0.f0), .string ((rd_T28 l0 x8_1).f0.f1), .string ((rd_T28 l0 x8_1).f0.f2), .string ((rd_T28 l0 x8_1).f0.f3), .int .i64 ((rd_T28 l0 x8_1).f0.f4), .int .i64 ((rd_T28 l0 x8_1).f1)] 28 (0, 0)) (by refine RFn.d3 ?_; refine blk_put (cs := #[.string ((rd_T28 l0 x8_1).f0.f0), .string ((rd_T28 l0 x8_1).f0.f1), .string ((rd_T28 l0 x8_1).f0.f2), .string ((rd_T28 l0 x8_1).f0.f3), .int .i64 ((rd_T28 l0 x8_1).f0.f4), .int .i64 0]) ?_ 5 _ rfl; refine RFn.d3 ?_; refine blk_put (cs := #[.string ((rd_T28 l0 x8_1).f0.f0), .string ((rd_T28 l0 x8_1).f0.f1), .string ((rd_T28 l0 x8_1).f0.f2), .string ((rd_T28 l0 x8_1).f0.f3), .int .i64 0, .int .i64 0]) ?_ 4 _ rfl; refine RFn.d3 ?_; refine blk_put (cs := #[.string ((rd_T28 l0 x8_1).f0.f0), .string ((rd_T28 l0 x8_1).f0.f1), .string ((rd_T28 l0 x8_1).f0.f2), .string (⟨#[]⟩ : ByteArray), .int .i64 0, .int .i64 0]) ?_ 3 _ rfl; refine RFn.d3 ?_; refine blk_put (cs := #[.string ((rd_T28 l0 x8_1).f0.f0), .string ((rd_T28 l0 x8_1).f0.f1), .string (⟨#[]⟩ : ByteArray), .string (⟨#[]⟩ : ByteArray), .int .i64 0, .int .i64 0]) ?_ 2 _ rfl; refine RFn.d3 ?_; refine blk_put (cs := #[.string ((rd_T28 l0 x8_1).f0.f0), .string (⟨#[]⟩ : ByteArray), .string (⟨#[]⟩ : ByteArray), .string (⟨#[]⟩ : ByteArray), .int .i64 0, .int .i64 0]) ?_ 1 _ rfl; refine RFn.d3 ?_; refine blk_put (cs := #[.string (⟨#[]⟩ : ByteArray), .string (⟨#[]⟩ : ByteArray), .string (⟨#[]⟩ : ByteArray), .string (⟨#[]⟩ : ByteArray), .int .i64 0, .int .i64 0]) ?_ 0 _ rfl; refine RFn.d3 ?_; exact BK216.out)) : gb217 ≠ gb216)); clear BK216; clear HB; have BK216 := n0_; have HB := n1_; have BK217 := n2_; have GW217 := n3_; have GE217 := n4_; have NB216_217 := n5_; have NB217_216 := n6_; clear n0_ n1_ n2_ n3_ n4_ n5_ n6_; clear hb hbox hg; have hnb27 := NB217_216.out; have hnc27 := NB216_217.out; obtain ⟨hcz28_0, hcz28_1, hcz28_2, hcz28_3, hcz28_4⟩ := RFn.bc5 BK217; obtain ⟨hfz28_0, hfz28_1, hfz28_2, hfz28_3, hfz28_4⟩ := RFn.bf5 BK217))
          go_ret
          exact ⟨by first | rfl | (simp [errW_none, errW_some] <;> rfl) | (simp [*, errW_none, errW_some] <;> rfl), RFn.bels⟩
         ·rw [if_neg c23] at H
          have c23b0 : decide (40 < (((rd_T28 l0 x8_1).f0.f3).size : Int)) = false := decide_eq_false c23
          have c23b1 : decide (40 < ((rd_T28 l0 x8_1).f0.f3).size) = false := decide_eq_false (by omega)
          clear c23
          have H' := Aside0.mk H
          clear H
          have p215 : 0 ≤ (x8_1 : Int) := RFn.od
          have q215 : x8_1 < (l0.length : Int) := RFn.od
          obtain ⟨ad215, e215, hx215_0, hx215_1, hx215_2, hx215_3, hx215_4, hx215_5⟩ := at_T28 HR0.out x8_1 p215 q215
          cases e215
          replace hx215_0 := RFn.hb HB hx215_0
          replace hx215_1 := RFn.hb HB hx215_1
          replace hx215_2 := RFn.hb HB hx215_2
          replace hx215_3 := RFn.hb HB hx215_3
          replace hx215_4 := RFn.hb HB hx215_4
          replace hx215_5 := RFn.hb HB hx215_5
          replace p215 := eq_true p215
          replace q215 := eq_true q215
          go_wp2_with (first | ((with_reducible refine gate_dst (N := 4) rfl ?_); (try (refine gate_guard (by rfl) ?_; dsimp only)); refine box_event ?hg (N := 4) ?hd (cs := #[.string (⟨#[]⟩ : ByteArray), .string (⟨#[]⟩ : ByteArray), .string (⟨#[]⟩ : ByteArray), .string (⟨#[]⟩ : ByteArray), .int .i64 0, .int .i64 0]) (t := 28) ?hr ?_; (case hd => rfl); (case hg => rfl); (case hr => first | (go_simp; done) | (go_simp; rfl)); intro gb216 hg w29 hbox hb; have n0_ := Aside0.mk (below_step (RFn.bel) hb); have n1_ := Aside0.mk (hbox); have n2_ := Aside0.mk ((by rw [hg]; exact (below_size (RFn.bel)) : w.heap.size ≤ gb216)); have n3_ := Aside0.mk ((by rw [hg]; exact (below_size (RFn.bel)) : w.heap.size ≤ gb216)); clear HB; have HB := n0_; have BK216 := n1_; have GW216 := n2_; have GE216 := n3_; clear n0_ n1_ n2_ n3_; clear hb hbox hg; obtain ⟨hcz30_0, hcz30_1, hcz30_2, hcz30_3, hcz30_4, hcz30_5⟩ := RFn.bc6 BK216; obtain ⟨hfz30_0, hfz30_1, hfz30_2, hfz30_3, hfz30_4, hfz30_5⟩ := RFn.bf6 BK216) | ((with_reducible refine gate_dst (N := 5) rfl ?_); (try (refine gate_guard (by rfl) ?_; dsimp only)); refine box_event ?hg (N := 5) ?hd (cs := #[.string (⟨#[]⟩ : ByteArray), .string (⟨#[]⟩ : ByteArray), .string (⟨#[]⟩ : ByteArray), .string (⟨#[]⟩ : ByteArray), .int .i64 0]) (t := 24) ?hr ?_; (case hd => rfl); (case hg => rfl); (case hr => first | (go_simp; done) | (go_simp; rfl)); intro gb217 hg w31 hbox hb; have n0_ := Aside0.mk (blk_below (g := gb216) (o := .cells #[.string ((rd_T28 l0 x8_1).f0.f0), .string ((rd_T28 l0 x8_1).f0.f1), .string ((rd_T28 l0 x8_1).f0.f2), .string ((rd_T28 l0 x8_1).f0.f3), .int .i64 ((rd_T28 l0 x8_1).f0.f4), .int .i64 ((rd_T28 l0 x8_1).f1)] 28 (0, 0)) (by refine RFn.d3 ?_; refine blk_put (cs := #[.string ((rd_T28 l0 x8_1).f0.f0), .string ((rd_T28 l0 x8_1).f0.f1), .string ((rd_T28 l0 x8_1).f0.f2), .string ((rd_T28 l0 x8_1).f0.f3), .int .i64 ((rd_T28 l0 x8_1).f0.f4), .int .i64 0]) ?_ 5 _ rfl; refine RFn.d3 ?_; refine blk_put (cs := #[.string ((rd_T28 l0 x8_1).f0.f0), .string ((rd_T28 l0 x8_1).f0.f1), .string ((rd_T28 l0 x8_1).f0.f2), .string ((rd_T28 l0 x8_1).f0.f3), .int .i64 0, .int .i64 0]) ?_ 4 _ rfl; refine RFn.d3 ?_; refine blk_put (cs := #[.string ((rd_T28 l0 x8_1).f0.f0), .string ((rd_T28 l0 x8_1).f0.f1), .string ((rd_T28 l0 x8_1).f0.f2), .string (⟨#[]⟩ : ByteArray), .int .i64 0, .int .i64 0]) ?_ 3 _ rfl; refine RFn.d3 ?_; refine blk_put (cs := #[.string ((rd_T28 l0 x8_1).f0.f0), .string ((rd_T28 l0 x8_1).f0.f1), .string (⟨#[]⟩ : ByteArray), .string (⟨#[]⟩ : ByteArray), .int .i64 0, .int .i64 0]) ?_ 2 _ rfl; refine RFn.d3 ?_; refine blk_put (cs := #[.string ((rd_T28 l0 x8_1).f0.f0), .string (⟨#[]⟩ : ByteArray), .string (⟨#[]⟩ : ByteArray), .string (⟨#[]⟩ : ByteArray), .int .i64 0, .int .i64 0]) ?_ 1 _ rfl; refine RFn.d3 ?_; refine blk_put (cs := #[.string (⟨#[]⟩ : ByteArray), .string (⟨#[]⟩ : ByteArray), .string (⟨#[]⟩ : ByteArray), .string (⟨#[]⟩ : ByteArray), .int .i64 0, .int .i64 0]) ?_ 0 _ rfl; refine RFn.d3 ?_; exact BK216.out) hb); have n1_ := Aside0.mk (below_step RFn.bels hb); have n2_ := Aside0.mk (hbox); have n3_ := Aside0.mk ((by rw [hg]; exact (below_size RFn.bels) : w.heap.size ≤ gb217)); have n4_ := Aside0.mk ((by rw [hg]; exact (below_size RFn.bels) : w.heap.size ≤ gb217)); have n5_ := Aside0.mk ((by rw [hg]; exact Nat.ne_of_lt (blk_lt (g := gb216) (o := .cells #[.string ((rd_T28 l0 x8_1).f0.f0), .string ((rd_T28 l0 x8_1).f0.f1), .string ((rd_T28 l0 x8_1).f0.f2), .string ((rd_T28 l0 x8_1).f0.f3), .int .i64 ((rd_T28 l0 x8_1).f0.f4), .int .i64 ((rd_T28 l0 x8_1).f1)] 28 (0, 0)) (by refine RFn.d3 ?_; refine blk_put (cs := #[.string ((rd_T28 l0 x8_1).f0.f0), .string ((rd_T28 l0 x8_1).f0.f1), .string ((rd_T28 l0 x8_1).f0.f2), .string ((rd_T28 l0 x8_1).f0.f3), .int .i64 ((rd_T28 l0 x8_1).f0.f4), .int .i64 0]) ?_ 5 _ rfl; refine RFn.d3 ?_; refine blk_put (cs := #[.string ((rd_T28 l0 x8_1).f0.f0), .string ((rd_T28 l0 x8_1).f0.f1), .string ((rd_T28 l0 x8_1).f0.f2), .string ((rd_T28 l0 x8_1).f0.f3), .int .i64 0, .int .i64 0]) ?_ 4 _ rfl; refine RFn.d3 ?_; refine blk_put (cs := #[.string ((rd_T28 l0 x8_1).f0.f0), .string ((rd_T28 l0 x8_1).f0.f1), .string ((rd_T28 l0 x8_1).f0.f2), .string (⟨#[]⟩ : ByteArray), .int .i64 0, .int .i64 0]) ?_ 3 _ rfl; refine RFn.d3 ?_; refine blk_put (cs := #[.string ((rd_T28 l0 x8_1).f0.f0), .string ((rd_T28 l0 x8_1).f0.f1), .string (⟨#[]⟩ : ByteArray), .string (⟨#[]⟩ : ByteArray), .int .i64 0, .int .i64 0]) ?_ 2 _ rfl; refine RFn.d3 ?_; refine blk_put (cs := #[.string ((rd_T28 l0 x8_1).f0.f0), .string (⟨#[]⟩ : ByteArray), .string (⟨#[]⟩ : ByteArray), .string (⟨#[]⟩ : ByteArray), .int .i64 0, .int .i64 0]) ?_ 1 _ rfl; refine RFn.d3 ?_; refine blk_put (cs := #[.string (⟨#[]⟩ : ByteArray), .string (⟨#[]⟩ : ByteArray), .string (⟨#[]⟩ : ByteArray), .string (⟨#[]⟩ : ByteArray), .int .i64 0, .int .i64 0]) ?_ 0 _ rfl; refine RFn.d3 ?_; exact BK216.out)) : gb216 ≠ gb217)); have n6_ := Aside0.mk ((by rw [hg]; exact Nat.ne_of_gt (blk_lt (g := gb216) (o := .cells #[.string ((rd_T28 l0 x8_1).f0.f0), .string ((rd_T28 l0 x8_1).f0.f1), .string ((rd_T28 l0 x8_1).f0.f2), .string ((rd_T28 l0 x8_1).f0.f3), .int .i64 ((rd_T28 l0 x8_1).f0.f4), .int .i64 ((rd_T28 l0 x8_1).f1)] 28 (0, 0)) (by refine RFn.d3 ?_; refine blk_put (cs := #[.string ((rd_T28 l0 x8_1).f0.f0), .string ((rd_T28 l0 x8_1).f0.f1), .string ((rd_T28 l0 x8_1).f0.f2), .string ((rd_T28 l0 x8_1).f0.f3), .int .i64 ((rd_T28 l0 x8_1).f0.f4), .int .i64 0]) ?_ 5 _ rfl; refine RFn.d3 ?_; refine blk_put (cs := #[.string ((rd_T28 l0 x8_1).f0.f0), .string ((rd_T28 l0 x8_1).f0.f1), .string ((rd_T28 l0 x8_1).f0.f2), .string ((rd_T28 l0 x8_1).f0.f3), .int .i64 0, .int .i64 0]) ?_ 4 _ rfl; refine RFn.d3 ?_; refine blk_put (cs := #[.string ((rd_T28 l0 x8_1).f0.f0), .string ((rd_T28 l0 x8_1).f0.f1), .string ((rd_T28 l0 x8_1).f0.f2), .string (⟨#[]⟩ : ByteArray), .int .i64 0, .int .i64 0]) ?_ 3 _ rfl; refine RFn.d3 ?_; refine blk_put (cs := #[.string ((rd_T28 l0 x8_1).f0.f0), .string ((rd_T28 l0 x8_1).f0.f1), .string (⟨#[]⟩ : ByteArray), .string (⟨#[]⟩ : ByteArray), .int .i64 0, .int .i64 0]) ?_ 2 _ rfl; refine RFn.d3 ?_; refine blk_put (cs := #[.string ((rd_T28 l0 x8_1).f0.f0), .string (⟨#[]⟩ : ByteArray), .string (⟨#[]⟩ : ByteArray), .string (⟨#[]⟩ : ByteArray), .int .i64 0, .int .i64 0]) ?_ 1 _ rfl; refine RFn.d3 ?_; refine blk_put (cs := #[.string (⟨#[]⟩ : ByteArray), .string (⟨#[]⟩ : ByteArray), .string (⟨#[]⟩ : ByteArray), .string (⟨#[]⟩ : ByteArray), .int .i64 0, .int .i64 0]) ?_ 0 _ rfl; refine RFn.d3 ?_; exact BK216.out)) : gb217 ≠ gb216)); clear BK216; clear HB; have BK216 := n0_; have HB := n1_; have BK217 := n2_; have GW217 := n3_; have GE217 := n4_; have NB216_217 := n5_; have NB217_216 := n6_; clear n0_ n1_ n2_ n3_ n4_ n5_ n6_; clear hb hbox hg; have hnb32 := NB217_216.out; have hnc32 := NB216_217.out; obtain ⟨hcz33_0, hcz33_1, hcz33_2, hcz33_3, hcz33_4⟩ := RFn.bc5 BK217; obtain ⟨hfz33_0, hfz33_1, hfz33_2, hfz33_3, hfz33_4⟩ := RFn.bf5 BK217))
          go_roundg k1
          case measure => have := HK1.out; omega
          case rel => exact ⟨(wrap64 (x8_1 + 1)), (by first | rfl | (simp; done) | (simp [*]; done)), H', ⟨RFn.lk HK1⟩, ⟨RFn.bels⟩⟩
     ·rw [if_neg c4] at H
      exact absurd H (by simp)
    ·rw [if_neg c3] at H
     exact absurd H (by simp)
   ·rw [if_neg c2] at H
    have c2b0 : decide (x8_1 < (l0.length : Int)) = false := decide_eq_false c2
    clear c2
    obtain rfl := Option.some.inj H
    go_wp2
    go_ret
    exact ⟨by first | rfl | (simp [errW_none, errW_some] <;> rfl) | (simp [*, errW_none, errW_some] <;> rfl), RFn.bel⟩
/-! ### law09_Theirs: function 13 -/
def law09_Theirs.l0 : Nat → List (S60) → List (S28) → Int → Int → Option ((List (S60)))
 | 0, _, _, _, _ => none
 | k + 1, x3, x6, x7, x8 => if x8 < x7 then (if 0 ≤ x8 then (if x8 < (x6.length : Int) then (if x3.length < 1759218604441 then (law09_Theirs.l0 k (x3 ++ [(⟨(⟨(rd_T28 x6 x8).f0.f0, (rd_T28 x6 x8).f0.f1, (rd_T28 x6 x8).f0.f2, (rd_T28 x6 x8).f0.f3, (rd_T28 x6 x8).f0.f4⟩ : S40), (rd_T28 x6 x8).f1⟩ : S60)]) x6 x7 (wrap64 (x8 + 1))) else (none)) else (none)) else (none)) else (some x3)
def law09_Theirs.f (k : Nat) (l0 : List (S28)) : Option ((List (S60))) := law09_Theirs.l0 k ([] : List (S60)) l0 (l0.length : Int) 0
theorem law09_Theirs.mono_l : ∀ k, (∀ y0 y1 y2 y3, LeO (law09_Theirs.l0 k y0 y1 y2 y3) (law09_Theirs.l0 (k + 1) y0 y1 y2 y3))
 | 0 => fun _ _ _ _ r h => by simp [law09_Theirs.l0] at h
 | k + 1 => by
  have ih0 := law09_Theirs.mono_l k
  ·intro y0 y1 y2 y3
   unfold law09_Theirs.l0
   repeat' first | exact LeO.refl _ | with_reducible first | apply ih0 | exact LeO.none _ | apply LeO.ite | refine LeO.bind ?_ fun _ => ?_
theorem law09_Theirs.mono : ∀ a0 k, LeO (law09_Theirs.f k a0) (law09_Theirs.f (k + 1) a0) := by
 intro a0 k
 have ih0 := law09_Theirs.mono_l k
 unfold law09_Theirs.f
 repeat' first | exact LeO.refl _ | with_reducible first | apply ih0 | exact LeO.none _ | apply LeO.ite | refine LeO.bind ?_ fun _ => ?_
set_option maxHeartbeats 8000000 in
set_option maxRecDepth 100000 in
theorem law09_Theirs.calls (k : Nat) (A0 : Option Addr) (c0 : Nat) (l0 : List (S28)) (r : List (S60)) (w : World) (hr0 : Kd.C k28 w A0 l0.length l0) (hc0 : l0.length ≤ c0) (h : law09_Theirs.f k l0 = some r) :
  Calls Try.prog 13 #[.slice A0 l0.length c0] w fun e w' => ∃ v0_ : Value, e = .returned (v0_) ∧ Kd.R k60 60 w' w.heap.size (fun _ => True) v0_ r ∧ Below w.heap.size w w' := by
 have hu28 := Try.underlying28
 have hu24 := Try.underlying24
 have hu60 := Try.underlying60
 have HR0 := Aside0.mk hr0
 have HC0 := Aside0.mk hc0
 clear hr0 hc0
 have HB := Aside0.mk (Below.refl w.heap.size w)
 have H : (law09_Theirs.l0 k ([] : List (S60)) l0 (l0.length : Int) 0) = some r := h
 clear h
 have H' := Aside0.mk H
 clear H
 go_enter Try.func13, Try.ntmps13
 go_wp2
 go_loopg [3, 8] k (fun kq v3 v8 w' => ∃ (x3_1 : List (S60)) (x8_1 : Int), v8 = .int .i64 x8_1 ∧ Aside0 (law09_Theirs.l0 kq x3_1 l0 (l0.length : Int) x8_1 = some r) ∧ Aside0 (kq ≤ k) ∧ Aside0 (Kd.R k60 60 w' w.heap.size (fun _ => True) v3 x3_1) ∧ Aside0 (Below w.heap.size w w'))
 case atStart => exact ⟨(([] : List (S60))), (0), (by first | rfl | (simp; done) | (simp [*]; done)), H', ⟨Nat.le_refl _⟩, ⟨RFn.kn⟩, ⟨RFn.bel⟩⟩
 case round =>
  clear H'
  try clear c1
  obtain ⟨x3_1, x8_1, rfl, HA, HK1, HO_3, HB⟩ := hrel
  cases gk with
  | zero => exact absurd HA.out (by simp [law09_Theirs.l0])
  | succ k1 =>
   have H := HA.out
   clear HA
   simp only [law09_Theirs.l0] at H
   by_cases c2 : x8_1 < (l0.length : Int)
   ·rw [if_pos c2] at H
    have c2b0 : decide (x8_1 < (l0.length : Int)) = true := decide_eq_true c2
    clear c2
    by_cases c3 : 0 ≤ x8_1
    ·rw [if_pos c3] at H
     have c3b0 : decide (0 ≤ x8_1) = true := decide_eq_true c3
     clear c3
     by_cases c4 : x8_1 < (l0.length : Int)
     ·rw [if_pos c4] at H
      have c4b0 : decide (x8_1 < (l0.length : Int)) = true := decide_eq_true c4
      clear c4
      by_cases c5 : x3_1.length < 1759218604441
      ·rw [if_pos c5] at H
       have LMc5 := Aside0.mk c5
       clear c5
       obtain ⟨y220, hy220⟩ : ∃ y_ : List (S60), y_ = (x3_1 ++ [(⟨(⟨(rd_T28 l0 x8_1).f0.f0, (rd_T28 l0 x8_1).f0.f1, (rd_T28 l0 x8_1).f0.f2, (rd_T28 l0 x8_1).f0.f3, (rd_T28 l0 x8_1).f0.f4⟩ : S40), (rd_T28 l0 x8_1).f1⟩ : S60)]) := ⟨_, rfl⟩
       replace H : (law09_Theirs.l0 k1 y220 l0 (l0.length : Int) (wrap64 (x8_1 + 1))) = some r := RFn.rp H hy220
       have Ny220 := Aside0.mk hy220
       clear hy220
       have H' := Aside0.mk H
       clear H
       have p218 : 0 ≤ (x8_1 : Int) := RFn.od
       have q218 : x8_1 < (l0.length : Int) := RFn.od
       obtain ⟨ad218, e218, hx218_0, hx218_1, hx218_2, hx218_3, hx218_4, hx218_5⟩ := at_T28 HR0.out x8_1 p218 q218
       cases e218
       replace hx218_0 := RFn.hb HB hx218_0
       replace hx218_1 := RFn.hb HB hx218_1
       replace hx218_2 := RFn.hb HB hx218_2
       replace hx218_3 := RFn.hb HB hx218_3
       replace hx218_4 := RFn.hb HB hx218_4
       replace hx218_5 := RFn.hb HB hx218_5
       replace p218 := eq_true p218
       replace q218 := eq_true q218
       go_wp2_with (first | ((with_reducible refine gate_dst (N := 5) rfl ?_); refine box_event ?hg (N := 5) ?hd (cs := #[.string (⟨#[]⟩ : ByteArray), .string (⟨#[]⟩ : ByteArray), .string (⟨#[]⟩ : ByteArray), .string (⟨#[]⟩ : ByteArray), .int .i64 0, .int .i64 0]) (t := 28) ?hr ?_; (case hd => rfl); (case hg => rfl); (case hr => first | (go_simp; done) | (go_simp; rfl)); intro gb219 hg w6 hbox hb; have n0_ := Aside0.mk (Kd.R_below (RFn.mR HO_3) hb); have n1_ := Aside0.mk (below_step (RFn.bel) hb); have n2_ := Aside0.mk (hbox); have n3_ := Aside0.mk ((by rw [hg]; exact (below_size (RFn.bel)) : w.heap.size ≤ gb219)); have n4_ := Aside0.mk ((by rw [hg]; exact (below_size (RFn.bel)) : w.heap.size ≤ gb219)); clear HO_3; clear HB; have HO_3 := n0_; have HB := n1_; have BK219 := n2_; have GW219 := n3_; have GE219 := n4_; clear n0_ n1_ n2_ n3_ n4_; clear hb hbox hg; obtain ⟨hcz7_0, hcz7_1, hcz7_2, hcz7_3, hcz7_4, hcz7_5⟩ := RFn.bc6 BK219; obtain ⟨hfz7_0, hfz7_1, hfz7_2, hfz7_3, hfz7_4, hfz7_5⟩ := RFn.bf6 BK219) | ((with_reducible refine gate_builtin (b := .append) (xs := #[.tmp 12, .tmp 18]) rfl ?_); at_builtin; refine Kd.R_append k60 (w0 := w) w.heap.size rfl (.tmp 12) (.tmp 18) 29 60 (.agg #[(.string ⟨#[]⟩), (.string ⟨#[]⟩), (.string ⟨#[]⟩), (.string ⟨#[]⟩), (.int .i64 0), (.int .i64 0)]) 80 rfl Try.underlying29 info60 rfl (by decide) (by omega) u3 x3_1 (⟨(⟨(rd_T28 l0 x8_1).f0.f0, (rd_T28 l0 x8_1).f0.f1, (rd_T28 l0 x8_1).f0.f2, (rd_T28 l0 x8_1).f0.f3, (rd_T28 l0 x8_1).f0.f4⟩ : S40), (rd_T28 l0 x8_1).f1⟩ : S60) [.string ((rd_T28 l0 x8_1).f0.f0), .string ((rd_T28 l0 x8_1).f0.f1), .string ((rd_T28 l0 x8_1).f0.f2), .string ((rd_T28 l0 x8_1).f0.f3), .int .i64 ((rd_T28 l0 x8_1).f0.f4), .int .i64 ((rd_T28 l0 x8_1).f1)] (fun _ => True) (fun _ => False) rfl (by first | (go_simp; done) | (go_simp; rfl)) ?aP (fun _ hk => hk.elim) ?aF ?aO ?aB ?aS ?aL ?_; (case aP => exact k60_mkM _ _ _ (⟨(⟨(rd_T28 l0 x8_1).f0.f0, (rd_T28 l0 x8_1).f0.f1, (rd_T28 l0 x8_1).f0.f2, (rd_T28 l0 x8_1).f0.f3, (rd_T28 l0 x8_1).f0.f4⟩ : S40), (rd_T28 l0 x8_1).f1⟩ : S60)); (case aB => exact RFn.bels); (case aF => exact (fun _ _ => trivial)); (case aO => exact (by (with_reducible repeat (first | apply Kd.R_alloc | apply Kd.R_drewN | apply Kd.R_drew)); exact Kd.R_mono (Kd.R_far (p := ⟨gb219, 5, none⟩) (Kd.R_far (p := ⟨gb219, 4, none⟩) (Kd.R_far (p := ⟨gb219, 3, none⟩) (Kd.R_far (p := ⟨gb219, 2, none⟩) (Kd.R_far (p := ⟨gb219, 1, none⟩) (Kd.R_far (p := ⟨gb219, 0, none⟩) (Kd.R_types HO_3.out BK219.out (by decide)) (fun _ hk => hk.2) (.string ((rd_T28 l0 x8_1).f0.f0))) (fun _ hk => hk.2) (.string ((rd_T28 l0 x8_1).f0.f1))) (fun _ hk => hk.2) (.string ((rd_T28 l0 x8_1).f0.f2))) (fun _ hk => hk.2) (.string ((rd_T28 l0 x8_1).f0.f3))) (fun _ hk => hk.2) (.int .i64 ((rd_T28 l0 x8_1).f0.f4))) (fun _ hk => hk.2) (.int .i64 ((rd_T28 l0 x8_1).f1))) (fun _ hk => by first | exact trivial | exact trivial))); (case aS => exact (below_size RFn.bels)); (case aL => have := LMc5.out; omega); intro v221 w8 ho hb hg hat; rw [← Ny220.out] at ho; have n0_ := Aside0.mk (blk_grown (g := gb219) (o := .cells #[.string ((rd_T28 l0 x8_1).f0.f0), .string ((rd_T28 l0 x8_1).f0.f1), .string ((rd_T28 l0 x8_1).f0.f2), .string ((rd_T28 l0 x8_1).f0.f3), .int .i64 ((rd_T28 l0 x8_1).f0.f4), .int .i64 ((rd_T28 l0 x8_1).f1)] 28 (0, 0)) (by refine RFn.d3 ?_; refine blk_put (cs := #[.string ((rd_T28 l0 x8_1).f0.f0), .string ((rd_T28 l0 x8_1).f0.f1), .string ((rd_T28 l0 x8_1).f0.f2), .string ((rd_T28 l0 x8_1).f0.f3), .int .i64 ((rd_T28 l0 x8_1).f0.f4), .int .i64 0]) ?_ 5 _ rfl; refine RFn.d3 ?_; refine blk_put (cs := #[.string ((rd_T28 l0 x8_1).f0.f0), .string ((rd_T28 l0 x8_1).f0.f1), .string ((rd_T28 l0 x8_1).f0.f2), .string ((rd_T28 l0 x8_1).f0.f3), .int .i64 0, .int .i64 0]) ?_ 4 _ rfl; refine RFn.d3 ?_; refine blk_put (cs := #[.string ((rd_T28 l0 x8_1).f0.f0), .string ((rd_T28 l0 x8_1).f0.f1), .string ((rd_T28 l0 x8_1).f0.f2), .string (⟨#[]⟩ : ByteArray), .int .i64 0, .int .i64 0]) ?_ 3 _ rfl; refine RFn.d3 ?_; refine blk_put (cs := #[.string ((rd_T28 l0 x8_1).f0.f0), .string ((rd_T28 l0 x8_1).f0.f1), .string (⟨#[]⟩ : ByteArray), .string (⟨#[]⟩ : ByteArray), .int .i64 0, .int .i64 0]) ?_ 2 _ rfl; refine RFn.d3 ?_; refine blk_put (cs := #[.string ((rd_T28 l0 x8_1).f0.f0), .string (⟨#[]⟩ : ByteArray), .string (⟨#[]⟩ : ByteArray), .string (⟨#[]⟩ : ByteArray), .int .i64 0, .int .i64 0]) ?_ 1 _ rfl; refine RFn.d3 ?_; refine blk_put (cs := #[.string (⟨#[]⟩ : ByteArray), .string (⟨#[]⟩ : ByteArray), .string (⟨#[]⟩ : ByteArray), .string (⟨#[]⟩ : ByteArray), .int .i64 0, .int .i64 0]) ?_ 0 _ rfl; refine RFn.d3 ?_; exact BK219.out) hg (Kd.R_ne HO_3.out BK219.out (by decide))); have n1_ := Aside0.mk (hb); have n2_ := Aside0.mk (ho); clear BK219; clear HB; clear HO_3; have BK219 := n0_; have HB := n1_; have HO222 := n2_; clear n0_ n1_ n2_; clear ho hb hg hat))
       go_roundg k1
       case measure => have := HK1.out; omega
       case rel => exact ⟨(y220), (wrap64 (x8_1 + 1)), (by first | rfl | (simp; done) | (simp [*]; done)), H', ⟨RFn.lk HK1⟩, ⟨RFn.mR HO222⟩, ⟨RFn.bels⟩⟩
      ·rw [if_neg c5] at H
       exact absurd H (by simp)
     ·rw [if_neg c4] at H
      exact absurd H (by simp)
    ·rw [if_neg c3] at H
     exact absurd H (by simp)
   ·rw [if_neg c2] at H
    have c2b0 : decide (x8_1 < (l0.length : Int)) = false := decide_eq_false c2
    clear c2
    obtain rfl := Option.some.inj H
    go_wp2
    go_ret
    exact ⟨_, by first | rfl | (simp [errW_none, errW_some] <;> rfl) | (simp [*, errW_none, errW_some] <;> rfl), RFn.mR HO_3, RFn.bel⟩
/-! ### ref09_text: function 40 -/
def ref09_text.f (a0 : ByteArray) (a1 : ByteArray) : Option (Int) := if (Op.bytesLess a0.toList a1.toList) = true then (some (-1)) else (if (Op.bytesLess a1.toList a0.toList) = true then (some 1) else (some 0))
set_option maxHeartbeats 8000000 in
set_option maxRecDepth 100000 in
theorem ref09_text.calls (a0 : ByteArray) (a1 : ByteArray) (r : Int) (w : World) (h : ref09_text.f a0 a1 = some r) :
  Calls Try.prog 40 #[.string a0, .string a1] w fun e w' => e = .returned (.int .i64 r) ∧ Drawn0 w w' := by
 have H : (if (Op.bytesLess a0.toList a1.toList) = true then (some (-1)) else (if (Op.bytesLess a1.toList a0.toList) = true then (some 1) else (some 0))) = some r := h
 clear h
 by_cases c3 : (Op.bytesLess a0.toList a1.toList) = true
 ·rw [if_pos c3] at H
  have c3b0 : (Op.bytesLess a0.toList a1.toList) = true := c3
  clear c3
  obtain rfl := Option.some.inj H
  go_enter Try.func40, Try.ntmps40
  go_wp2
  go_ret
  exact ⟨by first | rfl | (simp; done) | (simp [*]; done), by repeat (first | exact Drawn0.refl _ | apply Drawn0.step)⟩
 ·rw [if_neg c3] at H
  have c3b0 : (Op.bytesLess a0.toList a1.toList) = false := by simpa using c3
  clear c3
  by_cases c4 : (Op.bytesLess a1.toList a0.toList) = true
  ·rw [if_pos c4] at H
   have c4b0 : (Op.bytesLess a1.toList a0.toList) = true := c4
   clear c4
   obtain rfl := Option.some.inj H
   go_enter Try.func40, Try.ntmps40
   go_wp2
   go_ret
   exact ⟨by first | rfl | (simp; done) | (simp [*]; done), by repeat (first | exact Drawn0.refl _ | apply Drawn0.step)⟩
  ·rw [if_neg c4] at H
   have c4b0 : (Op.bytesLess a1.toList a0.toList) = false := by simpa using c4
   clear c4
   obtain rfl := Option.some.inj H
   go_enter Try.func40, Try.ntmps40
   go_wp2
   go_ret
   exact ⟨by first | rfl | (simp; done) | (simp [*]; done), by repeat (first | exact Drawn0.refl _ | apply Drawn0.step)⟩
end Go.Proofs.Ytgheapbhakamaaa.Q
