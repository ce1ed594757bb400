/- printed by a program of this session (wip/tools/pr.sh): it is not a print of the kit -/
import Derived.Test.YthidfomkgclkcaaGreatDoorGX
import Derived.Test.YthidfomkgclkcaaGreatDoorQx0
import Derived.Test.YthidfomkgclkcaaGreatDoorQx4
namespace Go.Proofs.YthidfomkgclkcaaGreatDoor.Q
open Go.RowKit Go.Proofs.YthidfomkgclkcaaGreatDoorW.PrintWords Go.Proofs.YthidfomkgclkcaaGreatDoorW.PrintLast Go.Proofs.YthidfomkgclkcaaGreatDoorW.PrintMore
attribute [local go_sem] max2_int min2_int max_two min_two max_three min_three max_four min_four   -- for this text's walks alone
set_option linter.unusedVariables false
set_option linter.unusedSimpArgs false

/-! ### rate_Parse: function 13 -/
def rate_Parse.f (k : Nat) (a0 : ByteArray) : Option (Int × Int × Int) :=
 if a0.size < 4294967281 then
  (if (Go.Proofs.YthidfomkgclkcaaGreatDoor.X.parseF (Go.Proofs.YthidfomkgclkcaaGreatDoor.X.upF a0.data.toList)).2 = 5 then some (0, 0, 5) else
   if (Go.Proofs.YthidfomkgclkcaaGreatDoor.X.parseF (Go.Proofs.YthidfomkgclkcaaGreatDoor.X.downF a0.data.toList)).2 = 5 then some (0, 0, 5) else
   if (Go.Proofs.YthidfomkgclkcaaGreatDoor.X.parseF (Go.Proofs.YthidfomkgclkcaaGreatDoor.X.upF a0.data.toList)).2 ≠ 0 ∨ (Go.Proofs.YthidfomkgclkcaaGreatDoor.X.parseF (Go.Proofs.YthidfomkgclkcaaGreatDoor.X.downF a0.data.toList)).2 ≠ 0 then some (0, 0, 4) else
   rate_Make.f k (Go.Proofs.YthidfomkgclkcaaGreatDoor.X.parseF (Go.Proofs.YthidfomkgclkcaaGreatDoor.X.upF a0.data.toList)).1 (Go.Proofs.YthidfomkgclkcaaGreatDoor.X.parseF (Go.Proofs.YthidfomkgclkcaaGreatDoor.X.downF a0.data.toList)).1)
 else none
theorem rate_Parse.mono : ∀ a0 k, LeO (rate_Parse.f k a0) (rate_Parse.f (k + 1) a0) := by
 intro a0 k
 unfold rate_Parse.f
 repeat' first
   | (with_reducible exact rate_Make.mono _ _ _)
   | (with_reducible exact LeO.refl _)
   | (with_reducible refine LeO.ite ?_ ?_)
def CutOk (a0 U D : ByteArray) (b : Bool) : Prop := ∀ w0 : World, Go.Proofs.YthidfomkgclkcaaGreatDoor.X.LaidW w0 → Calls Tryz.prog 23 #[.string a0, .string ⟨#[47]⟩] w0 fun e w' => e = .returned (.tuple #[.string U, .string D, .bool b]) ∧ ∃ n, w' = w0.drewN n
def ParseOk (U : ByteArray) (x e : Int) : Prop := ∀ w0 : World, Go.Proofs.YthidfomkgclkcaaGreatDoor.X.LaidW w0 → Calls Tryz.prog 24 #[.string U] w0 fun r w' => r = .returned (.tuple #[.int .i64 x, .int .i64 e]) ∧ Below w0.heap.size w0 w'
theorem i55_0 (x y : Value) : ∀ w, (Instr.index 54 (.agg #[x, y]) (.int .i64 0)).run Tryz.prog w = .ok x w := fun _ => by kernel_rfl
theorem i55_1 (x y : Value) : ∀ w, (Instr.index 54 (.agg #[x, y]) (.int .i64 1)).run Tryz.prog w = .ok y w := fun _ => by kernel_rfl
set_option maxHeartbeats 4000000 in
set_option maxRecDepth 100000 in
theorem rate_Parse.wA (a0 : ByteArray) (w : World) (hL : Go.Proofs.YthidfomkgclkcaaGreatDoor.X.LaidW w) (U D D' : ByteArray) (b : Bool) (hcut : CutOk a0 U D b) (hD : D' = if b = true then D else ⟨#[49]⟩) (x : Int) (hU : ParseOk U x 5) :
   Calls Tryz.prog 13 #[.string a0] w fun r w' => r = .returned (.tuple #[.agg #[.int .i64 0, .int .i64 0], .int .i64 5]) ∧ Below w.heap.size w w' := by
  have HC := Aside0.mk hcut
  clear hcut
  have HB := Aside0.mk (Below.refl w.heap.size w)
  have PU := Aside0.mk hU
  clear hU
  cases b
  all_goals
    first | (obtain rfl : D' = D := hD) | (obtain rfl : D' = ⟨#[49]⟩ := hD)
    have i0 := i55_0 (.string U)
    first | (have i1 := fun u => i55_1 u (.string D')) | (have i1 := fun u => i55_1 u (.string ⟨#[49]⟩))
    go_enter Tryz.func13, Tryz.ntmps13
    go_wp2_with (first | ((with_reducible refine gate_dst (N := 2) rfl ?_); refine box_event ?hg (N := 2) ?hd (cs := #[.int .i64 0, .int .i64 0]) (t := 25) ?hr ?_; (case hd => rfl); (case hg => rfl); (case hr => first | (go_simp; done) | (go_simp; rfl)); intro g1 hg w1 hbox hb; have n0_ := Aside0.mk (below_step (by repeat (first | (with_reducible first | exact HB.out | apply below_alloc | apply pw_below_drewN | apply below_drew1 | refine below_set ?_ GE1.out | refine below_set ?_ GE2.out) | exact HB.out)) hb); have n1_ := Aside0.mk hbox; have n2_ := Aside0.mk ((by rw [hg]; exact (below_size (by repeat (first | (with_reducible first | exact HB.out | apply below_alloc | apply pw_below_drewN | apply below_drew1 | refine below_set ?_ GE1.out | refine below_set ?_ GE2.out) | exact HB.out))) : w.heap.size ≤ g1)); clear HB; have HB := n0_; have BK1 := n1_; have GE1 := n2_; clear n0_ n1_ n2_; clear hb hbox hg) | ((with_reducible refine gate_dst (N := 7) rfl ?_); refine box_event ?hg (N := 7) ?hd (cs := #[.int .i64 0, .int .i64 0]) (t := 53) ?hr ?_; (case hd => rfl); (case hg => rfl); (case hr => first | (go_simp; done) | (go_simp; rfl)); intro g2 hg w2 hbox hb; have n0_ := Aside0.mk (below_step (by repeat (first | (with_reducible first | exact HB.out | apply below_alloc | apply pw_below_drewN | apply below_drew1 | refine below_set ?_ GE1.out | refine below_set ?_ GE2.out) | exact HB.out)) hb); have n1_ := Aside0.mk hbox; have n2_ := Aside0.mk ((by rw [hg]; exact (below_size (by repeat (first | (with_reducible first | exact HB.out | apply below_alloc | apply pw_below_drewN | apply below_drew1 | refine below_set ?_ GE1.out | refine below_set ?_ GE2.out) | exact HB.out))) : w.heap.size ≤ g2)); have n3_ := Aside0.mk (blk_below (by (with_reducible repeat (first | refine blk_drewN ?_ _ | refine blk_drew ?_ | refine blk_alloc ?_ _)); exact BK1.out) hb); have n4_ := Aside0.mk (blk_ne n3_.out n1_.out (by decide)); clear BK1; have BK1 := n3_; have NE := n4_; clear n3_ n4_; clear HB; have HB := n0_; have BK2 := n1_; have GE2 := n2_; clear n0_ n1_ n2_; clear hb hbox hg) | (go_at_call 23; refine (HC.out _ (hL.below (by repeat (first | (with_reducible first | exact HB.out | apply below_alloc | apply pw_below_drewN | apply below_drew1 | refine below_set ?_ GE1.out | refine below_set ?_ GE2.out) | exact HB.out)))).mono ?_; rintro e w' ⟨rfl, n, rfl⟩))
    refine wp_loop_rounds 3 ?_
    rw [rounds_succ]
    go_wp2_with (first | (go_at_call 24; refine (PU.out _ (hL.below (by repeat (first | (with_reducible first | exact HB.out | apply below_alloc | apply pw_below_drewN | apply below_drew1 | refine below_set ?_ GE1.out | refine below_set ?_ GE2.out) | exact HB.out)))).mono ?_; rintro e wp1 ⟨rfl, hb⟩; have n0_ := Aside0.mk (below_step (by repeat (first | (with_reducible first | exact HB.out | apply below_alloc | apply pw_below_drewN | apply below_drew1 | refine below_set ?_ GE1.out | refine below_set ?_ GE2.out) | exact HB.out)) hb); have n1_ : Aside0 (wp1.heap[g1]? = some (.cells #[.int .i64 0, .int .i64 0] 25 (0, 0))) := ⟨blk_below (by (with_reducible repeat (first | refine blk_drewN ?_ _ | refine blk_drew ?_ | refine blk_alloc ?_ _)); exact BK1.out) hb⟩; have n2_ : Aside0 (wp1.heap[g2]? = some (.cells #[.int .i64 0, .int .i64 0] 53 (0, 0))) := ⟨blk_below (by (with_reducible repeat (first | refine blk_drewN ?_ _ | refine blk_drew ?_ | refine blk_alloc ?_ _)); exact BK2.out) hb⟩; clear HB BK1 BK2; have HB := n0_; have BK1 := n1_; have BK2 := n2_; clear n0_ n1_ n2_ hb; have hcr0 : wp1.cell? ⟨g1, 0, none⟩ = some (.int .i64 0) := (blk_cell BK1.out 0).trans rfl; have hfr0 := blk_frozen BK1.out 0; have hcn0 : wp1.cell? ⟨g2, 0, none⟩ = some (.int .i64 0) := (blk_cell BK2.out 0).trans rfl; have hfn0 := blk_frozen BK2.out 0; have hcr1 : wp1.cell? ⟨g1, 1, none⟩ = some (.int .i64 0) := (blk_cell BK1.out 1).trans rfl; have hfr1 := blk_frozen BK1.out 1; have hcn1 : wp1.cell? ⟨g2, 1, none⟩ = some (.int .i64 0) := (blk_cell BK2.out 1).trans rfl; have hfn1 := blk_frozen BK2.out 1))
    refine bodyPost_ret (results_ct rfl _ _ g1 25 #[.int .i64 0, .int .i64 0] (0, 0) _ rfl (by (with_reducible repeat (first | refine blk_drewN ?_ _ | refine blk_drew ?_ | refine blk_alloc ?_ _)); refine blk_put (cs := #[.int .i64 0, .int .i64 0]) (cs' := #[.int .i64 0, .int .i64 0]) ?_ 1 _ rfl; (with_reducible repeat (first | refine blk_drewN ?_ _ | refine blk_drew ?_ | refine blk_alloc ?_ _)); refine blk_put (cs := #[.int .i64 0, .int .i64 0]) (cs' := #[.int .i64 0, .int .i64 0]) ?_ 0 _ rfl; (with_reducible repeat (first | refine blk_drewN ?_ _ | refine blk_drew ?_ | refine blk_alloc ?_ _)); exact BK1.out) Tryz.underlying25 rfl (by kernel_rfl)) rfl ?_
    exact ⟨by first | rfl | (simp; done), (by repeat (first | (with_reducible first | exact HB.out | apply below_alloc | apply pw_below_drewN | apply below_drew1 | refine below_set ?_ GE1.out | refine below_set ?_ GE2.out) | exact HB.out))⟩
set_option maxHeartbeats 4000000 in
set_option maxRecDepth 100000 in
theorem rate_Parse.wB (a0 : ByteArray) (w : World) (hL : Go.Proofs.YthidfomkgclkcaaGreatDoor.X.LaidW w) (U D D' : ByteArray) (b : Bool) (hcut : CutOk a0 U D b) (hD : D' = if b = true then D else ⟨#[49]⟩) (x e1 y : Int) (hU : ParseOk U x e1) (h5 : e1 ≠ 5) (hP : ParseOk D' y 5) :
   Calls Tryz.prog 13 #[.string a0] w fun r w' => r = .returned (.tuple #[.agg #[.int .i64 0, .int .i64 0], .int .i64 5]) ∧ Below w.heap.size w w' := by
  have HC := Aside0.mk hcut
  clear hcut
  have HB := Aside0.mk (Below.refl w.heap.size w)
  have PU := Aside0.mk hU
  clear hU
  have PD := Aside0.mk hP
  clear hP
  have h5a : (e1 == 5) = false := beq_eq_false_iff_ne.mpr h5
  clear h5
  cases b
  all_goals
    first | (obtain rfl : D' = D := hD) | (obtain rfl : D' = ⟨#[49]⟩ := hD)
    have i0 := i55_0 (.string U)
    first | (have i1 := fun u => i55_1 u (.string D')) | (have i1 := fun u => i55_1 u (.string ⟨#[49]⟩))
    go_enter Tryz.func13, Tryz.ntmps13
    go_wp2_with (first | ((with_reducible refine gate_dst (N := 2) rfl ?_); refine box_event ?hg (N := 2) ?hd (cs := #[.int .i64 0, .int .i64 0]) (t := 25) ?hr ?_; (case hd => rfl); (case hg => rfl); (case hr => first | (go_simp; done) | (go_simp; rfl)); intro g1 hg w1 hbox hb; have n0_ := Aside0.mk (below_step (by repeat (first | (with_reducible first | exact HB.out | apply below_alloc | apply pw_below_drewN | apply below_drew1 | refine below_set ?_ GE1.out | refine below_set ?_ GE2.out) | exact HB.out)) hb); have n1_ := Aside0.mk hbox; have n2_ := Aside0.mk ((by rw [hg]; exact (below_size (by repeat (first | (with_reducible first | exact HB.out | apply below_alloc | apply pw_below_drewN | apply below_drew1 | refine below_set ?_ GE1.out | refine below_set ?_ GE2.out) | exact HB.out))) : w.heap.size ≤ g1)); clear HB; have HB := n0_; have BK1 := n1_; have GE1 := n2_; clear n0_ n1_ n2_; clear hb hbox hg) | ((with_reducible refine gate_dst (N := 7) rfl ?_); refine box_event ?hg (N := 7) ?hd (cs := #[.int .i64 0, .int .i64 0]) (t := 53) ?hr ?_; (case hd => rfl); (case hg => rfl); (case hr => first | (go_simp; done) | (go_simp; rfl)); intro g2 hg w2 hbox hb; have n0_ := Aside0.mk (below_step (by repeat (first | (with_reducible first | exact HB.out | apply below_alloc | apply pw_below_drewN | apply below_drew1 | refine below_set ?_ GE1.out | refine below_set ?_ GE2.out) | exact HB.out)) hb); have n1_ := Aside0.mk hbox; have n2_ := Aside0.mk ((by rw [hg]; exact (below_size (by repeat (first | (with_reducible first | exact HB.out | apply below_alloc | apply pw_below_drewN | apply below_drew1 | refine below_set ?_ GE1.out | refine below_set ?_ GE2.out) | exact HB.out))) : w.heap.size ≤ g2)); have n3_ := Aside0.mk (blk_below (by (with_reducible repeat (first | refine blk_drewN ?_ _ | refine blk_drew ?_ | refine blk_alloc ?_ _)); exact BK1.out) hb); have n4_ := Aside0.mk (blk_ne n3_.out n1_.out (by decide)); clear BK1; have BK1 := n3_; have NE := n4_; clear n3_ n4_; clear HB; have HB := n0_; have BK2 := n1_; have GE2 := n2_; clear n0_ n1_ n2_; clear hb hbox hg) | (go_at_call 23; refine (HC.out _ (hL.below (by repeat (first | (with_reducible first | exact HB.out | apply below_alloc | apply pw_below_drewN | apply below_drew1 | refine below_set ?_ GE1.out | refine below_set ?_ GE2.out) | exact HB.out)))).mono ?_; rintro e w' ⟨rfl, n, rfl⟩))
    refine wp_loop_rounds 3 ?_
    rw [rounds_succ]
    go_wp2_with (first | (go_at_call 24; refine (PU.out _ (hL.below (by repeat (first | (with_reducible first | exact HB.out | apply below_alloc | apply pw_below_drewN | apply below_drew1 | refine below_set ?_ GE1.out | refine below_set ?_ GE2.out) | exact HB.out)))).mono ?_; rintro e wp1 ⟨rfl, hb⟩; have n0_ := Aside0.mk (below_step (by repeat (first | (with_reducible first | exact HB.out | apply below_alloc | apply pw_below_drewN | apply below_drew1 | refine below_set ?_ GE1.out | refine below_set ?_ GE2.out) | exact HB.out)) hb); have n1_ : Aside0 (wp1.heap[g1]? = some (.cells #[.int .i64 0, .int .i64 0] 25 (0, 0))) := ⟨blk_below (by (with_reducible repeat (first | refine blk_drewN ?_ _ | refine blk_drew ?_ | refine blk_alloc ?_ _)); exact BK1.out) hb⟩; have n2_ : Aside0 (wp1.heap[g2]? = some (.cells #[.int .i64 0, .int .i64 0] 53 (0, 0))) := ⟨blk_below (by (with_reducible repeat (first | refine blk_drewN ?_ _ | refine blk_drew ?_ | refine blk_alloc ?_ _)); exact BK2.out) hb⟩; clear HB BK1 BK2; have HB := n0_; have BK1 := n1_; have BK2 := n2_; clear n0_ n1_ n2_ hb; have hcr0 : wp1.cell? ⟨g1, 0, none⟩ = some (.int .i64 0) := (blk_cell BK1.out 0).trans rfl; have hfr0 := blk_frozen BK1.out 0; have hcn0 : wp1.cell? ⟨g2, 0, none⟩ = some (.int .i64 0) := (blk_cell BK2.out 0).trans rfl; have hfn0 := blk_frozen BK2.out 0; have hcr1 : wp1.cell? ⟨g1, 1, none⟩ = some (.int .i64 0) := (blk_cell BK1.out 1).trans rfl; have hfr1 := blk_frozen BK1.out 1; have hcn1 : wp1.cell? ⟨g2, 1, none⟩ = some (.int .i64 0) := (blk_cell BK2.out 1).trans rfl; have hfn1 := blk_frozen BK2.out 1))
    clear hcr0 hcr1 hfr0 hfr1 hcn0 hcn1 hfn0 hfn1
    rw [rounds_succ]
    go_wp2_with (first | (go_at_call 24; refine (PD.out _ (hL.below (by repeat (first | (with_reducible first | exact HB.out | apply below_alloc | apply pw_below_drewN | apply below_drew1 | refine below_set ?_ GE1.out | refine below_set ?_ GE2.out) | exact HB.out)))).mono ?_; rintro e wp2 ⟨rfl, hb⟩; have n0_ := Aside0.mk (below_step (by repeat (first | (with_reducible first | exact HB.out | apply below_alloc | apply pw_below_drewN | apply below_drew1 | refine below_set ?_ GE1.out | refine below_set ?_ GE2.out) | exact HB.out)) hb); have n1_ : Aside0 (wp2.heap[g1]? = some (.cells #[.int .i64 0, .int .i64 0] 25 (0, 0))) := ⟨blk_below (by (with_reducible repeat (first | refine blk_drewN ?_ _ | refine blk_drew ?_ | refine blk_alloc ?_ _)); refine blk_far ?_ NE.out _; (with_reducible repeat (first | refine blk_drewN ?_ _ | refine blk_drew ?_ | refine blk_alloc ?_ _)); exact BK1.out) hb⟩; have n2_ : Aside0 (wp2.heap[g2]? = some (.cells #[.int .i64 x, .int .i64 0] 53 (0, 0))) := ⟨blk_below (by (with_reducible repeat (first | refine blk_drewN ?_ _ | refine blk_drew ?_ | refine blk_alloc ?_ _)); refine blk_put (cs := #[.int .i64 0, .int .i64 0]) (cs' := #[.int .i64 x, .int .i64 0]) ?_ 0 _ rfl; (with_reducible repeat (first | refine blk_drewN ?_ _ | refine blk_drew ?_ | refine blk_alloc ?_ _)); exact BK2.out) hb⟩; clear HB BK1 BK2; have HB := n0_; have BK1 := n1_; have BK2 := n2_; clear n0_ n1_ n2_ hb; have hcr0 : wp2.cell? ⟨g1, 0, none⟩ = some (.int .i64 0) := (blk_cell BK1.out 0).trans rfl; have hfr0 := blk_frozen BK1.out 0; have hcn0 : wp2.cell? ⟨g2, 0, none⟩ = some (.int .i64 x) := (blk_cell BK2.out 0).trans rfl; have hfn0 := blk_frozen BK2.out 0; have hcr1 : wp2.cell? ⟨g1, 1, none⟩ = some (.int .i64 0) := (blk_cell BK1.out 1).trans rfl; have hfr1 := blk_frozen BK1.out 1; have hcn1 : wp2.cell? ⟨g2, 1, none⟩ = some (.int .i64 0) := (blk_cell BK2.out 1).trans rfl; have hfn1 := blk_frozen BK2.out 1))
    all_goals
     refine bodyPost_ret (results_ct rfl _ _ g1 25 #[.int .i64 0, .int .i64 0] (0, 0) _ rfl (by (with_reducible repeat (first | refine blk_drewN ?_ _ | refine blk_drew ?_ | refine blk_alloc ?_ _)); refine blk_put (cs := #[.int .i64 0, .int .i64 0]) (cs' := #[.int .i64 0, .int .i64 0]) ?_ 1 _ rfl; (with_reducible repeat (first | refine blk_drewN ?_ _ | refine blk_drew ?_ | refine blk_alloc ?_ _)); refine blk_put (cs := #[.int .i64 0, .int .i64 0]) (cs' := #[.int .i64 0, .int .i64 0]) ?_ 0 _ rfl; (with_reducible repeat (first | refine blk_drewN ?_ _ | refine blk_drew ?_ | refine blk_alloc ?_ _)); exact BK1.out) Tryz.underlying25 rfl (by kernel_rfl)) rfl ?_
     exact ⟨by first | rfl | (simp; done), (by repeat (first | (with_reducible first | exact HB.out | apply below_alloc | apply pw_below_drewN | apply below_drew1 | refine below_set ?_ GE1.out | refine below_set ?_ GE2.out) | exact HB.out))⟩
set_option maxHeartbeats 4000000 in
set_option maxRecDepth 100000 in
theorem rate_Parse.wC1 (a0 : ByteArray) (w : World) (hL : Go.Proofs.YthidfomkgclkcaaGreatDoor.X.LaidW w) (U D D' : ByteArray) (b : Bool) (hcut : CutOk a0 U D b) (hD : D' = if b = true then D else ⟨#[49]⟩) (x y : Int) (e1 e2 : Int) (hU : ParseOk U x e1) (h5 : e1 ≠ 5) (h0 : e1 ≠ 0) (hP : ParseOk D' y e2) (g5 : e2 ≠ 5) :
   Calls Tryz.prog 13 #[.string a0] w fun r w' => r = .returned (.tuple #[.agg #[.int .i64 0, .int .i64 0], .int .i64 4]) ∧ Below w.heap.size w w' := by
  have HC := Aside0.mk hcut
  clear hcut
  have HB := Aside0.mk (Below.refl w.heap.size w)
  have PU := Aside0.mk hU
  clear hU
  have PD := Aside0.mk hP
  clear hP
  have h5a : (e1 == 5) = false := beq_eq_false_iff_ne.mpr h5
  have h0a : (e1 == 0) = false := beq_eq_false_iff_ne.mpr h0
  have h0b : (e1 != 0) = true := bne_iff_ne.mpr h0
  have g5a : (e2 == 5) = false := beq_eq_false_iff_ne.mpr g5
  clear h5 h0 g5
  cases b
  all_goals
    first | (obtain rfl : D' = D := hD) | (obtain rfl : D' = ⟨#[49]⟩ := hD)
    have i0 := i55_0 (.string U)
    first | (have i1 := fun u => i55_1 u (.string D')) | (have i1 := fun u => i55_1 u (.string ⟨#[49]⟩))
    go_enter Tryz.func13, Tryz.ntmps13
    go_wp2_with (first | ((with_reducible refine gate_dst (N := 2) rfl ?_); refine box_event ?hg (N := 2) ?hd (cs := #[.int .i64 0, .int .i64 0]) (t := 25) ?hr ?_; (case hd => rfl); (case hg => rfl); (case hr => first | (go_simp; done) | (go_simp; rfl)); intro g1 hg w1 hbox hb; have n0_ := Aside0.mk (below_step (by repeat (first | (with_reducible first | exact HB.out | apply below_alloc | apply pw_below_drewN | apply below_drew1 | refine below_set ?_ GE1.out | refine below_set ?_ GE2.out) | exact HB.out)) hb); have n1_ := Aside0.mk hbox; have n2_ := Aside0.mk ((by rw [hg]; exact (below_size (by repeat (first | (with_reducible first | exact HB.out | apply below_alloc | apply pw_below_drewN | apply below_drew1 | refine below_set ?_ GE1.out | refine below_set ?_ GE2.out) | exact HB.out))) : w.heap.size ≤ g1)); clear HB; have HB := n0_; have BK1 := n1_; have GE1 := n2_; clear n0_ n1_ n2_; clear hb hbox hg) | ((with_reducible refine gate_dst (N := 7) rfl ?_); refine box_event ?hg (N := 7) ?hd (cs := #[.int .i64 0, .int .i64 0]) (t := 53) ?hr ?_; (case hd => rfl); (case hg => rfl); (case hr => first | (go_simp; done) | (go_simp; rfl)); intro g2 hg w2 hbox hb; have n0_ := Aside0.mk (below_step (by repeat (first | (with_reducible first | exact HB.out | apply below_alloc | apply pw_below_drewN | apply below_drew1 | refine below_set ?_ GE1.out | refine below_set ?_ GE2.out) | exact HB.out)) hb); have n1_ := Aside0.mk hbox; have n2_ := Aside0.mk ((by rw [hg]; exact (below_size (by repeat (first | (with_reducible first | exact HB.out | apply below_alloc | apply pw_below_drewN | apply below_drew1 | refine below_set ?_ GE1.out | refine below_set ?_ GE2.out) | exact HB.out))) : w.heap.size ≤ g2)); have n3_ := Aside0.mk (blk_below (by (with_reducible repeat (first | refine blk_drewN ?_ _ | refine blk_drew ?_ | refine blk_alloc ?_ _)); exact BK1.out) hb); have n4_ := Aside0.mk (blk_ne n3_.out n1_.out (by decide)); clear BK1; have BK1 := n3_; have NE := n4_; clear n3_ n4_; clear HB; have HB := n0_; have BK2 := n1_; have GE2 := n2_; clear n0_ n1_ n2_; clear hb hbox hg) | (go_at_call 23; refine (HC.out _ (hL.below (by repeat (first | (with_reducible first | exact HB.out | apply below_alloc | apply pw_below_drewN | apply below_drew1 | refine below_set ?_ GE1.out | refine below_set ?_ GE2.out) | exact HB.out)))).mono ?_; rintro e w' ⟨rfl, n, rfl⟩))
    refine wp_loop_rounds 3 ?_
    rw [rounds_succ]
    go_wp2_with (first | (go_at_call 24; refine (PU.out _ (hL.below (by repeat (first | (with_reducible first | exact HB.out | apply below_alloc | apply pw_below_drewN | apply below_drew1 | refine below_set ?_ GE1.out | refine below_set ?_ GE2.out) | exact HB.out)))).mono ?_; rintro e wp1 ⟨rfl, hb⟩; have n0_ := Aside0.mk (below_step (by repeat (first | (with_reducible first | exact HB.out | apply below_alloc | apply pw_below_drewN | apply below_drew1 | refine below_set ?_ GE1.out | refine below_set ?_ GE2.out) | exact HB.out)) hb); have n1_ : Aside0 (wp1.heap[g1]? = some (.cells #[.int .i64 0, .int .i64 0] 25 (0, 0))) := ⟨blk_below (by (with_reducible repeat (first | refine blk_drewN ?_ _ | refine blk_drew ?_ | refine blk_alloc ?_ _)); exact BK1.out) hb⟩; have n2_ : Aside0 (wp1.heap[g2]? = some (.cells #[.int .i64 0, .int .i64 0] 53 (0, 0))) := ⟨blk_below (by (with_reducible repeat (first | refine blk_drewN ?_ _ | refine blk_drew ?_ | refine blk_alloc ?_ _)); exact BK2.out) hb⟩; clear HB BK1 BK2; have HB := n0_; have BK1 := n1_; have BK2 := n2_; clear n0_ n1_ n2_ hb; have hcr0 : wp1.cell? ⟨g1, 0, none⟩ = some (.int .i64 0) := (blk_cell BK1.out 0).trans rfl; have hfr0 := blk_frozen BK1.out 0; have hcn0 : wp1.cell? ⟨g2, 0, none⟩ = some (.int .i64 0) := (blk_cell BK2.out 0).trans rfl; have hfn0 := blk_frozen BK2.out 0; have hcr1 : wp1.cell? ⟨g1, 1, none⟩ = some (.int .i64 0) := (blk_cell BK1.out 1).trans rfl; have hfr1 := blk_frozen BK1.out 1; have hcn1 : wp1.cell? ⟨g2, 1, none⟩ = some (.int .i64 0) := (blk_cell BK2.out 1).trans rfl; have hfn1 := blk_frozen BK2.out 1))
    clear hcr0 hcr1 hfr0 hfr1 hcn0 hcn1 hfn0 hfn1
    rw [rounds_succ]
    go_wp2_with (first | (go_at_call 24; refine (PD.out _ (hL.below (by repeat (first | (with_reducible first | exact HB.out | apply below_alloc | apply pw_below_drewN | apply below_drew1 | refine below_set ?_ GE1.out | refine below_set ?_ GE2.out) | exact HB.out)))).mono ?_; rintro e wp2 ⟨rfl, hb⟩; have n0_ := Aside0.mk (below_step (by repeat (first | (with_reducible first | exact HB.out | apply below_alloc | apply pw_below_drewN | apply below_drew1 | refine below_set ?_ GE1.out | refine below_set ?_ GE2.out) | exact HB.out)) hb); have n1_ : Aside0 (wp2.heap[g1]? = some (.cells #[.int .i64 0, .int .i64 0] 25 (0, 0))) := ⟨blk_below (by (with_reducible repeat (first | refine blk_drewN ?_ _ | refine blk_drew ?_ | refine blk_alloc ?_ _)); refine blk_far ?_ NE.out _; (with_reducible repeat (first | refine blk_drewN ?_ _ | refine blk_drew ?_ | refine blk_alloc ?_ _)); exact BK1.out) hb⟩; have n2_ : Aside0 (wp2.heap[g2]? = some (.cells #[.int .i64 x, .int .i64 0] 53 (0, 0))) := ⟨blk_below (by (with_reducible repeat (first | refine blk_drewN ?_ _ | refine blk_drew ?_ | refine blk_alloc ?_ _)); refine blk_put (cs := #[.int .i64 0, .int .i64 0]) (cs' := #[.int .i64 x, .int .i64 0]) ?_ 0 _ rfl; (with_reducible repeat (first | refine blk_drewN ?_ _ | refine blk_drew ?_ | refine blk_alloc ?_ _)); exact BK2.out) hb⟩; clear HB BK1 BK2; have HB := n0_; have BK1 := n1_; have BK2 := n2_; clear n0_ n1_ n2_ hb; have hcr0 : wp2.cell? ⟨g1, 0, none⟩ = some (.int .i64 0) := (blk_cell BK1.out 0).trans rfl; have hfr0 := blk_frozen BK1.out 0; have hcn0 : wp2.cell? ⟨g2, 0, none⟩ = some (.int .i64 x) := (blk_cell BK2.out 0).trans rfl; have hfn0 := blk_frozen BK2.out 0; have hcr1 : wp2.cell? ⟨g1, 1, none⟩ = some (.int .i64 0) := (blk_cell BK1.out 1).trans rfl; have hfr1 := blk_frozen BK1.out 1; have hcn1 : wp2.cell? ⟨g2, 1, none⟩ = some (.int .i64 0) := (blk_cell BK2.out 1).trans rfl; have hfn1 := blk_frozen BK2.out 1))
    have hq0 := (blk_cell (blk_far (p := ⟨g2, 1, none⟩) BK1.out NE.out (.int .i64 y)) 0).trans (show (#[.int .i64 0, .int .i64 0] : Array Value)[0]? = some (.int .i64 0) from rfl)
    have hqf0 := blk_frozen (blk_far (p := ⟨g2, 1, none⟩) BK1.out NE.out (.int .i64 y)) 0
    have hq1 := (blk_cell (blk_far (p := ⟨g2, 1, none⟩) BK1.out NE.out (.int .i64 y)) 1).trans (show (#[.int .i64 0, .int .i64 0] : Array Value)[1]? = some (.int .i64 0) from rfl)
    have hqf1 := blk_frozen (blk_far (p := ⟨g2, 1, none⟩) BK1.out NE.out (.int .i64 y)) 1
    clear hcr0 hcr1 hfr0 hfr1
    rw [rounds_succ]
    go_wp2_with fail
    all_goals
     refine bodyPost_ret (results_ct rfl _ _ g1 25 #[.int .i64 0, .int .i64 0] (0, 0) _ rfl (by (with_reducible repeat (first | refine blk_drewN ?_ _ | refine blk_drew ?_ | refine blk_alloc ?_ _)); refine blk_put (cs := #[.int .i64 0, .int .i64 0]) (cs' := #[.int .i64 0, .int .i64 0]) ?_ 1 _ rfl; (with_reducible repeat (first | refine blk_drewN ?_ _ | refine blk_drew ?_ | refine blk_alloc ?_ _)); refine blk_put (cs := #[.int .i64 0, .int .i64 0]) (cs' := #[.int .i64 0, .int .i64 0]) ?_ 0 _ rfl; (with_reducible repeat (first | refine blk_drewN ?_ _ | refine blk_drew ?_ | refine blk_alloc ?_ _)); refine blk_far ?_ NE.out _; (with_reducible repeat (first | refine blk_drewN ?_ _ | refine blk_drew ?_ | refine blk_alloc ?_ _)); exact BK1.out) Tryz.underlying25 rfl (by kernel_rfl)) rfl ?_
     exact ⟨by first | rfl | (simp; done), (by repeat (first | (with_reducible first | exact HB.out | apply below_alloc | apply pw_below_drewN | apply below_drew1 | refine below_set ?_ GE1.out | refine below_set ?_ GE2.out) | exact HB.out))⟩
set_option maxHeartbeats 4000000 in
set_option maxRecDepth 100000 in
theorem rate_Parse.wC2 (a0 : ByteArray) (w : World) (hL : Go.Proofs.YthidfomkgclkcaaGreatDoor.X.LaidW w) (U D D' : ByteArray) (b : Bool) (hcut : CutOk a0 U D b) (hD : D' = if b = true then D else ⟨#[49]⟩) (x y : Int) (e2 : Int) (hU : ParseOk U x 0) (hP : ParseOk D' y e2) (g5 : e2 ≠ 5) (g0 : e2 ≠ 0) :
   Calls Tryz.prog 13 #[.string a0] w fun r w' => r = .returned (.tuple #[.agg #[.int .i64 0, .int .i64 0], .int .i64 4]) ∧ Below w.heap.size w w' := by
  have HC := Aside0.mk hcut
  clear hcut
  have HB := Aside0.mk (Below.refl w.heap.size w)
  have PU := Aside0.mk hU
  clear hU
  have PD := Aside0.mk hP
  clear hP
  have g5a : (e2 == 5) = false := beq_eq_false_iff_ne.mpr g5
  have g0a : (e2 == 0) = false := beq_eq_false_iff_ne.mpr g0
  have g0b : (e2 != 0) = true := bne_iff_ne.mpr g0
  clear g5 g0
  cases b
  all_goals
    first | (obtain rfl : D' = D := hD) | (obtain rfl : D' = ⟨#[49]⟩ := hD)
    have i0 := i55_0 (.string U)
    first | (have i1 := fun u => i55_1 u (.string D')) | (have i1 := fun u => i55_1 u (.string ⟨#[49]⟩))
    go_enter Tryz.func13, Tryz.ntmps13
    go_wp2_with (first | ((with_reducible refine gate_dst (N := 2) rfl ?_); refine box_event ?hg (N := 2) ?hd (cs := #[.int .i64 0, .int .i64 0]) (t := 25) ?hr ?_; (case hd => rfl); (case hg => rfl); (case hr => first | (go_simp; done) | (go_simp; rfl)); intro g1 hg w1 hbox hb; have n0_ := Aside0.mk (below_step (by repeat (first | (with_reducible first | exact HB.out | apply below_alloc | apply pw_below_drewN | apply below_drew1 | refine below_set ?_ GE1.out | refine below_set ?_ GE2.out) | exact HB.out)) hb); have n1_ := Aside0.mk hbox; have n2_ := Aside0.mk ((by rw [hg]; exact (below_size (by repeat (first | (with_reducible first | exact HB.out | apply below_alloc | apply pw_below_drewN | apply below_drew1 | refine below_set ?_ GE1.out | refine below_set ?_ GE2.out) | exact HB.out))) : w.heap.size ≤ g1)); clear HB; have HB := n0_; have BK1 := n1_; have GE1 := n2_; clear n0_ n1_ n2_; clear hb hbox hg) | ((with_reducible refine gate_dst (N := 7) rfl ?_); refine box_event ?hg (N := 7) ?hd (cs := #[.int .i64 0, .int .i64 0]) (t := 53) ?hr ?_; (case hd => rfl); (case hg => rfl); (case hr => first | (go_simp; done) | (go_simp; rfl)); intro g2 hg w2 hbox hb; have n0_ := Aside0.mk (below_step (by repeat (first | (with_reducible first | exact HB.out | apply below_alloc | apply pw_below_drewN | apply below_drew1 | refine below_set ?_ GE1.out | refine below_set ?_ GE2.out) | exact HB.out)) hb); have n1_ := Aside0.mk hbox; have n2_ := Aside0.mk ((by rw [hg]; exact (below_size (by repeat (first | (with_reducible first | exact HB.out | apply below_alloc | apply pw_below_drewN | apply below_drew1 | refine below_set ?_ GE1.out | refine below_set ?_ GE2.out) | exact HB.out))) : w.heap.size ≤ g2)); have n3_ := Aside0.mk (blk_below (by (with_reducible repeat (first | refine blk_drewN ?_ _ | refine blk_drew ?_ | refine blk_alloc ?_ _)); exact BK1.out) hb); have n4_ := Aside0.mk (blk_ne n3_.out n1_.out (by decide)); clear BK1; have BK1 := n3_; have NE := n4_; clear n3_ n4_; clear HB; have HB := n0_; have BK2 := n1_; have GE2 := n2_; clear n0_ n1_ n2_; clear hb hbox hg) | (go_at_call 23; refine (HC.out _ (hL.below (by repeat (first | (with_reducible first | exact HB.out | apply below_alloc | apply pw_below_drewN | apply below_drew1 | refine below_set ?_ GE1.out | refine below_set ?_ GE2.out) | exact HB.out)))).mono ?_; rintro e w' ⟨rfl, n, rfl⟩))
    refine wp_loop_rounds 3 ?_
    rw [rounds_succ]
    go_wp2_with (first | (go_at_call 24; refine (PU.out _ (hL.below (by repeat (first | (with_reducible first | exact HB.out | apply below_alloc | apply pw_below_drewN | apply below_drew1 | refine below_set ?_ GE1.out | refine below_set ?_ GE2.out) | exact HB.out)))).mono ?_; rintro e wp1 ⟨rfl, hb⟩; have n0_ := Aside0.mk (below_step (by repeat (first | (with_reducible first | exact HB.out | apply below_alloc | apply pw_below_drewN | apply below_drew1 | refine below_set ?_ GE1.out | refine below_set ?_ GE2.out) | exact HB.out)) hb); have n1_ : Aside0 (wp1.heap[g1]? = some (.cells #[.int .i64 0, .int .i64 0] 25 (0, 0))) := ⟨blk_below (by (with_reducible repeat (first | refine blk_drewN ?_ _ | refine blk_drew ?_ | refine blk_alloc ?_ _)); exact BK1.out) hb⟩; have n2_ : Aside0 (wp1.heap[g2]? = some (.cells #[.int .i64 0, .int .i64 0] 53 (0, 0))) := ⟨blk_below (by (with_reducible repeat (first | refine blk_drewN ?_ _ | refine blk_drew ?_ | refine blk_alloc ?_ _)); exact BK2.out) hb⟩; clear HB BK1 BK2; have HB := n0_; have BK1 := n1_; have BK2 := n2_; clear n0_ n1_ n2_ hb; have hcr0 : wp1.cell? ⟨g1, 0, none⟩ = some (.int .i64 0) := (blk_cell BK1.out 0).trans rfl; have hfr0 := blk_frozen BK1.out 0; have hcn0 : wp1.cell? ⟨g2, 0, none⟩ = some (.int .i64 0) := (blk_cell BK2.out 0).trans rfl; have hfn0 := blk_frozen BK2.out 0; have hcr1 : wp1.cell? ⟨g1, 1, none⟩ = some (.int .i64 0) := (blk_cell BK1.out 1).trans rfl; have hfr1 := blk_frozen BK1.out 1; have hcn1 : wp1.cell? ⟨g2, 1, none⟩ = some (.int .i64 0) := (blk_cell BK2.out 1).trans rfl; have hfn1 := blk_frozen BK2.out 1))
    clear hcr0 hcr1 hfr0 hfr1 hcn0 hcn1 hfn0 hfn1
    rw [rounds_succ]
    go_wp2_with (first | (go_at_call 24; refine (PD.out _ (hL.below (by repeat (first | (with_reducible first | exact HB.out | apply below_alloc | apply pw_below_drewN | apply below_drew1 | refine below_set ?_ GE1.out | refine below_set ?_ GE2.out) | exact HB.out)))).mono ?_; rintro e wp2 ⟨rfl, hb⟩; have n0_ := Aside0.mk (below_step (by repeat (first | (with_reducible first | exact HB.out | apply below_alloc | apply pw_below_drewN | apply below_drew1 | refine below_set ?_ GE1.out | refine below_set ?_ GE2.out) | exact HB.out)) hb); have n1_ : Aside0 (wp2.heap[g1]? = some (.cells #[.int .i64 0, .int .i64 0] 25 (0, 0))) := ⟨blk_below (by (with_reducible repeat (first | refine blk_drewN ?_ _ | refine blk_drew ?_ | refine blk_alloc ?_ _)); refine blk_far ?_ NE.out _; (with_reducible repeat (first | refine blk_drewN ?_ _ | refine blk_drew ?_ | refine blk_alloc ?_ _)); exact BK1.out) hb⟩; have n2_ : Aside0 (wp2.heap[g2]? = some (.cells #[.int .i64 x, .int .i64 0] 53 (0, 0))) := ⟨blk_below (by (with_reducible repeat (first | refine blk_drewN ?_ _ | refine blk_drew ?_ | refine blk_alloc ?_ _)); refine blk_put (cs := #[.int .i64 0, .int .i64 0]) (cs' := #[.int .i64 x, .int .i64 0]) ?_ 0 _ rfl; (with_reducible repeat (first | refine blk_drewN ?_ _ | refine blk_drew ?_ | refine blk_alloc ?_ _)); exact BK2.out) hb⟩; clear HB BK1 BK2; have HB := n0_; have BK1 := n1_; have BK2 := n2_; clear n0_ n1_ n2_ hb; have hcr0 : wp2.cell? ⟨g1, 0, none⟩ = some (.int .i64 0) := (blk_cell BK1.out 0).trans rfl; have hfr0 := blk_frozen BK1.out 0; have hcn0 : wp2.cell? ⟨g2, 0, none⟩ = some (.int .i64 x) := (blk_cell BK2.out 0).trans rfl; have hfn0 := blk_frozen BK2.out 0; have hcr1 : wp2.cell? ⟨g1, 1, none⟩ = some (.int .i64 0) := (blk_cell BK1.out 1).trans rfl; have hfr1 := blk_frozen BK1.out 1; have hcn1 : wp2.cell? ⟨g2, 1, none⟩ = some (.int .i64 0) := (blk_cell BK2.out 1).trans rfl; have hfn1 := blk_frozen BK2.out 1))
    have hq0 := (blk_cell (blk_far (p := ⟨g2, 1, none⟩) BK1.out NE.out (.int .i64 y)) 0).trans (show (#[.int .i64 0, .int .i64 0] : Array Value)[0]? = some (.int .i64 0) from rfl)
    have hqf0 := blk_frozen (blk_far (p := ⟨g2, 1, none⟩) BK1.out NE.out (.int .i64 y)) 0
    have hq1 := (blk_cell (blk_far (p := ⟨g2, 1, none⟩) BK1.out NE.out (.int .i64 y)) 1).trans (show (#[.int .i64 0, .int .i64 0] : Array Value)[1]? = some (.int .i64 0) from rfl)
    have hqf1 := blk_frozen (blk_far (p := ⟨g2, 1, none⟩) BK1.out NE.out (.int .i64 y)) 1
    clear hcr0 hcr1 hfr0 hfr1
    rw [rounds_succ]
    go_wp2_with fail
    all_goals
     refine bodyPost_ret (results_ct rfl _ _ g1 25 #[.int .i64 0, .int .i64 0] (0, 0) _ rfl (by (with_reducible repeat (first | refine blk_drewN ?_ _ | refine blk_drew ?_ | refine blk_alloc ?_ _)); refine blk_put (cs := #[.int .i64 0, .int .i64 0]) (cs' := #[.int .i64 0, .int .i64 0]) ?_ 1 _ rfl; (with_reducible repeat (first | refine blk_drewN ?_ _ | refine blk_drew ?_ | refine blk_alloc ?_ _)); refine blk_put (cs := #[.int .i64 0, .int .i64 0]) (cs' := #[.int .i64 0, .int .i64 0]) ?_ 0 _ rfl; (with_reducible repeat (first | refine blk_drewN ?_ _ | refine blk_drew ?_ | refine blk_alloc ?_ _)); refine blk_far ?_ NE.out _; (with_reducible repeat (first | refine blk_drewN ?_ _ | refine blk_drew ?_ | refine blk_alloc ?_ _)); exact BK1.out) Tryz.underlying25 rfl (by kernel_rfl)) rfl ?_
     exact ⟨by first | rfl | (simp; done), (by repeat (first | (with_reducible first | exact HB.out | apply below_alloc | apply pw_below_drewN | apply below_drew1 | refine below_set ?_ GE1.out | refine below_set ?_ GE2.out) | exact HB.out))⟩
set_option maxHeartbeats 4000000 in
set_option maxRecDepth 100000 in
theorem rate_Parse.wD (a0 : ByteArray) (w : World) (hL : Go.Proofs.YthidfomkgclkcaaGreatDoor.X.LaidW w) (U D D' : ByteArray) (b : Bool) (hcut : CutOk a0 U D b) (hD : D' = if b = true then D else ⟨#[49]⟩) (x y : Int) (hU : ParseOk U x 0) (hP : ParseOk D' y 0) (k : Nat) (r1 r2 r3 : Int) (hM : rate_Make.f k x y = some (r1, r2, r3)) :
   Calls Tryz.prog 13 #[.string a0] w fun r w' => r = .returned (.tuple #[.agg #[.int .i64 r1, .int .i64 r2], .int .i64 r3]) ∧ Below w.heap.size w w' := by
  have HC := Aside0.mk hcut
  clear hcut
  have HB := Aside0.mk (Below.refl w.heap.size w)
  have PU := Aside0.mk hU
  clear hU
  have PD := Aside0.mk hP
  clear hP
  have HM := Aside0.mk hM
  clear hM
  cases b
  all_goals
    first | (obtain rfl : D' = D := hD) | (obtain rfl : D' = ⟨#[49]⟩ := hD)
    have i0 := i55_0 (.string U)
    first | (have i1 := fun u => i55_1 u (.string D')) | (have i1 := fun u => i55_1 u (.string ⟨#[49]⟩))
    go_enter Tryz.func13, Tryz.ntmps13
    go_wp2_with (first | ((with_reducible refine gate_dst (N := 2) rfl ?_); refine box_event ?hg (N := 2) ?hd (cs := #[.int .i64 0, .int .i64 0]) (t := 25) ?hr ?_; (case hd => rfl); (case hg => rfl); (case hr => first | (go_simp; done) | (go_simp; rfl)); intro g1 hg w1 hbox hb; have n0_ := Aside0.mk (below_step (by repeat (first | (with_reducible first | exact HB.out | apply below_alloc | apply pw_below_drewN | apply below_drew1 | refine below_set ?_ GE1.out | refine below_set ?_ GE2.out) | exact HB.out)) hb); have n1_ := Aside0.mk hbox; have n2_ := Aside0.mk ((by rw [hg]; exact (below_size (by repeat (first | (with_reducible first | exact HB.out | apply below_alloc | apply pw_below_drewN | apply below_drew1 | refine below_set ?_ GE1.out | refine below_set ?_ GE2.out) | exact HB.out))) : w.heap.size ≤ g1)); clear HB; have HB := n0_; have BK1 := n1_; have GE1 := n2_; clear n0_ n1_ n2_; clear hb hbox hg) | ((with_reducible refine gate_dst (N := 7) rfl ?_); refine box_event ?hg (N := 7) ?hd (cs := #[.int .i64 0, .int .i64 0]) (t := 53) ?hr ?_; (case hd => rfl); (case hg => rfl); (case hr => first | (go_simp; done) | (go_simp; rfl)); intro g2 hg w2 hbox hb; have n0_ := Aside0.mk (below_step (by repeat (first | (with_reducible first | exact HB.out | apply below_alloc | apply pw_below_drewN | apply below_drew1 | refine below_set ?_ GE1.out | refine below_set ?_ GE2.out) | exact HB.out)) hb); have n1_ := Aside0.mk hbox; have n2_ := Aside0.mk ((by rw [hg]; exact (below_size (by repeat (first | (with_reducible first | exact HB.out | apply below_alloc | apply pw_below_drewN | apply below_drew1 | refine below_set ?_ GE1.out | refine below_set ?_ GE2.out) | exact HB.out))) : w.heap.size ≤ g2)); have n3_ := Aside0.mk (blk_below (by (with_reducible repeat (first | refine blk_drewN ?_ _ | refine blk_drew ?_ | refine blk_alloc ?_ _)); exact BK1.out) hb); have n4_ := Aside0.mk (blk_ne n3_.out n1_.out (by decide)); clear BK1; have BK1 := n3_; have NE := n4_; clear n3_ n4_; clear HB; have HB := n0_; have BK2 := n1_; have GE2 := n2_; clear n0_ n1_ n2_; clear hb hbox hg) | (go_at_call 23; refine (HC.out _ (hL.below (by repeat (first | (with_reducible first | exact HB.out | apply below_alloc | apply pw_below_drewN | apply below_drew1 | refine below_set ?_ GE1.out | refine below_set ?_ GE2.out) | exact HB.out)))).mono ?_; rintro e w' ⟨rfl, n, rfl⟩))
    refine wp_loop_rounds 3 ?_
    rw [rounds_succ]
    go_wp2_with (first | (go_at_call 24; refine (PU.out _ (hL.below (by repeat (first | (with_reducible first | exact HB.out | apply below_alloc | apply pw_below_drewN | apply below_drew1 | refine below_set ?_ GE1.out | refine below_set ?_ GE2.out) | exact HB.out)))).mono ?_; rintro e wp1 ⟨rfl, hb⟩; have n0_ := Aside0.mk (below_step (by repeat (first | (with_reducible first | exact HB.out | apply below_alloc | apply pw_below_drewN | apply below_drew1 | refine below_set ?_ GE1.out | refine below_set ?_ GE2.out) | exact HB.out)) hb); have n1_ : Aside0 (wp1.heap[g1]? = some (.cells #[.int .i64 0, .int .i64 0] 25 (0, 0))) := ⟨blk_below (by (with_reducible repeat (first | refine blk_drewN ?_ _ | refine blk_drew ?_ | refine blk_alloc ?_ _)); exact BK1.out) hb⟩; have n2_ : Aside0 (wp1.heap[g2]? = some (.cells #[.int .i64 0, .int .i64 0] 53 (0, 0))) := ⟨blk_below (by (with_reducible repeat (first | refine blk_drewN ?_ _ | refine blk_drew ?_ | refine blk_alloc ?_ _)); exact BK2.out) hb⟩; clear HB BK1 BK2; have HB := n0_; have BK1 := n1_; have BK2 := n2_; clear n0_ n1_ n2_ hb; have hcr0 : wp1.cell? ⟨g1, 0, none⟩ = some (.int .i64 0) := (blk_cell BK1.out 0).trans rfl; have hfr0 := blk_frozen BK1.out 0; have hcn0 : wp1.cell? ⟨g2, 0, none⟩ = some (.int .i64 0) := (blk_cell BK2.out 0).trans rfl; have hfn0 := blk_frozen BK2.out 0; have hcr1 : wp1.cell? ⟨g1, 1, none⟩ = some (.int .i64 0) := (blk_cell BK1.out 1).trans rfl; have hfr1 := blk_frozen BK1.out 1; have hcn1 : wp1.cell? ⟨g2, 1, none⟩ = some (.int .i64 0) := (blk_cell BK2.out 1).trans rfl; have hfn1 := blk_frozen BK2.out 1))
    clear hcr0 hcr1 hfr0 hfr1 hcn0 hcn1 hfn0 hfn1
    rw [rounds_succ]
    go_wp2_with (first | (go_at_call 24; refine (PD.out _ (hL.below (by repeat (first | (with_reducible first | exact HB.out | apply below_alloc | apply pw_below_drewN | apply below_drew1 | refine below_set ?_ GE1.out | refine below_set ?_ GE2.out) | exact HB.out)))).mono ?_; rintro e wp2 ⟨rfl, hb⟩; have n0_ := Aside0.mk (below_step (by repeat (first | (with_reducible first | exact HB.out | apply below_alloc | apply pw_below_drewN | apply below_drew1 | refine below_set ?_ GE1.out | refine below_set ?_ GE2.out) | exact HB.out)) hb); have n1_ : Aside0 (wp2.heap[g1]? = some (.cells #[.int .i64 0, .int .i64 0] 25 (0, 0))) := ⟨blk_below (by (with_reducible repeat (first | refine blk_drewN ?_ _ | refine blk_drew ?_ | refine blk_alloc ?_ _)); refine blk_far ?_ NE.out _; (with_reducible repeat (first | refine blk_drewN ?_ _ | refine blk_drew ?_ | refine blk_alloc ?_ _)); exact BK1.out) hb⟩; have n2_ : Aside0 (wp2.heap[g2]? = some (.cells #[.int .i64 x, .int .i64 0] 53 (0, 0))) := ⟨blk_below (by (with_reducible repeat (first | refine blk_drewN ?_ _ | refine blk_drew ?_ | refine blk_alloc ?_ _)); refine blk_put (cs := #[.int .i64 0, .int .i64 0]) (cs' := #[.int .i64 x, .int .i64 0]) ?_ 0 _ rfl; (with_reducible repeat (first | refine blk_drewN ?_ _ | refine blk_drew ?_ | refine blk_alloc ?_ _)); exact BK2.out) hb⟩; clear HB BK1 BK2; have HB := n0_; have BK1 := n1_; have BK2 := n2_; clear n0_ n1_ n2_ hb; have hcr0 : wp2.cell? ⟨g1, 0, none⟩ = some (.int .i64 0) := (blk_cell BK1.out 0).trans rfl; have hfr0 := blk_frozen BK1.out 0; have hcn0 : wp2.cell? ⟨g2, 0, none⟩ = some (.int .i64 x) := (blk_cell BK2.out 0).trans rfl; have hfn0 := blk_frozen BK2.out 0; have hcr1 : wp2.cell? ⟨g1, 1, none⟩ = some (.int .i64 0) := (blk_cell BK1.out 1).trans rfl; have hfr1 := blk_frozen BK1.out 1; have hcn1 : wp2.cell? ⟨g2, 1, none⟩ = some (.int .i64 0) := (blk_cell BK2.out 1).trans rfl; have hfn1 := blk_frozen BK2.out 1))
    rw [rounds_succ]
    go_wp2_with (first | (go_at_call 5; refine (rate_Make.calls k x y r1 r2 r3 _ HM.out).mono ?_; rintro e wm ⟨rfl, hb⟩; have n0_ := Aside0.mk (below_step (by repeat (first | (with_reducible first | exact HB.out | apply below_alloc | apply pw_below_drewN | apply below_drew1 | refine below_set ?_ GE1.out | refine below_set ?_ GE2.out) | exact HB.out)) hb); have n1_ : Aside0 (wm.heap[g1]? = some (.cells #[.int .i64 0, .int .i64 0] 25 (0, 0))) := ⟨blk_below (by (with_reducible repeat (first | refine blk_drewN ?_ _ | refine blk_drew ?_ | refine blk_alloc ?_ _)); refine blk_far ?_ NE.out _; (with_reducible repeat (first | refine blk_drewN ?_ _ | refine blk_drew ?_ | refine blk_alloc ?_ _)); exact BK1.out) hb⟩; clear HB BK1; have HB := n0_; have BK1 := n1_; clear n0_ n1_ hb; have hcr0 : wm.cell? ⟨g1, 0, none⟩ = some (.int .i64 0) := (blk_cell BK1.out 0).trans rfl; have hfr0 := blk_frozen BK1.out 0; have hcr1 : wm.cell? ⟨g1, 1, none⟩ = some (.int .i64 0) := (blk_cell BK1.out 1).trans rfl; have hfr1 := blk_frozen BK1.out 1))
    all_goals
     refine bodyPost_ret (results_ct rfl _ _ g1 25 #[.int .i64 r1, .int .i64 r2] (0, 0) _ rfl (by (with_reducible repeat (first | refine blk_drewN ?_ _ | refine blk_drew ?_ | refine blk_alloc ?_ _)); refine blk_put (cs := #[.int .i64 r1, .int .i64 0]) (cs' := #[.int .i64 r1, .int .i64 r2]) ?_ 1 _ rfl; (with_reducible repeat (first | refine blk_drewN ?_ _ | refine blk_drew ?_ | refine blk_alloc ?_ _)); refine blk_put (cs := #[.int .i64 0, .int .i64 0]) (cs' := #[.int .i64 r1, .int .i64 0]) ?_ 0 _ rfl; (with_reducible repeat (first | refine blk_drewN ?_ _ | refine blk_drew ?_ | refine blk_alloc ?_ _)); exact BK1.out) Tryz.underlying25 rfl (by kernel_rfl)) rfl ?_
     exact ⟨by first | rfl | (simp; done), (by repeat (first | (with_reducible first | exact HB.out | apply below_alloc | apply pw_below_drewN | apply below_drew1 | refine below_set ?_ GE1.out | refine below_set ?_ GE2.out) | exact HB.out))⟩
theorem parse_ok (l : List UInt8) (hl : l.length ≤ 281474976710656) (x e : Int) (h : Go.Proofs.YthidfomkgclkcaaGreatDoor.X.parseF l = (x, e)) : ParseOk ⟨l.toArray⟩ x e := by
  intro w0 hL
  have hs : (⟨l.toArray⟩ : ByteArray).size ≤ 281474976710656 := by show l.toArray.size ≤ _; simpa using hl
  have := Go.Proofs.YthidfomkgclkcaaGreatDoor.X.parse_walk ⟨l.toArray⟩ w0 hL hs (Go.Proofs.YthidfomkgclkcaaGreatDoor.X.trim_le hs)
  rw [show (⟨l.toArray⟩ : ByteArray).data.toList = l from rfl, h] at this
  exact this
theorem rate_Parse.calls (k : Nat) (a0 : ByteArray) (r1 : Int) (r2 : Int) (r3 : Int) (w : World) (h : rate_Parse.f k a0 = some (r1, r2, r3)) (hLd_ : Go.Proofs.YthidfomkgclkcaaGreatDoor.X.LaidW w) :
  Calls Tryz.prog 13 #[.string a0] w fun e w' => e = .returned (.tuple #[.agg #[.int .i64 r1, .int .i64 r2], .int .i64 r3]) ∧ Below w.heap.size w w' := by
  unfold rate_Parse.f at h
  by_cases hs : a0.size < 4294967281
  · rw [if_pos hs] at h
    have hl : a0.data.toList.length = a0.size := by rw [Array.length_toList]; rfl
    have hcl := Go.Proofs.YthidfomkgclkcaaGreatDoor.X.cut_len a0.data.toList
    have hcut : CutOk a0 ⟨(Lib.cut a0.data.toList [47]).1.toArray⟩ ⟨(Lib.cut a0.data.toList [47]).2.1.toArray⟩ (Lib.cut a0.data.toList [47]).2.2 := fun w0 hL => Go.Proofs.YthidfomkgclkcaaGreatDoor.X.c_cut a0 w0 hL hs
    have hD : (⟨(Go.Proofs.YthidfomkgclkcaaGreatDoor.X.downF a0.data.toList).toArray⟩ : ByteArray) = if (Lib.cut a0.data.toList [47]).2.2 = true then ⟨(Lib.cut a0.data.toList [47]).2.1.toArray⟩ else ⟨#[49]⟩ := by
      unfold Go.Proofs.YthidfomkgclkcaaGreatDoor.X.downF; split <;> rfl
    have hdl : (Go.Proofs.YthidfomkgclkcaaGreatDoor.X.downF a0.data.toList).length ≤ 281474976710656 := by
      unfold Go.Proofs.YthidfomkgclkcaaGreatDoor.X.downF; split
      · omega
      · simp
    obtain ⟨x, e1, hU⟩ : ∃ x e, Go.Proofs.YthidfomkgclkcaaGreatDoor.X.parseF (Go.Proofs.YthidfomkgclkcaaGreatDoor.X.upF a0.data.toList) = (x, e) := ⟨_, _, rfl⟩
    obtain ⟨y, e2, hP⟩ : ∃ x e, Go.Proofs.YthidfomkgclkcaaGreatDoor.X.parseF (Go.Proofs.YthidfomkgclkcaaGreatDoor.X.downF a0.data.toList) = (x, e) := ⟨_, _, rfl⟩
    rw [hU, hP] at h
    have pU := parse_ok (Go.Proofs.YthidfomkgclkcaaGreatDoor.X.upF a0.data.toList) (by unfold Go.Proofs.YthidfomkgclkcaaGreatDoor.X.upF; omega) x e1 hU
    have pD := parse_ok (Go.Proofs.YthidfomkgclkcaaGreatDoor.X.downF a0.data.toList) hdl y e2 hP
    clear hU hP hl hcl hdl
    simp only [] at h
    by_cases c1 : e1 = 5
    · subst c1
      rw [if_pos rfl] at h
      simp only [Option.some.injEq, Prod.mk.injEq] at h
      obtain ⟨rfl, rfl, rfl⟩ := h
      exact rate_Parse.wA a0 w hLd_ _ _ _ _ hcut hD x pU
    rw [if_neg c1] at h
    by_cases c2 : e2 = 5
    · subst c2
      rw [if_pos rfl] at h
      simp only [Option.some.injEq, Prod.mk.injEq] at h
      obtain ⟨rfl, rfl, rfl⟩ := h
      exact rate_Parse.wB a0 w hLd_ _ _ _ _ hcut hD x e1 y pU c1 pD
    rw [if_neg c2] at h
    by_cases c3 : e1 = 0
    · subst c3
      by_cases c4 : e2 = 0
      · subst c4
        rw [if_neg (by simp)] at h
        exact rate_Parse.wD a0 w hLd_ _ _ _ _ hcut hD x y pU pD k r1 r2 r3 h
      · rw [if_pos (.inr c4)] at h
        simp only [Option.some.injEq, Prod.mk.injEq] at h
        obtain ⟨rfl, rfl, rfl⟩ := h
        exact rate_Parse.wC2 a0 w hLd_ _ _ _ _ hcut hD x y e2 pU pD c2 c4
    · rw [if_pos (.inl c3)] at h
      simp only [Option.some.injEq, Prod.mk.injEq] at h
      obtain ⟨rfl, rfl, rfl⟩ := h
      exact rate_Parse.wC1 a0 w hLd_ _ _ _ _ hcut hD x y e1 e2 pU c1 c3 pD c2
  · rw [if_neg hs] at h; cases h

end Go.Proofs.YthidfomkgclkcaaGreatDoor.Q
