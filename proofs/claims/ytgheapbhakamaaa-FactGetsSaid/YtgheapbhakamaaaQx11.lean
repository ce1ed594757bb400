/- printed by a program of this session (wip/tools/pr.sh): it is not a print of the kit -/
import Derived.Test.YtgheapbhakamaaaQx0
import Derived.Test.YtgheapbhakamaaaQx10
namespace Go.Proofs.Ytgheapbhakamaaa.Q
open Go.RowKit Go.Proofs.YtgheapbhakamaaaW.PrintWords Go.Proofs.YtgheapbhakamaaaW.PrintLast Go.Proofs.YtgheapbhakamaaaW.PrintMore
attribute [local go_sem] max2_int min2_int max_two min_two max_three min_three max_four min_four RFn.gtr_str   -- for this text's walks alone
set_option linter.unusedVariables false
set_option linter.unusedSimpArgs false
/-! ### ref09_Cmp: function 18 -/
def ref09_Cmp.l0 : Nat → List Int → Int → ByteArray → ByteArray → ByteArray → ByteArray → Int → ByteArray → ByteArray → ByteArray → ByteArray → Int → Option (Int)
 | 0, _, _, _, _, _, _, _, _, _, _, _, _ => none
 | k + 1, x5, x6, x224000, x224001, x224002, x224003, x224004, x225000, x225001, x225002, x225003, x225004 => if x6 < 4 then (if 0 ≤ x6 then (if x6 < (x5.length : Int) then (if (rd x5 x6) = 0 then (ref09_Cmp.l0 k x5 (wrap64 (x6 + 1)) x224000 x224001 x224002 x224003 x224004 x225000 x225001 x225002 x225003 x225004) else (some (rd x5 x6))) else (none)) else (none)) else (if x224004 < x225004 then (some (-1)) else (if x224004 > x225004 then (some 1) else (some 0)))
def ref09_Cmp.f (k : Nat) (a0_0 : ByteArray) (a0_1 : ByteArray) (a0_2 : ByteArray) (a0_3 : ByteArray) (a0_4 : Int) (a1_0 : ByteArray) (a1_1 : ByteArray) (a1_2 : ByteArray) (a1_3 : ByteArray) (a1_4 : Int) : Option (Int) := (ref09_text.f a0_0 a1_0).bind fun t225 => ((ref09_text.f a0_1 a1_1).bind fun t226 => ((ref09_text.f a0_2 a1_2).bind fun t227 => ((ref09_text.f a0_3 a1_3).bind fun t228 => (ref09_Cmp.l0 k (([t225, t226, t227, t228] : List Int)) 0 a0_0 a0_1 a0_2 a0_3 a0_4 a1_0 a1_1 a1_2 a1_3 a1_4))))
theorem ref09_Cmp.mono_l : ∀ k, (∀ y0 y1 y2 y3 y4 y5 y6 y7 y8 y9 y10 y11, LeO (ref09_Cmp.l0 k y0 y1 y2 y3 y4 y5 y6 y7 y8 y9 y10 y11) (ref09_Cmp.l0 (k + 1) y0 y1 y2 y3 y4 y5 y6 y7 y8 y9 y10 y11))
 | 0 => fun _ _ _ _ _ _ _ _ _ _ _ _ r h => by simp [ref09_Cmp.l0] at h
 | k + 1 => by
  have ih0 := ref09_Cmp.mono_l k
  ·intro y0 y1 y2 y3 y4 y5 y6 y7 y8 y9 y10 y11
   unfold ref09_Cmp.l0
   repeat' first | exact LeO.refl _ | with_reducible first | apply ih0 | exact LeO.none _ | apply LeO.ite | refine LeO.bind ?_ fun _ => ?_
theorem ref09_Cmp.mono : ∀ a0 a1 a2 a3 a4 a5 a6 a7 a8 a9 k, LeO (ref09_Cmp.f k a0 a1 a2 a3 a4 a5 a6 a7 a8 a9) (ref09_Cmp.f (k + 1) a0 a1 a2 a3 a4 a5 a6 a7 a8 a9) := by
 intro a0 a1 a2 a3 a4 a5 a6 a7 a8 a9 k
 have ih0 := ref09_Cmp.mono_l k
 unfold ref09_Cmp.f
 repeat' first | exact LeO.refl _ | with_reducible first | apply ih0 | exact LeO.none _ | apply LeO.ite | refine LeO.bind ?_ fun _ => ?_
def ref09_Cmp.T1 : Bool × List (List Nat × List Nat) := (true, [([], []), ([0], [0]), ([], []), ([2], [2]), ([1, 3], [1, 3]), ([], []), ([5], [5]), ([], []), ([7], [7]), ([6, 8, 4], [6, 8]), ([], []), ([10], [10]), ([], []), ([12], [12]), ([11, 13, 9], [11, 13]), ([], []), ([15], [15]), ([], []), ([17], [17]), ([16, 18, 14], [16, 18]), ([4, 9, 14, 19], [4, 9, 14, 19]), ([20, 19, 0, 1, 2, 3, 4, 5, 6, 7, 8, 9, 10, 11, 12, 13, 14, 15, 16, 17, 18, 19, 20], [20])])
def ref09_Cmp.B1 : List Nat := [0, 1, 0, 4, 15, 0, 32, 0, 128, 511, 0, 1024, 0, 4096, 16383, 0, 32768, 0, 131072, 524287, 1048575, 2097151]
theorem ref09_Cmp.tab1 : rtab .any (opsOf Try.f18 1) = ref09_Cmp.T1 := by kernel_rfl
theorem ref09_Cmp.bits1 : waitsOk ref09_Cmp.T1.2 ref09_Cmp.B1 = true := by kernel_rfl
set_option maxHeartbeats 8000000 in
set_option maxRecDepth 100000 in
theorem ref09_Cmp.calls (k : Nat) (a0_0 : ByteArray) (a0_1 : ByteArray) (a0_2 : ByteArray) (a0_3 : ByteArray) (a0_4 : Int) (a1_0 : ByteArray) (a1_1 : ByteArray) (a1_2 : ByteArray) (a1_3 : ByteArray) (a1_4 : Int) (r : Int) (w : World) (h : ref09_Cmp.f k a0_0 a0_1 a0_2 a0_3 a0_4 a1_0 a1_1 a1_2 a1_3 a1_4 = some r) :
  Calls Try.prog 18 #[.agg #[.string a0_0, .string a0_1, .string a0_2, .string a0_3, .int .i64 a0_4], .agg #[.string a1_0, .string a1_1, .string a1_2, .string a1_3, .int .i64 a1_4]] w fun e w' => e = .returned (.int .i64 r) ∧ Below w.heap.size w w' := by
 have hu24 := Try.underlying24
 have HB := Aside0.mk (Below.refl w.heap.size w)
 have H : ((ref09_text.f a0_0 a1_0).bind fun t225 => ((ref09_text.f a0_1 a1_1).bind fun t226 => ((ref09_text.f a0_2 a1_2).bind fun t227 => ((ref09_text.f a0_3 a1_3).bind fun t228 => (ref09_Cmp.l0 k (([t225, t226, t227, t228] : List Int)) 0 a0_0 a0_1 a0_2 a0_3 a0_4 a1_0 a1_1 a1_2 a1_3 a1_4))))) = some r := h
 clear h
 obtain ⟨t225, A3, H⟩ := RFn.bn H
 obtain ⟨t226, A4, H⟩ := RFn.bn H
 obtain ⟨t227, A5, H⟩ := RFn.bn H
 obtain ⟨t228, A6, H⟩ := RFn.bn H
 obtain ⟨y229, hy229⟩ : ∃ y_ : List Int, y_ = (([t225, t226, t227, t228] : List Int)) := ⟨_, rfl⟩
 replace H : (ref09_Cmp.l0 k y229 0 a0_0 a0_1 a0_2 a0_3 a0_4 a1_0 a1_1 a1_2 a1_3 a1_4) = some r := RFn.rp H hy229
 have Ny229 := Aside0.mk hy229
 clear hy229
 have H' := Aside0.mk H
 clear H
 go_enter Try.func18, Try.ntmps18
 try go_wp2_with (first | ((with_reducible refine gate_dst (N := 2) rfl ?_); refine box_event ?hg (N := 2) ?hd (cs := #[.string a0_0, .string a0_1, .string a0_2, .string a0_3, .int .i64 a0_4]) (t := 24) ?hr ?_; (case hd => rfl); (case hg => rfl); (case hr => first | (go_simp; done) | (go_simp; rfl)); intro gb223 hg w7 hbox hb; have n0_ := Aside0.mk (below_step (RFn.bel) hb); have n1_ := Aside0.mk (hbox); have n2_ := Aside0.mk ((by rw [hg]; exact (below_size (RFn.bel)) : w.heap.size ≤ gb223)); have n3_ := Aside0.mk ((by rw [hg]; exact (below_size (RFn.bel)) : w.heap.size ≤ gb223)); clear HB; have HB := n0_; have BK223 := n1_; have GW223 := n2_; have GE223 := n3_; clear n0_ n1_ n2_ n3_; clear hb hbox hg) | ((with_reducible refine gate_dst (N := 3) rfl ?_); refine box_event ?hg (N := 3) ?hd (cs := #[.string a1_0, .string a1_1, .string a1_2, .string a1_3, .int .i64 a1_4]) (t := 24) ?hr ?_; (case hd => rfl); (case hg => rfl); (case hr => first | (go_simp; done) | (go_simp; rfl)); intro gb224 hg w8 hbox hb; have n0_ := Aside0.mk (blk_below (g := gb223) RFn.blk hb); have n1_ := Aside0.mk (below_step RFn.bels hb); have n2_ := Aside0.mk (hbox); have n3_ := Aside0.mk ((by rw [hg]; exact (below_size RFn.bels) : w.heap.size ≤ gb224)); have n4_ := Aside0.mk ((by rw [hg]; exact (below_size RFn.bels) : w.heap.size ≤ gb224)); have n5_ := Aside0.mk ((by rw [hg]; exact Nat.ne_of_lt (blk_lt (g := gb223) RFn.blk) : gb223 ≠ gb224)); have n6_ := Aside0.mk ((by rw [hg]; exact Nat.ne_of_gt (blk_lt (g := gb223) RFn.blk) : gb224 ≠ gb223)); clear BK223; clear HB; have BK223 := n0_; have HB := n1_; have BK224 := n2_; have GW224 := n3_; have GE224 := n4_; have NB223_224 := n5_; have NB224_223 := n6_; clear n0_ n1_ n2_ n3_ n4_ n5_ n6_; clear hb hbox hg))
 have n0_ := Aside0.mk (blk_drew BK223.out)
 have n1_ := Aside0.mk (blk_drew BK224.out)
 have n2_ := Aside0.mk (below_drew1 HB.out)
 clear BK223
 clear BK224
 clear HB
 have BK223 := n0_
 have BK224 := n1_
 have HB := n2_
 clear n0_ n1_ n2_
 refine start_ (n := 22) (S := fun w' => w'.cell? ⟨gb223, 0, none⟩ = some (.string a0_0) ∧ w'.cell? ⟨gb223, 1, none⟩ = some (.string a0_1) ∧ w'.cell? ⟨gb223, 2, none⟩ = some (.string a0_2) ∧ w'.cell? ⟨gb223, 3, none⟩ = some (.string a0_3) ∧ w'.cell? ⟨gb223, 4, none⟩ = some (.int .i64 a0_4) ∧ w'.cell? ⟨gb224, 0, none⟩ = some (.string a1_0) ∧ w'.cell? ⟨gb224, 1, none⟩ = some (.string a1_1) ∧ w'.cell? ⟨gb224, 2, none⟩ = some (.string a1_2) ∧ w'.cell? ⟨gb224, 3, none⟩ = some (.string a1_3) ∧ w'.cell? ⟨gb224, 4, none⟩ = some (.int .i64 a1_4)) (ds := []) (bs 22 0) (by kernel_rfl) rfl rfl (RFn.bd5 BK223 BK224) (fun hHeld => ?_); refine with_tabW ref09_Cmp.tab1 ref09_Cmp.bits1 (fun HT_ HW_ => ?_)
 generalize w8.drew = w9 at BK223 BK224 HB hHeld ⊢
 refine RFn.pA (i := 0) (N := some 7) (bs 22 1) HT_ ?_
 refine RFn.pA (i := 2) (N := some 9) (bs 22 5) HT_ ?_
 refine RFn.pA (i := 5) (N := some 12) (bs 22 37) HT_ ?_
 refine RFn.pA (i := 7) (N := some 14) (bs 22 165) HT_ ?_
 refine RFn.pA (i := 10) (N := some 17) (bs 22 1189) HT_ ?_
 refine RFn.pA (i := 12) (N := some 19) (bs 22 5285) HT_ ?_
 refine RFn.pA (i := 15) (N := some 22) (bs 22 38053) HT_ ?_
 refine RFn.pA (i := 17) (N := some 24) (bs 22 169125) HT_ ?_
 refine RFn.tA (i := 1) (N := some 8) (bs 22 169127) rfl HT_ HW_ hHeld (by rintro w' ⟨s0, s1, s2, s3, s4, s5, s6, s7, s8, s9⟩; go_simp; with_reducible rfl) ?_
 refine RFn.tA (i := 3) (N := some 10) (bs 22 169135) rfl HT_ HW_ hHeld (by rintro w' ⟨s0, s1, s2, s3, s4, s5, s6, s7, s8, s9⟩; go_simp; with_reducible rfl) ?_
 refine RFn.tA (i := 6) (N := some 13) (bs 22 169199) rfl HT_ HW_ hHeld (by rintro w' ⟨s0, s1, s2, s3, s4, s5, s6, s7, s8, s9⟩; go_simp; with_reducible rfl) ?_
 refine RFn.tA (i := 8) (N := some 15) (bs 22 169455) rfl HT_ HW_ hHeld (by rintro w' ⟨s0, s1, s2, s3, s4, s5, s6, s7, s8, s9⟩; go_simp; with_reducible rfl) ?_
 refine RFn.tA (i := 11) (N := some 18) (bs 22 171503) rfl HT_ HW_ hHeld (by rintro w' ⟨s0, s1, s2, s3, s4, s5, s6, s7, s8, s9⟩; go_simp; with_reducible rfl) ?_
 refine RFn.tA (i := 13) (N := some 20) (bs 22 179695) rfl HT_ HW_ hHeld (by rintro w' ⟨s0, s1, s2, s3, s4, s5, s6, s7, s8, s9⟩; go_simp; with_reducible rfl) ?_
 refine RFn.tA (i := 16) (N := some 23) (bs 22 245231) rfl HT_ HW_ hHeld (by rintro w' ⟨s0, s1, s2, s3, s4, s5, s6, s7, s8, s9⟩; go_simp; with_reducible rfl) ?_
 refine RFn.tA (i := 18) (N := some 25) (bs 22 507375) rfl HT_ HW_ hHeld (by rintro w' ⟨s0, s1, s2, s3, s4, s5, s6, s7, s8, s9⟩; go_simp; with_reducible rfl) ?_
 refine RFn.o1 (i := 4) (N := some 11) (bs 22 507391) HT_ fun K hK => ?_
 refine RFn.gA Try.func40 #[.string a0_0, .string a1_0] rfl ?_
 with_reducible refine (ref09_text.calls a0_0 a1_0 t225 _ A3.out).mono ?_
 rintro e w' ⟨rfl, ⟨nd, rfl⟩⟩
 refine ⟨_, rfl, ?_⟩
 refine hK.out _ _ (RFn.bd5 BK223 BK224) (fun hHeld => ?_)
 clear hK K
 refine RFn.nm (some 11) ?_
 refine RFn.o1 (i := 9) (N := some 16) (bs 22 507903) HT_ fun K hK => ?_
 refine RFn.gA Try.func40 #[.string a0_1, .string a1_1] rfl ?_
 with_reducible refine (ref09_text.calls a0_1 a1_1 t226 _ A4.out).mono ?_
 rintro e w' ⟨rfl, ⟨nd, rfl⟩⟩
 refine ⟨_, rfl, ?_⟩
 refine hK.out _ _ (RFn.bd5 BK223 BK224) (fun hHeld => ?_)
 clear hK K
 refine RFn.nm (some 16) ?_
 refine RFn.o1 (i := 14) (N := some 21) (bs 22 524287) HT_ fun K hK => ?_
 refine RFn.gA Try.func40 #[.string a0_2, .string a1_2] rfl ?_
 with_reducible refine (ref09_text.calls a0_2 a1_2 t227 _ A5.out).mono ?_
 rintro e w' ⟨rfl, ⟨nd, rfl⟩⟩
 refine ⟨_, rfl, ?_⟩
 refine hK.out _ _ (RFn.bd5 BK223 BK224) (fun hHeld => ?_)
 clear hK K
 refine RFn.nm (some 21) ?_
 refine RFn.o1 (i := 19) (N := some 26) (bs 22 1048575) HT_ fun K hK => ?_
 refine RFn.gA Try.func40 #[.string a0_3, .string a1_3] rfl ?_
 with_reducible refine (ref09_text.calls a0_3 a1_3 t228 _ A6.out).mono ?_
 rintro e w' ⟨rfl, ⟨nd, rfl⟩⟩
 refine ⟨_, rfl, ?_⟩
 refine hK.out _ _ (RFn.bd5 BK223 BK224) (fun hHeld => ?_)
 clear hK K
 refine RFn.nm (some 26) ?_
 refine RFn.o1 (i := 20) (N := some 27) (bs 22 2097151) HT_ fun K hK => ?_
 refine Kd.R_lit_step (Kd.int .i64) _ 3 ?hg (N := 27) ?hd (xs := ([t225, t226, t227, t228] : List Int)) (inner := [.int .i64 t225, .int .i64 t226, .int .i64 t227, .int .i64 t228]) (ok := fun _ => True) (okp := fun _ => True) ?hr ?hp (fun _ hk => hk) trivial (Below.refl _ _) (Nat.le_refl _) (by simp) ?_; (case hd => rfl); (case hg => rfl); (case hr => first | (go_simp; done) | (go_simp; rfl)); (case hp => exact (Reps.one (show Kd.M (Kd.int .i64) _ _ _ t225 [.int .i64 t225] from rfl) (Reps.one (show Kd.M (Kd.int .i64) _ _ _ t226 [.int .i64 t226] from rfl) (Reps.one (show Kd.M (Kd.int .i64) _ _ _ t227 [.int .i64 t227] from rfl) (Reps.one (show Kd.M (Kd.int .i64) _ _ _ t228 [.int .i64 t228] from rfl) (Reps.none _ _))))))
 intro v230 w10 ho11 hb hg_ hnew_
 clear hg_ hnew_
 (first | rw [← Ny229.out] at ho11 | (simp only [Int.reduceToNat] at ho11; rw [← Ny229.out] at ho11))
 have n0_ := Aside0.mk (Kd.R_lower ho11 (below_size RFn.bels))
 have n1_ := Aside0.mk (blk_below (g := gb223) RFn.blk hb)
 have n2_ := Aside0.mk (blk_below (g := gb224) RFn.blk hb)
 have n3_ := Aside0.mk (below_step RFn.bels hb)
 clear BK223
 clear BK224
 clear HB
 have HO231 := n0_
 have BK223 := n1_
 have BK224 := n2_
 have HB := n3_
 clear n0_ n1_ n2_ n3_
 clear hb ho11
 refine hK.out _ _ (RFn.bd5 BK223 BK224) (fun hHeld => ?_)
 clear hK K
 refine RFn.nm (some 27) ?_
 refine RFn.pA (i := 21) (N := some 5) (bs 22 4194303) HT_ ?_
 refine RFn.dn HT_ ?_
 try go_wp2
 go_loopg [6] k (fun kq v6 w' => ∃ (x6_1 : Int), v6 = .int .i64 x6_1 ∧ Aside0 (ref09_Cmp.l0 kq y229 x6_1 a0_0 a0_1 a0_2 a0_3 a0_4 a1_0 a1_1 a1_2 a1_3 a1_4 = some r) ∧ Aside0 (kq ≤ k) ∧ Aside0 (Kd.R (Kd.int .i64) 3 w' w.heap.size (fun _ => True) v230 y229) ∧ Aside0 (w'.heap[gb223]? = some (.cells #[.string a0_0, .string a0_1, .string a0_2, .string a0_3, .int .i64 a0_4] 24 (0, 0))) ∧ Aside0 (w'.heap[gb224]? = some (.cells #[.string a1_0, .string a1_1, .string a1_2, .string a1_3, .int .i64 a1_4] 24 (0, 0))) ∧ Aside0 (Below w.heap.size w w'))
 case atStart => exact ⟨(0), (by first | rfl | (simp; done) | (simp [*]; done)), H', ⟨Nat.le_refl _⟩, ⟨RFn.mR HO231⟩, ⟨RFn.mB BK223⟩, ⟨RFn.mB BK224⟩, ⟨RFn.bels⟩⟩
 case round =>
  clear H'
  try clear c1
  try clear p2
  try clear c4
  obtain ⟨x6_1, rfl, HA, HK1, HO_5, BK223, BK224, HB⟩ := hrel
  cases gk with
  | zero => exact absurd HA.out (by simp [ref09_Cmp.l0])
  | succ k1 =>
   have H := HA.out
   clear HA
   simp only [ref09_Cmp.l0] at H
   by_cases c12 : x6_1 < 4
   ·rw [if_pos c12] at H
    have c12b0 : decide (x6_1 < 4) = true := decide_eq_true c12
    clear c12
    by_cases c13 : 0 ≤ x6_1
    ·rw [if_pos c13] at H
     have c13b0 : decide (0 ≤ x6_1) = true := decide_eq_true c13
     clear c13
     by_cases c14 : x6_1 < (y229.length : Int)
     ·rw [if_pos c14] at H
      have c14b0 : decide (x6_1 < (y229.length : Int)) = true := decide_eq_true c14
      clear c14
      by_cases c15 : (rd y229 x6_1) = 0
      ·rw [if_pos c15] at H
       have c15b0 : ((rd y229 x6_1) == 0) = true := beq_iff_eq.mpr c15
       have c15b1 : ((rd y229 x6_1) != 0) = false := bne_eq_false_iff_eq.mpr c15
       clear c15
       have H' := Aside0.mk H
       clear H
       obtain ⟨Ao16, co16, eo16⟩ := Kd.R_slice HO_5.out
       subst eo16
       have p232 : 0 ≤ (x6_1 : Int) := RFn.od
       have q232 : x6_1 < (y229.length : Int) := RFn.od
       obtain ⟨ad232, e232, hx232_0⟩ := Kd.at_int (Kd.R_reads' HO_5.out).2.2 x6_1 p232 q232
       cases e232
       replace p232 := eq_true p232
       replace q232 := eq_true q232
       go_wp2
       go_roundg k1
       case measure => have := HK1.out; omega
       case rel => exact ⟨(wrap64 (x6_1 + 1)), (by first | rfl | (simp; done) | (simp [*]; done)), H', ⟨RFn.lk HK1⟩, ⟨RFn.mR HO_5⟩, ⟨RFn.mB BK223⟩, ⟨RFn.mB BK224⟩, ⟨RFn.bels⟩⟩
      ·rw [if_neg c15] at H
       have c15b0 : ((rd y229 x6_1) == 0) = false := beq_eq_false_iff_ne.mpr c15
       have c15b1 : ((rd y229 x6_1) != 0) = true := bne_iff_ne.mpr c15
       obtain rfl := Option.some.inj H
       obtain ⟨Ao17, co17, eo17⟩ := Kd.R_slice HO_5.out
       subst eo17
       have p232 : 0 ≤ (x6_1 : Int) := RFn.od
       have q232 : x6_1 < (y229.length : Int) := RFn.od
       obtain ⟨ad232, e232, hx232_0⟩ := Kd.at_int (Kd.R_reads' HO_5.out).2.2 x6_1 p232 q232
       cases e232
       replace p232 := eq_true p232
       replace q232 := eq_true q232
       have p233 : 0 ≤ (x6_1 : Int) := RFn.od
       have q233 : x6_1 < (y229.length : Int) := RFn.od
       obtain ⟨ad233, e233, hx233_0⟩ := Kd.at_int (Kd.R_reads' HO_5.out).2.2 x6_1 p233 q233
       obtain rfl : ad232 = ad233 := (by injection e233)
       replace p233 := eq_true p233
       replace q233 := eq_true q233
       go_wp2
       go_ret
       exact ⟨by first | rfl | (simp [errW_none, errW_some] <;> rfl) | (simp [*, errW_none, errW_some] <;> rfl), RFn.bels⟩
     ·rw [if_neg c14] at H
      exact absurd H (by simp)
    ·rw [if_neg c13] at H
     exact absurd H (by simp)
   ·rw [if_neg c12] at H
    have c12b0 : decide (x6_1 < 4) = false := decide_eq_false c12
    clear c12
    by_cases c18 : a0_4 < a1_4
    ·rw [if_pos c18] at H
     have c18b0 : decide (a0_4 < a1_4) = true := decide_eq_true c18
     clear c18
     obtain rfl := Option.some.inj H
     have hnb19 := NB223_224.out
     have hnc19 := NB224_223.out
     obtain ⟨hcz20_0, hcz20_1, hcz20_2, hcz20_3, hcz20_4⟩ := RFn.bc5 BK223
     obtain ⟨hfz20_0, hfz20_1, hfz20_2, hfz20_3, hfz20_4⟩ := RFn.bf5 BK223
     obtain ⟨hcz21_0, hcz21_1, hcz21_2, hcz21_3, hcz21_4⟩ := RFn.bc5 BK224
     obtain ⟨hfz21_0, hfz21_1, hfz21_2, hfz21_3, hfz21_4⟩ := RFn.bf5 BK224
     go_wp2
     go_ret
     exact ⟨by first | rfl | (simp [errW_none, errW_some] <;> rfl) | (simp [*, errW_none, errW_some] <;> rfl), RFn.bels⟩
    ·rw [if_neg c18] at H
     have c18b0 : decide (a0_4 < a1_4) = false := decide_eq_false c18
     clear c18
     by_cases c22 : a0_4 > a1_4
     ·rw [if_pos c22] at H
      have c22b0 : decide (a1_4 < a0_4) = true := decide_eq_true c22
      clear c22
      obtain rfl := Option.some.inj H
      have hnb23 := NB223_224.out
      have hnc23 := NB224_223.out
      obtain ⟨hcz24_0, hcz24_1, hcz24_2, hcz24_3, hcz24_4⟩ := RFn.bc5 BK223
      obtain ⟨hfz24_0, hfz24_1, hfz24_2, hfz24_3, hfz24_4⟩ := RFn.bf5 BK223
      obtain ⟨hcz25_0, hcz25_1, hcz25_2, hcz25_3, hcz25_4⟩ := RFn.bc5 BK224
      obtain ⟨hfz25_0, hfz25_1, hfz25_2, hfz25_3, hfz25_4⟩ := RFn.bf5 BK224
      go_wp2
      go_ret
      exact ⟨by first | rfl | (simp [errW_none, errW_some] <;> rfl) | (simp [*, errW_none, errW_some] <;> rfl), RFn.bels⟩
     ·rw [if_neg c22] at H
      have c22b0 : decide (a1_4 < a0_4) = false := decide_eq_false c22
      clear c22
      obtain rfl := Option.some.inj H
      have hnb26 := NB223_224.out
      have hnc26 := NB224_223.out
      obtain ⟨hcz27_0, hcz27_1, hcz27_2, hcz27_3, hcz27_4⟩ := RFn.bc5 BK223
      obtain ⟨hfz27_0, hfz27_1, hfz27_2, hfz27_3, hfz27_4⟩ := RFn.bf5 BK223
      obtain ⟨hcz28_0, hcz28_1, hcz28_2, hcz28_3, hcz28_4⟩ := RFn.bc5 BK224
      obtain ⟨hfz28_0, hfz28_1, hfz28_2, hfz28_3, hfz28_4⟩ := RFn.bf5 BK224
      go_wp2
      go_ret
      exact ⟨by first | rfl | (simp [errW_none, errW_some] <;> rfl) | (simp [*, errW_none, errW_some] <;> rfl), RFn.bels⟩
/-! ### ref09_keys: function 35 -/
mutual
def ref09_keys.l0 : Nat → List (S28) → List (S24) → Int → Option ((List (S24)))
 | 0, _, _, _ => none
 | k + 1, x0, x3, x4 => if x4 < (x0.length : Int) then (ref09_keys.l1 k x0 x3 x4 ([] : List (S24)) false 0) else (some x3)
def ref09_keys.l1 : Nat → List (S28) → List (S24) → Int → List (S24) → Bool → Int → Option ((List (S24)))
 | 0, _, _, _, _, _, _ => none
 | k + 1, x0, x3, x4, x5, x6, x7 => if x7 < (x3.length : Int) then (if 0 ≤ x4 then (if x4 < (x0.length : Int) then (if 0 ≤ x7 then ((ref09_Cmp.f k ((rd_T28 x0 x4).f0.f0) ((rd_T28 x0 x4).f0.f1) ((rd_T28 x0 x4).f0.f2) ((rd_T28 x0 x4).f0.f3) ((rd_T28 x0 x4).f0.f4) ((rd_T24 x3 x7).f0) ((rd_T24 x3 x7).f1) ((rd_T24 x3 x7).f2) ((rd_T24 x3 x7).f3) ((rd_T24 x3 x7).f4)).bind fun t240 => (if t240 = 0 then (if t240 < 0 then (if x5.length < 1954687338268 then (ref09_keys.l1 k x0 x3 x4 (x5 ++ [(⟨(rd_T24 x3 x7).f0, (rd_T24 x3 x7).f1, (rd_T24 x3 x7).f2, (rd_T24 x3 x7).f3, (rd_T24 x3 x7).f4⟩ : S24)]) true (wrap64 (x7 + 1))) else (none)) else (if x5.length < 1954687338268 then (ref09_keys.l1 k x0 x3 x4 (x5 ++ [(⟨(rd_T24 x3 x7).f0, (rd_T24 x3 x7).f1, (rd_T24 x3 x7).f2, (rd_T24 x3 x7).f3, (rd_T24 x3 x7).f4⟩ : S24)]) true (wrap64 (x7 + 1))) else (none))) else (if t240 < 0 then (if x6 = true then (if x5.length < 1954687338268 then (ref09_keys.l1 k x0 x3 x4 (x5 ++ [(⟨(rd_T24 x3 x7).f0, (rd_T24 x3 x7).f1, (rd_T24 x3 x7).f2, (rd_T24 x3 x7).f3, (rd_T24 x3 x7).f4⟩ : S24)]) x6 (wrap64 (x7 + 1))) else (none)) else (if x5.length < 1954687338268 then ((some (x5 ++ [(⟨(rd_T28 x0 x4).f0.f0, (rd_T28 x0 x4).f0.f1, (rd_T28 x0 x4).f0.f2, (rd_T28 x0 x4).f0.f3, (rd_T28 x0 x4).f0.f4⟩ : S24)] : List (S24))).bind fun y254 => (if y254.length < 1954687338268 then (ref09_keys.l1 k x0 x3 x4 (y254 ++ [(⟨(rd_T24 x3 x7).f0, (rd_T24 x3 x7).f1, (rd_T24 x3 x7).f2, (rd_T24 x3 x7).f3, (rd_T24 x3 x7).f4⟩ : S24)]) true (wrap64 (x7 + 1))) else (none))) else (none))) else (if x5.length < 1954687338268 then (ref09_keys.l1 k x0 x3 x4 (x5 ++ [(⟨(rd_T24 x3 x7).f0, (rd_T24 x3 x7).f1, (rd_T24 x3 x7).f2, (rd_T24 x3 x7).f3, (rd_T24 x3 x7).f4⟩ : S24)]) x6 (wrap64 (x7 + 1))) else (none))))) else (none)) else (none)) else (none)) else (if x6 = true then (ref09_keys.l0 k x0 x5 (wrap64 (x4 + 1))) else (if 0 ≤ x4 then (if x4 < (x0.length : Int) then (if x5.length < 1954687338268 then (ref09_keys.l0 k x0 (x5 ++ [(⟨(rd_T28 x0 x4).f0.f0, (rd_T28 x0 x4).f0.f1, (rd_T28 x0 x4).f0.f2, (rd_T28 x0 x4).f0.f3, (rd_T28 x0 x4).f0.f4⟩ : S24)]) (wrap64 (x4 + 1))) else (none)) else (none)) else (none)))
end
def ref09_keys.f (k : Nat) (l0 : List (S28)) : Option ((List (S24))) := ref09_keys.l0 k l0 ([] : List (S24)) 0
theorem ref09_keys.mono_l : ∀ k, (∀ y0 y1 y2, LeO (ref09_keys.l0 k y0 y1 y2) (ref09_keys.l0 (k + 1) y0 y1 y2)) ∧ (∀ y0 y1 y2 y3 y4 y5, LeO (ref09_keys.l1 k y0 y1 y2 y3 y4 y5) (ref09_keys.l1 (k + 1) y0 y1 y2 y3 y4 y5))
 | 0 => ⟨fun _ _ _ r h => by simp [ref09_keys.l0] at h, fun _ _ _ _ _ _ r h => by simp [ref09_keys.l1] at h⟩
 | k + 1 => by
  obtain ⟨ih0, ih1⟩ := ref09_keys.mono_l k
  refine ⟨?_, ?_⟩
  ·intro y0 y1 y2
   unfold ref09_keys.l0
   repeat' first | exact LeO.refl _ | with_reducible first | apply ih0 | apply ih1 | apply ref09_Cmp.mono | exact LeO.none _ | apply LeO.ite | refine LeO.bind ?_ fun _ => ?_
  ·intro y0 y1 y2 y3 y4 y5
   unfold ref09_keys.l1
   repeat' first | exact LeO.refl _ | with_reducible first | apply ih0 | apply ih1 | apply ref09_Cmp.mono | exact LeO.none _ | apply LeO.ite | refine LeO.bind ?_ fun _ => ?_
theorem ref09_keys.mono : ∀ a0 k, LeO (ref09_keys.f k a0) (ref09_keys.f (k + 1) a0) := by
 intro a0 k
 obtain ⟨ih0, ih1⟩ := ref09_keys.mono_l k
 unfold ref09_keys.f
 repeat' first | exact LeO.refl _ | with_reducible first | apply ih0 | apply ih1 | apply ref09_Cmp.mono | exact LeO.none _ | apply LeO.ite | refine LeO.bind ?_ fun _ => ?_
def ref09_keys.T10 : Bool × List (List Nat × List Nat) := (true, [([], []), ([], []), ([0, 1], [0, 1]), ([2], [2]), ([3], [3]), ([], []), ([], []), ([5, 6], [5, 6]), ([7], [7]), ([4, 8], [4, 8]), ([9, 9, 0, 1, 2, 3, 4, 5, 6, 7, 8, 9], [9])])
def ref09_keys.B10 : List Nat := [0, 0, 3, 7, 15, 0, 0, 96, 224, 511, 1023]
theorem ref09_keys.tab10 : rtab .any (opsOf Try.f35 10) = ref09_keys.T10 := by kernel_rfl
theorem ref09_keys.bits10 : waitsOk ref09_keys.T10.2 ref09_keys.B10 = true := by kernel_rfl
set_option maxHeartbeats 8000000 in
set_option maxRecDepth 100000 in
theorem ref09_keys.calls (k : Nat) (A0 : Option Addr) (c0 : Nat) (l0 : List (S28)) (r : List (S24)) (w : World) (hr0 : Kd.C k28 w A0 l0.length l0) (hc0 : l0.length ≤ c0) (h : ref09_keys.f k l0 = some r) :
  Calls Try.prog 35 #[.slice A0 l0.length c0] w fun e w' => ∃ v0_ : Value, e = .returned (v0_) ∧ Kd.R k24 24 w' w.heap.size (fun _ => True) v0_ r ∧ Below w.heap.size w w' := by
 have hu24 := Try.underlying24
 have HR0 := Aside0.mk hr0
 have HC0 := Aside0.mk hc0
 clear hr0 hc0
 have HB := Aside0.mk (Below.refl w.heap.size w)
 have H : (ref09_keys.l0 k l0 ([] : List (S24)) 0) = some r := h
 clear h
 have H' := Aside0.mk H
 clear H
 go_enter Try.func35, Try.ntmps35
 go_wp2
 go_loopg [3, 4] k (fun kq v3 v4 w' => ∃ (x3_1 : List (S24)) (x4_1 : Int), v4 = .int .i64 x4_1 ∧ Aside0 (ref09_keys.l0 kq l0 x3_1 x4_1 = some r) ∧ Aside0 (kq ≤ k) ∧ Aside0 (Kd.R k24 24 w' w.heap.size (fun _ => True) v3 x3_1) ∧ Aside0 (Below w.heap.size w w'))
 case atStart => exact ⟨(([] : List (S24))), (0), (by first | rfl | (simp; done) | (simp [*]; done)), H', ⟨Nat.le_refl _⟩, ⟨RFn.kn⟩, ⟨RFn.bel⟩⟩
 case round =>
  clear H'
  obtain ⟨x3_1, x4_1, rfl, HA, HK1, HO_3, HB⟩ := hrel
  cases gk with
  | zero => exact absurd HA.out (by simp [ref09_keys.l0])
  | succ k1 =>
   have H := HA.out
   clear HA
   simp only [ref09_keys.l0] at H
   by_cases c2 : x4_1 < (l0.length : Int)
   ·rw [if_pos c2] at H
    have c2b0 : decide (x4_1 < (l0.length : Int)) = true := decide_eq_true c2
    clear c2
    have H' := Aside0.mk H
    clear H
    go_wp2
    go_loopg [5, 6, 7] k1 (fun kq v5 v6 v7 w' => ∃ (x5_2 : List (S24)) (x6_2 : Bool) (x7_2 : Int), v6 = .bool x6_2 ∧ v7 = .int .i64 x7_2 ∧ Aside0 (ref09_keys.l1 kq l0 x3_1 x4_1 x5_2 x6_2 x7_2 = some r) ∧ Aside0 (kq ≤ k1) ∧ Aside0 (Kd.R k24 24 w' w.heap.size (fun k_ => some k_ ≠ (v5 : Value).ownBlock) u3 x3_1) ∧ Aside0 (Kd.R k24 24 w' w.heap.size (fun k_ => some k_ ≠ (u3 : Value).ownBlock) v5 x5_2) ∧ Aside0 (Below w.heap.size w w'))
    case atStart => exact ⟨(([] : List (S24))), (false), (0), (by first | rfl | (simp; done) | (simp [*]; done)), (by first | rfl | (simp; done) | (simp [*]; done)), H', ⟨Nat.le_refl _⟩, ⟨by (with_reducible repeat (first | apply Kd.R_alloc | apply Kd.R_drewN | apply Kd.R_drew)); exact Kd.R_mono HO_3.out (fun _ hk => (by simp [Value.ownBlock]))⟩, ⟨RFn.kn⟩, ⟨RFn.bel⟩⟩
    case round =>
     clear H'
     try clear c2
     try clear c2b0
     try clear p2
     obtain ⟨x5_2, x6_2, x7_2, rfl, rfl, HA, HK2, HO_3, HO_5, HB⟩ := hrel
     cases gk with
     | zero => exact absurd HA.out (by simp [ref09_keys.l1])
     | succ k2 =>
      have H := HA.out
      clear HA
      simp only [ref09_keys.l1] at H
      by_cases c3 : x7_2 < (x3_1.length : Int)
      ·rw [if_pos c3] at H
       have c3b0 : decide (x7_2 < (x3_1.length : Int)) = true := decide_eq_true c3
       clear c3
       by_cases c4 : 0 ≤ x4_1
       ·rw [if_pos c4] at H
        have c4b0 : decide (0 ≤ x4_1) = true := decide_eq_true c4
        clear c4
        by_cases c5 : x4_1 < (l0.length : Int)
        ·rw [if_pos c5] at H
         have c5b0 : decide (x4_1 < (l0.length : Int)) = true := decide_eq_true c5
         clear c5
         by_cases c6 : 0 ≤ x7_2
         ·rw [if_pos c6] at H
          have c6b0 : decide (0 ≤ x7_2) = true := decide_eq_true c6
          clear c6
          obtain ⟨t240, A7, H⟩ := RFn.bn H
          by_cases c8 : t240 = 0
          ·rw [if_pos c8] at H
           have c8b0 : (t240 == 0) = true := beq_iff_eq.mpr c8
           have c8b1 : (t240 != 0) = false := bne_eq_false_iff_eq.mpr c8
           clear c8
           by_cases c9 : t240 < 0
           ·rw [if_pos c9] at H
            have c9b0 : decide (t240 < 0) = true := decide_eq_true c9
            clear c9
            by_cases c10 : x5_2.length < 1954687338268
            ·rw [if_pos c10] at H
             have LMc10 := Aside0.mk c10
             clear c10
             obtain ⟨y242, hy242⟩ : ∃ y_ : List (S24), y_ = (x5_2 ++ [(⟨(rd_T24 x3_1 x7_2).f0, (rd_T24 x3_1 x7_2).f1, (rd_T24 x3_1 x7_2).f2, (rd_T24 x3_1 x7_2).f3, (rd_T24 x3_1 x7_2).f4⟩ : S24)]) := ⟨_, rfl⟩
             replace H : (ref09_keys.l1 k2 l0 x3_1 x4_1 y242 true (wrap64 (x7_2 + 1))) = some r := RFn.rp H hy242
             have Ny242 := Aside0.mk hy242
             clear hy242
             have H' := Aside0.mk H
             clear H
             obtain ⟨Ao11, co11, eo11⟩ := Kd.R_slice HO_3.out
             subst eo11
             try go_wp2
             have n0_ := Aside0.mk (Kd.R_drew HO_3.out)
             have n1_ := Aside0.mk (Kd.R_drew HO_5.out)
             have n2_ := Aside0.mk (below_drew1 HB.out)
             clear HO_3
             clear HO_5
             clear HB
             have HO_3 := n0_
             have HO_5 := n1_
             have HB := n2_
             clear n0_ n1_ n2_
             have p238 : 0 ≤ (x4_1 : Int) := RFn.od
             have q238 : x4_1 < (l0.length : Int) := RFn.od
             obtain ⟨ad238, e238, hx238_0, hx238_1, hx238_2, hx238_3, hx238_4, hx238_5⟩ := at_T28 HR0.out x4_1 p238 q238
             have hw238_5 := hx238_5
             have hw238_4 := hx238_4
             have hw238_3 := hx238_3
             have hw238_2 := hx238_2
             have hw238_1 := hx238_1
             have hw238_0 := hx238_0
             cases e238
             replace hx238_0 := RFn.hb HB hx238_0
             replace hx238_1 := RFn.hb HB hx238_1
             replace hx238_2 := RFn.hb HB hx238_2
             replace hx238_3 := RFn.hb HB hx238_3
             replace hx238_4 := RFn.hb HB hx238_4
             replace hx238_5 := RFn.hb HB hx238_5
             replace p238 := eq_true p238
             replace q238 := eq_true q238
             have p239 : 0 ≤ (x7_2 : Int) := RFn.od
             have q239 : x7_2 < (x3_1.length : Int) := RFn.od
             obtain ⟨ad239, e239, hx239_0, hx239_1, hx239_2, hx239_3, hx239_4⟩ := at_T24 (Kd.R_reads' HO_3.out).2.2 x7_2 p239 q239
             cases e239
             replace p239 := eq_true p239
             replace q239 := eq_true q239
             refine start_ (n := 11) (S := fun w' => w'.cell? (ad238.add ((x4_1).toNat * 6)) = some (.string ((rd_T28 l0 x4_1).f0.f0)) ∧ w'.cell? ⟨(ad238.add ((x4_1).toNat * 6)).block, (ad238.add ((x4_1).toNat * 6)).off + 1, none⟩ = some (.string ((rd_T28 l0 x4_1).f0.f1)) ∧ w'.cell? ⟨(ad238.add ((x4_1).toNat * 6)).block, (ad238.add ((x4_1).toNat * 6)).off + 2, none⟩ = some (.string ((rd_T28 l0 x4_1).f0.f2)) ∧ w'.cell? ⟨(ad238.add ((x4_1).toNat * 6)).block, (ad238.add ((x4_1).toNat * 6)).off + 3, none⟩ = some (.string ((rd_T28 l0 x4_1).f0.f3)) ∧ w'.cell? ⟨(ad238.add ((x4_1).toNat * 6)).block, (ad238.add ((x4_1).toNat * 6)).off + 4, none⟩ = some (.int .i64 ((rd_T28 l0 x4_1).f0.f4)) ∧ w'.cell? ⟨(ad238.add ((x4_1).toNat * 6)).block, (ad238.add ((x4_1).toNat * 6)).off + 5, none⟩ = some (.int .i64 ((rd_T28 l0 x4_1).f1)) ∧ w'.cell? (ad239.add ((x7_2).toNat * 5)) = some (.string ((rd_T24 x3_1 x7_2).f0)) ∧ w'.cell? ⟨(ad239.add ((x7_2).toNat * 5)).block, (ad239.add ((x7_2).toNat * 5)).off + 1, none⟩ = some (.string ((rd_T24 x3_1 x7_2).f1)) ∧ w'.cell? ⟨(ad239.add ((x7_2).toNat * 5)).block, (ad239.add ((x7_2).toNat * 5)).off + 2, none⟩ = some (.string ((rd_T24 x3_1 x7_2).f2)) ∧ w'.cell? ⟨(ad239.add ((x7_2).toNat * 5)).block, (ad239.add ((x7_2).toNat * 5)).off + 3, none⟩ = some (.string ((rd_T24 x3_1 x7_2).f3)) ∧ w'.cell? ⟨(ad239.add ((x7_2).toNat * 5)).block, (ad239.add ((x7_2).toNat * 5)).off + 4, none⟩ = some (.int .i64 ((rd_T24 x3_1 x7_2).f4))) (ds := []) (bs 11 0) (by kernel_rfl) rfl rfl ⟨(RFn.hb HB hw238_0), (RFn.hb HB hw238_1), (RFn.hb HB hw238_2), (RFn.hb HB hw238_3), (RFn.hb HB hw238_4), (RFn.hb HB hw238_5), hx239_0, hx239_1, hx239_2, hx239_3, hx239_4⟩ (fun hHeld => ?_); refine with_tabW ref09_keys.tab10 ref09_keys.bits10 (fun HT_ HW_ => ?_)
             generalize wr.drew = w12 at HO_3 HO_5 HB hx238_0 hx238_1 hx238_2 hx238_3 hx238_4 hx238_5 hx239_0 hx239_1 hx239_2 hx239_3 hx239_4 hHeld ⊢
             refine RFn.pA (i := 0) (N := some 21) (bs 11 1) HT_ ?_
             refine RFn.pA (i := 1) (N := some 22) (bs 11 3) HT_ ?_
             refine RFn.pA (i := 2) (N := some 23) (bs 11 7) HT_ ?_
             refine RFn.pA (i := 3) (N := some 24) (bs 11 15) HT_ ?_
             refine RFn.pA (i := 5) (N := some 26) (bs 11 47) HT_ ?_
             refine RFn.pA (i := 6) (N := some 27) (bs 11 111) HT_ ?_
             refine RFn.pA (i := 7) (N := some 28) (bs 11 239) HT_ ?_
             refine RFn.tA (i := 4) (N := some 25) (bs 11 255) rfl HT_ HW_ hHeld (by rintro w' ⟨s0, s1, s2, s3, s4, s5, s6, s7, s8, s9, s10⟩; go_simp; with_reducible rfl) ?_
             refine RFn.tA (i := 8) (N := some 29) (bs 11 511) rfl HT_ HW_ hHeld (by rintro w' ⟨s0, s1, s2, s3, s4, s5, s6, s7, s8, s9, s10⟩; go_simp; with_reducible rfl) ?_
             refine RFn.o1 (i := 9) (N := some 30) (bs 11 1023) HT_ fun K hK => ?_
             refine RFn.gA Try.func18 #[.agg #[.string ((rd_T28 l0 x4_1).f0.f0), .string ((rd_T28 l0 x4_1).f0.f1), .string ((rd_T28 l0 x4_1).f0.f2), .string ((rd_T28 l0 x4_1).f0.f3), .int .i64 ((rd_T28 l0 x4_1).f0.f4)], .agg #[.string ((rd_T24 x3_1 x7_2).f0), .string ((rd_T24 x3_1 x7_2).f1), .string ((rd_T24 x3_1 x7_2).f2), .string ((rd_T24 x3_1 x7_2).f3), .int .i64 ((rd_T24 x3_1 x7_2).f4)]] rfl ?_
             with_reducible refine (ref09_Cmp.calls k2 ((rd_T28 l0 x4_1).f0.f0) ((rd_T28 l0 x4_1).f0.f1) ((rd_T28 l0 x4_1).f0.f2) ((rd_T28 l0 x4_1).f0.f3) ((rd_T28 l0 x4_1).f0.f4) ((rd_T24 x3_1 x7_2).f0) ((rd_T24 x3_1 x7_2).f1) ((rd_T24 x3_1 x7_2).f2) ((rd_T24 x3_1 x7_2).f3) ((rd_T24 x3_1 x7_2).f4) t240 _ A7.out).mono ?_
             rintro e w13 ⟨rfl, hb⟩
             have HS6_ := (hb.cell (World.block_lt_of_cell? _ _ (hHeld.2.2.2.2.2.2.1))).trans (hHeld.2.2.2.2.2.2.1)
             have HS7_ := (hb.cell (World.block_lt_of_cell? _ _ (hHeld.2.2.2.2.2.2.2.1))).trans (hHeld.2.2.2.2.2.2.2.1)
             have HS8_ := (hb.cell (World.block_lt_of_cell? _ _ (hHeld.2.2.2.2.2.2.2.2.1))).trans (hHeld.2.2.2.2.2.2.2.2.1)
             have HS9_ := (hb.cell (World.block_lt_of_cell? _ _ (hHeld.2.2.2.2.2.2.2.2.2.1))).trans (hHeld.2.2.2.2.2.2.2.2.2.1)
             have HS10_ := (hb.cell (World.block_lt_of_cell? _ _ (hHeld.2.2.2.2.2.2.2.2.2.2))).trans (hHeld.2.2.2.2.2.2.2.2.2.2)
             refine ⟨_, rfl, ?_⟩
             have n0_ := Aside0.mk (Kd.R_below (RFn.mR HO_3) hb)
             have n1_ := Aside0.mk (Kd.R_below (RFn.mR HO_5) hb)
             have n2_ := Aside0.mk (below_step (RFn.bel) hb)
             clear HO_3
             clear HO_5
             clear HB
             have HO_3 := n0_
             have HO_5 := n1_
             have HB := n2_
             clear n0_ n1_ n2_
             (try clear hb)
             (try clear hb2)
             (try clear hk)
             (try clear hi)
             refine hK.out _ _ ⟨(RFn.hb HB hw238_0), (RFn.hb HB hw238_1), (RFn.hb HB hw238_2), (RFn.hb HB hw238_3), (RFn.hb HB hw238_4), (RFn.hb HB hw238_5), HS6_, HS7_, HS8_, HS9_, HS10_⟩ (fun hHeld => ?_)
             clear hK K
             refine RFn.nm (some 30) ?_
             refine RFn.pA (i := 10) (N := some 8) (bs 11 2047) HT_ ?_
             refine RFn.dn HT_ ?_
             have p241 : 0 ≤ (x7_2 : Int) := RFn.od
             have q241 : x7_2 < (x3_1.length : Int) := RFn.od
             obtain ⟨ad241, e241, hx241_0, hx241_1, hx241_2, hx241_3, hx241_4⟩ := at_T24 (Kd.R_reads' HO_3.out).2.2 x7_2 p241 q241
             obtain rfl : ad239 = ad241 := (by injection e241)
             replace p241 := eq_true p241
             replace q241 := eq_true q241
             try go_wp2_with (first | ((with_reducible refine gate_builtin (b := .append) (xs := #[.tmp 47, .tmp 52]) rfl ?_); at_builtin; refine Kd.R_append k24 (w0 := w) w.heap.size rfl (.tmp 47) (.tmp 52) 70 24 (.agg #[(.string ⟨#[]⟩), (.string ⟨#[]⟩), (.string ⟨#[]⟩), (.string ⟨#[]⟩), (.int .i64 0)]) 72 rfl Try.underlying70 info24 rfl (by decide) (by omega) u5 x5_2 (⟨(rd_T24 x3_1 x7_2).f0, (rd_T24 x3_1 x7_2).f1, (rd_T24 x3_1 x7_2).f2, (rd_T24 x3_1 x7_2).f3, (rd_T24 x3_1 x7_2).f4⟩ : S24) [.string ((rd_T24 x3_1 x7_2).f0), .string ((rd_T24 x3_1 x7_2).f1), .string ((rd_T24 x3_1 x7_2).f2), .string ((rd_T24 x3_1 x7_2).f3), .int .i64 ((rd_T24 x3_1 x7_2).f4)] (fun k_ => some k_ ≠ (.slice (some ad239) x3_1.length co11 : Value).ownBlock) (fun _ => False) rfl rfl ?aP (fun _ hk => hk.elim) ?aF ?aO ?aB ?aS ?aL ?_; (case aP => exact k24_mkM _ _ _ (⟨(rd_T24 x3_1 x7_2).f0, (rd_T24 x3_1 x7_2).f1, (rd_T24 x3_1 x7_2).f2, (rd_T24 x3_1 x7_2).f3, (rd_T24 x3_1 x7_2).f4⟩ : S24)); (case aB => exact (RFn.bel)); (case aF => exact (fun k_ hk => Kd.fresh' (Kd.R_lt (RFn.mR HO_3)) k_ hk)); (case aO => exact (RFn.mR HO_5)); (case aS => exact (below_size (RFn.bel))); (case aL => have := LMc10.out; omega); intro v243 w14 ho hb hg hat; rw [← Ny242.out] at ho; have n0_ := Aside0.mk (Kd.R_after (ok := (fun _ => True)) (by (with_reducible repeat (first | apply Kd.R_alloc | apply Kd.R_drewN | apply Kd.R_drew)); exact Kd.R_mono HO_3.out (fun _ hk => ⟨trivial, hk⟩)) hg hat); have n1_ := Aside0.mk (hb); have n2_ := Aside0.mk (ho); clear HO_3; clear HB; clear HO_5; have HO_3 := n0_; have HB := n1_; have HO244 := n2_; clear n0_ n1_ n2_; clear ho hb hg hat))
             go_roundg k2
             case measure => have := HK1.out; have := HK2.out; omega
             case rel => exact ⟨(y242), (true), (wrap64 (x7_2 + 1)), (by first | rfl | (simp; done) | (simp [*]; done)), (by first | rfl | (simp; done) | (simp [*]; done)), H', ⟨by have := HK1.out; have := HK2.out; omega⟩, ⟨by (with_reducible repeat (first | apply Kd.R_alloc | apply Kd.R_drewN | apply Kd.R_drew)); exact Kd.R_mono HO_3.out (fun _ hk => hk.2)⟩, ⟨RFn.mR HO244⟩, ⟨RFn.bel⟩⟩
            ·rw [if_neg c10] at H
             exact absurd H (by simp)
           ·rw [if_neg c9] at H
            have c9b0 : decide (t240 < 0) = false := decide_eq_false c9
            clear c9
            by_cases c15 : x5_2.length < 1954687338268
            ·rw [if_pos c15] at H
             have LMc15 := Aside0.mk c15
             clear c15
             obtain ⟨y246, hy246⟩ : ∃ y_ : List (S24), y_ = (x5_2 ++ [(⟨(rd_T24 x3_1 x7_2).f0, (rd_T24 x3_1 x7_2).f1, (rd_T24 x3_1 x7_2).f2, (rd_T24 x3_1 x7_2).f3, (rd_T24 x3_1 x7_2).f4⟩ : S24)]) := ⟨_, rfl⟩
             replace H : (ref09_keys.l1 k2 l0 x3_1 x4_1 y246 true (wrap64 (x7_2 + 1))) = some r := RFn.rp H hy246
             have Ny246 := Aside0.mk hy246
             clear hy246
             have H' := Aside0.mk H
             clear H
             obtain ⟨Ao16, co16, eo16⟩ := Kd.R_slice HO_3.out
             subst eo16
             try go_wp2
             have n0_ := Aside0.mk (Kd.R_drew HO_3.out)
             have n1_ := Aside0.mk (Kd.R_drew HO_5.out)
             have n2_ := Aside0.mk (below_drew1 HB.out)
             clear HO_3
             clear HO_5
             clear HB
             have HO_3 := n0_
             have HO_5 := n1_
             have HB := n2_
             clear n0_ n1_ n2_
             have p238 : 0 ≤ (x4_1 : Int) := RFn.od
             have q238 : x4_1 < (l0.length : Int) := RFn.od
             obtain ⟨ad238, e238, hx238_0, hx238_1, hx238_2, hx238_3, hx238_4, hx238_5⟩ := at_T28 HR0.out x4_1 p238 q238
             have hw238_5 := hx238_5
             have hw238_4 := hx238_4
             have hw238_3 := hx238_3
             have hw238_2 := hx238_2
             have hw238_1 := hx238_1
             have hw238_0 := hx238_0
             cases e238
             replace hx238_0 := RFn.hb HB hx238_0
             replace hx238_1 := RFn.hb HB hx238_1
             replace hx238_2 := RFn.hb HB hx238_2
             replace hx238_3 := RFn.hb HB hx238_3
             replace hx238_4 := RFn.hb HB hx238_4
             replace hx238_5 := RFn.hb HB hx238_5
             replace p238 := eq_true p238
             replace q238 := eq_true q238
             have p239 : 0 ≤ (x7_2 : Int) := RFn.od
             have q239 : x7_2 < (x3_1.length : Int) := RFn.od
             obtain ⟨ad239, e239, hx239_0, hx239_1, hx239_2, hx239_3, hx239_4⟩ := at_T24 (Kd.R_reads' HO_3.out).2.2 x7_2 p239 q239
             cases e239
             replace p239 := eq_true p239
             replace q239 := eq_true q239
             refine start_ (n := 11) (S := fun w' => w'.cell? (ad238.add ((x4_1).toNat * 6)) = some (.string ((rd_T28 l0 x4_1).f0.f0)) ∧ w'.cell? ⟨(ad238.add ((x4_1).toNat * 6)).block, (ad238.add ((x4_1).toNat * 6)).off + 1, none⟩ = some (.string ((rd_T28 l0 x4_1).f0.f1)) ∧ w'.cell? ⟨(ad238.add ((x4_1).toNat * 6)).block, (ad238.add ((x4_1).toNat * 6)).off + 2, none⟩ = some (.string ((rd_T28 l0 x4_1).f0.f2)) ∧ w'.cell? ⟨(ad238.add ((x4_1).toNat * 6)).block, (ad238.add ((x4_1).toNat * 6)).off + 3, none⟩ = some (.string ((rd_T28 l0 x4_1).f0.f3)) ∧ w'.cell? ⟨(ad238.add ((x4_1).toNat * 6)).block, (ad238.add ((x4_1).toNat * 6)).off + 4, none⟩ = some (.int .i64 ((rd_T28 l0 x4_1).f0.f4)) ∧ w'.cell? ⟨(ad238.add ((x4_1).toNat * 6)).block, (ad238.add ((x4_1).toNat * 6)).off + 5, none⟩ = some (.int .i64 ((rd_T28 l0 x4_1).f1)) ∧ w'.cell? (ad239.add ((x7_2).toNat * 5)) = some (.string ((rd_T24 x3_1 x7_2).f0)) ∧ w'.cell? ⟨(ad239.add ((x7_2).toNat * 5)).block, (ad239.add ((x7_2).toNat * 5)).off + 1, none⟩ = some (.string ((rd_T24 x3_1 x7_2).f1)) ∧ w'.cell? ⟨(ad239.add ((x7_2).toNat * 5)).block, (ad239.add ((x7_2).toNat * 5)).off + 2, none⟩ = some (.string ((rd_T24 x3_1 x7_2).f2)) ∧ w'.cell? ⟨(ad239.add ((x7_2).toNat * 5)).block, (ad239.add ((x7_2).toNat * 5)).off + 3, none⟩ = some (.string ((rd_T24 x3_1 x7_2).f3)) ∧ w'.cell? ⟨(ad239.add ((x7_2).toNat * 5)).block, (ad239.add ((x7_2).toNat * 5)).off + 4, none⟩ = some (.int .i64 ((rd_T24 x3_1 x7_2).f4))) (ds := []) (bs 11 0) (by kernel_rfl) rfl rfl ⟨(RFn.hb HB hw238_0), (RFn.hb HB hw238_1), (RFn.hb HB hw238_2), (RFn.hb HB hw238_3), (RFn.hb HB hw238_4), (RFn.hb HB hw238_5), hx239_0, hx239_1, hx239_2, hx239_3, hx239_4⟩ (fun hHeld => ?_); refine with_tabW ref09_keys.tab10 ref09_keys.bits10 (fun HT_ HW_ => ?_)
             generalize wr.drew = w17 at HO_3 HO_5 HB hx238_0 hx238_1 hx238_2 hx238_3 hx238_4 hx238_5 hx239_0 hx239_1 hx239_2 hx239_3 hx239_4 hHeld ⊢
             refine RFn.pA (i := 0) (N := some 21) (bs 11 1) HT_ ?_
             refine RFn.pA (i := 1) (N := some 22) (bs 11 3) HT_ ?_
             refine RFn.pA (i := 2) (N := some 23) (bs 11 7) HT_ ?_
             refine RFn.pA (i := 3) (N := some 24) (bs 11 15) HT_ ?_
             refine RFn.pA (i := 5) (N := some 26) (bs 11 47) HT_ ?_
             refine RFn.pA (i := 6) (N := some 27) (bs 11 111) HT_ ?_
             refine RFn.pA (i := 7) (N := some 28) (bs 11 239) HT_ ?_
             refine RFn.tA (i := 4) (N := some 25) (bs 11 255) rfl HT_ HW_ hHeld (by rintro w' ⟨s0, s1, s2, s3, s4, s5, s6, s7, s8, s9, s10⟩; go_simp; with_reducible rfl) ?_
             refine RFn.tA (i := 8) (N := some 29) (bs 11 511) rfl HT_ HW_ hHeld (by rintro w' ⟨s0, s1, s2, s3, s4, s5, s6, s7, s8, s9, s10⟩; go_simp; with_reducible rfl) ?_
             refine RFn.o1 (i := 9) (N := some 30) (bs 11 1023) HT_ fun K hK => ?_
             refine RFn.gA Try.func18 #[.agg #[.string ((rd_T28 l0 x4_1).f0.f0), .string ((rd_T28 l0 x4_1).f0.f1), .string ((rd_T28 l0 x4_1).f0.f2), .string ((rd_T28 l0 x4_1).f0.f3), .int .i64 ((rd_T28 l0 x4_1).f0.f4)], .agg #[.string ((rd_T24 x3_1 x7_2).f0), .string ((rd_T24 x3_1 x7_2).f1), .string ((rd_T24 x3_1 x7_2).f2), .string ((rd_T24 x3_1 x7_2).f3), .int .i64 ((rd_T24 x3_1 x7_2).f4)]] rfl ?_
             with_reducible refine (ref09_Cmp.calls k2 ((rd_T28 l0 x4_1).f0.f0) ((rd_T28 l0 x4_1).f0.f1) ((rd_T28 l0 x4_1).f0.f2) ((rd_T28 l0 x4_1).f0.f3) ((rd_T28 l0 x4_1).f0.f4) ((rd_T24 x3_1 x7_2).f0) ((rd_T24 x3_1 x7_2).f1) ((rd_T24 x3_1 x7_2).f2) ((rd_T24 x3_1 x7_2).f3) ((rd_T24 x3_1 x7_2).f4) t240 _ A7.out).mono ?_
             rintro e w18 ⟨rfl, hb⟩
             have HS6_ := (hb.cell (World.block_lt_of_cell? _ _ (hHeld.2.2.2.2.2.2.1))).trans (hHeld.2.2.2.2.2.2.1)
             have HS7_ := (hb.cell (World.block_lt_of_cell? _ _ (hHeld.2.2.2.2.2.2.2.1))).trans (hHeld.2.2.2.2.2.2.2.1)
             have HS8_ := (hb.cell (World.block_lt_of_cell? _ _ (hHeld.2.2.2.2.2.2.2.2.1))).trans (hHeld.2.2.2.2.2.2.2.2.1)
             have HS9_ := (hb.cell (World.block_lt_of_cell? _ _ (hHeld.2.2.2.2.2.2.2.2.2.1))).trans (hHeld.2.2.2.2.2.2.2.2.2.1)
             have HS10_ := (hb.cell (World.block_lt_of_cell? _ _ (hHeld.2.2.2.2.2.2.2.2.2.2))).trans (hHeld.2.2.2.2.2.2.2.2.2.2)
             refine ⟨_, rfl, ?_⟩
             have n0_ := Aside0.mk (Kd.R_below (RFn.mR HO_3) hb)
             have n1_ := Aside0.mk (Kd.R_below (RFn.mR HO_5) hb)
             have n2_ := Aside0.mk (below_step (RFn.bel) hb)
             clear HO_3
             clear HO_5
             clear HB
             have HO_3 := n0_
             have HO_5 := n1_
             have HB := n2_
             clear n0_ n1_ n2_
             (try clear hb)
             (try clear hb2)
             (try clear hk)
             (try clear hi)
             refine hK.out _ _ ⟨(RFn.hb HB hw238_0), (RFn.hb HB hw238_1), (RFn.hb HB hw238_2), (RFn.hb HB hw238_3), (RFn.hb HB hw238_4), (RFn.hb HB hw238_5), HS6_, HS7_, HS8_, HS9_, HS10_⟩ (fun hHeld => ?_)
             clear hK K
             refine RFn.nm (some 30) ?_
             refine RFn.pA (i := 10) (N := some 8) (bs 11 2047) HT_ ?_
             refine RFn.dn HT_ ?_
             have p245 : 0 ≤ (x7_2 : Int) := RFn.od
             have q245 : x7_2 < (x3_1.length : Int) := RFn.od
             obtain ⟨ad245, e245, hx245_0, hx245_1, hx245_2, hx245_3, hx245_4⟩ := at_T24 (Kd.R_reads' HO_3.out).2.2 x7_2 p245 q245
             obtain rfl : ad239 = ad245 := (by injection e245)
             replace p245 := eq_true p245
             replace q245 := eq_true q245
             try go_wp2_with (first | ((with_reducible refine gate_builtin (b := .append) (xs := #[.tmp 47, .tmp 52]) rfl ?_); at_builtin; refine Kd.R_append k24 (w0 := w) w.heap.size rfl (.tmp 47) (.tmp 52) 70 24 (.agg #[(.string ⟨#[]⟩), (.string ⟨#[]⟩), (.string ⟨#[]⟩), (.string ⟨#[]⟩), (.int .i64 0)]) 72 rfl Try.underlying70 info24 rfl (by decide) (by omega) u5 x5_2 (⟨(rd_T24 x3_1 x7_2).f0, (rd_T24 x3_1 x7_2).f1, (rd_T24 x3_1 x7_2).f2, (rd_T24 x3_1 x7_2).f3, (rd_T24 x3_1 x7_2).f4⟩ : S24) [.string ((rd_T24 x3_1 x7_2).f0), .string ((rd_T24 x3_1 x7_2).f1), .string ((rd_T24 x3_1 x7_2).f2), .string ((rd_T24 x3_1 x7_2).f3), .int .i64 ((rd_T24 x3_1 x7_2).f4)] (fun k_ => some k_ ≠ (.slice (some ad239) x3_1.length co16 : Value).ownBlock) (fun _ => False) rfl rfl ?aP (fun _ hk => hk.elim) ?aF ?aO ?aB ?aS ?aL ?_; (case aP => exact k24_mkM _ _ _ (⟨(rd_T24 x3_1 x7_2).f0, (rd_T24 x3_1 x7_2).f1, (rd_T24 x3_1 x7_2).f2, (rd_T24 x3_1 x7_2).f3, (rd_T24 x3_1 x7_2).f4⟩ : S24)); (case aB => exact (RFn.bel)); (case aF => exact (fun k_ hk => Kd.fresh' (Kd.R_lt (RFn.mR HO_3)) k_ hk)); (case aO => exact (RFn.mR HO_5)); (case aS => exact (below_size (RFn.bel))); (case aL => have := LMc15.out; omega); intro v247 w19 ho hb hg hat; rw [← Ny246.out] at ho; have n0_ := Aside0.mk (Kd.R_after (ok := (fun _ => True)) (by (with_reducible repeat (first | apply Kd.R_alloc | apply Kd.R_drewN | apply Kd.R_drew)); exact Kd.R_mono HO_3.out (fun _ hk => ⟨trivial, hk⟩)) hg hat); have n1_ := Aside0.mk (hb); have n2_ := Aside0.mk (ho); clear HO_3; clear HB; clear HO_5; have HO_3 := n0_; have HB := n1_; have HO248 := n2_; clear n0_ n1_ n2_; clear ho hb hg hat))
             go_roundg k2
             case measure => have := HK1.out; have := HK2.out; omega
             case rel => exact ⟨(y246), (true), (wrap64 (x7_2 + 1)), (by first | rfl | (simp; done) | (simp [*]; done)), (by first | rfl | (simp; done) | (simp [*]; done)), H', ⟨by have := HK1.out; have := HK2.out; omega⟩, ⟨by (with_reducible repeat (first | apply Kd.R_alloc | apply Kd.R_drewN | apply Kd.R_drew)); exact Kd.R_mono HO_3.out (fun _ hk => hk.2)⟩, ⟨RFn.mR HO248⟩, ⟨RFn.bel⟩⟩
            ·rw [if_neg c15] at H
             exact absurd H (by simp)
          ·rw [if_neg c8] at H
           have c8b0 : (t240 == 0) = false := beq_eq_false_iff_ne.mpr c8
           have c8b1 : (t240 != 0) = true := bne_iff_ne.mpr c8
           by_cases c20 : t240 < 0
           ·rw [if_pos c20] at H
            have c20b0 : decide (t240 < 0) = true := decide_eq_true c20
            clear c20
            by_cases c21 : x6_2 = true
            ·subst c21
             have H1 : (if x5_2.length < 1954687338268 then (ref09_keys.l1 k2 l0 x3_1 x4_1 (x5_2 ++ [(⟨(rd_T24 x3_1 x7_2).f0, (rd_T24 x3_1 x7_2).f1, (rd_T24 x3_1 x7_2).f2, (rd_T24 x3_1 x7_2).f3, (rd_T24 x3_1 x7_2).f4⟩ : S24)]) true (wrap64 (x7_2 + 1))) else (none)) = some r := by rw [if_pos rfl] at H; exact H
             clear H
             have H := H1
             clear H1
             by_cases c22 : x5_2.length < 1954687338268
             ·rw [if_pos c22] at H
              have LMc22 := Aside0.mk c22
              clear c22
              obtain ⟨y250, hy250⟩ : ∃ y_ : List (S24), y_ = (x5_2 ++ [(⟨(rd_T24 x3_1 x7_2).f0, (rd_T24 x3_1 x7_2).f1, (rd_T24 x3_1 x7_2).f2, (rd_T24 x3_1 x7_2).f3, (rd_T24 x3_1 x7_2).f4⟩ : S24)]) := ⟨_, rfl⟩
              replace H : (ref09_keys.l1 k2 l0 x3_1 x4_1 y250 true (wrap64 (x7_2 + 1))) = some r := RFn.rp H hy250
              have Ny250 := Aside0.mk hy250
              clear hy250
              have H' := Aside0.mk H
              clear H
              obtain ⟨Ao23, co23, eo23⟩ := Kd.R_slice HO_3.out
              subst eo23
              try go_wp2
              have n0_ := Aside0.mk (Kd.R_drew HO_3.out)
              have n1_ := Aside0.mk (Kd.R_drew HO_5.out)
              have n2_ := Aside0.mk (below_drew1 HB.out)
              clear HO_3
              clear HO_5
              clear HB
              have HO_3 := n0_
              have HO_5 := n1_
              have HB := n2_
              clear n0_ n1_ n2_
              have p238 : 0 ≤ (x4_1 : Int) := RFn.od
              have q238 : x4_1 < (l0.length : Int) := RFn.od
              obtain ⟨ad238, e238, hx238_0, hx238_1, hx238_2, hx238_3, hx238_4, hx238_5⟩ := at_T28 HR0.out x4_1 p238 q238
              have hw238_5 := hx238_5
              have hw238_4 := hx238_4
              have hw238_3 := hx238_3
              have hw238_2 := hx238_2
              have hw238_1 := hx238_1
              have hw238_0 := hx238_0
              cases e238
              replace hx238_0 := RFn.hb HB hx238_0
              replace hx238_1 := RFn.hb HB hx238_1
              replace hx238_2 := RFn.hb HB hx238_2
              replace hx238_3 := RFn.hb HB hx238_3
              replace hx238_4 := RFn.hb HB hx238_4
              replace hx238_5 := RFn.hb HB hx238_5
              replace p238 := eq_true p238
              replace q238 := eq_true q238
              have p239 : 0 ≤ (x7_2 : Int) := RFn.od
              have q239 : x7_2 < (x3_1.length : Int) := RFn.od
              obtain ⟨ad239, e239, hx239_0, hx239_1, hx239_2, hx239_3, hx239_4⟩ := at_T24 (Kd.R_reads' HO_3.out).2.2 x7_2 p239 q239
              cases e239
              replace p239 := eq_true p239
              replace q239 := eq_true q239
              refine start_ (n := 11) (S := fun w' => w'.cell? (ad238.add ((x4_1).toNat * 6)) = some (.string ((rd_T28 l0 x4_1).f0.f0)) ∧ w'.cell? ⟨(ad238.add ((x4_1).toNat * 6)).block, (ad238.add ((x4_1).toNat * 6)).off + 1, none⟩ = some (.string ((rd_T28 l0 x4_1).f0.f1)) ∧ w'.cell? ⟨(ad238.add ((x4_1).toNat * 6)).block, (ad238.add ((x4_1).toNat * 6)).off + 2, none⟩ = some (.string ((rd_T28 l0 x4_1).f0.f2)) ∧ w'.cell? ⟨(ad238.add ((x4_1).toNat * 6)).block, (ad238.add ((x4_1).toNat * 6)).off + 3, none⟩ = some (.string ((rd_T28 l0 x4_1).f0.f3)) ∧ w'.cell? ⟨(ad238.add ((x4_1).toNat * 6)).block, (ad238.add ((x4_1).toNat * 6)).off + 4, none⟩ = some (.int .i64 ((rd_T28 l0 x4_1).f0.f4)) ∧ w'.cell? ⟨(ad238.add ((x4_1).toNat * 6)).block, (ad238.add ((x4_1).toNat * 6)).off + 5, none⟩ = some (.int .i64 ((rd_T28 l0 x4_1).f1)) ∧ w'.cell? (ad239.add ((x7_2).toNat * 5)) = some (.string ((rd_T24 x3_1 x7_2).f0)) ∧ w'.cell? ⟨(ad239.add ((x7_2).toNat * 5)).block, (ad239.add ((x7_2).toNat * 5)).off + 1, none⟩ = some (.string ((rd_T24 x3_1 x7_2).f1)) ∧ w'.cell? ⟨(ad239.add ((x7_2).toNat * 5)).block, (ad239.add ((x7_2).toNat * 5)).off + 2, none⟩ = some (.string ((rd_T24 x3_1 x7_2).f2)) ∧ w'.cell? ⟨(ad239.add ((x7_2).toNat * 5)).block, (ad239.add ((x7_2).toNat * 5)).off + 3, none⟩ = some (.string ((rd_T24 x3_1 x7_2).f3)) ∧ w'.cell? ⟨(ad239.add ((x7_2).toNat * 5)).block, (ad239.add ((x7_2).toNat * 5)).off + 4, none⟩ = some (.int .i64 ((rd_T24 x3_1 x7_2).f4))) (ds := []) (bs 11 0) (by kernel_rfl) rfl rfl ⟨(RFn.hb HB hw238_0), (RFn.hb HB hw238_1), (RFn.hb HB hw238_2), (RFn.hb HB hw238_3), (RFn.hb HB hw238_4), (RFn.hb HB hw238_5), hx239_0, hx239_1, hx239_2, hx239_3, hx239_4⟩ (fun hHeld => ?_); refine with_tabW ref09_keys.tab10 ref09_keys.bits10 (fun HT_ HW_ => ?_)
              generalize wr.drew = w24 at HO_3 HO_5 HB hx238_0 hx238_1 hx238_2 hx238_3 hx238_4 hx238_5 hx239_0 hx239_1 hx239_2 hx239_3 hx239_4 hHeld ⊢
              refine RFn.pA (i := 0) (N := some 21) (bs 11 1) HT_ ?_
              refine RFn.pA (i := 1) (N := some 22) (bs 11 3) HT_ ?_
              refine RFn.pA (i := 2) (N := some 23) (bs 11 7) HT_ ?_
              refine RFn.pA (i := 3) (N := some 24) (bs 11 15) HT_ ?_
              refine RFn.pA (i := 5) (N := some 26) (bs 11 47) HT_ ?_
              refine RFn.pA (i := 6) (N := some 27) (bs 11 111) HT_ ?_
              refine RFn.pA (i := 7) (N := some 28) (bs 11 239) HT_ ?_
              refine RFn.tA (i := 4) (N := some 25) (bs 11 255) rfl HT_ HW_ hHeld (by rintro w' ⟨s0, s1, s2, s3, s4, s5, s6, s7, s8, s9, s10⟩; go_simp; with_reducible rfl) ?_
              refine RFn.tA (i := 8) (N := some 29) (bs 11 511) rfl HT_ HW_ hHeld (by rintro w' ⟨s0, s1, s2, s3, s4, s5, s6, s7, s8, s9, s10⟩; go_simp; with_reducible rfl) ?_
              refine RFn.o1 (i := 9) (N := some 30) (bs 11 1023) HT_ fun K hK => ?_
              refine RFn.gA Try.func18 #[.agg #[.string ((rd_T28 l0 x4_1).f0.f0), .string ((rd_T28 l0 x4_1).f0.f1), .string ((rd_T28 l0 x4_1).f0.f2), .string ((rd_T28 l0 x4_1).f0.f3), .int .i64 ((rd_T28 l0 x4_1).f0.f4)], .agg #[.string ((rd_T24 x3_1 x7_2).f0), .string ((rd_T24 x3_1 x7_2).f1), .string ((rd_T24 x3_1 x7_2).f2), .string ((rd_T24 x3_1 x7_2).f3), .int .i64 ((rd_T24 x3_1 x7_2).f4)]] rfl ?_
              with_reducible refine (ref09_Cmp.calls k2 ((rd_T28 l0 x4_1).f0.f0) ((rd_T28 l0 x4_1).f0.f1) ((rd_T28 l0 x4_1).f0.f2) ((rd_T28 l0 x4_1).f0.f3) ((rd_T28 l0 x4_1).f0.f4) ((rd_T24 x3_1 x7_2).f0) ((rd_T24 x3_1 x7_2).f1) ((rd_T24 x3_1 x7_2).f2) ((rd_T24 x3_1 x7_2).f3) ((rd_T24 x3_1 x7_2).f4) t240 _ A7.out).mono ?_
              rintro e w25 ⟨rfl, hb⟩
              have HS6_ := (hb.cell (World.block_lt_of_cell? _ _ (hHeld.2.2.2.2.2.2.1))).trans (hHeld.2.2.2.2.2.2.1)
              have HS7_ := (hb.cell (World.block_lt_of_cell? _ _ (hHeld.2.2.2.2.2.2.2.1))).trans (hHeld.2.2.2.2.2.2.2.1)
              have HS8_ := (hb.cell (World.block_lt_of_cell? _ _ (hHeld.2.2.2.2.2.2.2.2.1))).trans (hHeld.2.2.2.2.2.2.2.2.1)
              have HS9_ := (hb.cell (World.block_lt_of_cell? _ _ (hHeld.2.2.2.2.2.2.2.2.2.1))).trans (hHeld.2.2.2.2.2.2.2.2.2.1)
              have HS10_ := (hb.cell (World.block_lt_of_cell? _ _ (hHeld.2.2.2.2.2.2.2.2.2.2))).trans (hHeld.2.2.2.2.2.2.2.2.2.2)
              refine ⟨_, rfl, ?_⟩
              have n0_ := Aside0.mk (Kd.R_below (RFn.mR HO_3) hb)
              have n1_ := Aside0.mk (Kd.R_below (RFn.mR HO_5) hb)
              have n2_ := Aside0.mk (below_step (RFn.bel) hb)
              clear HO_3
              clear HO_5
              clear HB
              have HO_3 := n0_
              have HO_5 := n1_
              have HB := n2_
              clear n0_ n1_ n2_
              (try clear hb)
              (try clear hb2)
              (try clear hk)
              (try clear hi)
              refine hK.out _ _ ⟨(RFn.hb HB hw238_0), (RFn.hb HB hw238_1), (RFn.hb HB hw238_2), (RFn.hb HB hw238_3), (RFn.hb HB hw238_4), (RFn.hb HB hw238_5), HS6_, HS7_, HS8_, HS9_, HS10_⟩ (fun hHeld => ?_)
              clear hK K
              refine RFn.nm (some 30) ?_
              refine RFn.pA (i := 10) (N := some 8) (bs 11 2047) HT_ ?_
              refine RFn.dn HT_ ?_
              have p249 : 0 ≤ (x7_2 : Int) := RFn.od
              have q249 : x7_2 < (x3_1.length : Int) := RFn.od
              obtain ⟨ad249, e249, hx249_0, hx249_1, hx249_2, hx249_3, hx249_4⟩ := at_T24 (Kd.R_reads' HO_3.out).2.2 x7_2 p249 q249
              obtain rfl : ad239 = ad249 := (by injection e249)
              replace p249 := eq_true p249
              replace q249 := eq_true q249
              try go_wp2_with (first | ((with_reducible refine gate_builtin (b := .append) (xs := #[.tmp 47, .tmp 52]) rfl ?_); at_builtin; refine Kd.R_append k24 (w0 := w) w.heap.size rfl (.tmp 47) (.tmp 52) 70 24 (.agg #[(.string ⟨#[]⟩), (.string ⟨#[]⟩), (.string ⟨#[]⟩), (.string ⟨#[]⟩), (.int .i64 0)]) 72 rfl Try.underlying70 info24 rfl (by decide) (by omega) u5 x5_2 (⟨(rd_T24 x3_1 x7_2).f0, (rd_T24 x3_1 x7_2).f1, (rd_T24 x3_1 x7_2).f2, (rd_T24 x3_1 x7_2).f3, (rd_T24 x3_1 x7_2).f4⟩ : S24) [.string ((rd_T24 x3_1 x7_2).f0), .string ((rd_T24 x3_1 x7_2).f1), .string ((rd_T24 x3_1 x7_2).f2), .string ((rd_T24 x3_1 x7_2).f3), .int .i64 ((rd_T24 x3_1 x7_2).f4)] (fun k_ => some k_ ≠ (.slice (some ad239) x3_1.length co23 : Value).ownBlock) (fun _ => False) rfl rfl ?aP (fun _ hk => hk.elim) ?aF ?aO ?aB ?aS ?aL ?_; (case aP => exact k24_mkM _ _ _ (⟨(rd_T24 x3_1 x7_2).f0, (rd_T24 x3_1 x7_2).f1, (rd_T24 x3_1 x7_2).f2, (rd_T24 x3_1 x7_2).f3, (rd_T24 x3_1 x7_2).f4⟩ : S24)); (case aB => exact (RFn.bel)); (case aF => exact (fun k_ hk => Kd.fresh' (Kd.R_lt (RFn.mR HO_3)) k_ hk)); (case aO => exact (RFn.mR HO_5)); (case aS => exact (below_size (RFn.bel))); (case aL => have := LMc22.out; omega); intro v251 w26 ho hb hg hat; rw [← Ny250.out] at ho; have n0_ := Aside0.mk (Kd.R_after (ok := (fun _ => True)) (by (with_reducible repeat (first | apply Kd.R_alloc | apply Kd.R_drewN | apply Kd.R_drew)); exact Kd.R_mono HO_3.out (fun _ hk => ⟨trivial, hk⟩)) hg hat); have n1_ := Aside0.mk (hb); have n2_ := Aside0.mk (ho); clear HO_3; clear HB; clear HO_5; have HO_3 := n0_; have HB := n1_; have HO252 := n2_; clear n0_ n1_ n2_; clear ho hb hg hat))
              go_roundg k2
              case measure => have := HK1.out; have := HK2.out; omega
              case rel => exact ⟨(y250), (true), (wrap64 (x7_2 + 1)), (by first | rfl | (simp; done) | (simp [*]; done)), (by first | rfl | (simp; done) | (simp [*]; done)), H', ⟨by have := HK1.out; have := HK2.out; omega⟩, ⟨by (with_reducible repeat (first | apply Kd.R_alloc | apply Kd.R_drewN | apply Kd.R_drew)); exact Kd.R_mono HO_3.out (fun _ hk => hk.2)⟩, ⟨RFn.mR HO252⟩, ⟨RFn.bel⟩⟩
             ·rw [if_neg c22] at H
              exact absurd H (by simp)
            ·replace c21 := Bool.eq_false_iff.mpr c21
             subst c21
             have H1 : (if x5_2.length < 1954687338268 then ((some (x5_2 ++ [(⟨(rd_T28 l0 x4_1).f0.f0, (rd_T28 l0 x4_1).f0.f1, (rd_T28 l0 x4_1).f0.f2, (rd_T28 l0 x4_1).f0.f3, (rd_T28 l0 x4_1).f0.f4⟩ : S24)] : List (S24))).bind fun y254 => (if y254.length < 1954687338268 then (ref09_keys.l1 k2 l0 x3_1 x4_1 (y254 ++ [(⟨(rd_T24 x3_1 x7_2).f0, (rd_T24 x3_1 x7_2).f1, (rd_T24 x3_1 x7_2).f2, (rd_T24 x3_1 x7_2).f3, (rd_T24 x3_1 x7_2).f4⟩ : S24)]) true (wrap64 (x7_2 + 1))) else (none))) else (none)) = some r := by rw [if_neg (show ¬ (false = true) by decide)] at H; exact H
             clear H
             have H := H1
             clear H1
             by_cases c27 : x5_2.length < 1954687338268
             ·rw [if_pos c27] at H
              have LMc27 := Aside0.mk c27
              clear c27
              obtain ⟨y254, hy254⟩ : ∃ y_ : List (S24), y_ = (x5_2 ++ [(⟨(rd_T28 l0 x4_1).f0.f0, (rd_T28 l0 x4_1).f0.f1, (rd_T28 l0 x4_1).f0.f2, (rd_T28 l0 x4_1).f0.f3, (rd_T28 l0 x4_1).f0.f4⟩ : S24)]) := ⟨_, rfl⟩
              replace H : (if y254.length < 1954687338268 then (ref09_keys.l1 k2 l0 x3_1 x4_1 (y254 ++ [(⟨(rd_T24 x3_1 x7_2).f0, (rd_T24 x3_1 x7_2).f1, (rd_T24 x3_1 x7_2).f2, (rd_T24 x3_1 x7_2).f3, (rd_T24 x3_1 x7_2).f4⟩ : S24)]) true (wrap64 (x7_2 + 1))) else (none)) = some r := RFn.rp H hy254
              have Ny254 := Aside0.mk hy254
              clear hy254
              by_cases c28 : y254.length < 1954687338268
              ·rw [if_pos c28] at H
               have LMc28 := Aside0.mk c28
               clear c28
               obtain ⟨y258, hy258⟩ : ∃ y_ : List (S24), y_ = (y254 ++ [(⟨(rd_T24 x3_1 x7_2).f0, (rd_T24 x3_1 x7_2).f1, (rd_T24 x3_1 x7_2).f2, (rd_T24 x3_1 x7_2).f3, (rd_T24 x3_1 x7_2).f4⟩ : S24)]) := ⟨_, rfl⟩
               replace H : (ref09_keys.l1 k2 l0 x3_1 x4_1 y258 true (wrap64 (x7_2 + 1))) = some r := RFn.rp H hy258
               have Ny258 := Aside0.mk hy258
               clear hy258
               have H' := Aside0.mk H
               clear H
               obtain ⟨Ao29, co29, eo29⟩ := Kd.R_slice HO_3.out
               subst eo29
               try go_wp2
               have n0_ := Aside0.mk (Kd.R_drew HO_3.out)
               have n1_ := Aside0.mk (Kd.R_drew HO_5.out)
               have n2_ := Aside0.mk (below_drew1 HB.out)
               clear HO_3
               clear HO_5
               clear HB
               have HO_3 := n0_
               have HO_5 := n1_
               have HB := n2_
               clear n0_ n1_ n2_
               have p238 : 0 ≤ (x4_1 : Int) := RFn.od
               have q238 : x4_1 < (l0.length : Int) := RFn.od
               obtain ⟨ad238, e238, hx238_0, hx238_1, hx238_2, hx238_3, hx238_4, hx238_5⟩ := at_T28 HR0.out x4_1 p238 q238
               have hw238_5 := hx238_5
               have hw238_4 := hx238_4
               have hw238_3 := hx238_3
               have hw238_2 := hx238_2
               have hw238_1 := hx238_1
               have hw238_0 := hx238_0
               cases e238
               replace hx238_0 := RFn.hb HB hx238_0
               replace hx238_1 := RFn.hb HB hx238_1
               replace hx238_2 := RFn.hb HB hx238_2
               replace hx238_3 := RFn.hb HB hx238_3
               replace hx238_4 := RFn.hb HB hx238_4
               replace hx238_5 := RFn.hb HB hx238_5
               replace p238 := eq_true p238
               replace q238 := eq_true q238
               have p239 : 0 ≤ (x7_2 : Int) := RFn.od
               have q239 : x7_2 < (x3_1.length : Int) := RFn.od
               obtain ⟨ad239, e239, hx239_0, hx239_1, hx239_2, hx239_3, hx239_4⟩ := at_T24 (Kd.R_reads' HO_3.out).2.2 x7_2 p239 q239
               cases e239
               replace p239 := eq_true p239
               replace q239 := eq_true q239
               refine start_ (n := 11) (S := fun w' => w'.cell? (ad238.add ((x4_1).toNat * 6)) = some (.string ((rd_T28 l0 x4_1).f0.f0)) ∧ w'.cell? ⟨(ad238.add ((x4_1).toNat * 6)).block, (ad238.add ((x4_1).toNat * 6)).off + 1, none⟩ = some (.string ((rd_T28 l0 x4_1).f0.f1)) ∧ w'.cell? ⟨(ad238.add ((x4_1).toNat * 6)).block, (ad238.add ((x4_1).toNat * 6)).off + 2, none⟩ = some (.string ((rd_T28 l0 x4_1).f0.f2)) ∧ w'.cell? ⟨(ad238.add ((x4_1).toNat * 6)).block, (ad238.add ((x4_1).toNat * 6)).off + 3, none⟩ = some (.string ((rd_T28 l0 x4_1).f0.f3)) ∧ w'.cell? ⟨(ad238.add ((x4_1).toNat * 6)).block, (ad238.add ((x4_1).toNat * 6)).off + 4, none⟩ = some (.int .i64 ((rd_T28 l0 x4_1).f0.f4)) ∧ w'.cell? ⟨(ad238.add ((x4_1).toNat * 6)).block, (ad238.add ((x4_1).toNat * 6)).off + 5, none⟩ = some (.int .i64 ((rd_T28 l0 x4_1).f1)) ∧ w'.cell? (ad239.add ((x7_2).toNat * 5)) = some (.string ((rd_T24 x3_1 x7_2).f0)) ∧ w'.cell? ⟨(ad239.add ((x7_2).toNat * 5)).block, (ad239.add ((x7_2).toNat * 5)).off + 1, none⟩ = some (.string ((rd_T24 x3_1 x7_2).f1)) ∧ w'.cell? ⟨(ad239.add ((x7_2).toNat * 5)).block, (ad239.add ((x7_2).toNat * 5)).off + 2, none⟩ = some (.string ((rd_T24 x3_1 x7_2).f2)) ∧ w'.cell? ⟨(ad239.add ((x7_2).toNat * 5)).block, (ad239.add ((x7_2).toNat * 5)).off + 3, none⟩ = some (.string ((rd_T24 x3_1 x7_2).f3)) ∧ w'.cell? ⟨(ad239.add ((x7_2).toNat * 5)).block, (ad239.add ((x7_2).toNat * 5)).off + 4, none⟩ = some (.int .i64 ((rd_T24 x3_1 x7_2).f4))) (ds := []) (bs 11 0) (by kernel_rfl) rfl rfl ⟨(RFn.hb HB hw238_0), (RFn.hb HB hw238_1), (RFn.hb HB hw238_2), (RFn.hb HB hw238_3), (RFn.hb HB hw238_4), (RFn.hb HB hw238_5), hx239_0, hx239_1, hx239_2, hx239_3, hx239_4⟩ (fun hHeld => ?_); refine with_tabW ref09_keys.tab10 ref09_keys.bits10 (fun HT_ HW_ => ?_)
               generalize wr.drew = w30 at HO_3 HO_5 HB hx238_0 hx238_1 hx238_2 hx238_3 hx238_4 hx238_5 hx239_0 hx239_1 hx239_2 hx239_3 hx239_4 hHeld ⊢
               refine RFn.pA (i := 0) (N := some 21) (bs 11 1) HT_ ?_
               refine RFn.pA (i := 1) (N := some 22) (bs 11 3) HT_ ?_
               refine RFn.pA (i := 2) (N := some 23) (bs 11 7) HT_ ?_
               refine RFn.pA (i := 3) (N := some 24) (bs 11 15) HT_ ?_
               refine RFn.pA (i := 5) (N := some 26) (bs 11 47) HT_ ?_
               refine RFn.pA (i := 6) (N := some 27) (bs 11 111) HT_ ?_
               refine RFn.pA (i := 7) (N := some 28) (bs 11 239) HT_ ?_
               refine RFn.tA (i := 4) (N := some 25) (bs 11 255) rfl HT_ HW_ hHeld (by rintro w' ⟨s0, s1, s2, s3, s4, s5, s6, s7, s8, s9, s10⟩; go_simp; with_reducible rfl) ?_
               refine RFn.tA (i := 8) (N := some 29) (bs 11 511) rfl HT_ HW_ hHeld (by rintro w' ⟨s0, s1, s2, s3, s4, s5, s6, s7, s8, s9, s10⟩; go_simp; with_reducible rfl) ?_
               refine RFn.o1 (i := 9) (N := some 30) (bs 11 1023) HT_ fun K hK => ?_
               refine RFn.gA Try.func18 #[.agg #[.string ((rd_T28 l0 x4_1).f0.f0), .string ((rd_T28 l0 x4_1).f0.f1), .string ((rd_T28 l0 x4_1).f0.f2), .string ((rd_T28 l0 x4_1).f0.f3), .int .i64 ((rd_T28 l0 x4_1).f0.f4)], .agg #[.string ((rd_T24 x3_1 x7_2).f0), .string ((rd_T24 x3_1 x7_2).f1), .string ((rd_T24 x3_1 x7_2).f2), .string ((rd_T24 x3_1 x7_2).f3), .int .i64 ((rd_T24 x3_1 x7_2).f4)]] rfl ?_
               with_reducible refine (ref09_Cmp.calls k2 ((rd_T28 l0 x4_1).f0.f0) ((rd_T28 l0 x4_1).f0.f1) ((rd_T28 l0 x4_1).f0.f2) ((rd_T28 l0 x4_1).f0.f3) ((rd_T28 l0 x4_1).f0.f4) ((rd_T24 x3_1 x7_2).f0) ((rd_T24 x3_1 x7_2).f1) ((rd_T24 x3_1 x7_2).f2) ((rd_T24 x3_1 x7_2).f3) ((rd_T24 x3_1 x7_2).f4) t240 _ A7.out).mono ?_
               rintro e w31 ⟨rfl, hb⟩
               have HS6_ := (hb.cell (World.block_lt_of_cell? _ _ (hHeld.2.2.2.2.2.2.1))).trans (hHeld.2.2.2.2.2.2.1)
               have HS7_ := (hb.cell (World.block_lt_of_cell? _ _ (hHeld.2.2.2.2.2.2.2.1))).trans (hHeld.2.2.2.2.2.2.2.1)
               have HS8_ := (hb.cell (World.block_lt_of_cell? _ _ (hHeld.2.2.2.2.2.2.2.2.1))).trans (hHeld.2.2.2.2.2.2.2.2.1)
               have HS9_ := (hb.cell (World.block_lt_of_cell? _ _ (hHeld.2.2.2.2.2.2.2.2.2.1))).trans (hHeld.2.2.2.2.2.2.2.2.2.1)
               have HS10_ := (hb.cell (World.block_lt_of_cell? _ _ (hHeld.2.2.2.2.2.2.2.2.2.2))).trans (hHeld.2.2.2.2.2.2.2.2.2.2)
               refine ⟨_, rfl, ?_⟩
               have n0_ := Aside0.mk (Kd.R_below (RFn.mR HO_3) hb)
               have n1_ := Aside0.mk (Kd.R_below (RFn.mR HO_5) hb)
               have n2_ := Aside0.mk (below_step (RFn.bel) hb)
               clear HO_3
               clear HO_5
               clear HB
               have HO_3 := n0_
               have HO_5 := n1_
               have HB := n2_
               clear n0_ n1_ n2_
               (try clear hb)
               (try clear hb2)
               (try clear hk)
               (try clear hi)
               refine hK.out _ _ ⟨(RFn.hb HB hw238_0), (RFn.hb HB hw238_1), (RFn.hb HB hw238_2), (RFn.hb HB hw238_3), (RFn.hb HB hw238_4), (RFn.hb HB hw238_5), HS6_, HS7_, HS8_, HS9_, HS10_⟩ (fun hHeld => ?_)
               clear hK K
               refine RFn.nm (some 30) ?_
               refine RFn.pA (i := 10) (N := some 8) (bs 11 2047) HT_ ?_
               refine RFn.dn HT_ ?_
               have p253 : 0 ≤ (x4_1 : Int) := RFn.od
               have q253 : x4_1 < (l0.length : Int) := RFn.od
               obtain ⟨ad253, e253, hx253_0, hx253_1, hx253_2, hx253_3, hx253_4, hx253_5⟩ := at_T28 HR0.out x4_1 p253 q253
               obtain rfl : ad238 = ad253 := (by injection e253)
               replace hx253_0 := RFn.hb HB hx253_0
               replace hx253_1 := RFn.hb HB hx253_1
               replace hx253_2 := RFn.hb HB hx253_2
               replace hx253_3 := RFn.hb HB hx253_3
               replace hx253_4 := RFn.hb HB hx253_4
               replace hx253_5 := RFn.hb HB hx253_5
               replace p253 := eq_true p253
               replace q253 := eq_true q253
               try go_wp2_with (first | ((with_reducible refine gate_builtin (b := .append) (xs := #[.tmp 39, .tmp 45]) rfl ?_); at_builtin; refine Kd.R_append k24 (w0 := w) w.heap.size rfl (.tmp 39) (.tmp 45) 70 24 (.agg #[(.string ⟨#[]⟩), (.string ⟨#[]⟩), (.string ⟨#[]⟩), (.string ⟨#[]⟩), (.int .i64 0)]) 72 rfl Try.underlying70 info24 rfl (by decide) (by omega) u5 x5_2 (⟨(rd_T28 l0 x4_1).f0.f0, (rd_T28 l0 x4_1).f0.f1, (rd_T28 l0 x4_1).f0.f2, (rd_T28 l0 x4_1).f0.f3, (rd_T28 l0 x4_1).f0.f4⟩ : S24) [.string ((rd_T28 l0 x4_1).f0.f0), .string ((rd_T28 l0 x4_1).f0.f1), .string ((rd_T28 l0 x4_1).f0.f2), .string ((rd_T28 l0 x4_1).f0.f3), .int .i64 ((rd_T28 l0 x4_1).f0.f4)] (fun k_ => some k_ ≠ (.slice (some ad239) x3_1.length co29 : Value).ownBlock) (fun _ => False) rfl rfl ?aP (fun _ hk => hk.elim) ?aF ?aO ?aB ?aS ?aL ?_; (case aP => exact k24_mkM _ _ _ (⟨(rd_T28 l0 x4_1).f0.f0, (rd_T28 l0 x4_1).f0.f1, (rd_T28 l0 x4_1).f0.f2, (rd_T28 l0 x4_1).f0.f3, (rd_T28 l0 x4_1).f0.f4⟩ : S24)); (case aB => exact (RFn.bel)); (case aF => exact (fun k_ hk => Kd.fresh' (Kd.R_lt (RFn.mR HO_3)) k_ hk)); (case aO => exact (RFn.mR HO_5)); (case aS => exact (below_size (RFn.bel))); (case aL => have := LMc27.out; omega); intro v255 w32 ho hb hg hat; rw [← Ny254.out] at ho; have n0_ := Aside0.mk (Kd.R_after (ok := (fun _ => True)) (by (with_reducible repeat (first | apply Kd.R_alloc | apply Kd.R_drewN | apply Kd.R_drew)); exact Kd.R_mono HO_3.out (fun _ hk => ⟨trivial, hk⟩)) hg hat); have n1_ := Aside0.mk (hb); have n2_ := Aside0.mk (ho); clear HO_3; clear HB; clear HO_5; have HO_3 := n0_; have HB := n1_; have HO256 := n2_; clear n0_ n1_ n2_; clear ho hb hg hat; have p257 : 0 ≤ (x7_2 : Int) := RFn.od; have q257 : x7_2 < (x3_1.length : Int) := RFn.od; obtain ⟨ad257, e257, hx257_0, hx257_1, hx257_2, hx257_3, hx257_4⟩ := at_T24 (Kd.R_reads' HO_3.out).2.2 x7_2 p257 q257; obtain rfl : ad239 = ad257 := (by injection e257); replace p257 := eq_true p257; replace q257 := eq_true q257) | ((with_reducible refine gate_builtin (b := .append) (xs := #[.tmp 47, .tmp 52]) rfl ?_); at_builtin; refine Kd.R_append k24 (w0 := w) w.heap.size rfl (.tmp 47) (.tmp 52) 70 24 (.agg #[(.string ⟨#[]⟩), (.string ⟨#[]⟩), (.string ⟨#[]⟩), (.string ⟨#[]⟩), (.int .i64 0)]) 72 rfl Try.underlying70 info24 rfl (by decide) (by omega) v255 y254 (⟨(rd_T24 x3_1 x7_2).f0, (rd_T24 x3_1 x7_2).f1, (rd_T24 x3_1 x7_2).f2, (rd_T24 x3_1 x7_2).f3, (rd_T24 x3_1 x7_2).f4⟩ : S24) [.string ((rd_T24 x3_1 x7_2).f0), .string ((rd_T24 x3_1 x7_2).f1), .string ((rd_T24 x3_1 x7_2).f2), .string ((rd_T24 x3_1 x7_2).f3), .int .i64 ((rd_T24 x3_1 x7_2).f4)] (fun k_ => some k_ ≠ (.slice (some ad239) x3_1.length co29 : Value).ownBlock) (fun _ => False) rfl rfl ?aP (fun _ hk => hk.elim) ?aF ?aO ?aB ?aS ?aL ?_; (case aP => exact k24_mkM _ _ _ (⟨(rd_T24 x3_1 x7_2).f0, (rd_T24 x3_1 x7_2).f1, (rd_T24 x3_1 x7_2).f2, (rd_T24 x3_1 x7_2).f3, (rd_T24 x3_1 x7_2).f4⟩ : S24)); (case aB => exact (RFn.bel)); (case aF => exact (fun k_ hk => Kd.fresh' (Kd.R_lt (RFn.mR HO_3)) k_ hk)); (case aO => exact (RFn.mR HO256)); (case aS => exact (below_size (RFn.bel))); (case aL => have := LMc28.out; omega); intro v259 w33 ho hb hg hat; rw [← Ny258.out] at ho; have n0_ := Aside0.mk (Kd.R_after (ok := (fun _ => True)) (RFn.mR HO_3) hg hat); have n1_ := Aside0.mk (hb); have n2_ := Aside0.mk (ho); clear HO_3; clear HB; clear HO256; have HO_3 := n0_; have HB := n1_; have HO260 := n2_; clear n0_ n1_ n2_; clear ho hb hg hat))
               go_roundg k2
               case measure => have := HK1.out; have := HK2.out; omega
               case rel => exact ⟨(y258), (true), (wrap64 (x7_2 + 1)), (by first | rfl | (simp; done) | (simp [*]; done)), (by first | rfl | (simp; done) | (simp [*]; done)), H', ⟨by have := HK1.out; have := HK2.out; omega⟩, ⟨by (with_reducible repeat (first | apply Kd.R_alloc | apply Kd.R_drewN | apply Kd.R_drew)); exact Kd.R_mono HO_3.out (fun _ hk => hk.2)⟩, ⟨RFn.mR HO260⟩, ⟨RFn.bel⟩⟩
              ·rw [if_neg c28] at H
               exact absurd H (by simp)
             ·rw [if_neg c27] at H
              exact absurd H (by simp)
           ·rw [if_neg c20] at H
            have c20b0 : decide (t240 < 0) = false := decide_eq_false c20
            clear c20
            by_cases c34 : x5_2.length < 1954687338268
            ·rw [if_pos c34] at H
             have LMc34 := Aside0.mk c34
             clear c34
             obtain ⟨y262, hy262⟩ : ∃ y_ : List (S24), y_ = (x5_2 ++ [(⟨(rd_T24 x3_1 x7_2).f0, (rd_T24 x3_1 x7_2).f1, (rd_T24 x3_1 x7_2).f2, (rd_T24 x3_1 x7_2).f3, (rd_T24 x3_1 x7_2).f4⟩ : S24)]) := ⟨_, rfl⟩
             replace H : (ref09_keys.l1 k2 l0 x3_1 x4_1 y262 x6_2 (wrap64 (x7_2 + 1))) = some r := RFn.rp H hy262
             have Ny262 := Aside0.mk hy262
             clear hy262
             have H' := Aside0.mk H
             clear H
             obtain ⟨Ao35, co35, eo35⟩ := Kd.R_slice HO_3.out
             subst eo35
             try go_wp2
             have n0_ := Aside0.mk (Kd.R_drew HO_3.out)
             have n1_ := Aside0.mk (Kd.R_drew HO_5.out)
             have n2_ := Aside0.mk (below_drew1 HB.out)
             clear HO_3
             clear HO_5
             clear HB
             have HO_3 := n0_
             have HO_5 := n1_
             have HB := n2_
             clear n0_ n1_ n2_
             have p238 : 0 ≤ (x4_1 : Int) := RFn.od
             have q238 : x4_1 < (l0.length : Int) := RFn.od
             obtain ⟨ad238, e238, hx238_0, hx238_1, hx238_2, hx238_3, hx238_4, hx238_5⟩ := at_T28 HR0.out x4_1 p238 q238
             have hw238_5 := hx238_5
             have hw238_4 := hx238_4
             have hw238_3 := hx238_3
             have hw238_2 := hx238_2
             have hw238_1 := hx238_1
             have hw238_0 := hx238_0
             cases e238
             replace hx238_0 := RFn.hb HB hx238_0
             replace hx238_1 := RFn.hb HB hx238_1
             replace hx238_2 := RFn.hb HB hx238_2
             replace hx238_3 := RFn.hb HB hx238_3
             replace hx238_4 := RFn.hb HB hx238_4
             replace hx238_5 := RFn.hb HB hx238_5
             replace p238 := eq_true p238
             replace q238 := eq_true q238
             have p239 : 0 ≤ (x7_2 : Int) := RFn.od
             have q239 : x7_2 < (x3_1.length : Int) := RFn.od
             obtain ⟨ad239, e239, hx239_0, hx239_1, hx239_2, hx239_3, hx239_4⟩ := at_T24 (Kd.R_reads' HO_3.out).2.2 x7_2 p239 q239
             cases e239
             replace p239 := eq_true p239
             replace q239 := eq_true q239
             refine start_ (n := 11) (S := fun w' => w'.cell? (ad238.add ((x4_1).toNat * 6)) = some (.string ((rd_T28 l0 x4_1).f0.f0)) ∧ w'.cell? ⟨(ad238.add ((x4_1).toNat * 6)).block, (ad238.add ((x4_1).toNat * 6)).off + 1, none⟩ = some (.string ((rd_T28 l0 x4_1).f0.f1)) ∧ w'.cell? ⟨(ad238.add ((x4_1).toNat * 6)).block, (ad238.add ((x4_1).toNat * 6)).off + 2, none⟩ = some (.string ((rd_T28 l0 x4_1).f0.f2)) ∧ w'.cell? ⟨(ad238.add ((x4_1).toNat * 6)).block, (ad238.add ((x4_1).toNat * 6)).off + 3, none⟩ = some (.string ((rd_T28 l0 x4_1).f0.f3)) ∧ w'.cell? ⟨(ad238.add ((x4_1).toNat * 6)).block, (ad238.add ((x4_1).toNat * 6)).off + 4, none⟩ = some (.int .i64 ((rd_T28 l0 x4_1).f0.f4)) ∧ w'.cell? ⟨(ad238.add ((x4_1).toNat * 6)).block, (ad238.add ((x4_1).toNat * 6)).off + 5, none⟩ = some (.int .i64 ((rd_T28 l0 x4_1).f1)) ∧ w'.cell? (ad239.add ((x7_2).toNat * 5)) = some (.string ((rd_T24 x3_1 x7_2).f0)) ∧ w'.cell? ⟨(ad239.add ((x7_2).toNat * 5)).block, (ad239.add ((x7_2).toNat * 5)).off + 1, none⟩ = some (.string ((rd_T24 x3_1 x7_2).f1)) ∧ w'.cell? ⟨(ad239.add ((x7_2).toNat * 5)).block, (ad239.add ((x7_2).toNat * 5)).off + 2, none⟩ = some (.string ((rd_T24 x3_1 x7_2).f2)) ∧ w'.cell? ⟨(ad239.add ((x7_2).toNat * 5)).block, (ad239.add ((x7_2).toNat * 5)).off + 3, none⟩ = some (.string ((rd_T24 x3_1 x7_2).f3)) ∧ w'.cell? ⟨(ad239.add ((x7_2).toNat * 5)).block, (ad239.add ((x7_2).toNat * 5)).off + 4, none⟩ = some (.int .i64 ((rd_T24 x3_1 x7_2).f4))) (ds := []) (bs 11 0) (by kernel_rfl) rfl rfl ⟨(RFn.hb HB hw238_0), (RFn.hb HB hw238_1), (RFn.hb HB hw238_2), (RFn.hb HB hw238_3), (RFn.hb HB hw238_4), (RFn.hb HB hw238_5), hx239_0, hx239_1, hx239_2, hx239_3, hx239_4⟩ (fun hHeld => ?_); refine with_tabW ref09_keys.tab10 ref09_keys.bits10 (fun HT_ HW_ => ?_)
             generalize wr.drew = w36 at HO_3 HO_5 HB hx238_0 hx238_1 hx238_2 hx238_3 hx238_4 hx238_5 hx239_0 hx239_1 hx239_2 hx239_3 hx239_4 hHeld ⊢
             refine RFn.pA (i := 0) (N := some 21) (bs 11 1) HT_ ?_
             refine RFn.pA (i := 1) (N := some 22) (bs 11 3) HT_ ?_
             refine RFn.pA (i := 2) (N := some 23) (bs 11 7) HT_ ?_
             refine RFn.pA (i := 3) (N := some 24) (bs 11 15) HT_ ?_
             refine RFn.pA (i := 5) (N := some 26) (bs 11 47) HT_ ?_
             refine RFn.pA (i := 6) (N := some 27) (bs 11 111) HT_ ?_
             refine RFn.pA (i := 7) (N := some 28) (bs 11 239) HT_ ?_
             refine RFn.tA (i := 4) (N := some 25) (bs 11 255) rfl HT_ HW_ hHeld (by rintro w' ⟨s0, s1, s2, s3, s4, s5, s6, s7, s8, s9, s10⟩; go_simp; with_reducible rfl) ?_
             refine RFn.tA (i := 8) (N := some 29) (bs 11 511) rfl HT_ HW_ hHeld (by rintro w' ⟨s0, s1, s2, s3, s4, s5, s6, s7, s8, s9, s10⟩; go_simp; with_reducible rfl) ?_
             refine RFn.o1 (i := 9) (N := some 30) (bs 11 1023) HT_ fun K hK => ?_
             refine RFn.gA Try.func18 #[.agg #[.string ((rd_T28 l0 x4_1).f0.f0), .string ((rd_T28 l0 x4_1).f0.f1), .string ((rd_T28 l0 x4_1).f0.f2), .string ((rd_T28 l0 x4_1).f0.f3), .int .i64 ((rd_T28 l0 x4_1).f0.f4)], .agg #[.string ((rd_T24 x3_1 x7_2).f0), .string ((rd_T24 x3_1 x7_2).f1), .string ((rd_T24 x3_1 x7_2).f2), .string ((rd_T24 x3_1 x7_2).f3), .int .i64 ((rd_T24 x3_1 x7_2).f4)]] rfl ?_
             with_reducible refine (ref09_Cmp.calls k2 ((rd_T28 l0 x4_1).f0.f0) ((rd_T28 l0 x4_1).f0.f1) ((rd_T28 l0 x4_1).f0.f2) ((rd_T28 l0 x4_1).f0.f3) ((rd_T28 l0 x4_1).f0.f4) ((rd_T24 x3_1 x7_2).f0) ((rd_T24 x3_1 x7_2).f1) ((rd_T24 x3_1 x7_2).f2) ((rd_T24 x3_1 x7_2).f3) ((rd_T24 x3_1 x7_2).f4) t240 _ A7.out).mono ?_
             rintro e w37 ⟨rfl, hb⟩
             have HS6_ := (hb.cell (World.block_lt_of_cell? _ _ (hHeld.2.2.2.2.2.2.1))).trans (hHeld.2.2.2.2.2.2.1)
             have HS7_ := (hb.cell (World.block_lt_of_cell? _ _ (hHeld.2.2.2.2.2.2.2.1))).trans (hHeld.2.2.2.2.2.2.2.1)
             have HS8_ := (hb.cell (World.block_lt_of_cell? _ _ (hHeld.2.2.2.2.2.2.2.2.1))).trans (hHeld.2.2.2.2.2.2.2.2.1)
             have HS9_ := (hb.cell (World.block_lt_of_cell? _ _ (hHeld.2.2.2.2.2.2.2.2.2.1))).trans (hHeld.2.2.2.2.2.2.2.2.2.1)
             have HS10_ := (hb.cell (World.block_lt_of_cell? _ _ (hHeld.2.2.2.2.2.2.2.2.2.2))).trans (hHeld.2.2.2.2.2.2.2.2.2.2)
             refine ⟨_, rfl, ?_⟩
             have n0_ := Aside0.mk (Kd.R_below (RFn.mR HO_3) hb)
             have n1_ := Aside0.mk (Kd.R_below (RFn.mR HO_5) hb)
             have n2_ := Aside0.mk (below_step (RFn.bel) hb)
             clear HO_3
             clear HO_5
             clear HB
             have HO_3 := n0_
             have HO_5 := n1_
             have HB := n2_
             clear n0_ n1_ n2_
             (try clear hb)
             (try clear hb2)
             (try clear hk)
             (try clear hi)
             refine hK.out _ _ ⟨(RFn.hb HB hw238_0), (RFn.hb HB hw238_1), (RFn.hb HB hw238_2), (RFn.hb HB hw238_3), (RFn.hb HB hw238_4), (RFn.hb HB hw238_5), HS6_, HS7_, HS8_, HS9_, HS10_⟩ (fun hHeld => ?_)
             clear hK K
             refine RFn.nm (some 30) ?_
             refine RFn.pA (i := 10) (N := some 8) (bs 11 2047) HT_ ?_
             refine RFn.dn HT_ ?_
             have p261 : 0 ≤ (x7_2 : Int) := RFn.od
             have q261 : x7_2 < (x3_1.length : Int) := RFn.od
             obtain ⟨ad261, e261, hx261_0, hx261_1, hx261_2, hx261_3, hx261_4⟩ := at_T24 (Kd.R_reads' HO_3.out).2.2 x7_2 p261 q261
             obtain rfl : ad239 = ad261 := (by injection e261)
             replace p261 := eq_true p261
             replace q261 := eq_true q261
             try go_wp2_with (first | ((with_reducible refine gate_builtin (b := .append) (xs := #[.tmp 47, .tmp 52]) rfl ?_); at_builtin; refine Kd.R_append k24 (w0 := w) w.heap.size rfl (.tmp 47) (.tmp 52) 70 24 (.agg #[(.string ⟨#[]⟩), (.string ⟨#[]⟩), (.string ⟨#[]⟩), (.string ⟨#[]⟩), (.int .i64 0)]) 72 rfl Try.underlying70 info24 rfl (by decide) (by omega) u5 x5_2 (⟨(rd_T24 x3_1 x7_2).f0, (rd_T24 x3_1 x7_2).f1, (rd_T24 x3_1 x7_2).f2, (rd_T24 x3_1 x7_2).f3, (rd_T24 x3_1 x7_2).f4⟩ : S24) [.string ((rd_T24 x3_1 x7_2).f0), .string ((rd_T24 x3_1 x7_2).f1), .string ((rd_T24 x3_1 x7_2).f2), .string ((rd_T24 x3_1 x7_2).f3), .int .i64 ((rd_T24 x3_1 x7_2).f4)] (fun k_ => some k_ ≠ (.slice (some ad239) x3_1.length co35 : Value).ownBlock) (fun _ => False) rfl rfl ?aP (fun _ hk => hk.elim) ?aF ?aO ?aB ?aS ?aL ?_; (case aP => exact k24_mkM _ _ _ (⟨(rd_T24 x3_1 x7_2).f0, (rd_T24 x3_1 x7_2).f1, (rd_T24 x3_1 x7_2).f2, (rd_T24 x3_1 x7_2).f3, (rd_T24 x3_1 x7_2).f4⟩ : S24)); (case aB => exact (RFn.bel)); (case aF => exact (fun k_ hk => Kd.fresh' (Kd.R_lt (RFn.mR HO_3)) k_ hk)); (case aO => exact (RFn.mR HO_5)); (case aS => exact (below_size (RFn.bel))); (case aL => have := LMc34.out; omega); intro v263 w38 ho hb hg hat; rw [← Ny262.out] at ho; have n0_ := Aside0.mk (Kd.R_after (ok := (fun _ => True)) (by (with_reducible repeat (first | apply Kd.R_alloc | apply Kd.R_drewN | apply Kd.R_drew)); exact Kd.R_mono HO_3.out (fun _ hk => ⟨trivial, hk⟩)) hg hat); have n1_ := Aside0.mk (hb); have n2_ := Aside0.mk (ho); clear HO_3; clear HB; clear HO_5; have HO_3 := n0_; have HB := n1_; have HO264 := n2_; clear n0_ n1_ n2_; clear ho hb hg hat))
             go_roundg k2
             case measure => have := HK1.out; have := HK2.out; omega
             case rel => exact ⟨(y262), (x6_2), (wrap64 (x7_2 + 1)), (by first | rfl | (simp; done) | (simp [*]; done)), (by first | rfl | (simp; done) | (simp [*]; done)), H', ⟨by have := HK1.out; have := HK2.out; omega⟩, ⟨by (with_reducible repeat (first | apply Kd.R_alloc | apply Kd.R_drewN | apply Kd.R_drew)); exact Kd.R_mono HO_3.out (fun _ hk => hk.2)⟩, ⟨RFn.mR HO264⟩, ⟨RFn.bel⟩⟩
            ·rw [if_neg c34] at H
             exact absurd H (by simp)
         ·rw [if_neg c6] at H
          exact absurd H (by simp)
        ·rw [if_neg c5] at H
         exact absurd H (by simp)
       ·rw [if_neg c4] at H
        exact absurd H (by simp)
      ·rw [if_neg c3] at H
       have c3b0 : decide (x7_2 < (x3_1.length : Int)) = false := decide_eq_false c3
       clear c3
       by_cases c39 : x6_2 = true
       ·subst c39
        have H1 : (ref09_keys.l0 k2 l0 x5_2 (wrap64 (x4_1 + 1))) = some r := by rw [if_pos rfl] at H; exact H
        clear H
        have H := H1
        clear H1
        have H' := Aside0.mk H
        clear H
        obtain ⟨Ao40, co40, eo40⟩ := Kd.R_slice HO_3.out
        subst eo40
        go_wp2
        go_roundg k2
        case measure => have := HK1.out; have := HK2.out; omega
        case rel => exact ⟨(x5_2), (wrap64 (x4_1 + 1)), (by first | rfl | (simp; done) | (simp [*]; done)), H', ⟨by have := HK1.out; have := HK2.out; omega⟩, ⟨by (with_reducible repeat (first | apply Kd.R_alloc | apply Kd.R_drewN | apply Kd.R_drew)); exact Kd.R_mono HO_5.out (fun _ hk => trivial)⟩, ⟨RFn.bel⟩⟩
       ·replace c39 := Bool.eq_false_iff.mpr c39
        subst c39
        have H1 : (if 0 ≤ x4_1 then (if x4_1 < (l0.length : Int) then (if x5_2.length < 1954687338268 then (ref09_keys.l0 k2 l0 (x5_2 ++ [(⟨(rd_T28 l0 x4_1).f0.f0, (rd_T28 l0 x4_1).f0.f1, (rd_T28 l0 x4_1).f0.f2, (rd_T28 l0 x4_1).f0.f3, (rd_T28 l0 x4_1).f0.f4⟩ : S24)]) (wrap64 (x4_1 + 1))) else (none)) else (none)) else (none)) = some r := by rw [if_neg (show ¬ (false = true) by decide)] at H; exact H
        clear H
        have H := H1
        clear H1
        by_cases c41 : 0 ≤ x4_1
        ·rw [if_pos c41] at H
         have c41b0 : decide (0 ≤ x4_1) = true := decide_eq_true c41
         clear c41
         by_cases c42 : x4_1 < (l0.length : Int)
         ·rw [if_pos c42] at H
          have c42b0 : decide (x4_1 < (l0.length : Int)) = true := decide_eq_true c42
          clear c42
          by_cases c43 : x5_2.length < 1954687338268
          ·rw [if_pos c43] at H
           have LMc43 := Aside0.mk c43
           clear c43
           obtain ⟨y235, hy235⟩ : ∃ y_ : List (S24), y_ = (x5_2 ++ [(⟨(rd_T28 l0 x4_1).f0.f0, (rd_T28 l0 x4_1).f0.f1, (rd_T28 l0 x4_1).f0.f2, (rd_T28 l0 x4_1).f0.f3, (rd_T28 l0 x4_1).f0.f4⟩ : S24)]) := ⟨_, rfl⟩
           replace H : (ref09_keys.l0 k2 l0 y235 (wrap64 (x4_1 + 1))) = some r := RFn.rp H hy235
           have Ny235 := Aside0.mk hy235
           clear hy235
           have H' := Aside0.mk H
           clear H
           obtain ⟨Ao44, co44, eo44⟩ := Kd.R_slice HO_3.out
           subst eo44
           have p234 : 0 ≤ (x4_1 : Int) := RFn.od
           have q234 : x4_1 < (l0.length : Int) := RFn.od
           obtain ⟨ad234, e234, hx234_0, hx234_1, hx234_2, hx234_3, hx234_4, hx234_5⟩ := at_T28 HR0.out x4_1 p234 q234
           cases e234
           replace hx234_0 := RFn.hb HB hx234_0
           replace hx234_1 := RFn.hb HB hx234_1
           replace hx234_2 := RFn.hb HB hx234_2
           replace hx234_3 := RFn.hb HB hx234_3
           replace hx234_4 := RFn.hb HB hx234_4
           replace hx234_5 := RFn.hb HB hx234_5
           replace p234 := eq_true p234
           replace q234 := eq_true q234
           go_wp2_with (first | ((with_reducible refine gate_builtin (b := .append) (xs := #[.tmp 56, .tmp 62]) rfl ?_); at_builtin; refine Kd.R_append k24 (w0 := w) w.heap.size rfl (.tmp 56) (.tmp 62) 70 24 (.agg #[(.string ⟨#[]⟩), (.string ⟨#[]⟩), (.string ⟨#[]⟩), (.string ⟨#[]⟩), (.int .i64 0)]) 72 rfl Try.underlying70 info24 rfl (by decide) (by omega) u5 x5_2 (⟨(rd_T28 l0 x4_1).f0.f0, (rd_T28 l0 x4_1).f0.f1, (rd_T28 l0 x4_1).f0.f2, (rd_T28 l0 x4_1).f0.f3, (rd_T28 l0 x4_1).f0.f4⟩ : S24) [.string ((rd_T28 l0 x4_1).f0.f0), .string ((rd_T28 l0 x4_1).f0.f1), .string ((rd_T28 l0 x4_1).f0.f2), .string ((rd_T28 l0 x4_1).f0.f3), .int .i64 ((rd_T28 l0 x4_1).f0.f4)] (fun k_ => some k_ ≠ (.slice Ao44 x3_1.length co44 : Value).ownBlock) (fun _ => False) rfl rfl ?aP (fun _ hk => hk.elim) ?aF ?aO ?aB ?aS ?aL ?_; (case aP => exact k24_mkM _ _ _ (⟨(rd_T28 l0 x4_1).f0.f0, (rd_T28 l0 x4_1).f0.f1, (rd_T28 l0 x4_1).f0.f2, (rd_T28 l0 x4_1).f0.f3, (rd_T28 l0 x4_1).f0.f4⟩ : S24)); (case aB => exact (RFn.bel)); (case aF => exact (fun k_ hk => Kd.fresh' (Kd.R_lt (RFn.mR HO_3)) k_ hk)); (case aO => exact (RFn.mR HO_5)); (case aS => exact (below_size (RFn.bel))); (case aL => have := LMc43.out; omega); intro v236 w45 ho hb hg hat; rw [← Ny235.out] at ho; have n0_ := Aside0.mk (Kd.R_after (ok := (fun _ => True)) (by (with_reducible repeat (first | apply Kd.R_alloc | apply Kd.R_drewN | apply Kd.R_drew)); exact Kd.R_mono HO_3.out (fun _ hk => ⟨trivial, hk⟩)) hg hat); have n1_ := Aside0.mk (hb); have n2_ := Aside0.mk (ho); clear HO_3; clear HB; clear HO_5; have HO_3 := n0_; have HB := n1_; have HO237 := n2_; clear n0_ n1_ n2_; clear ho hb hg hat))
           go_roundg k2
           case measure => have := HK1.out; have := HK2.out; omega
           case rel => exact ⟨(y235), (wrap64 (x4_1 + 1)), (by first | rfl | (simp; done) | (simp [*]; done)), H', ⟨by have := HK1.out; have := HK2.out; omega⟩, ⟨by (with_reducible repeat (first | apply Kd.R_alloc | apply Kd.R_drewN | apply Kd.R_drew)); exact Kd.R_mono HO237.out (fun _ hk => trivial)⟩, ⟨RFn.bel⟩⟩
          ·rw [if_neg c43] at H
           exact absurd H (by simp)
         ·rw [if_neg c42] at H
          exact absurd H (by simp)
        ·rw [if_neg c41] at H
         exact absurd H (by simp)
   ·rw [if_neg c2] at H
    have c2b0 : decide (x4_1 < (l0.length : Int)) = false := decide_eq_false c2
    clear c2
    obtain rfl := Option.some.inj H
    go_wp2
    go_ret
    exact ⟨_, by first | rfl | (simp [errW_none, errW_some] <;> rfl) | (simp [*, errW_none, errW_some] <;> rfl), RFn.mR HO_3, RFn.bel⟩
/-! ### ref01_Add: function 47 -/
def ref01_Add.f (a0 : Int) (a1 : Int) : Option (Int × Int) := if a1 > 0 then (if a0 > (wrap64 (9223372036854775807 - a1)) then (some (0, 2)) else (if a1 < 0 then (if a0 < (wrap64 ((-9223372036854775808) - a1)) then (some (0, 2)) else (some (wrap64 (a0 + a1), 0))) else (some (wrap64 (a0 + a1), 0)))) else (if a1 < 0 then (if a0 < (wrap64 ((-9223372036854775808) - a1)) then (some (0, 2)) else (some (wrap64 (a0 + a1), 0))) else (some (wrap64 (a0 + a1), 0)))
set_option maxHeartbeats 8000000 in
set_option maxRecDepth 100000 in
theorem ref01_Add.calls (a0 : Int) (a1 : Int) (r1 : Int) (r2 : Int) (w : World) (h : ref01_Add.f a0 a1 = some (r1, r2)) :
  Calls Try.prog 47 #[.int .i64 a0, .int .i64 a1] w fun e w' => e = .returned (.tuple #[.int .i64 r1, .int .i64 r2]) ∧ Drawn0 w w' := by
 have H : (if a1 > 0 then (if a0 > (wrap64 (9223372036854775807 - a1)) then (some (0, 2)) else (if a1 < 0 then (if a0 < (wrap64 ((-9223372036854775808) - a1)) then (some (0, 2)) else (some (wrap64 (a0 + a1), 0))) else (some (wrap64 (a0 + a1), 0)))) else (if a1 < 0 then (if a0 < (wrap64 ((-9223372036854775808) - a1)) then (some (0, 2)) else (some (wrap64 (a0 + a1), 0))) else (some (wrap64 (a0 + a1), 0)))) = some (r1, r2) := h
 clear h
 by_cases c3 : a1 > 0
 ·rw [if_pos c3] at H
  have c3b0 : decide (0 < a1) = true := decide_eq_true c3
  clear c3
  by_cases c4 : a0 > (wrap64 (9223372036854775807 - a1))
  ·rw [if_pos c4] at H
   have c4b0 : decide ((wrap64 (9223372036854775807 - a1)) < a0) = true := decide_eq_true c4
   clear c4
   simp only [Option.some.injEq, Prod.mk.injEq] at H
   obtain ⟨rfl, rfl⟩ := H
   go_enter Try.func47, Try.ntmps47
   go_wp2
   go_ret2
   exact ⟨by first | rfl | (simp; done) | (simp [*]; done), by repeat (first | exact Drawn0.refl _ | apply Drawn0.step)⟩
  ·rw [if_neg c4] at H
   have c4b0 : decide ((wrap64 (9223372036854775807 - a1)) < a0) = false := decide_eq_false c4
   clear c4
   by_cases c5 : a1 < 0
   ·rw [if_pos c5] at H
    have c5b0 : decide (a1 < 0) = true := decide_eq_true c5
    clear c5
    by_cases c6 : a0 < (wrap64 ((-9223372036854775808) - a1))
    ·rw [if_pos c6] at H
     have c6b0 : decide (a0 < (wrap64 ((-9223372036854775808) - a1))) = true := decide_eq_true c6
     clear c6
     simp only [Option.some.injEq, Prod.mk.injEq] at H
     obtain ⟨rfl, rfl⟩ := H
     go_enter Try.func47, Try.ntmps47
     go_wp2
     go_ret2
     exact ⟨by first | rfl | (simp; done) | (simp [*]; done), by repeat (first | exact Drawn0.refl _ | apply Drawn0.step)⟩
    ·rw [if_neg c6] at H
     have c6b0 : decide (a0 < (wrap64 ((-9223372036854775808) - a1))) = false := decide_eq_false c6
     clear c6
     simp only [Option.some.injEq, Prod.mk.injEq] at H
     obtain ⟨rfl, rfl⟩ := H
     go_enter Try.func47, Try.ntmps47
     go_wp2
     go_ret2
     exact ⟨by first | rfl | (simp; done) | (simp [*]; done), by repeat (first | exact Drawn0.refl _ | apply Drawn0.step)⟩
   ·rw [if_neg c5] at H
    have c5b0 : decide (a1 < 0) = false := decide_eq_false c5
    clear c5
    simp only [Option.some.injEq, Prod.mk.injEq] at H
    obtain ⟨rfl, rfl⟩ := H
    go_enter Try.func47, Try.ntmps47
    go_wp2
    go_ret2
    exact ⟨by first | rfl | (simp; done) | (simp [*]; done), by repeat (first | exact Drawn0.refl _ | apply Drawn0.step)⟩
 ·rw [if_neg c3] at H
  have c3b0 : decide (0 < a1) = false := decide_eq_false c3
  clear c3
  by_cases c7 : a1 < 0
  ·rw [if_pos c7] at H
   have c7b0 : decide (a1 < 0) = true := decide_eq_true c7
   clear c7
   by_cases c8 : a0 < (wrap64 ((-9223372036854775808) - a1))
   ·rw [if_pos c8] at H
    have c8b0 : decide (a0 < (wrap64 ((-9223372036854775808) - a1))) = true := decide_eq_true c8
    clear c8
    simp only [Option.some.injEq, Prod.mk.injEq] at H
    obtain ⟨rfl, rfl⟩ := H
    go_enter Try.func47, Try.ntmps47
    go_wp2
    go_ret2
    exact ⟨by first | rfl | (simp; done) | (simp [*]; done), by repeat (first | exact Drawn0.refl _ | apply Drawn0.step)⟩
   ·rw [if_neg c8] at H
    have c8b0 : decide (a0 < (wrap64 ((-9223372036854775808) - a1))) = false := decide_eq_false c8
    clear c8
    simp only [Option.some.injEq, Prod.mk.injEq] at H
    obtain ⟨rfl, rfl⟩ := H
    go_enter Try.func47, Try.ntmps47
    go_wp2
    go_ret2
    exact ⟨by first | rfl | (simp; done) | (simp [*]; done), by repeat (first | exact Drawn0.refl _ | apply Drawn0.step)⟩
  ·rw [if_neg c7] at H
   have c7b0 : decide (a1 < 0) = false := decide_eq_false c7
   clear c7
   simp only [Option.some.injEq, Prod.mk.injEq] at H
   obtain ⟨rfl, rfl⟩ := H
   go_enter Try.func47, Try.ntmps47
   go_wp2
   go_ret2
   exact ⟨by first | rfl | (simp; done) | (simp [*]; done), by repeat (first | exact Drawn0.refl _ | apply Drawn0.step)⟩
/-! ### ref01_Sum: function 36 -/
def ref01_Sum.l0 : Nat → List Int → Int → Int → Option (Int × Int)
 | 0, _, _, _ => none
 | k + 1, x0, x4, x5 => if x5 < (x0.length : Int) then (if 0 ≤ x5 then ((ref01_Add.f x4 (rd x0 x5)).bind fun bt266 => (if bt266.2 = 0 then (ref01_Sum.l0 k x0 bt266.1 (wrap64 (x5 + 1))) else (some (0, bt266.2)))) else (none)) else (some (x4, 0))
def ref01_Sum.f (k : Nat) (l0 : List Int) : Option (Int × Int) := ref01_Sum.l0 k l0 0 0
theorem ref01_Sum.mono_l : ∀ k, (∀ y0 y1 y2, LeO (ref01_Sum.l0 k y0 y1 y2) (ref01_Sum.l0 (k + 1) y0 y1 y2))
 | 0 => fun _ _ _ r h => by simp [ref01_Sum.l0] at h
 | k + 1 => by
  have ih0 := ref01_Sum.mono_l k
  ·intro y0 y1 y2
   unfold ref01_Sum.l0
   repeat' first | exact LeO.refl _ | with_reducible first | apply ih0 | exact LeO.none _ | apply LeO.ite | refine LeO.bind ?_ fun _ => ?_
theorem ref01_Sum.mono : ∀ a0 k, LeO (ref01_Sum.f k a0) (ref01_Sum.f (k + 1) a0) := by
 intro a0 k
 have ih0 := ref01_Sum.mono_l k
 unfold ref01_Sum.f
 repeat' first | exact LeO.refl _ | with_reducible first | apply ih0 | exact LeO.none _ | apply LeO.ite | refine LeO.bind ?_ fun _ => ?_
set_option maxHeartbeats 8000000 in
set_option maxRecDepth 100000 in
theorem ref01_Sum.calls (k : Nat) (A0 : Option Addr) (c0 : Nat) (l0 : List Int) (r1 : Int) (r2 : Int) (w : World) (hr0 : Kd.C (Kd.int .i64) w A0 l0.length l0) (hc0 : l0.length ≤ c0) (h : ref01_Sum.f k l0 = some (r1, r2)) :
  Calls Try.prog 36 #[.slice A0 l0.length c0] w fun e w' => e = .returned (.tuple #[.int .i64 r1, .int .i64 r2]) ∧ Drawn0 w w' := by
 have HR0 := Aside0.mk hr0
 have HC0 := Aside0.mk hc0
 clear hr0 hc0
 have H : (ref01_Sum.l0 k l0 0 0) = some (r1, r2) := h
 clear h
 have H' := Aside0.mk H
 clear H
 go_enter Try.func36, Try.ntmps36
 go_wp2
 go_loopg [4, 5] k (fun kq v4 v5 w' => ∃ (x4_1 : Int) (x5_1 : Int), v4 = .int .i64 x4_1 ∧ v5 = .int .i64 x5_1 ∧ Aside0 (ref01_Sum.l0 kq l0 x4_1 x5_1 = some (r1, r2)) ∧ Aside0 (kq ≤ k) ∧ Drawn0 w w')
 case atStart => exact ⟨(0), (0), (by first | rfl | (simp; done) | (simp [*]; done)), (by first | rfl | (simp; done) | (simp [*]; done)), H', ⟨Nat.le_refl _⟩, by repeat (first | exact Drawn0.refl _ | apply Drawn0.step)⟩
 case round =>
  clear H'
  obtain ⟨x4_1, x5_1, rfl, rfl, HA, HK1, ⟨m1, rfl⟩⟩ := hrel
  cases gk with
  | zero => exact absurd HA.out (by simp [ref01_Sum.l0])
  | succ k1 =>
   have H := HA.out
   clear HA
   simp only [ref01_Sum.l0] at H
   by_cases c2 : x5_1 < (l0.length : Int)
   ·rw [if_pos c2] at H
    have c2b0 : decide (x5_1 < (l0.length : Int)) = true := decide_eq_true c2
    clear c2
    by_cases c3 : 0 ≤ x5_1
    ·rw [if_pos c3] at H
     have c3b0 : decide (0 ≤ x5_1) = true := decide_eq_true c3
     clear c3
     obtain ⟨⟨t266, t267⟩, A4, H⟩ := RFn.bn H
     by_cases c5 : t267 = 0
     ·rw [if_pos c5] at H
      have c5b0 : (t267 == 0) = true := beq_iff_eq.mpr c5
      have c5b1 : (t267 != 0) = false := bne_eq_false_iff_eq.mpr c5
      clear c5
      have H' := Aside0.mk H
      clear H
      have p265 : 0 ≤ (x5_1 : Int) := RFn.od
      have q265 : x5_1 < (l0.length : Int) := RFn.od
      obtain ⟨ad265, e265, hx265_0⟩ := Kd.at_int HR0.out x5_1 p265 q265
      cases e265
      replace p265 := eq_true p265
      replace q265 := eq_true q265
      go_wp2_with (first | ((with_reducible refine gate_callee (f := 47) rfl ?_); refine RFn.goesM (some 20) Try.func47 #[.int .i64 x4_1, .int .i64 (rd l0 x5_1)] rfl ?_; (with_reducible refine (ref01_Add.calls x4_1 (rd l0 x5_1) t266 t267 _ A4.out).mono ?_); rintro e w' ⟨rfl, ⟨nd, rfl⟩⟩; refine ⟨_, rfl, ?_⟩))
      go_roundg k1
      case measure => have := HK1.out; omega
      case rel => exact ⟨(t266), (wrap64 (x5_1 + 1)), (by first | rfl | (simp; done) | (simp [*]; done)), (by first | rfl | (simp; done) | (simp [*]; done)), H', ⟨RFn.lk HK1⟩, by repeat (first | exact Drawn0.refl _ | apply Drawn0.step)⟩
     ·rw [if_neg c5] at H
      have c5b0 : (t267 == 0) = false := beq_eq_false_iff_ne.mpr c5
      have c5b1 : (t267 != 0) = true := bne_iff_ne.mpr c5
      simp only [Option.some.injEq, Prod.mk.injEq] at H
      obtain ⟨rfl, rfl⟩ := H
      have p265 : 0 ≤ (x5_1 : Int) := RFn.od
      have q265 : x5_1 < (l0.length : Int) := RFn.od
      obtain ⟨ad265, e265, hx265_0⟩ := Kd.at_int HR0.out x5_1 p265 q265
      cases e265
      replace p265 := eq_true p265
      replace q265 := eq_true q265
      go_wp2_with (first | ((with_reducible refine gate_callee (f := 47) rfl ?_); refine RFn.goesM (some 20) Try.func47 #[.int .i64 x4_1, .int .i64 (rd l0 x5_1)] rfl ?_; (with_reducible refine (ref01_Add.calls x4_1 (rd l0 x5_1) t266 t267 _ A4.out).mono ?_); rintro e w' ⟨rfl, ⟨nd, rfl⟩⟩; refine ⟨_, rfl, ?_⟩))
      go_ret2
      exact ⟨by first | rfl | (simp; done) | (simp [*]; done), by repeat (first | exact Drawn0.refl _ | apply Drawn0.step)⟩
    ·rw [if_neg c3] at H
     exact absurd H (by simp)
   ·rw [if_neg c2] at H
    have c2b0 : decide (x5_1 < (l0.length : Int)) = false := decide_eq_false c2
    clear c2
    simp only [Option.some.injEq, Prod.mk.injEq] at H
    obtain ⟨rfl, rfl⟩ := H
    go_wp2
    go_ret2
    exact ⟨by first | rfl | (simp; done) | (simp [*]; done), by repeat (first | exact Drawn0.refl _ | apply Drawn0.step)⟩
end Go.Proofs.Ytgheapbhakamaaa.Q
