/- printed by a program of this session (wip/tools/pr.sh): it is not a print of the kit -/
import Derived.Test.YtjbdkdmoacdbpaaGreatDoorWSeg
import Derived.Test.YtjbdkdmoacdbpaaGreatDoorRSt
import Derived.Test.YtjbdkdmoacdbpaaGreatDoorXLayCompare
import Derived.Test.YtjbdkdmoacdbpaaGreatDoorQx0
import Derived.Test.YtjbdkdmoacdbpaaGreatDoorQx3
import Derived.Test.YtjbdkdmoacdbpaaGreatDoorQx4
import Derived.Test.YtjbdkdmoacdbpaaGreatDoorQx5
import Derived.Test.YtjbdkdmoacdbpaaGreatDoorQx8
import Derived.Test.YtjbdkdmoacdbpaaGreatDoorQx13
namespace Go.Proofs.YtjbdkdmoacdbpaaGreatDoor.Q
open Go.RowKit Go.Proofs.YtjbdkdmoacdbpaaGreatDoorW.PrintWords Go.Proofs.YtjbdkdmoacdbpaaGreatDoorW.PrintLast Go.Proofs.YtjbdkdmoacdbpaaGreatDoorW.PrintMore
attribute [local go_sem] max2_int min2_int max_two min_two max_three min_three max_four min_four RFn.gtr_str   -- for this text's walks alone
set_option linter.unusedVariables false
set_option linter.unusedSimpArgs false
/-! ### law10_CodecSwaps: function 7 -/
mutual
def law10_CodecSwaps.j0 : Nat → List (S54) → Int → Int → Bool → Option (Bool)
 | 0, _, _, _, _ => none
 | k + 1, x0, x1, x2, x26 => if x26 = true then (some true) else ((law09_Theirs.f k x0).bind fun t297 => ((codec_Print.f t297).bind fun bt300 => (if (x0.length : Int) = 0 then (none) else (if bt300.2 = 0 then (law10_CodecSwaps.j1 k x0 bt300.1 (Int.tmod (wrap64 (x1)) (x0.length : Int)) (Int.tmod (wrap64 (x2)) (x0.length : Int)) ((Int.tmod (wrap64 (x1)) (x0.length : Int)) == (Int.tmod (wrap64 (x2)) (x0.length : Int)))) else (law10_CodecSwaps.j1 k x0 bt300.1 (Int.tmod (wrap64 (x1)) (x0.length : Int)) (Int.tmod (wrap64 (x2)) (x0.length : Int)) true)))))
def law10_CodecSwaps.j1 : Nat → List (S54) → ByteArray → Int → Int → Bool → Option (Bool)
 | 0, _, _, _, _, _ => none
 | k + 1, x0, x7, x9, x10, x49 => if x49 = true then (some true) else ((law09_Theirs.f k x0).bind fun t302 => ((law10_body.f k t302).bind fun t305 => (if 0 ≤ (wrap64 ((x7.size : Int) - (t305.size : Int))) then (if (wrap64 ((x7.size : Int) - (t305.size : Int))) ≤ (x7.size : Int) then (if 0 ≤ x10 then (if x10 < (t302.length : Int) then (if 0 ≤ x9 then (if x9 < (t302.length : Int) then ((some ((t302.set (x9 : Int).toNat (⟨(⟨(rd_T50 t302 x10).f0.f0, (rd_T50 t302 x10).f0.f1, (rd_T50 t302 x10).f0.f2, (rd_T50 t302 x10).f0.f3, (rd_T50 t302 x10).f0.f4⟩ : S48), (rd_T50 t302 x10).f1⟩ : S50)).set (x10 : Int).toNat (⟨(⟨(rd_T50 t302 x9).f0.f0, (rd_T50 t302 x9).f0.f1, (rd_T50 t302 x9).f0.f2, (rd_T50 t302 x9).f0.f3, (rd_T50 t302 x9).f0.f4⟩ : S48), (rd_T50 t302 x9).f1⟩ : S50) : List (S50))).bind fun y309 => ((law10_body.f k y309).bind fun t310 => (if (x7.extract 0 ((wrap64 ((x7.size : Int) - (t305.size : Int))) : Int).toNat).size + t310.size ≤ 9223372036854775807 then ((codec_Parse.f ((x7.extract 0 ((wrap64 ((x7.size : Int) - (t305.size : Int))) : Int).toNat) ++ t310)).bind fun bt311 => ((law10_body.f k ((y309.set (x9 : Int).toNat (⟨(⟨(rd_T50 y309 x10).f0.f0, (rd_T50 y309 x10).f0.f1, (rd_T50 y309 x10).f0.f2, (rd_T50 y309 x10).f0.f3, (rd_T50 y309 x10).f0.f4⟩ : S48), (rd_T50 y309 x10).f1⟩ : S50)).set (x10 : Int).toNat (⟨(⟨(rd_T50 y309 x9).f0.f0, (rd_T50 y309 x9).f0.f1, (rd_T50 y309 x9).f0.f2, (rd_T50 y309 x9).f0.f3, (rd_T50 y309 x9).f0.f4⟩ : S48), (rd_T50 y309 x9).f1⟩ : S50))).bind fun t319 => (if (x7.extract 0 ((wrap64 ((x7.size : Int) - (t305.size : Int))) : Int).toNat).size + t319.size ≤ 9223372036854775807 then ((codec_Parse.f ((x7.extract 0 ((wrap64 ((x7.size : Int) - (t305.size : Int))) : Int).toNat) ++ t319)).bind fun bt320 => (if bt311.2 = 5 then (if bt320.2 = 0 then ((law09_Ours.f k bt320.1).bind fun t324 => ((ref09_Same.f k t324 x0).bind fun t327 => (some t327))) else (none)) else (none))) else (none)))) else (none)))) else (none)) else (none)) else (none)) else (none)) else (none)) else (none))))
end
def law10_CodecSwaps.f (k : Nat) (l0 : List (S54)) (a1 : Int) (a2 : Int) : Option (Bool) := (law10_alive.f).bind fun t295 => (if t295 = true then ((law09_Few.f k l0).bind fun t296 => (if t296 = true then (law10_CodecSwaps.j0 k l0 a1 a2 (decide ((l0.length : Int) < 2))) else (law10_CodecSwaps.j0 k l0 a1 a2 true))) else (some false))
theorem law10_CodecSwaps.mono_l : ∀ k, (∀ y0 y1 y2 y3, LeO (law10_CodecSwaps.j0 k y0 y1 y2 y3) (law10_CodecSwaps.j0 (k + 1) y0 y1 y2 y3)) ∧ (∀ y0 y1 y2 y3 y4, LeO (law10_CodecSwaps.j1 k y0 y1 y2 y3 y4) (law10_CodecSwaps.j1 (k + 1) y0 y1 y2 y3 y4))
 | 0 => ⟨fun _ _ _ _ r h => by simp [law10_CodecSwaps.j0] at h, fun _ _ _ _ _ r h => by simp [law10_CodecSwaps.j1] at h⟩
 | k + 1 => by
  obtain ⟨ih0, ih1⟩ := law10_CodecSwaps.mono_l k
  refine ⟨?_, ?_⟩
  ·intro y0 y1 y2 y3
   unfold law10_CodecSwaps.j0
   repeat' with_reducible first | exact LeO.refl _ | apply ih0 | apply ih1 | apply law09_Few.mono | apply law09_Ours.mono | apply law09_Theirs.mono | apply law10_body.mono | apply ref09_Same.mono | exact LeO.none _ | apply LeO.ite | refine LeO.bind ?_ fun _ => ?_
  ·intro y0 y1 y2 y3 y4
   unfold law10_CodecSwaps.j1
   repeat' with_reducible first | exact LeO.refl _ | apply ih0 | apply ih1 | apply law09_Few.mono | apply law09_Ours.mono | apply law09_Theirs.mono | apply law10_body.mono | apply ref09_Same.mono | exact LeO.none _ | apply LeO.ite | refine LeO.bind ?_ fun _ => ?_
theorem law10_CodecSwaps.mono : ∀ a0 a1 a2 k, LeO (law10_CodecSwaps.f k a0 a1 a2) (law10_CodecSwaps.f (k + 1) a0 a1 a2) := by
 intro a0 a1 a2 k
 obtain ⟨ih0, ih1⟩ := law10_CodecSwaps.mono_l k
 unfold law10_CodecSwaps.f
 repeat' with_reducible first | exact LeO.refl _ | apply ih0 | apply ih1 | apply law09_Few.mono | apply law09_Ours.mono | apply law09_Theirs.mono | apply law10_body.mono | apply ref09_Same.mono | exact LeO.none _ | apply LeO.ite | refine LeO.bind ?_ fun _ => ?_
def law10_CodecSwaps.T6 : Bool × List (List Nat × List Nat) := (true, [([], []), ([0], [0]), ([], []), ([2], [2]), ([1, 3], [1, 3]), ([], []), ([5], [5]), ([], []), ([7], [7]), ([6, 8], [6, 8]), ([4, 0, 1, 2, 3, 4], [4]), ([9, 10, 0, 1, 2, 3, 4, 5, 6, 7, 8, 9, 10], [9])])
def law10_CodecSwaps.B6 : List Nat := [0, 1, 0, 4, 15, 0, 32, 0, 128, 480, 31, 2047]
theorem law10_CodecSwaps.tab6 : rtab .any (opsOf Tryz.f7 6) = law10_CodecSwaps.T6 := by kernel_rfl
theorem law10_CodecSwaps.bits6 : waitsOk law10_CodecSwaps.T6.2 law10_CodecSwaps.B6 = true := by kernel_rfl
def law10_CodecSwaps.T11 : Bool × List (List Nat × List Nat) := (true, [([], []), ([], []), ([], []), ([], []), ([], []), ([], []), ([4, 5], [4, 5]), ([6], [6]), ([], []), ([], []), ([8, 9], [8, 9]), ([10], [10]), ([0, 1, 0, 1, 4, 5, 6, 7, 11], [0, 1]), ([12, 7, 0, 1, 4, 5, 6, 7, 11], [7, 12]), ([2, 3, 0, 1, 2, 3, 4, 5, 6, 7, 8, 9, 10, 11, 12, 13], [2, 3]), ([14, 11, 13, 0, 1, 2, 3, 4, 5, 6, 7, 8, 9, 10, 11, 12, 13], [11, 14])])
def law10_CodecSwaps.B11 : List Nat := [0, 0, 0, 0, 0, 0, 48, 112, 0, 0, 768, 1792, 4083, 8179, 16383, 32767]
theorem law10_CodecSwaps.tab11 : rtab .any (opsOf Tryz.f7 11) = law10_CodecSwaps.T11 := by kernel_rfl
theorem law10_CodecSwaps.bits11 : waitsOk law10_CodecSwaps.T11.2 law10_CodecSwaps.B11 = true := by kernel_rfl
def law10_CodecSwaps.T13 : Bool × List (List Nat × List Nat) := (true, [([], []), ([], []), ([], []), ([], []), ([], []), ([], []), ([4, 5], [4, 5]), ([6], [6]), ([], []), ([], []), ([8, 9], [8, 9]), ([10], [10]), ([0, 1, 0, 1, 4, 5, 6, 7, 11], [0, 1]), ([12, 7, 0, 1, 4, 5, 6, 7, 11], [7, 12]), ([2, 3, 0, 1, 2, 3, 4, 5, 6, 7, 8, 9, 10, 11, 12, 13], [2, 3]), ([14, 11, 13, 0, 1, 2, 3, 4, 5, 6, 7, 8, 9, 10, 11, 12, 13], [11, 14])])
def law10_CodecSwaps.B13 : List Nat := [0, 0, 0, 0, 0, 0, 48, 112, 0, 0, 768, 1792, 4083, 8179, 16383, 32767]
theorem law10_CodecSwaps.tab13 : rtab .any (opsOf Tryz.f7 13) = law10_CodecSwaps.T13 := by kernel_rfl
theorem law10_CodecSwaps.bits13 : waitsOk law10_CodecSwaps.T13.2 law10_CodecSwaps.B13 = true := by kernel_rfl
set_option maxHeartbeats 16000000 in
set_option maxRecDepth 100000 in
theorem law10_CodecSwaps.calls (k : Nat) (A0 : Option Addr) (c0 : Nat) (l0 : List (S54)) (a1 : Int) (a2 : Int) (r : Bool) (w : World) (hr0 : Kd.C k54 w A0 l0.length l0) (hc0 : l0.length ≤ c0) (h : law10_CodecSwaps.f k l0 a1 a2 = some r) (hLd_ : Go.Proofs.YtjbdkdmoacdbpaaGreatDoor.X.LaidW w) :
  Calls Tryz.prog 7 #[.slice A0 l0.length c0, .int .u8 a1, .int .u8 a2] w fun e w' => e = .returned (.bool r) ∧ Below w.heap.size w w' := by
 have hu50 := Tryz.underlying50
 have HR0 := Aside0.mk hr0
 have HC0 := Aside0.mk hc0
 clear hr0 hc0
 have HB := Aside0.mk (Below.refl w.heap.size w)
 have H : ((law10_alive.f).bind fun t295 => (if t295 = true then ((law09_Few.f k l0).bind fun t296 => (if t296 = true then (law10_CodecSwaps.j0 k l0 a1 a2 (decide ((l0.length : Int) < 2))) else (law10_CodecSwaps.j0 k l0 a1 a2 true))) else (some false))) = some r := h
 clear h
 obtain ⟨t295, A4, H⟩ := RFn.bn H
 by_cases c5 : t295 = true
 ·subst c5
  have H1 : ((law09_Few.f k l0).bind fun t296 => (if t296 = true then (law10_CodecSwaps.j0 k l0 a1 a2 (decide ((l0.length : Int) < 2))) else (law10_CodecSwaps.j0 k l0 a1 a2 true))) = some r := by rw [if_pos rfl] at H; exact H
  clear H
  have H := H1
  clear H1
  have HC6 := Aside0.mk H
  clear H
  go_enter Tryz.func7, Tryz.ntmps7
  go_upto_region 3 with (first | ((with_reducible refine gate_callee (f := 8) rfl ?_); refine RFn.goesM (some 17) Tryz.func8 #[] rfl ?_; (with_reducible refine (law10_alive.calls  true _ A4.out (Go.Proofs.YtjbdkdmoacdbpaaGreatDoor.X.LaidW.below hLd_ (by repeat (first | (with_reducible first | exact HB.out | apply below_alloc | apply pw_below_drewN | apply below_drew1 | refine below_set ?_ GB34.out | refine Go.Proofs.YtjbdkdmoacdbpaaGreatDoor.RSt.belowS ?_ GB34.out) | exact HB.out)))).mono ?_); rintro e w7 ⟨rfl, hb⟩; refine ⟨_, rfl, ?_⟩; have n0_ := Aside0.mk (below_step (RFn.bel) hb); clear HB; have HB := n0_; clear n0_; (try clear hb)))
  (try simp only [Act.put, List.setIfInBounds_toArray, List.set_cons_zero, List.set_cons_succ])
  go_cut [26] (fun v26 wc => ∃ (kq : Nat) (x26_5 : Bool), v26 = .bool x26_5 ∧ Aside0 (law10_CodecSwaps.j0 kq l0 a1 a2 x26_5 = some r) ∧ Aside0 (kq ≤ k) ∧ Aside0 (Below w.heap.size w wc))
  case first =>
   have H := HC6.out
   clear HC6
   obtain ⟨t296, A8, H⟩ := RFn.bn H
   by_cases c9 : t296 = true
   ·subst c9
    have H1 : (law10_CodecSwaps.j0 k l0 a1 a2 (decide ((l0.length : Int) < 2))) = some r := by rw [if_pos rfl] at H; exact H
    clear H
    have H := H1
    clear H1
    have H' := Aside0.mk H
    clear H
    go_wp2_with (first | ((with_reducible refine gate_callee (f := 9) rfl ?_); refine RFn.goesM (some 20) Tryz.func9 #[.slice A0 l0.length c0] rfl ?_; (with_reducible refine (law09_Few.calls k _ _ l0 true _ ?side1 ?side2 A8.out).mono ?_); (case side1 => exact RFn.mC (Kd.C_below HR0.out HB.out)); (case side2 => exact HC0.out); rintro e w10 ⟨rfl, hb⟩; refine ⟨_, rfl, ?_⟩; have n0_ := Aside0.mk (below_step (RFn.bel) hb); clear HB; have HB := n0_; clear n0_; (try clear hb)))
    go_meet
    case rel => exact ⟨_, (decide ((l0.length : Int) < 2)), (by first | rfl | (simp; done) | (simp [*]; done)), H', ⟨by first | omega | exact Nat.le_refl _⟩, ⟨RFn.bel⟩⟩
   ·replace c9 := Bool.eq_false_iff.mpr c9
    subst c9
    have H1 : (law10_CodecSwaps.j0 k l0 a1 a2 true) = some r := by rw [if_neg (show ¬ (false = true) by decide)] at H; exact H
    clear H
    have H := H1
    clear H1
    have H' := Aside0.mk H
    clear H
    go_wp2_with (first | ((with_reducible refine gate_callee (f := 9) rfl ?_); refine RFn.goesM (some 20) Tryz.func9 #[.slice A0 l0.length c0] rfl ?_; (with_reducible refine (law09_Few.calls k _ _ l0 false _ ?side1 ?side2 A8.out).mono ?_); (case side1 => exact RFn.mC (Kd.C_below HR0.out HB.out)); (case side2 => exact HC0.out); rintro e w11 ⟨rfl, hb⟩; refine ⟨_, rfl, ?_⟩; have n0_ := Aside0.mk (below_step (RFn.bel) hb); clear HB; have HB := n0_; clear n0_; (try clear hb)))
    go_meet
    case rel => exact ⟨_, (true), (by first | rfl | (simp; done) | (simp [*]; done)), H', ⟨by first | omega | exact Nat.le_refl _⟩, ⟨RFn.bel⟩⟩
  case rest =>
   clear HC6
   try clear c5
   try clear c9
   obtain ⟨kq, x26_5, rfl, HA, HJ5, HB⟩ := hcut
   cases kq with
   | zero => exact absurd HA.out (by simp [law10_CodecSwaps.j0])
   | succ kj5 =>
    have H := HA.out
    clear HA
    simp only [law10_CodecSwaps.j0] at H
    by_cases c12 : x26_5 = true
    ·subst c12
     have H1 : (some true) = some r := by rw [if_pos rfl] at H; exact H
     clear H
     have H := H1
     clear H1
     obtain rfl := Option.some.inj H
     go_wp2
     go_ret
     exact ⟨by first | rfl | (simp [errW_none, errW_some] <;> rfl) | (simp [*, errW_none, errW_some] <;> rfl), RFn.bel⟩
    ·replace c12 := Bool.eq_false_iff.mpr c12
     subst c12
     have H1 : ((law09_Theirs.f kj5 l0).bind fun t297 => ((codec_Print.f t297).bind fun bt300 => (if (l0.length : Int) = 0 then (none) else (if bt300.2 = 0 then (law10_CodecSwaps.j1 kj5 l0 bt300.1 (Int.tmod (wrap64 (a1)) (l0.length : Int)) (Int.tmod (wrap64 (a2)) (l0.length : Int)) ((Int.tmod (wrap64 (a1)) (l0.length : Int)) == (Int.tmod (wrap64 (a2)) (l0.length : Int)))) else (law10_CodecSwaps.j1 kj5 l0 bt300.1 (Int.tmod (wrap64 (a1)) (l0.length : Int)) (Int.tmod (wrap64 (a2)) (l0.length : Int)) true))))) = some r := by rw [if_neg (show ¬ (false = true) by decide)] at H; exact H
     clear H
     have H := H1
     clear H1
     obtain ⟨t297, A13, H⟩ := RFn.bn H
     obtain ⟨⟨t300, t301⟩, A14, H⟩ := RFn.bn H
     by_cases c15 : (l0.length : Int) = 0
     ·rw [if_pos c15] at H
      exact absurd H (by simp)
     ·rw [if_neg c15] at H
      have c15b0 : ((l0.length : Int) == 0) = false := beq_eq_false_iff_ne.mpr c15
      have c15b1 : ((l0.length : Int) != 0) = true := bne_iff_ne.mpr c15
      have c15b2 : ¬ (l0 = []) := fun h_ => c15 (by rw [h_]; rfl)
      have HC16 := Aside0.mk H
      clear H
      try go_wp2_with (first | ((with_reducible refine gate_callee (f := 11) rfl ?_); refine RFn.goesM (some 29) Tryz.func11 #[.slice A0 l0.length c0] rfl ?_; (with_reducible refine (law09_Theirs.calls kj5 _ _ l0 t297 _ ?side1 ?side2 A13.out).mono ?_); (case side1 => exact RFn.mC (Kd.C_below HR0.out HB.out)); (case side2 => exact HC0.out); rintro e w17 ⟨v298, rfl, ho0, hb⟩; refine ⟨_, rfl, ?_⟩; have n0_ := Aside0.mk (Kd.R_lower ho0 (below_size (RFn.bel))); have n1_ := Aside0.mk (below_step (RFn.bel) hb); clear HB; have HO299 := n0_; have HB := n1_; clear n0_ n1_; (try clear hb); (try clear ho0); obtain ⟨Ao18, co18, eo18⟩ := Kd.R_slice HO299.out; subst eo18) | ((with_reducible refine gate_callee (f := 10) rfl ?_); refine RFn.goesM (some 30) Tryz.func10 #[.slice Ao18 t297.length co18] rfl ?_; (with_reducible refine (codec_Print.calls _ _ t297 t300 t301 _ ?side1 ?side2 A14.out (Go.Proofs.YtjbdkdmoacdbpaaGreatDoor.X.LaidW.below hLd_ (by repeat (first | (with_reducible first | exact HB.out | apply below_alloc | apply pw_below_drewN | apply below_drew1 | refine below_set ?_ GB34.out | refine Go.Proofs.YtjbdkdmoacdbpaaGreatDoor.RSt.belowS ?_ GB34.out) | exact HB.out)))).mono ?_); (case side1 => exact RFn.mC (Kd.R_reads' HO299.out).2.2); (case side2 => exact (Kd.R_reads' HO299.out).2.1); rintro e w19 ⟨rfl, hb⟩; refine ⟨_, rfl, ?_⟩; have n0_ := Aside0.mk (Kd.R_below (RFn.mR HO299) hb); have n1_ := Aside0.mk (below_step (RFn.bel) hb); clear HO299; clear HB; have HO299 := n0_; have HB := n1_; clear n0_ n1_; (try clear hb)))
      have n0_ := Aside0.mk (Kd.R_drew HO299.out)
      have n1_ := Aside0.mk (below_drew1 HB.out)
      clear HO299
      clear HB
      have HO299 := n0_
      have HB := n1_
      clear n0_ n1_
      refine start_ (n := 12) (S := fun w' => True) (ds := []) (bz 12 0) (by kernel_rfl) rfl rfl trivial (fun hHeld => ?_); refine with_tabW law10_CodecSwaps.tab6 law10_CodecSwaps.bits6 (fun HT_ HW_ => ?_)
      generalize w19.drew = w20 at HO299 HB hHeld ⊢
      refine RFn.pA (i := 0) (N := some 33) (bz 12 1) HT_ ?_
      refine RFn.pA (i := 1) (N := some 34) (bz 12 3) HT_ ?_
      refine RFn.pA (i := 2) (N := some 35) (bz 12 7) HT_ ?_
      refine RFn.pA (i := 3) (N := some 36) (bz 12 15) HT_ ?_
      refine RFn.pA (i := 4) (N := some 37) (bz 12 31) HT_ ?_
      refine RFn.pA (i := 5) (N := some 38) (bz 12 63) HT_ ?_
      refine RFn.pA (i := 6) (N := some 39) (bz 12 127) HT_ ?_
      refine RFn.pA (i := 7) (N := some 40) (bz 12 255) HT_ ?_
      refine RFn.pA (i := 8) (N := some 41) (bz 12 511) HT_ ?_
      refine RFn.pA (i := 9) (N := some 42) (bz 12 1023) HT_ ?_
      refine RFn.pA (i := 10) (N := some 9) (bz 12 2047) HT_ ?_
      refine RFn.pA (i := 11) (N := some 10) (bz 12 4095) HT_ ?_
      refine RFn.dn HT_ ?_
      go_upto_region 7 with (fail)
      go_cut [49] (fun v49 wc => ∃ (kq : Nat) (x49_15 : Bool), v49 = .bool x49_15 ∧ Aside0 (law10_CodecSwaps.j1 kq l0 t300 (Int.tmod (wrap64 (a1)) (l0.length : Int)) (Int.tmod (wrap64 (a2)) (l0.length : Int)) x49_15 = some r) ∧ Aside0 (kq ≤ kj5) ∧ Aside0 (Below w.heap.size w wc))
      case first =>
       have H := HC16.out
       clear HC16
       by_cases c21 : t301 = 0
       ·rw [if_pos c21] at H
        have c21b0 : (t301 == 0) = true := beq_iff_eq.mpr c21
        have c21b1 : (t301 != 0) = false := bne_eq_false_iff_eq.mpr c21
        clear c21
        (first | rw [c21b0] | (simp only [i64_w, i32_w]; rw [c21b0]) | skip)
        have H' := Aside0.mk H
        clear H
        go_wp2
        first | go_meet | (simp only [c15b0] at *; go_meet)
        case rel => exact ⟨_, (((Int.tmod (wrap64 (a1)) (l0.length : Int)) == (Int.tmod (wrap64 (a2)) (l0.length : Int)))), (by first | rfl | (simp; done) | (simp [*]; done)), H', ⟨by have := HJ5.out; first | omega | exact Nat.le_refl _⟩, ⟨RFn.bel⟩⟩
       ·rw [if_neg c21] at H
        have c21b0 : (t301 == 0) = false := beq_eq_false_iff_ne.mpr c21
        have c21b1 : (t301 != 0) = true := bne_iff_ne.mpr c21
        (first | rw [c21b0] | (simp only [i64_w, i32_w]; rw [c21b0]) | skip)
        have H' := Aside0.mk H
        clear H
        go_wp2
        first | go_meet | (simp only [c15b0] at *; go_meet)
        case rel => exact ⟨_, (true), (by first | rfl | (simp; done) | (simp [*]; done)), H', ⟨by have := HJ5.out; first | omega | exact Nat.le_refl _⟩, ⟨RFn.bel⟩⟩
      case rest =>
       clear HC16
       try clear c5
       try clear c9
       try clear c12
       try clear c15
       try clear c15b0
       try clear c15b1
       try clear c15b2
       try clear c21
       try clear c21b0
       try clear c21b1
       obtain ⟨kq, x49_15, rfl, HA, HJ15, HB⟩ := hcut
       cases kq with
       | zero => exact absurd HA.out (by simp [law10_CodecSwaps.j1])
       | succ kj15 =>
        have H := HA.out
        clear HA
        simp only [law10_CodecSwaps.j1] at H
        by_cases c22 : x49_15 = true
        ·subst c22
         have H1 : (some true) = some r := by rw [if_pos rfl] at H; exact H
         clear H
         have H := H1
         clear H1
         obtain rfl := Option.some.inj H
         go_wp2
         go_ret
         exact ⟨by first | rfl | (simp [errW_none, errW_some] <;> rfl) | (simp [*, errW_none, errW_some] <;> rfl), RFn.bel⟩
        ·replace c22 := Bool.eq_false_iff.mpr c22
         subst c22
         have H1 : ((law09_Theirs.f kj15 l0).bind fun t302 => ((law10_body.f kj15 t302).bind fun t305 => (if 0 ≤ (wrap64 ((t300.size : Int) - (t305.size : Int))) then (if (wrap64 ((t300.size : Int) - (t305.size : Int))) ≤ (t300.size : Int) then (if 0 ≤ (Int.tmod (wrap64 (a2)) (l0.length : Int)) then (if (Int.tmod (wrap64 (a2)) (l0.length : Int)) < (t302.length : Int) then (if 0 ≤ (Int.tmod (wrap64 (a1)) (l0.length : Int)) then (if (Int.tmod (wrap64 (a1)) (l0.length : Int)) < (t302.length : Int) then ((some ((t302.set ((Int.tmod (wrap64 (a1)) (l0.length : Int)) : Int).toNat (⟨(⟨(rd_T50 t302 (Int.tmod (wrap64 (a2)) (l0.length : Int))).f0.f0, (rd_T50 t302 (Int.tmod (wrap64 (a2)) (l0.length : Int))).f0.f1, (rd_T50 t302 (Int.tmod (wrap64 (a2)) (l0.length : Int))).f0.f2, (rd_T50 t302 (Int.tmod (wrap64 (a2)) (l0.length : Int))).f0.f3, (rd_T50 t302 (Int.tmod (wrap64 (a2)) (l0.length : Int))).f0.f4⟩ : S48), (rd_T50 t302 (Int.tmod (wrap64 (a2)) (l0.length : Int))).f1⟩ : S50)).set ((Int.tmod (wrap64 (a2)) (l0.length : Int)) : Int).toNat (⟨(⟨(rd_T50 t302 (Int.tmod (wrap64 (a1)) (l0.length : Int))).f0.f0, (rd_T50 t302 (Int.tmod (wrap64 (a1)) (l0.length : Int))).f0.f1, (rd_T50 t302 (Int.tmod (wrap64 (a1)) (l0.length : Int))).f0.f2, (rd_T50 t302 (Int.tmod (wrap64 (a1)) (l0.length : Int))).f0.f3, (rd_T50 t302 (Int.tmod (wrap64 (a1)) (l0.length : Int))).f0.f4⟩ : S48), (rd_T50 t302 (Int.tmod (wrap64 (a1)) (l0.length : Int))).f1⟩ : S50) : List (S50))).bind fun y309 => ((law10_body.f kj15 y309).bind fun t310 => (if (t300.extract 0 ((wrap64 ((t300.size : Int) - (t305.size : Int))) : Int).toNat).size + t310.size ≤ 9223372036854775807 then ((codec_Parse.f ((t300.extract 0 ((wrap64 ((t300.size : Int) - (t305.size : Int))) : Int).toNat) ++ t310)).bind fun bt311 => ((law10_body.f kj15 ((y309.set ((Int.tmod (wrap64 (a1)) (l0.length : Int)) : Int).toNat (⟨(⟨(rd_T50 y309 (Int.tmod (wrap64 (a2)) (l0.length : Int))).f0.f0, (rd_T50 y309 (Int.tmod (wrap64 (a2)) (l0.length : Int))).f0.f1, (rd_T50 y309 (Int.tmod (wrap64 (a2)) (l0.length : Int))).f0.f2, (rd_T50 y309 (Int.tmod (wrap64 (a2)) (l0.length : Int))).f0.f3, (rd_T50 y309 (Int.tmod (wrap64 (a2)) (l0.length : Int))).f0.f4⟩ : S48), (rd_T50 y309 (Int.tmod (wrap64 (a2)) (l0.length : Int))).f1⟩ : S50)).set ((Int.tmod (wrap64 (a2)) (l0.length : Int)) : Int).toNat (⟨(⟨(rd_T50 y309 (Int.tmod (wrap64 (a1)) (l0.length : Int))).f0.f0, (rd_T50 y309 (Int.tmod (wrap64 (a1)) (l0.length : Int))).f0.f1, (rd_T50 y309 (Int.tmod (wrap64 (a1)) (l0.length : Int))).f0.f2, (rd_T50 y309 (Int.tmod (wrap64 (a1)) (l0.length : Int))).f0.f3, (rd_T50 y309 (Int.tmod (wrap64 (a1)) (l0.length : Int))).f0.f4⟩ : S48), (rd_T50 y309 (Int.tmod (wrap64 (a1)) (l0.length : Int))).f1⟩ : S50))).bind fun t319 => (if (t300.extract 0 ((wrap64 ((t300.size : Int) - (t305.size : Int))) : Int).toNat).size + t319.size ≤ 9223372036854775807 then ((codec_Parse.f ((t300.extract 0 ((wrap64 ((t300.size : Int) - (t305.size : Int))) : Int).toNat) ++ t319)).bind fun bt320 => (if bt311.2 = 5 then (if bt320.2 = 0 then ((law09_Ours.f kj15 bt320.1).bind fun t324 => ((ref09_Same.f kj15 t324 l0).bind fun t327 => (some t327))) else (none)) else (none))) else (none)))) else (none)))) else (none)) else (none)) else (none)) else (none)) else (none)) else (none)))) = some r := by rw [if_neg (show ¬ (false = true) by decide)] at H; exact H
         clear H
         have H := H1
         clear H1
         obtain ⟨t302, A23, H⟩ := RFn.bn H
         obtain ⟨t305, A24, H⟩ := RFn.bn H
         obtain ⟨ji25, hji25⟩ : ∃ j_ : Int, (wrap64 ((t300.size : Int) - (t305.size : Int))) = j_ := ⟨_, rfl⟩
         replace H : (if 0 ≤ (ji25) then (if (ji25) ≤ (t300.size : Int) then (if 0 ≤ (Int.tmod (wrap64 (a2)) (l0.length : Int)) then (if (Int.tmod (wrap64 (a2)) (l0.length : Int)) < (t302.length : Int) then (if 0 ≤ (Int.tmod (wrap64 (a1)) (l0.length : Int)) then (if (Int.tmod (wrap64 (a1)) (l0.length : Int)) < (t302.length : Int) then ((some ((t302.set ((Int.tmod (wrap64 (a1)) (l0.length : Int)) : Int).toNat (⟨(⟨(rd_T50 t302 (Int.tmod (wrap64 (a2)) (l0.length : Int))).f0.f0, (rd_T50 t302 (Int.tmod (wrap64 (a2)) (l0.length : Int))).f0.f1, (rd_T50 t302 (Int.tmod (wrap64 (a2)) (l0.length : Int))).f0.f2, (rd_T50 t302 (Int.tmod (wrap64 (a2)) (l0.length : Int))).f0.f3, (rd_T50 t302 (Int.tmod (wrap64 (a2)) (l0.length : Int))).f0.f4⟩ : S48), (rd_T50 t302 (Int.tmod (wrap64 (a2)) (l0.length : Int))).f1⟩ : S50)).set ((Int.tmod (wrap64 (a2)) (l0.length : Int)) : Int).toNat (⟨(⟨(rd_T50 t302 (Int.tmod (wrap64 (a1)) (l0.length : Int))).f0.f0, (rd_T50 t302 (Int.tmod (wrap64 (a1)) (l0.length : Int))).f0.f1, (rd_T50 t302 (Int.tmod (wrap64 (a1)) (l0.length : Int))).f0.f2, (rd_T50 t302 (Int.tmod (wrap64 (a1)) (l0.length : Int))).f0.f3, (rd_T50 t302 (Int.tmod (wrap64 (a1)) (l0.length : Int))).f0.f4⟩ : S48), (rd_T50 t302 (Int.tmod (wrap64 (a1)) (l0.length : Int))).f1⟩ : S50) : List (S50))).bind fun y309 => ((law10_body.f kj15 y309).bind fun t310 => (if (t300.extract 0 ((ji25) : Int).toNat).size + t310.size ≤ 9223372036854775807 then ((codec_Parse.f ((t300.extract 0 ((ji25) : Int).toNat) ++ t310)).bind fun bt311 => ((law10_body.f kj15 ((y309.set ((Int.tmod (wrap64 (a1)) (l0.length : Int)) : Int).toNat (⟨(⟨(rd_T50 y309 (Int.tmod (wrap64 (a2)) (l0.length : Int))).f0.f0, (rd_T50 y309 (Int.tmod (wrap64 (a2)) (l0.length : Int))).f0.f1, (rd_T50 y309 (Int.tmod (wrap64 (a2)) (l0.length : Int))).f0.f2, (rd_T50 y309 (Int.tmod (wrap64 (a2)) (l0.length : Int))).f0.f3, (rd_T50 y309 (Int.tmod (wrap64 (a2)) (l0.length : Int))).f0.f4⟩ : S48), (rd_T50 y309 (Int.tmod (wrap64 (a2)) (l0.length : Int))).f1⟩ : S50)).set ((Int.tmod (wrap64 (a2)) (l0.length : Int)) : Int).toNat (⟨(⟨(rd_T50 y309 (Int.tmod (wrap64 (a1)) (l0.length : Int))).f0.f0, (rd_T50 y309 (Int.tmod (wrap64 (a1)) (l0.length : Int))).f0.f1, (rd_T50 y309 (Int.tmod (wrap64 (a1)) (l0.length : Int))).f0.f2, (rd_T50 y309 (Int.tmod (wrap64 (a1)) (l0.length : Int))).f0.f3, (rd_T50 y309 (Int.tmod (wrap64 (a1)) (l0.length : Int))).f0.f4⟩ : S48), (rd_T50 y309 (Int.tmod (wrap64 (a1)) (l0.length : Int))).f1⟩ : S50))).bind fun t319 => (if (t300.extract 0 ((ji25) : Int).toNat).size + t319.size ≤ 9223372036854775807 then ((codec_Parse.f ((t300.extract 0 ((ji25) : Int).toNat) ++ t319)).bind fun bt320 => (if bt311.2 = 5 then (if bt320.2 = 0 then ((law09_Ours.f kj15 bt320.1).bind fun t324 => ((ref09_Same.f kj15 t324 l0).bind fun t327 => (some t327))) else (none)) else (none))) else (none)))) else (none)))) else (none)) else (none)) else (none)) else (none)) else (none)) else (none)) = some r := by first | (rw [hji25] at H; exact H) | (simp only [hji25] at H ⊢; exact H)
         (try rw [hji25] at A23)
         (try rw [hji25] at A24)
         have hji25w : (IntKind.i64.wrap ((t300.size : Int) - (t305.size : Int))) = ji25 := (i64_w _).trans hji25
         by_cases c26 : 0 ≤ (ji25)
         ·rw [if_pos c26] at H
          have c26b0 := eq_true c26
          have c26b1 : decide (0 ≤ (ji25)) = true := decide_eq_true c26
          clear c26
          by_cases c27 : (ji25) ≤ (t300.size : Int)
          ·rw [if_pos c27] at H
           have c27b0 := eq_true c27
           have c27b1 : decide ((ji25) ≤ (t300.size : Int)) = true := decide_eq_true c27
           clear c27
           obtain ⟨ji28, hji28⟩ : ∃ j_ : Int, (Int.tmod (wrap64 (a2)) (l0.length : Int)) = j_ := ⟨_, rfl⟩
           replace H : (if 0 ≤ (ji28) then (if (ji28) < (t302.length : Int) then (if 0 ≤ (Int.tmod (wrap64 (a1)) (l0.length : Int)) then (if (Int.tmod (wrap64 (a1)) (l0.length : Int)) < (t302.length : Int) then ((some ((t302.set ((Int.tmod (wrap64 (a1)) (l0.length : Int)) : Int).toNat (⟨(⟨(rd_T50 t302 (ji28)).f0.f0, (rd_T50 t302 (ji28)).f0.f1, (rd_T50 t302 (ji28)).f0.f2, (rd_T50 t302 (ji28)).f0.f3, (rd_T50 t302 (ji28)).f0.f4⟩ : S48), (rd_T50 t302 (ji28)).f1⟩ : S50)).set ((ji28) : Int).toNat (⟨(⟨(rd_T50 t302 (Int.tmod (wrap64 (a1)) (l0.length : Int))).f0.f0, (rd_T50 t302 (Int.tmod (wrap64 (a1)) (l0.length : Int))).f0.f1, (rd_T50 t302 (Int.tmod (wrap64 (a1)) (l0.length : Int))).f0.f2, (rd_T50 t302 (Int.tmod (wrap64 (a1)) (l0.length : Int))).f0.f3, (rd_T50 t302 (Int.tmod (wrap64 (a1)) (l0.length : Int))).f0.f4⟩ : S48), (rd_T50 t302 (Int.tmod (wrap64 (a1)) (l0.length : Int))).f1⟩ : S50) : List (S50))).bind fun y309 => ((law10_body.f kj15 y309).bind fun t310 => (if (t300.extract 0 ((ji25) : Int).toNat).size + t310.size ≤ 9223372036854775807 then ((codec_Parse.f ((t300.extract 0 ((ji25) : Int).toNat) ++ t310)).bind fun bt311 => ((law10_body.f kj15 ((y309.set ((Int.tmod (wrap64 (a1)) (l0.length : Int)) : Int).toNat (⟨(⟨(rd_T50 y309 (ji28)).f0.f0, (rd_T50 y309 (ji28)).f0.f1, (rd_T50 y309 (ji28)).f0.f2, (rd_T50 y309 (ji28)).f0.f3, (rd_T50 y309 (ji28)).f0.f4⟩ : S48), (rd_T50 y309 (ji28)).f1⟩ : S50)).set ((ji28) : Int).toNat (⟨(⟨(rd_T50 y309 (Int.tmod (wrap64 (a1)) (l0.length : Int))).f0.f0, (rd_T50 y309 (Int.tmod (wrap64 (a1)) (l0.length : Int))).f0.f1, (rd_T50 y309 (Int.tmod (wrap64 (a1)) (l0.length : Int))).f0.f2, (rd_T50 y309 (Int.tmod (wrap64 (a1)) (l0.length : Int))).f0.f3, (rd_T50 y309 (Int.tmod (wrap64 (a1)) (l0.length : Int))).f0.f4⟩ : S48), (rd_T50 y309 (Int.tmod (wrap64 (a1)) (l0.length : Int))).f1⟩ : S50))).bind fun t319 => (if (t300.extract 0 ((ji25) : Int).toNat).size + t319.size ≤ 9223372036854775807 then ((codec_Parse.f ((t300.extract 0 ((ji25) : Int).toNat) ++ t319)).bind fun bt320 => (if bt311.2 = 5 then (if bt320.2 = 0 then ((law09_Ours.f kj15 bt320.1).bind fun t324 => ((ref09_Same.f kj15 t324 l0).bind fun t327 => (some t327))) else (none)) else (none))) else (none)))) else (none)))) else (none)) else (none)) else (none)) else (none)) = some r := by first | (rw [hji28] at H; exact H) | (simp only [hji28] at H ⊢; exact H)
           (try rw [hji28] at A23)
           (try rw [hji28] at A24)
           by_cases c29 : 0 ≤ (ji28)
           ·rw [if_pos c29] at H
            have c29b0 : decide (0 ≤ (ji28)) = true := decide_eq_true c29
            clear c29
            by_cases c30 : (ji28) < (t302.length : Int)
            ·rw [if_pos c30] at H
             have c30b0 : decide ((ji28) < (t302.length : Int)) = true := decide_eq_true c30
             clear c30
             obtain ⟨ji31, hji31⟩ : ∃ j_ : Int, (Int.tmod (wrap64 (a1)) (l0.length : Int)) = j_ := ⟨_, rfl⟩
             replace H : (if 0 ≤ (ji31) then (if (ji31) < (t302.length : Int) then ((some ((t302.set ((ji31) : Int).toNat (⟨(⟨(rd_T50 t302 (ji28)).f0.f0, (rd_T50 t302 (ji28)).f0.f1, (rd_T50 t302 (ji28)).f0.f2, (rd_T50 t302 (ji28)).f0.f3, (rd_T50 t302 (ji28)).f0.f4⟩ : S48), (rd_T50 t302 (ji28)).f1⟩ : S50)).set ((ji28) : Int).toNat (⟨(⟨(rd_T50 t302 (ji31)).f0.f0, (rd_T50 t302 (ji31)).f0.f1, (rd_T50 t302 (ji31)).f0.f2, (rd_T50 t302 (ji31)).f0.f3, (rd_T50 t302 (ji31)).f0.f4⟩ : S48), (rd_T50 t302 (ji31)).f1⟩ : S50) : List (S50))).bind fun y309 => ((law10_body.f kj15 y309).bind fun t310 => (if (t300.extract 0 ((ji25) : Int).toNat).size + t310.size ≤ 9223372036854775807 then ((codec_Parse.f ((t300.extract 0 ((ji25) : Int).toNat) ++ t310)).bind fun bt311 => ((law10_body.f kj15 ((y309.set ((ji31) : Int).toNat (⟨(⟨(rd_T50 y309 (ji28)).f0.f0, (rd_T50 y309 (ji28)).f0.f1, (rd_T50 y309 (ji28)).f0.f2, (rd_T50 y309 (ji28)).f0.f3, (rd_T50 y309 (ji28)).f0.f4⟩ : S48), (rd_T50 y309 (ji28)).f1⟩ : S50)).set ((ji28) : Int).toNat (⟨(⟨(rd_T50 y309 (ji31)).f0.f0, (rd_T50 y309 (ji31)).f0.f1, (rd_T50 y309 (ji31)).f0.f2, (rd_T50 y309 (ji31)).f0.f3, (rd_T50 y309 (ji31)).f0.f4⟩ : S48), (rd_T50 y309 (ji31)).f1⟩ : S50))).bind fun t319 => (if (t300.extract 0 ((ji25) : Int).toNat).size + t319.size ≤ 9223372036854775807 then ((codec_Parse.f ((t300.extract 0 ((ji25) : Int).toNat) ++ t319)).bind fun bt320 => (if bt311.2 = 5 then (if bt320.2 = 0 then ((law09_Ours.f kj15 bt320.1).bind fun t324 => ((ref09_Same.f kj15 t324 l0).bind fun t327 => (some t327))) else (none)) else (none))) else (none)))) else (none)))) else (none)) else (none)) = some r := by first | (rw [hji31] at H; exact H) | (simp only [hji31] at H ⊢; exact H)
             (try rw [hji31] at A23)
             (try rw [hji31] at A24)
             by_cases c32 : 0 ≤ (ji31)
             ·rw [if_pos c32] at H
              have c32b0 : decide (0 ≤ (ji31)) = true := decide_eq_true c32
              clear c32
              by_cases c33 : (ji31) < (t302.length : Int)
              ·rw [if_pos c33] at H
               have c33b0 : decide ((ji31) < (t302.length : Int)) = true := decide_eq_true c33
               clear c33
               obtain ⟨y308, hy308⟩ : ∃ y_ : List (S50), y_ = (t302.set ((ji31) : Int).toNat (⟨(⟨(rd_T50 t302 (ji28)).f0.f0, (rd_T50 t302 (ji28)).f0.f1, (rd_T50 t302 (ji28)).f0.f2, (rd_T50 t302 (ji28)).f0.f3, (rd_T50 t302 (ji28)).f0.f4⟩ : S48), (rd_T50 t302 (ji28)).f1⟩ : S50)) := ⟨_, rfl⟩
               replace H : ((some (y308.set ((ji28) : Int).toNat (⟨(⟨(rd_T50 t302 (ji31)).f0.f0, (rd_T50 t302 (ji31)).f0.f1, (rd_T50 t302 (ji31)).f0.f2, (rd_T50 t302 (ji31)).f0.f3, (rd_T50 t302 (ji31)).f0.f4⟩ : S48), (rd_T50 t302 (ji31)).f1⟩ : S50) : List (S50))).bind fun y309 => ((law10_body.f kj15 y309).bind fun t310 => (if (t300.extract 0 ((ji25) : Int).toNat).size + t310.size ≤ 9223372036854775807 then ((codec_Parse.f ((t300.extract 0 ((ji25) : Int).toNat) ++ t310)).bind fun bt311 => ((law10_body.f kj15 ((y309.set ((ji31) : Int).toNat (⟨(⟨(rd_T50 y309 (ji28)).f0.f0, (rd_T50 y309 (ji28)).f0.f1, (rd_T50 y309 (ji28)).f0.f2, (rd_T50 y309 (ji28)).f0.f3, (rd_T50 y309 (ji28)).f0.f4⟩ : S48), (rd_T50 y309 (ji28)).f1⟩ : S50)).set ((ji28) : Int).toNat (⟨(⟨(rd_T50 y309 (ji31)).f0.f0, (rd_T50 y309 (ji31)).f0.f1, (rd_T50 y309 (ji31)).f0.f2, (rd_T50 y309 (ji31)).f0.f3, (rd_T50 y309 (ji31)).f0.f4⟩ : S48), (rd_T50 y309 (ji31)).f1⟩ : S50))).bind fun t319 => (if (t300.extract 0 ((ji25) : Int).toNat).size + t319.size ≤ 9223372036854775807 then ((codec_Parse.f ((t300.extract 0 ((ji25) : Int).toNat) ++ t319)).bind fun bt320 => (if bt311.2 = 5 then (if bt320.2 = 0 then ((law09_Ours.f kj15 bt320.1).bind fun t324 => ((ref09_Same.f kj15 t324 l0).bind fun t327 => (some t327))) else (none)) else (none))) else (none)))) else (none)))) = some r := RFn.rp H hy308
               have Ny308 := Aside0.mk hy308
               clear hy308
               obtain ⟨y309, hy309⟩ : ∃ y_ : List (S50), y_ = (y308.set ((ji28) : Int).toNat (⟨(⟨(rd_T50 t302 (ji31)).f0.f0, (rd_T50 t302 (ji31)).f0.f1, (rd_T50 t302 (ji31)).f0.f2, (rd_T50 t302 (ji31)).f0.f3, (rd_T50 t302 (ji31)).f0.f4⟩ : S48), (rd_T50 t302 (ji31)).f1⟩ : S50)) := ⟨_, rfl⟩
               replace H : ((law10_body.f kj15 y309).bind fun t310 => (if (t300.extract 0 ((ji25) : Int).toNat).size + t310.size ≤ 9223372036854775807 then ((codec_Parse.f ((t300.extract 0 ((ji25) : Int).toNat) ++ t310)).bind fun bt311 => ((law10_body.f kj15 ((y309.set ((ji31) : Int).toNat (⟨(⟨(rd_T50 y309 (ji28)).f0.f0, (rd_T50 y309 (ji28)).f0.f1, (rd_T50 y309 (ji28)).f0.f2, (rd_T50 y309 (ji28)).f0.f3, (rd_T50 y309 (ji28)).f0.f4⟩ : S48), (rd_T50 y309 (ji28)).f1⟩ : S50)).set ((ji28) : Int).toNat (⟨(⟨(rd_T50 y309 (ji31)).f0.f0, (rd_T50 y309 (ji31)).f0.f1, (rd_T50 y309 (ji31)).f0.f2, (rd_T50 y309 (ji31)).f0.f3, (rd_T50 y309 (ji31)).f0.f4⟩ : S48), (rd_T50 y309 (ji31)).f1⟩ : S50))).bind fun t319 => (if (t300.extract 0 ((ji25) : Int).toNat).size + t319.size ≤ 9223372036854775807 then ((codec_Parse.f ((t300.extract 0 ((ji25) : Int).toNat) ++ t319)).bind fun bt320 => (if bt311.2 = 5 then (if bt320.2 = 0 then ((law09_Ours.f kj15 bt320.1).bind fun t324 => ((ref09_Same.f kj15 t324 l0).bind fun t327 => (some t327))) else (none)) else (none))) else (none)))) else (none))) = some r := RFn.rp H hy309
               have Ny309 := Aside0.mk hy309
               clear hy309
               obtain ⟨t310, A36, H⟩ := RFn.bn H
               by_cases c37 : (t300.extract 0 ((ji25) : Int).toNat).size + t310.size ≤ 9223372036854775807
               ·rw [if_pos c37] at H
                have c37b0 := eq_true c37
                have c37b1 : decide ((t300.extract 0 ((ji25) : Int).toNat).size + t310.size ≤ 9223372036854775807) = true := decide_eq_true c37
                have c37w : (9223372036854775807 < ji25.toNat + t310.size) = False := by have h1 : (ji25) ≤ (t300.size : Int) := RFn.od; have h2 := of_decide_eq_true c37b1; rw [ByteArray.size_extract] at h2; exact eq_false (by omega)
                try have c37b2 : (9223372036854775807 < (t300.extract 0 ((ji25) : Int).toNat).size + t310.size) = False := eq_false (Nat.not_lt.2 c37)
                obtain ⟨⟨t311, t312⟩, A38, H⟩ := RFn.bn H
                obtain ⟨y317, hy317⟩ : ∃ y_ : List (S50), y_ = (y309.set ((ji31) : Int).toNat (⟨(⟨(rd_T50 y309 (ji28)).f0.f0, (rd_T50 y309 (ji28)).f0.f1, (rd_T50 y309 (ji28)).f0.f2, (rd_T50 y309 (ji28)).f0.f3, (rd_T50 y309 (ji28)).f0.f4⟩ : S48), (rd_T50 y309 (ji28)).f1⟩ : S50)) := ⟨_, rfl⟩
                replace H : ((law10_body.f kj15 (y317.set ((ji28) : Int).toNat (⟨(⟨(rd_T50 y309 (ji31)).f0.f0, (rd_T50 y309 (ji31)).f0.f1, (rd_T50 y309 (ji31)).f0.f2, (rd_T50 y309 (ji31)).f0.f3, (rd_T50 y309 (ji31)).f0.f4⟩ : S48), (rd_T50 y309 (ji31)).f1⟩ : S50))).bind fun t319 => (if (t300.extract 0 ((ji25) : Int).toNat).size + t319.size ≤ 9223372036854775807 then ((codec_Parse.f ((t300.extract 0 ((ji25) : Int).toNat) ++ t319)).bind fun bt320 => (if t312 = 5 then (if bt320.2 = 0 then ((law09_Ours.f kj15 bt320.1).bind fun t324 => ((ref09_Same.f kj15 t324 l0).bind fun t327 => (some t327))) else (none)) else (none))) else (none))) = some r := RFn.rp H hy317
                have Ny317 := Aside0.mk hy317
                clear hy317
                obtain ⟨y318, hy318⟩ : ∃ y_ : List (S50), y_ = (y317.set ((ji28) : Int).toNat (⟨(⟨(rd_T50 y309 (ji31)).f0.f0, (rd_T50 y309 (ji31)).f0.f1, (rd_T50 y309 (ji31)).f0.f2, (rd_T50 y309 (ji31)).f0.f3, (rd_T50 y309 (ji31)).f0.f4⟩ : S48), (rd_T50 y309 (ji31)).f1⟩ : S50)) := ⟨_, rfl⟩
                replace H : ((law10_body.f kj15 y318).bind fun t319 => (if (t300.extract 0 ((ji25) : Int).toNat).size + t319.size ≤ 9223372036854775807 then ((codec_Parse.f ((t300.extract 0 ((ji25) : Int).toNat) ++ t319)).bind fun bt320 => (if t312 = 5 then (if bt320.2 = 0 then ((law09_Ours.f kj15 bt320.1).bind fun t324 => ((ref09_Same.f kj15 t324 l0).bind fun t327 => (some t327))) else (none)) else (none))) else (none))) = some r := RFn.rp H hy318
                have Ny318 := Aside0.mk hy318
                clear hy318
                obtain ⟨t319, A41, H⟩ := RFn.bn H
                by_cases c42 : (t300.extract 0 ((ji25) : Int).toNat).size + t319.size ≤ 9223372036854775807
                ·rw [if_pos c42] at H
                 have c42b0 := eq_true c42
                 have c42b1 : decide ((t300.extract 0 ((ji25) : Int).toNat).size + t319.size ≤ 9223372036854775807) = true := decide_eq_true c42
                 have c42w : (9223372036854775807 < ji25.toNat + t319.size) = False := by have h1 : (ji25) ≤ (t300.size : Int) := RFn.od; have h2 := of_decide_eq_true c42b1; rw [ByteArray.size_extract] at h2; exact eq_false (by omega)
                 try have c42b2 : (9223372036854775807 < (t300.extract 0 ((ji25) : Int).toNat).size + t319.size) = False := eq_false (Nat.not_lt.2 c42)
                 obtain ⟨⟨t320, t321⟩, A43, H⟩ := RFn.bn H
                 by_cases c44 : t312 = 5
                 ·rw [if_pos c44] at H
                  have c44b0 : (t312 == 5) = true := beq_iff_eq.mpr c44
                  have c44b1 : (t312 != 5) = false := bne_eq_false_iff_eq.mpr c44
                  clear c44
                  by_cases c45 : t321 = 0
                  ·rw [if_pos c45] at H
                   have c45b0 : (t321 == 0) = true := beq_iff_eq.mpr c45
                   have c45b1 : (t321 != 0) = false := bne_eq_false_iff_eq.mpr c45
                   clear c45
                   obtain ⟨t324, A46, H⟩ := RFn.bn H
                   obtain ⟨t327, A47, H⟩ := RFn.bn H
                   obtain rfl := Option.some.inj H
                   try go_wp2_with (first | ((with_reducible refine gate_callee (f := 11) rfl ?_); refine RFn.goesM (some 51) Tryz.func11 #[.slice A0 l0.length c0] rfl ?_; (with_reducible refine (law09_Theirs.calls kj15 _ _ l0 t302 _ ?side1 ?side2 A23.out).mono ?_); (case side1 => exact RFn.mC (Kd.C_below HR0.out HB.out)); (case side2 => exact HC0.out); rintro e w48 ⟨v303, rfl, ho0, hb⟩; refine ⟨_, rfl, ?_⟩; have n0_ := Aside0.mk (Kd.R_lower ho0 (below_size (RFn.bel))); have n1_ := Aside0.mk (below_step (RFn.bel) hb); clear HB; have HO304 := n0_; have HB := n1_; clear n0_ n1_; (try clear hb); (try clear ho0); obtain ⟨Ao49, co49, eo49⟩ := Kd.R_slice HO304.out; subst eo49) | ((with_reducible refine gate_callee (f := 18) rfl ?_); refine RFn.goesM (some 56) Tryz.func18 #[.slice Ao49 t302.length co49] rfl ?_; (with_reducible refine (law10_body.calls kj15 _ _ t302 t305 _ ?side1 ?side2 A24.out (Go.Proofs.YtjbdkdmoacdbpaaGreatDoor.X.LaidW.below hLd_ (by repeat (first | (with_reducible first | exact HB.out | apply below_alloc | apply pw_below_drewN | apply below_drew1 | refine below_set ?_ GB34.out | refine Go.Proofs.YtjbdkdmoacdbpaaGreatDoor.RSt.belowS ?_ GB34.out) | exact HB.out)))).mono ?_); (case side1 => exact RFn.mC (Kd.R_reads' HO304.out).2.2); (case side2 => exact (Kd.R_reads' HO304.out).2.1); rintro e w50 ⟨rfl, hb⟩; refine ⟨_, rfl, ?_⟩; have n0_ := Aside0.mk (Kd.R_below (RFn.mR HO304) hb); have n1_ := Aside0.mk (below_step (RFn.bel) hb); clear HO304; clear HB; have HO304 := n0_; have HB := n1_; clear n0_ n1_; (try clear hb)))
                   have n0_ := Aside0.mk (Kd.R_drew HO304.out)
                   have n1_ := Aside0.mk (below_drew1 HB.out)
                   clear HO304
                   clear HB
                   have HO304 := n0_
                   have HB := n1_
                   clear n0_ n1_
                   have p306 : 0 ≤ ((ji28) : Int) := RFn.od
                   have q306 : (ji28) < (t302.length : Int) := RFn.od
                   obtain ⟨ad306, e306, hx306_0, hx306_1, hx306_2, hx306_3, hx306_4, hx306_5⟩ := at_T50 (Kd.R_reads' HO304.out).2.2 (ji28) p306 q306
                   cases e306
                   replace p306 := eq_true p306
                   replace q306 := eq_true q306
                   have p307 : 0 ≤ ((ji31) : Int) := RFn.od
                   have q307 : (ji31) < (t302.length : Int) := RFn.od
                   obtain ⟨ad307, e307, hx307_0, hx307_1, hx307_2, hx307_3, hx307_4, hx307_5⟩ := at_T50 (Kd.R_reads' HO304.out).2.2 (ji31) p307 q307
                   obtain rfl : ad306 = ad307 := (by injection e307)
                   replace p307 := eq_true p307
                   replace q307 := eq_true q307
                   have p34 : 0 ≤ ((ji31) : Int) := RFn.od
                   have q34 : ((ji31) : Int) < ((t302.length : Int) : Int) := RFn.od
                   obtain ⟨go34, co34, eo34, gb34, gl34, cl34, HG34⟩ := Go.Proofs.YtjbdkdmoacdbpaaGreatDoor.RSt.R_form HO304.out (by omega)
                   (first | cases eo34 | (injection eo34 with ea_ en_ ec_; (first | subst ea_ | (injection ea_ with ea_; subst ea_)); subst ec_; clear en_))
                   have GB34 := Aside0.mk gb34
                   have GG34 := Aside0.mk HG34
                   clear gb34 gl34 HG34
                   (first | simp only [add_plain] at hx306_0 | skip)
                   (first | simp only [add_plain] at hx306_1 | skip)
                   (first | simp only [add_plain] at hx306_2 | skip)
                   (first | simp only [add_plain] at hx306_3 | skip)
                   (first | simp only [add_plain] at hx306_4 | skip)
                   (first | simp only [add_plain] at hx306_5 | skip)
                   (first | simp only [add_plain] at hx307_0 | skip)
                   (first | simp only [add_plain] at hx307_1 | skip)
                   (first | simp only [add_plain] at hx307_2 | skip)
                   (first | simp only [add_plain] at hx307_3 | skip)
                   (first | simp only [add_plain] at hx307_4 | skip)
                   (first | simp only [add_plain] at hx307_5 | skip)
                   obtain ⟨ce34, hcl34, hM34, hcc34, hfr34⟩ := Kd.R_elem HO304.out z50 ((ji31) : Int) p34 q34
                   obtain rfl := k50_openM hM34
                   have hx34_0 : World.cell? _ ⟨go34, ((ji31) : Int).toNat * 6, none⟩ = some (.string ((rd_T50 t302 (ji31)).f0.f0)) := hcc34 0 _ rfl
                   have hx34_1 : World.cell? _ ⟨go34, ((ji31) : Int).toNat * 6 + 1, none⟩ = some (.string ((rd_T50 t302 (ji31)).f0.f1)) := hcc34 1 _ rfl
                   have hx34_2 : World.cell? _ ⟨go34, ((ji31) : Int).toNat * 6 + 2, none⟩ = some (.string ((rd_T50 t302 (ji31)).f0.f2)) := hcc34 2 _ rfl
                   have hx34_3 : World.cell? _ ⟨go34, ((ji31) : Int).toNat * 6 + 3, none⟩ = some (.string ((rd_T50 t302 (ji31)).f0.f3)) := hcc34 3 _ rfl
                   have hx34_4 : World.cell? _ ⟨go34, ((ji31) : Int).toNat * 6 + 4, none⟩ = some (.int .i64 ((rd_T50 t302 (ji31)).f0.f4)) := hcc34 4 _ rfl
                   have hx34_5 : World.cell? _ ⟨go34, ((ji31) : Int).toNat * 6 + 5, none⟩ = some (.int .i64 ((rd_T50 t302 (ji31)).f1)) := hcc34 5 _ rfl
                   have hf34_0 : World.frozen? _ ⟨go34, ((ji31) : Int).toNat * 6, none⟩ = false := hfr34 0
                   have hf34_1 : World.frozen? _ ⟨go34, ((ji31) : Int).toNat * 6 + 1, none⟩ = false := hfr34 1
                   have hf34_2 : World.frozen? _ ⟨go34, ((ji31) : Int).toNat * 6 + 2, none⟩ = false := hfr34 2
                   have hf34_3 : World.frozen? _ ⟨go34, ((ji31) : Int).toNat * 6 + 3, none⟩ = false := hfr34 3
                   have hf34_4 : World.frozen? _ ⟨go34, ((ji31) : Int).toNat * 6 + 4, none⟩ = false := hfr34 4
                   have hf34_5 : World.frozen? _ ⟨go34, ((ji31) : Int).toNat * 6 + 5, none⟩ = false := hfr34 5
                   clear hcl34 hcc34 hfr34 hM34
                   replace p34 := eq_true p34
                   replace q34 := eq_true q34
                   obtain ⟨ce52, hcl52, hM52, hcc52, hfr52⟩ := Kd.R_elem HO304.out z50 ((ji31) : Int) (RFn.od) (by have h_ : ((ji31) : Int) < ((t302.length : Int) : Int) := RFn.od; first | exact h_ | (have e_ := (Kd.R_reads' HO304.out).1; omega) | simpa using h_)
                   obtain rfl := k50_openM hM52
                   have HP52 := (Kd.R_seg HO304.out ((ji31) : Int) (RFn.od) (by have h_ : ((ji31) : Int) < ((t302.length : Int) : Int) := RFn.od; first | exact h_ | (have e_ := (Kd.R_reads' HO304.out).1; omega) | simpa using h_) (seg := [.string ((rd_T50 t302 (ji28)).f0.f0), .string ((rd_T50 t302 (ji28)).f0.f1), .string ((rd_T50 t302 (ji28)).f0.f2), .string ((rd_T50 t302 (ji28)).f0.f3), .int .i64 ((rd_T50 t302 (ji28)).f0.f4), .int .i64 ((rd_T50 t302 (ji28)).f1)]) (j := 0) hcl52 hcc52 (show 6 ≤ 6 from by decide) (x' := (⟨(⟨(rd_T50 t302 (ji28)).f0.f0, (rd_T50 t302 (ji28)).f0.f1, (rd_T50 t302 (ji28)).f0.f2, (rd_T50 t302 (ji28)).f0.f3, (rd_T50 t302 (ji28)).f0.f4⟩ : S48), (rd_T50 t302 (ji28)).f1⟩ : S50)) (k50_mkM _ _ _ (⟨(⟨(rd_T50 t302 (ji28)).f0.f0, (rd_T50 t302 (ji28)).f0.f1, (rd_T50 t302 (ji28)).f0.f2, (rd_T50 t302 (ji28)).f0.f3, (rd_T50 t302 (ji28)).f0.f4⟩ : S48), (rd_T50 t302 (ji28)).f1⟩ : S50) ) (fun _ hk => hk)).1
                   rw [← Ny308.out] at HP52
                   have HQ52 := Aside0.mk HP52
                   clear hcl52 hcc52 hfr52 hM52 HP52
                   have p35 : 0 ≤ ((ji28) : Int) := RFn.od
                   have q35 : ((ji28) : Int) < ((t302.length : Int) : Int) := RFn.od
                   obtain ⟨ce35, hcl35, hM35, hcc35, hfr35⟩ := Kd.R_elem HQ52.out z50 ((ji28) : Int) p35 q35
                   obtain rfl := k50_openM hM35
                   have hx35_0 : World.cell? _ ⟨go34, ((ji28) : Int).toNat * 6, none⟩ = some (.string ((rd_T50 y308 (ji28)).f0.f0)) := hcc35 0 _ rfl
                   have hx35_1 : World.cell? _ ⟨go34, ((ji28) : Int).toNat * 6 + 1, none⟩ = some (.string ((rd_T50 y308 (ji28)).f0.f1)) := hcc35 1 _ rfl
                   have hx35_2 : World.cell? _ ⟨go34, ((ji28) : Int).toNat * 6 + 2, none⟩ = some (.string ((rd_T50 y308 (ji28)).f0.f2)) := hcc35 2 _ rfl
                   have hx35_3 : World.cell? _ ⟨go34, ((ji28) : Int).toNat * 6 + 3, none⟩ = some (.string ((rd_T50 y308 (ji28)).f0.f3)) := hcc35 3 _ rfl
                   have hx35_4 : World.cell? _ ⟨go34, ((ji28) : Int).toNat * 6 + 4, none⟩ = some (.int .i64 ((rd_T50 y308 (ji28)).f0.f4)) := hcc35 4 _ rfl
                   have hx35_5 : World.cell? _ ⟨go34, ((ji28) : Int).toNat * 6 + 5, none⟩ = some (.int .i64 ((rd_T50 y308 (ji28)).f1)) := hcc35 5 _ rfl
                   have hf35_0 : World.frozen? _ ⟨go34, ((ji28) : Int).toNat * 6, none⟩ = false := hfr35 0
                   have hf35_1 : World.frozen? _ ⟨go34, ((ji28) : Int).toNat * 6 + 1, none⟩ = false := hfr35 1
                   have hf35_2 : World.frozen? _ ⟨go34, ((ji28) : Int).toNat * 6 + 2, none⟩ = false := hfr35 2
                   have hf35_3 : World.frozen? _ ⟨go34, ((ji28) : Int).toNat * 6 + 3, none⟩ = false := hfr35 3
                   have hf35_4 : World.frozen? _ ⟨go34, ((ji28) : Int).toNat * 6 + 4, none⟩ = false := hfr35 4
                   have hf35_5 : World.frozen? _ ⟨go34, ((ji28) : Int).toNat * 6 + 5, none⟩ = false := hfr35 5
                   clear hcl35 hcc35 hfr35 hM35
                   replace p35 := eq_true p35
                   replace q35 := eq_true q35
                   obtain ⟨ce53, hcl53, hM53, hcc53, hfr53⟩ := Kd.R_elem HQ52.out z50 ((ji28) : Int) (RFn.od) (by have h_ : ((ji28) : Int) < ((t302.length : Int) : Int) := RFn.od; first | exact h_ | (have e_ := (Kd.R_reads' HO304.out).1; omega) | simpa using h_)
                   obtain rfl := k50_openM hM53
                   have HP53 := (Kd.R_seg HQ52.out ((ji28) : Int) (RFn.od) (by have h_ : ((ji28) : Int) < ((t302.length : Int) : Int) := RFn.od; first | exact h_ | (have e_ := (Kd.R_reads' HO304.out).1; omega) | simpa using h_) (seg := [.string ((rd_T50 t302 (ji31)).f0.f0), .string ((rd_T50 t302 (ji31)).f0.f1), .string ((rd_T50 t302 (ji31)).f0.f2), .string ((rd_T50 t302 (ji31)).f0.f3), .int .i64 ((rd_T50 t302 (ji31)).f0.f4), .int .i64 ((rd_T50 t302 (ji31)).f1)]) (j := 0) hcl53 hcc53 (show 6 ≤ 6 from by decide) (x' := (⟨(⟨(rd_T50 t302 (ji31)).f0.f0, (rd_T50 t302 (ji31)).f0.f1, (rd_T50 t302 (ji31)).f0.f2, (rd_T50 t302 (ji31)).f0.f3, (rd_T50 t302 (ji31)).f0.f4⟩ : S48), (rd_T50 t302 (ji31)).f1⟩ : S50)) (k50_mkM _ _ _ (⟨(⟨(rd_T50 t302 (ji31)).f0.f0, (rd_T50 t302 (ji31)).f0.f1, (rd_T50 t302 (ji31)).f0.f2, (rd_T50 t302 (ji31)).f0.f3, (rd_T50 t302 (ji31)).f0.f4⟩ : S48), (rd_T50 t302 (ji31)).f1⟩ : S50) ) (fun _ hk => hk)).1
                   rw [← Ny309.out] at HP53
                   have HQ53 := Aside0.mk HP53
                   clear hcl53 hcc53 hfr53 hM53 HP53
                   refine start_ (n := 16) (S := fun w' => w'.cell? ⟨go34, (((ji28)).toNat * 6), none⟩ = some (.string ((rd_T50 t302 (ji28)).f0.f0)) ∧ w'.cell? ⟨go34, (((ji28)).toNat * 6) + 1, none⟩ = some (.string ((rd_T50 t302 (ji28)).f0.f1)) ∧ w'.cell? ⟨go34, (((ji28)).toNat * 6) + 2, none⟩ = some (.string ((rd_T50 t302 (ji28)).f0.f2)) ∧ w'.cell? ⟨go34, (((ji28)).toNat * 6) + 3, none⟩ = some (.string ((rd_T50 t302 (ji28)).f0.f3)) ∧ w'.cell? ⟨go34, (((ji28)).toNat * 6) + 4, none⟩ = some (.int .i64 ((rd_T50 t302 (ji28)).f0.f4)) ∧ w'.cell? ⟨go34, (((ji28)).toNat * 6) + 5, none⟩ = some (.int .i64 ((rd_T50 t302 (ji28)).f1)) ∧ w'.cell? ⟨go34, (((ji31)).toNat * 6), none⟩ = some (.string ((rd_T50 t302 (ji31)).f0.f0)) ∧ w'.cell? ⟨go34, (((ji31)).toNat * 6) + 1, none⟩ = some (.string ((rd_T50 t302 (ji31)).f0.f1)) ∧ w'.cell? ⟨go34, (((ji31)).toNat * 6) + 2, none⟩ = some (.string ((rd_T50 t302 (ji31)).f0.f2)) ∧ w'.cell? ⟨go34, (((ji31)).toNat * 6) + 3, none⟩ = some (.string ((rd_T50 t302 (ji31)).f0.f3)) ∧ w'.cell? ⟨go34, (((ji31)).toNat * 6) + 4, none⟩ = some (.int .i64 ((rd_T50 t302 (ji31)).f0.f4)) ∧ w'.cell? ⟨go34, (((ji31)).toNat * 6) + 5, none⟩ = some (.int .i64 ((rd_T50 t302 (ji31)).f1))) (ds := [13, 15]) (bz 16 0) (by kernel_rfl) rfl rfl ⟨hx306_0, hx306_1, hx306_2, hx306_3, hx306_4, hx306_5, hx307_0, hx307_1, hx307_2, hx307_3, hx307_4, hx307_5⟩ (fun hHeld => ?_); refine with_tabW law10_CodecSwaps.tab11 law10_CodecSwaps.bits11 (fun HT_ HW_ => ?_)
                   generalize w50.drew = w51 at HO304 HB GG34 HQ52 HQ53 hf34_0 hf34_1 hf34_2 hf34_3 hf34_4 hf34_5 hf35_0 hf35_1 hf35_2 hf35_3 hf35_4 hf35_5 hx306_0 hx306_1 hx306_2 hx306_3 hx306_4 hx306_5 hx307_0 hx307_1 hx307_2 hx307_3 hx307_4 hx307_5 hx34_0 hx34_1 hx34_2 hx34_3 hx34_4 hx34_5 hx35_0 hx35_1 hx35_2 hx35_3 hx35_4 hx35_5 hHeld ⊢
                   refine RFn.pA (i := 0) (N := some 60) (bz 16 1) HT_ ?_
                   refine RFn.pA (i := 1) (N := some 61) (bz 16 3) HT_ ?_
                   refine RFn.pA (i := 2) (N := some 62) (bz 16 7) HT_ ?_
                   refine RFn.pA (i := 3) (N := some 63) (bz 16 15) HT_ ?_
                   refine RFn.pA (i := 4) (N := some 64) (bz 16 31) HT_ ?_
                   refine RFn.pA (i := 5) (N := some 65) (bz 16 63) HT_ ?_
                   refine RFn.pA (i := 6) (N := some 66) (bz 16 127) HT_ ?_
                   refine RFn.pA (i := 8) (N := some 68) (bz 16 383) HT_ ?_
                   refine RFn.pA (i := 9) (N := some 69) (bz 16 895) HT_ ?_
                   refine RFn.pA (i := 10) (N := some 70) (bz 16 1919) HT_ ?_
                   refine RFn.tA (i := 7) (N := some 67) (bz 16 2047) rfl HT_ HW_ hHeld (by rintro w' ⟨s0, s1, s2, s3, s4, s5, s6, s7, s8, s9, s10, s11⟩; go_simp; with_reducible rfl) ?_
                   refine RFn.tA (i := 11) (N := some 71) (bz 16 4095) rfl HT_ HW_ hHeld (by rintro w' ⟨s0, s1, s2, s3, s4, s5, s6, s7, s8, s9, s10, s11⟩; go_simp; with_reducible rfl) ?_
                   refine RFn.pA (i := 12) (N := some 72) (bz 16 8191) HT_ ?_
                   refine Go.Proofs.YtjbdkdmoacdbpaaGreatDoor.RSt.lastS_ (i := 13) (b := go34) (o := ((ji31) : Int).toNat * k50.sz + 0) (vs := [.string ((rd_T50 t302 (ji28)).f0.f0), .string ((rd_T50 t302 (ji28)).f0.f1), .string ((rd_T50 t302 (ji28)).f0.f2), .string ((rd_T50 t302 (ji28)).f0.f3), .int .i64 ((rd_T50 t302 (ji28)).f0.f4), .int .i64 ((rd_T50 t302 (ji28)).f1)]) (bz 16 16383) rfl rfl (one_of HT_.out (by kernel_rfl)) (by decide) (by rfl) rfl (by first | rfl | (go_simp; rfl)) (by first | rfl | (go_simp; rfl)) (by rfl) info50 (by rfl) (Go.Proofs.YtjbdkdmoacdbpaaGreatDoor.RSt.R_in HO304.out z50 ((ji31) : Int) (of_eq_true p34) (of_eq_true q34) 0) (by rfl) ?_
                   refine RFn.pA (i := 14) (N := some 73) (bz 16 32767) HT_ ?_
                   refine Go.Proofs.YtjbdkdmoacdbpaaGreatDoor.RSt.lastS_ (i := 15) (b := go34) (o := ((ji28) : Int).toNat * k50.sz + 0) (vs := [.string ((rd_T50 t302 (ji31)).f0.f0), .string ((rd_T50 t302 (ji31)).f0.f1), .string ((rd_T50 t302 (ji31)).f0.f2), .string ((rd_T50 t302 (ji31)).f0.f3), .int .i64 ((rd_T50 t302 (ji31)).f0.f4), .int .i64 ((rd_T50 t302 (ji31)).f1)]) (bz 16 65535) rfl rfl (one_of HT_.out (by kernel_rfl)) (by decide) (by rfl) rfl (by first | rfl | (go_simp; rfl)) (by first | rfl | (go_simp; rfl)) (by rfl) info50 (by rfl) (Go.Proofs.YtjbdkdmoacdbpaaGreatDoor.RSt.R_in HQ52.out z50 ((ji28) : Int) (of_eq_true p35) (of_eq_true q35) 0) (by rfl) ?_
                   refine RFn.dn HT_ ?_
                   have nB_ : Aside0 (Below w.heap.size w ((w51.setCells go34 (((ji31) : Int).toNat * k50.sz + 0) [.string ((rd_T50 t302 (ji28)).f0.f0), .string ((rd_T50 t302 (ji28)).f0.f1), .string ((rd_T50 t302 (ji28)).f0.f2), .string ((rd_T50 t302 (ji28)).f0.f3), .int .i64 ((rd_T50 t302 (ji28)).f0.f4), .int .i64 ((rd_T50 t302 (ji28)).f1)]).setCells go34 (((ji28) : Int).toNat * k50.sz + 0) [.string ((rd_T50 t302 (ji31)).f0.f0), .string ((rd_T50 t302 (ji31)).f0.f1), .string ((rd_T50 t302 (ji31)).f0.f2), .string ((rd_T50 t302 (ji31)).f0.f3), .int .i64 ((rd_T50 t302 (ji31)).f0.f4), .int .i64 ((rd_T50 t302 (ji31)).f1)])) := ⟨Go.Proofs.YtjbdkdmoacdbpaaGreatDoor.RSt.belowS (Go.Proofs.YtjbdkdmoacdbpaaGreatDoor.RSt.belowS HB.out GB34.out) GB34.out⟩
                   generalize ((w51.setCells go34 (((ji31) : Int).toNat * k50.sz + 0) [.string ((rd_T50 t302 (ji28)).f0.f0), .string ((rd_T50 t302 (ji28)).f0.f1), .string ((rd_T50 t302 (ji28)).f0.f2), .string ((rd_T50 t302 (ji28)).f0.f3), .int .i64 ((rd_T50 t302 (ji28)).f0.f4), .int .i64 ((rd_T50 t302 (ji28)).f1)]).setCells go34 (((ji28) : Int).toNat * k50.sz + 0) [.string ((rd_T50 t302 (ji31)).f0.f0), .string ((rd_T50 t302 (ji31)).f0.f1), .string ((rd_T50 t302 (ji31)).f0.f2), .string ((rd_T50 t302 (ji31)).f0.f3), .int .i64 ((rd_T50 t302 (ji31)).f0.f4), .int .i64 ((rd_T50 t302 (ji31)).f1)]) = w51b at nB_ HQ53 ⊢
                   clear HB
                   have HB := nB_
                   clear nB_
                   try go_wp2_with (first | ((with_reducible refine gate_callee (f := 18) rfl ?_); refine goesL_ (some 77) rfl rfl Tryz.func18 (by kernel_rfl) rfl #[.slice (some ⟨go34, 0, none⟩) y309.length co49] rfl (by (try simp only [List.map_toArray, List.map_cons, List.map_nil]); first | done | (rw [show y309.length = t302.length from (Kd.R_reads' HQ53.out).1.symm] <;> rfl) | rfl | (simp only [List.length_drop, List.length_take]; rfl)) ?_; (with_reducible refine (law10_body.calls kj15 _ _ y309 t310 _ ?side1 ?side2 A36.out (Go.Proofs.YtjbdkdmoacdbpaaGreatDoor.X.LaidW.below hLd_ (by repeat (first | (with_reducible first | exact HB.out | apply below_alloc | apply pw_below_drewN | apply below_drew1 | refine below_set ?_ GB34.out | refine Go.Proofs.YtjbdkdmoacdbpaaGreatDoor.RSt.belowS ?_ GB34.out) | exact HB.out)))).mono ?_); (case side1 => refine (Kd.R_reads' (e := 50) (base := w.heap.size) (ok := fun k_ => True) (n := t302.length) (c := co49) ?_).2.2; exact (RFn.mR HQ53)); (case side2 => rw [show y309.length = t302.length from (Kd.R_reads' HQ53.out).1.symm]; exact (Kd.R_reads' HO304.out).2.1); rintro e w54 ⟨rfl, hb⟩; refine ⟨_, rfl, ?_⟩; have n0_ := Aside0.mk (Kd.R_below (RFn.mR HQ53) hb); have n1_ := Aside0.mk (below_step (by repeat (first | (with_reducible first | exact HB.out | apply below_alloc | apply pw_below_drewN | apply below_drew1 | refine below_set ?_ GB34.out | refine Go.Proofs.YtjbdkdmoacdbpaaGreatDoor.RSt.belowS ?_ GB34.out) | exact HB.out)) hb); clear HO304; clear HB; have HO304 := n0_; have HB := n1_; clear n0_ n1_; (try clear hb)) | ((with_reducible refine gate_callee (f := 13) rfl ?_); refine goesL_ (some 79) rfl rfl Tryz.func13 (by kernel_rfl) rfl #[.string ((t300.extract 0 ((ji25) : Int).toNat) ++ t310)] rfl (by (try simp only [List.map_toArray, List.map_cons, List.map_nil]); first | done | (simp only [hji25]; rfl) | rfl | (simp only [List.length_drop, List.length_take]; rfl)) ?_; (with_reducible refine (codec_Parse.calls ((t300.extract 0 ((ji25) : Int).toNat) ++ t310) t311 t312 _ A38.out (Go.Proofs.YtjbdkdmoacdbpaaGreatDoor.X.LaidW.below hLd_ (by repeat (first | (with_reducible first | exact HB.out | apply below_alloc | apply pw_below_drewN | apply below_drew1 | refine below_set ?_ GB34.out | refine Go.Proofs.YtjbdkdmoacdbpaaGreatDoor.RSt.belowS ?_ GB34.out) | exact HB.out)))).mono ?_); rintro e w55 ⟨v313, rfl, ho0, hb⟩; refine ⟨_, rfl, ?_⟩; have n0_ := Aside0.mk (Kd.R_elder' (RFn.mR HO304) (Kd.R_base ho0) hb); have n1_ := Aside0.mk (Kd.R_lower (Kd.R_new' ho0 (Kd.R_lt (RFn.mR HO304))) (below_size (RFn.bel))); have n2_ := Aside0.mk (below_step (RFn.bel) hb); clear HO304; clear HB; have HO304 := n0_; have HO314 := n1_; have HB := n2_; clear n0_ n1_ n2_; (try clear hb); (try clear ho0)))
                   have n0_ := Aside0.mk (Kd.R_drew HO304.out)
                   have n1_ := Aside0.mk (Kd.R_drew HO314.out)
                   have n2_ := Aside0.mk (below_drew1 HB.out)
                   clear HO304
                   clear HO314
                   clear HB
                   have HO304 := n0_
                   have HO314 := n1_
                   have HB := n2_
                   clear n0_ n1_ n2_
                   have p315 : 0 ≤ ((ji28) : Int) := RFn.od
                   have q315 : (ji28) < (y309.length : Int) := (by have h_ : ((ji28) : Int) < ((t302.length : Int) : Int) := RFn.od; first | (have e_ := (Kd.R_reads' HO304.out).1; omega) | simpa only [Ny308.out, Ny309.out, List.length_set] using h_)
                   have ql315 : (((ji28) : Int) < ((t302.length : Int) : Int)) = True := eq_true (RFn.od)
                   obtain ⟨ad315, e315, hx315_0, hx315_1, hx315_2, hx315_3, hx315_4, hx315_5⟩ := at_T50 (Kd.R_reads' HO304.out).2.2 (ji28) p315 q315
                   obtain rfl : (⟨go34, 0, none⟩ : Addr) = ad315 := (by injection e315)
                   (first | simp only [add_plain] at hx315_0 | simp only [add_at] at hx315_0 | simp only [Addr.add, Nat.zero_add] at hx315_0 | skip)
                   (first | simp only [add_plain] at hx315_1 | simp only [add_at] at hx315_1 | simp only [Addr.add, Nat.zero_add] at hx315_1 | skip)
                   (first | simp only [add_plain] at hx315_2 | simp only [add_at] at hx315_2 | simp only [Addr.add, Nat.zero_add] at hx315_2 | skip)
                   (first | simp only [add_plain] at hx315_3 | simp only [add_at] at hx315_3 | simp only [Addr.add, Nat.zero_add] at hx315_3 | skip)
                   (first | simp only [add_plain] at hx315_4 | simp only [add_at] at hx315_4 | simp only [Addr.add, Nat.zero_add] at hx315_4 | skip)
                   (first | simp only [add_plain] at hx315_5 | simp only [add_at] at hx315_5 | simp only [Addr.add, Nat.zero_add] at hx315_5 | skip)
                   replace p315 := eq_true p315
                   replace q315 := eq_true q315
                   have p316 : 0 ≤ ((ji31) : Int) := RFn.od
                   have q316 : (ji31) < (y309.length : Int) := (by have h_ : ((ji31) : Int) < ((t302.length : Int) : Int) := RFn.od; first | (have e_ := (Kd.R_reads' HO304.out).1; omega) | simpa only [Ny308.out, Ny309.out, List.length_set] using h_)
                   have ql316 : (((ji31) : Int) < ((t302.length : Int) : Int)) = True := eq_true (RFn.od)
                   obtain ⟨ad316, e316, hx316_0, hx316_1, hx316_2, hx316_3, hx316_4, hx316_5⟩ := at_T50 (Kd.R_reads' HO304.out).2.2 (ji31) p316 q316
                   obtain rfl : (⟨go34, 0, none⟩ : Addr) = ad316 := (by injection e316)
                   (first | simp only [add_plain] at hx316_0 | simp only [add_at] at hx316_0 | simp only [Addr.add, Nat.zero_add] at hx316_0 | skip)
                   (first | simp only [add_plain] at hx316_1 | simp only [add_at] at hx316_1 | simp only [Addr.add, Nat.zero_add] at hx316_1 | skip)
                   (first | simp only [add_plain] at hx316_2 | simp only [add_at] at hx316_2 | simp only [Addr.add, Nat.zero_add] at hx316_2 | skip)
                   (first | simp only [add_plain] at hx316_3 | simp only [add_at] at hx316_3 | simp only [Addr.add, Nat.zero_add] at hx316_3 | skip)
                   (first | simp only [add_plain] at hx316_4 | simp only [add_at] at hx316_4 | simp only [Addr.add, Nat.zero_add] at hx316_4 | skip)
                   (first | simp only [add_plain] at hx316_5 | simp only [add_at] at hx316_5 | simp only [Addr.add, Nat.zero_add] at hx316_5 | skip)
                   replace p316 := eq_true p316
                   replace q316 := eq_true q316
                   have p39 : 0 ≤ ((ji31) : Int) := RFn.od
                   have q39 : ((ji31) : Int) < ((t302.length : Int) : Int) := RFn.od
                   obtain ⟨ce39, hcl39, hM39, hcc39, hfr39⟩ := Kd.R_elem HO304.out z50 ((ji31) : Int) p39 q39
                   obtain rfl := k50_openM hM39
                   have hx39_0 : World.cell? _ ⟨go34, ((ji31) : Int).toNat * 6, none⟩ = some (.string ((rd_T50 y309 (ji31)).f0.f0)) := hcc39 0 _ rfl
                   have hx39_1 : World.cell? _ ⟨go34, ((ji31) : Int).toNat * 6 + 1, none⟩ = some (.string ((rd_T50 y309 (ji31)).f0.f1)) := hcc39 1 _ rfl
                   have hx39_2 : World.cell? _ ⟨go34, ((ji31) : Int).toNat * 6 + 2, none⟩ = some (.string ((rd_T50 y309 (ji31)).f0.f2)) := hcc39 2 _ rfl
                   have hx39_3 : World.cell? _ ⟨go34, ((ji31) : Int).toNat * 6 + 3, none⟩ = some (.string ((rd_T50 y309 (ji31)).f0.f3)) := hcc39 3 _ rfl
                   have hx39_4 : World.cell? _ ⟨go34, ((ji31) : Int).toNat * 6 + 4, none⟩ = some (.int .i64 ((rd_T50 y309 (ji31)).f0.f4)) := hcc39 4 _ rfl
                   have hx39_5 : World.cell? _ ⟨go34, ((ji31) : Int).toNat * 6 + 5, none⟩ = some (.int .i64 ((rd_T50 y309 (ji31)).f1)) := hcc39 5 _ rfl
                   have hf39_0 : World.frozen? _ ⟨go34, ((ji31) : Int).toNat * 6, none⟩ = false := hfr39 0
                   have hf39_1 : World.frozen? _ ⟨go34, ((ji31) : Int).toNat * 6 + 1, none⟩ = false := hfr39 1
                   have hf39_2 : World.frozen? _ ⟨go34, ((ji31) : Int).toNat * 6 + 2, none⟩ = false := hfr39 2
                   have hf39_3 : World.frozen? _ ⟨go34, ((ji31) : Int).toNat * 6 + 3, none⟩ = false := hfr39 3
                   have hf39_4 : World.frozen? _ ⟨go34, ((ji31) : Int).toNat * 6 + 4, none⟩ = false := hfr39 4
                   have hf39_5 : World.frozen? _ ⟨go34, ((ji31) : Int).toNat * 6 + 5, none⟩ = false := hfr39 5
                   clear hcl39 hcc39 hfr39 hM39
                   replace p39 := eq_true p39
                   replace q39 := eq_true q39
                   obtain ⟨ce57, hcl57, hM57, hcc57, hfr57⟩ := Kd.R_elem HO304.out z50 ((ji31) : Int) (RFn.od) (by have h_ : ((ji31) : Int) < ((t302.length : Int) : Int) := RFn.od; first | exact h_ | (have e_ := (Kd.R_reads' HO304.out).1; omega) | simpa using h_)
                   obtain rfl := k50_openM hM57
                   have HP57 := (Kd.R_seg HO304.out ((ji31) : Int) (RFn.od) (by have h_ : ((ji31) : Int) < ((t302.length : Int) : Int) := RFn.od; first | exact h_ | (have e_ := (Kd.R_reads' HO304.out).1; omega) | simpa using h_) (seg := [.string ((rd_T50 y309 (ji28)).f0.f0), .string ((rd_T50 y309 (ji28)).f0.f1), .string ((rd_T50 y309 (ji28)).f0.f2), .string ((rd_T50 y309 (ji28)).f0.f3), .int .i64 ((rd_T50 y309 (ji28)).f0.f4), .int .i64 ((rd_T50 y309 (ji28)).f1)]) (j := 0) hcl57 hcc57 (show 6 ≤ 6 from by decide) (x' := (⟨(⟨(rd_T50 y309 (ji28)).f0.f0, (rd_T50 y309 (ji28)).f0.f1, (rd_T50 y309 (ji28)).f0.f2, (rd_T50 y309 (ji28)).f0.f3, (rd_T50 y309 (ji28)).f0.f4⟩ : S48), (rd_T50 y309 (ji28)).f1⟩ : S50)) (k50_mkM _ _ _ (⟨(⟨(rd_T50 y309 (ji28)).f0.f0, (rd_T50 y309 (ji28)).f0.f1, (rd_T50 y309 (ji28)).f0.f2, (rd_T50 y309 (ji28)).f0.f3, (rd_T50 y309 (ji28)).f0.f4⟩ : S48), (rd_T50 y309 (ji28)).f1⟩ : S50) ) (fun _ hk => hk)).1
                   rw [← Ny317.out] at HP57
                   have HQ57 := Aside0.mk HP57
                   clear hcl57 hcc57 hfr57 hM57 HP57
                   have p40 : 0 ≤ ((ji28) : Int) := RFn.od
                   have q40 : ((ji28) : Int) < ((t302.length : Int) : Int) := RFn.od
                   obtain ⟨ce40, hcl40, hM40, hcc40, hfr40⟩ := Kd.R_elem HQ57.out z50 ((ji28) : Int) p40 q40
                   obtain rfl := k50_openM hM40
                   have hx40_0 : World.cell? _ ⟨go34, ((ji28) : Int).toNat * 6, none⟩ = some (.string ((rd_T50 y317 (ji28)).f0.f0)) := hcc40 0 _ rfl
                   have hx40_1 : World.cell? _ ⟨go34, ((ji28) : Int).toNat * 6 + 1, none⟩ = some (.string ((rd_T50 y317 (ji28)).f0.f1)) := hcc40 1 _ rfl
                   have hx40_2 : World.cell? _ ⟨go34, ((ji28) : Int).toNat * 6 + 2, none⟩ = some (.string ((rd_T50 y317 (ji28)).f0.f2)) := hcc40 2 _ rfl
                   have hx40_3 : World.cell? _ ⟨go34, ((ji28) : Int).toNat * 6 + 3, none⟩ = some (.string ((rd_T50 y317 (ji28)).f0.f3)) := hcc40 3 _ rfl
                   have hx40_4 : World.cell? _ ⟨go34, ((ji28) : Int).toNat * 6 + 4, none⟩ = some (.int .i64 ((rd_T50 y317 (ji28)).f0.f4)) := hcc40 4 _ rfl
                   have hx40_5 : World.cell? _ ⟨go34, ((ji28) : Int).toNat * 6 + 5, none⟩ = some (.int .i64 ((rd_T50 y317 (ji28)).f1)) := hcc40 5 _ rfl
                   have hf40_0 : World.frozen? _ ⟨go34, ((ji28) : Int).toNat * 6, none⟩ = false := hfr40 0
                   have hf40_1 : World.frozen? _ ⟨go34, ((ji28) : Int).toNat * 6 + 1, none⟩ = false := hfr40 1
                   have hf40_2 : World.frozen? _ ⟨go34, ((ji28) : Int).toNat * 6 + 2, none⟩ = false := hfr40 2
                   have hf40_3 : World.frozen? _ ⟨go34, ((ji28) : Int).toNat * 6 + 3, none⟩ = false := hfr40 3
                   have hf40_4 : World.frozen? _ ⟨go34, ((ji28) : Int).toNat * 6 + 4, none⟩ = false := hfr40 4
                   have hf40_5 : World.frozen? _ ⟨go34, ((ji28) : Int).toNat * 6 + 5, none⟩ = false := hfr40 5
                   clear hcl40 hcc40 hfr40 hM40
                   replace p40 := eq_true p40
                   replace q40 := eq_true q40
                   obtain ⟨ce58, hcl58, hM58, hcc58, hfr58⟩ := Kd.R_elem HQ57.out z50 ((ji28) : Int) (RFn.od) (by have h_ : ((ji28) : Int) < ((t302.length : Int) : Int) := RFn.od; first | exact h_ | (have e_ := (Kd.R_reads' HO304.out).1; omega) | simpa using h_)
                   obtain rfl := k50_openM hM58
                   have HP58 := (Kd.R_seg HQ57.out ((ji28) : Int) (RFn.od) (by have h_ : ((ji28) : Int) < ((t302.length : Int) : Int) := RFn.od; first | exact h_ | (have e_ := (Kd.R_reads' HO304.out).1; omega) | simpa using h_) (seg := [.string ((rd_T50 y309 (ji31)).f0.f0), .string ((rd_T50 y309 (ji31)).f0.f1), .string ((rd_T50 y309 (ji31)).f0.f2), .string ((rd_T50 y309 (ji31)).f0.f3), .int .i64 ((rd_T50 y309 (ji31)).f0.f4), .int .i64 ((rd_T50 y309 (ji31)).f1)]) (j := 0) hcl58 hcc58 (show 6 ≤ 6 from by decide) (x' := (⟨(⟨(rd_T50 y309 (ji31)).f0.f0, (rd_T50 y309 (ji31)).f0.f1, (rd_T50 y309 (ji31)).f0.f2, (rd_T50 y309 (ji31)).f0.f3, (rd_T50 y309 (ji31)).f0.f4⟩ : S48), (rd_T50 y309 (ji31)).f1⟩ : S50)) (k50_mkM _ _ _ (⟨(⟨(rd_T50 y309 (ji31)).f0.f0, (rd_T50 y309 (ji31)).f0.f1, (rd_T50 y309 (ji31)).f0.f2, (rd_T50 y309 (ji31)).f0.f3, (rd_T50 y309 (ji31)).f0.f4⟩ : S48), (rd_T50 y309 (ji31)).f1⟩ : S50) ) (fun _ hk => hk)).1
                   rw [← Ny318.out] at HP58
                   have HQ58 := Aside0.mk HP58
                   clear hcl58 hcc58 hfr58 hM58 HP58
                   refine start_ (n := 16) (S := fun w' => w'.cell? ⟨go34, ((ji28)).toNat * 6, none⟩ = some (.string ((rd_T50 y309 (ji28)).f0.f0)) ∧ w'.cell? ⟨go34, ((ji28)).toNat * 6 + 1, none⟩ = some (.string ((rd_T50 y309 (ji28)).f0.f1)) ∧ w'.cell? ⟨go34, ((ji28)).toNat * 6 + 2, none⟩ = some (.string ((rd_T50 y309 (ji28)).f0.f2)) ∧ w'.cell? ⟨go34, ((ji28)).toNat * 6 + 3, none⟩ = some (.string ((rd_T50 y309 (ji28)).f0.f3)) ∧ w'.cell? ⟨go34, ((ji28)).toNat * 6 + 4, none⟩ = some (.int .i64 ((rd_T50 y309 (ji28)).f0.f4)) ∧ w'.cell? ⟨go34, ((ji28)).toNat * 6 + 5, none⟩ = some (.int .i64 ((rd_T50 y309 (ji28)).f1)) ∧ w'.cell? ⟨go34, ((ji31)).toNat * 6, none⟩ = some (.string ((rd_T50 y309 (ji31)).f0.f0)) ∧ w'.cell? ⟨go34, ((ji31)).toNat * 6 + 1, none⟩ = some (.string ((rd_T50 y309 (ji31)).f0.f1)) ∧ w'.cell? ⟨go34, ((ji31)).toNat * 6 + 2, none⟩ = some (.string ((rd_T50 y309 (ji31)).f0.f2)) ∧ w'.cell? ⟨go34, ((ji31)).toNat * 6 + 3, none⟩ = some (.string ((rd_T50 y309 (ji31)).f0.f3)) ∧ w'.cell? ⟨go34, ((ji31)).toNat * 6 + 4, none⟩ = some (.int .i64 ((rd_T50 y309 (ji31)).f0.f4)) ∧ w'.cell? ⟨go34, ((ji31)).toNat * 6 + 5, none⟩ = some (.int .i64 ((rd_T50 y309 (ji31)).f1))) (ds := [13, 15]) (bz 16 0) (by kernel_rfl) rfl rfl ⟨hx315_0, hx315_1, hx315_2, hx315_3, hx315_4, hx315_5, hx316_0, hx316_1, hx316_2, hx316_3, hx316_4, hx316_5⟩ (fun hHeld => ?_); refine with_tabW law10_CodecSwaps.tab13 law10_CodecSwaps.bits13 (fun HT_ HW_ => ?_)
                   generalize w55.drew = w56 at HO304 HO314 HB HQ57 HQ58 hf39_0 hf39_1 hf39_2 hf39_3 hf39_4 hf39_5 hf40_0 hf40_1 hf40_2 hf40_3 hf40_4 hf40_5 hx315_0 hx315_1 hx315_2 hx315_3 hx315_4 hx315_5 hx316_0 hx316_1 hx316_2 hx316_3 hx316_4 hx316_5 hx39_0 hx39_1 hx39_2 hx39_3 hx39_4 hx39_5 hx40_0 hx40_1 hx40_2 hx40_3 hx40_4 hx40_5 hHeld ⊢
                   refine RFn.pA (i := 0) (N := some 82) (bz 16 1) HT_ ?_
                   refine RFn.pA (i := 1) (N := some 83) (bz 16 3) HT_ ?_
                   refine RFn.pA (i := 2) (N := some 84) (bz 16 7) HT_ ?_
                   refine RFn.pA (i := 3) (N := some 85) (bz 16 15) HT_ ?_
                   refine RFn.pA (i := 4) (N := some 86) (bz 16 31) HT_ ?_
                   refine RFn.pA (i := 5) (N := some 87) (bz 16 63) HT_ ?_
                   refine RFn.pA (i := 6) (N := some 88) (bz 16 127) HT_ ?_
                   refine RFn.pA (i := 8) (N := some 90) (bz 16 383) HT_ ?_
                   refine RFn.pA (i := 9) (N := some 91) (bz 16 895) HT_ ?_
                   refine RFn.pA (i := 10) (N := some 92) (bz 16 1919) HT_ ?_
                   refine RFn.tA (i := 7) (N := some 89) (bz 16 2047) rfl HT_ HW_ hHeld (by rintro w' ⟨s0, s1, s2, s3, s4, s5, s6, s7, s8, s9, s10, s11⟩; go_simp; with_reducible rfl) ?_
                   refine RFn.tA (i := 11) (N := some 93) (bz 16 4095) rfl HT_ HW_ hHeld (by rintro w' ⟨s0, s1, s2, s3, s4, s5, s6, s7, s8, s9, s10, s11⟩; go_simp; with_reducible rfl) ?_
                   refine RFn.pA (i := 12) (N := some 94) (bz 16 8191) HT_ ?_
                   refine Go.Proofs.YtjbdkdmoacdbpaaGreatDoor.RSt.lastS_ (i := 13) (b := go34) (o := ((ji31) : Int).toNat * k50.sz + 0) (vs := [.string ((rd_T50 y309 (ji28)).f0.f0), .string ((rd_T50 y309 (ji28)).f0.f1), .string ((rd_T50 y309 (ji28)).f0.f2), .string ((rd_T50 y309 (ji28)).f0.f3), .int .i64 ((rd_T50 y309 (ji28)).f0.f4), .int .i64 ((rd_T50 y309 (ji28)).f1)]) (bz 16 16383) rfl rfl (one_of HT_.out (by kernel_rfl)) (by decide) (by rfl) rfl (by first | rfl | (go_simp; rfl)) (by first | rfl | (go_simp; rfl)) (by rfl) info50 (by rfl) (Go.Proofs.YtjbdkdmoacdbpaaGreatDoor.RSt.R_in HO304.out z50 ((ji31) : Int) (of_eq_true p39) (of_eq_true q39) 0) (by rfl) ?_
                   refine RFn.pA (i := 14) (N := some 95) (bz 16 32767) HT_ ?_
                   refine Go.Proofs.YtjbdkdmoacdbpaaGreatDoor.RSt.lastS_ (i := 15) (b := go34) (o := ((ji28) : Int).toNat * k50.sz + 0) (vs := [.string ((rd_T50 y309 (ji31)).f0.f0), .string ((rd_T50 y309 (ji31)).f0.f1), .string ((rd_T50 y309 (ji31)).f0.f2), .string ((rd_T50 y309 (ji31)).f0.f3), .int .i64 ((rd_T50 y309 (ji31)).f0.f4), .int .i64 ((rd_T50 y309 (ji31)).f1)]) (bz 16 65535) rfl rfl (one_of HT_.out (by kernel_rfl)) (by decide) (by rfl) rfl (by first | rfl | (go_simp; rfl)) (by first | rfl | (go_simp; rfl)) (by rfl) info50 (by rfl) (Go.Proofs.YtjbdkdmoacdbpaaGreatDoor.RSt.R_in HQ57.out z50 ((ji28) : Int) (of_eq_true p40) (of_eq_true q40) 0) (by rfl) ?_
                   refine RFn.dn HT_ ?_
                   have nB_ : Aside0 (Below w.heap.size w ((w56.setCells go34 (((ji31) : Int).toNat * k50.sz + 0) [.string ((rd_T50 y309 (ji28)).f0.f0), .string ((rd_T50 y309 (ji28)).f0.f1), .string ((rd_T50 y309 (ji28)).f0.f2), .string ((rd_T50 y309 (ji28)).f0.f3), .int .i64 ((rd_T50 y309 (ji28)).f0.f4), .int .i64 ((rd_T50 y309 (ji28)).f1)]).setCells go34 (((ji28) : Int).toNat * k50.sz + 0) [.string ((rd_T50 y309 (ji31)).f0.f0), .string ((rd_T50 y309 (ji31)).f0.f1), .string ((rd_T50 y309 (ji31)).f0.f2), .string ((rd_T50 y309 (ji31)).f0.f3), .int .i64 ((rd_T50 y309 (ji31)).f0.f4), .int .i64 ((rd_T50 y309 (ji31)).f1)])) := ⟨Go.Proofs.YtjbdkdmoacdbpaaGreatDoor.RSt.belowS (Go.Proofs.YtjbdkdmoacdbpaaGreatDoor.RSt.belowS HB.out GB34.out) GB34.out⟩
                   generalize ((w56.setCells go34 (((ji31) : Int).toNat * k50.sz + 0) [.string ((rd_T50 y309 (ji28)).f0.f0), .string ((rd_T50 y309 (ji28)).f0.f1), .string ((rd_T50 y309 (ji28)).f0.f2), .string ((rd_T50 y309 (ji28)).f0.f3), .int .i64 ((rd_T50 y309 (ji28)).f0.f4), .int .i64 ((rd_T50 y309 (ji28)).f1)]).setCells go34 (((ji28) : Int).toNat * k50.sz + 0) [.string ((rd_T50 y309 (ji31)).f0.f0), .string ((rd_T50 y309 (ji31)).f0.f1), .string ((rd_T50 y309 (ji31)).f0.f2), .string ((rd_T50 y309 (ji31)).f0.f3), .int .i64 ((rd_T50 y309 (ji31)).f0.f4), .int .i64 ((rd_T50 y309 (ji31)).f1)]) = w56b at nB_ HQ58 ⊢
                   clear HB
                   have HB := nB_
                   clear nB_
                   try go_wp2_with (first | ((with_reducible refine gate_callee (f := 18) rfl ?_); refine goesL_ (some 99) rfl rfl Tryz.func18 (by kernel_rfl) rfl #[.slice (some ⟨go34, 0, none⟩) y318.length co49] rfl (by (try simp only [List.map_toArray, List.map_cons, List.map_nil]); first | done | (rw [show y318.length = t302.length from (Kd.R_reads' HQ58.out).1.symm] <;> rfl) | rfl | (simp only [List.length_drop, List.length_take]; rfl)) ?_; (with_reducible refine (law10_body.calls kj15 _ _ y318 t319 _ ?side1 ?side2 A41.out (Go.Proofs.YtjbdkdmoacdbpaaGreatDoor.X.LaidW.below hLd_ (by repeat (first | (with_reducible first | exact HB.out | apply below_alloc | apply pw_below_drewN | apply below_drew1 | refine below_set ?_ GB34.out | refine Go.Proofs.YtjbdkdmoacdbpaaGreatDoor.RSt.belowS ?_ GB34.out) | exact HB.out)))).mono ?_); (case side1 => refine (Kd.R_reads' (e := 50) (base := w.heap.size) (ok := fun k_ => (True ∧ some k_ ≠ (v313 : Value).ownBlock)) (n := t302.length) (c := co49) ?_).2.2; exact (RFn.mR HQ58)); (case side2 => rw [show y318.length = t302.length from (Kd.R_reads' HQ58.out).1.symm]; exact (Kd.R_reads' HO304.out).2.1); rintro e w59 ⟨rfl, hb⟩; refine ⟨_, rfl, ?_⟩; have n0_ := Aside0.mk (Kd.R_below (RFn.mR HQ58) hb); have n2_ := Aside0.mk (below_step (by repeat (first | (with_reducible first | exact HB.out | apply below_alloc | apply pw_below_drewN | apply below_drew1 | refine below_set ?_ GB34.out | refine Go.Proofs.YtjbdkdmoacdbpaaGreatDoor.RSt.belowS ?_ GB34.out) | exact HB.out)) hb); clear HO304; clear HO314; clear HB; have HO304 := n0_; have HB := n2_; clear n0_ n2_; (try clear hb); (try clear hk)) | ((with_reducible refine gate_callee (f := 13) rfl ?_); refine goesL_ (some 101) rfl rfl Tryz.func13 (by kernel_rfl) rfl #[.string ((t300.extract 0 ((ji25) : Int).toNat) ++ t319)] rfl (by (try simp only [List.map_toArray, List.map_cons, List.map_nil]); first | done | (simp only [hji25]; rfl) | rfl | (simp only [List.length_drop, List.length_take]; rfl)) ?_; (with_reducible refine (codec_Parse.calls ((t300.extract 0 ((ji25) : Int).toNat) ++ t319) t320 t321 _ A43.out (Go.Proofs.YtjbdkdmoacdbpaaGreatDoor.X.LaidW.below hLd_ (by repeat (first | (with_reducible first | exact HB.out | apply below_alloc | apply pw_below_drewN | apply below_drew1 | refine below_set ?_ GB34.out | refine Go.Proofs.YtjbdkdmoacdbpaaGreatDoor.RSt.belowS ?_ GB34.out) | exact HB.out)))).mono ?_); rintro e w60 ⟨v322, rfl, ho0, hb⟩; refine ⟨_, rfl, ?_⟩; have n0_ := Aside0.mk (Kd.R_elder' (RFn.mR HO304) (Kd.R_base ho0) hb); have n2_ := Aside0.mk (Kd.R_lower (Kd.R_new' ho0 (Kd.R_lt (RFn.mR HO304))) (below_size (RFn.bel))); have n3_ := Aside0.mk (below_step (RFn.bel) hb); clear HO304; clear HB; have HO304 := n0_; have HO323 := n2_; have HB := n3_; clear n0_ n2_ n3_; (try clear hb); (try clear hk); (try clear ho0); obtain ⟨Ao61, co61, eo61⟩ := Kd.R_slice HO323.out; subst eo61) | (go_at_call 16; (with_reducible refine (law09_Ours.calls kj15 _ _ t320 t324 _ ?side1 ?side2 A46.out).mono ?_); (case side1 => exact RFn.mC (Kd.R_reads' HO323.out).2.2); (case side2 => exact (Kd.R_reads' HO323.out).2.1); rintro e w62 ⟨v325, rfl, ho0, hb⟩; have n0_ := Aside0.mk (Kd.R_below (RFn.mR HO304) hb); have n2_ := Aside0.mk (Kd.R_below (RFn.mR HO323) hb); have n3_ := Aside0.mk (Kd.R_lower ho0 (below_size (RFn.bel))); have n4_ := Aside0.mk (below_step (RFn.bel) hb); clear HO304; clear HO323; clear HB; have HO304 := n0_; have HO323 := n2_; have HO326 := n3_; have HB := n4_; clear n0_ n2_ n3_ n4_; (try clear hb); (try clear hk); (try clear ho0); obtain ⟨Ao63, co63, eo63⟩ := Kd.R_slice HO326.out; subst eo63) | (go_at_call 15; (with_reducible refine (ref09_Same.calls kj15 _ _ t324 _ _ l0 t327 _ ?side1 ?side2 ?side3 ?side4 A47.out).mono ?_); (case side1 => exact RFn.mC (Kd.R_reads' HO326.out).2.2); (case side2 => exact (Kd.R_reads' HO326.out).2.1); (case side3 => exact RFn.mC (Kd.C_below HR0.out HB.out)); (case side4 => exact HC0.out); rintro e w' ⟨rfl, ⟨nd, rfl⟩⟩))
                   go_ret
                   exact ⟨by first | rfl | (simp [errW_none, errW_some] <;> rfl) | (simp only [← hji25, ← hji28, ← hji31]; first | rfl | (simp [errW_none, errW_some] <;> rfl)) | (simp [*, errW_none, errW_some] <;> rfl), RFn.bel⟩
                  ·rw [if_neg c45] at H
                   exact absurd H (by simp)
                 ·rw [if_neg c44] at H
                  exact absurd H (by simp)
                ·rw [if_neg c42] at H
                 exact absurd H (by simp)
               ·rw [if_neg c37] at H
                exact absurd H (by simp)
              ·rw [if_neg c33] at H
               exact absurd H (by simp)
             ·rw [if_neg c32] at H
              exact absurd H (by simp)
            ·rw [if_neg c30] at H
             exact absurd H (by simp)
           ·rw [if_neg c29] at H
            exact absurd H (by simp)
          ·rw [if_neg c27] at H
           exact absurd H (by simp)
         ·rw [if_neg c26] at H
          exact absurd H (by simp)
 ·replace c5 := Bool.eq_false_iff.mpr c5
  subst c5
  have H1 : (some false) = some r := by rw [if_neg (show ¬ (false = true) by decide)] at H; exact H
  clear H
  have H := H1
  clear H1
  obtain rfl := Option.some.inj H
  go_enter Tryz.func7, Tryz.ntmps7
  go_wp2_with (first | ((with_reducible refine gate_callee (f := 8) rfl ?_); refine RFn.goesM (some 17) Tryz.func8 #[] rfl ?_; (with_reducible refine (law10_alive.calls  false _ A4.out (Go.Proofs.YtjbdkdmoacdbpaaGreatDoor.X.LaidW.below hLd_ (by repeat (first | (with_reducible first | exact HB.out | apply below_alloc | apply pw_below_drewN | apply below_drew1 | refine below_set ?_ GB34.out | refine Go.Proofs.YtjbdkdmoacdbpaaGreatDoor.RSt.belowS ?_ GB34.out) | exact HB.out)))).mono ?_); rintro e w90 ⟨rfl, hb⟩; refine ⟨_, rfl, ?_⟩; have n0_ := Aside0.mk (below_step (RFn.bel) hb); clear HB; have HB := n0_; clear n0_; (try clear hb)))
  go_ret
  exact ⟨by first | rfl | (simp [errW_none, errW_some] <;> rfl) | (simp [*, errW_none, errW_some] <;> rfl), RFn.bel⟩
/-- THE ONE PURE STATEMENT of law10_CodecSwaps: ours. -/
def law10_CodecSwaps.Pure : Prop := ∀ (l0 : List (S54)) (a1 : Int) (a2 : Int), l0.length ≤ 9223372036854775807 → (∀ x ∈ l0, g54 x) → (Lit.int .u8 a1).wf = true → (Lit.int .u8 a2).wf = true → ∃ k, law10_CodecSwaps.f k l0 a1 a2 = some true
end Go.Proofs.YtjbdkdmoacdbpaaGreatDoor.Q
