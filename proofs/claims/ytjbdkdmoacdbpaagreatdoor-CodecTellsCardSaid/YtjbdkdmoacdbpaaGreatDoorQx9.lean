/- printed by a program of this session (wip/tools/pr.sh): it is not a print of the kit -/
import Derived.Test.YtjbdkdmoacdbpaaGreatDoorXLayCompare
import Derived.Test.YtjbdkdmoacdbpaaGreatDoorQx0
import Derived.Test.YtjbdkdmoacdbpaaGreatDoorQx3
import Derived.Test.YtjbdkdmoacdbpaaGreatDoorQx4
import Derived.Test.YtjbdkdmoacdbpaaGreatDoorQx5
import Derived.Test.YtjbdkdmoacdbpaaGreatDoorQx7
import Derived.Test.YtjbdkdmoacdbpaaGreatDoorQx8
namespace Go.Proofs.YtjbdkdmoacdbpaaGreatDoor.Q
open Go.RowKit Go.Proofs.YtjbdkdmoacdbpaaGreatDoorW.PrintWords Go.Proofs.YtjbdkdmoacdbpaaGreatDoorW.PrintLast Go.Proofs.YtjbdkdmoacdbpaaGreatDoorW.PrintMore
attribute [local go_sem] max2_int min2_int max_two min_two max_three min_three max_four min_four RFn.gtr_str   -- for this text's walks alone
set_option linter.unusedVariables false
set_option linter.unusedSimpArgs false
/-! ### law10_CodecTells: function 3 -/
mutual
def law10_CodecTells.j0 : Nat → List (S54) → ByteArray → Bool → Option (Bool)
 | 0, _, _, _ => none
 | k + 1, x0, x1, x22 => if x22 = true then (some true) else ((law09_Theirs.f k x0).bind fun t196 => ((codec_Print.f t196).bind fun bt199 => ((ref10_Print.f k x0).bind fun bt201 => ((codec_Parse.f x1).bind fun bt203 => ((ref10_Parse.f k x1).bind fun bt207 => (law10_CodecTells.j1 k bt199.1 bt199.2 bt201.1 bt201.2 bt203.1 bt203.2 bt207.1 bt207.2))))))
def law10_CodecTells.j1 : Nat → ByteArray → Int → ByteArray → Int → List (S50) → Int → List (S54) → Int → Option (Bool)
 | 0, _, _, _, _, _, _, _, _ => none
 | k + 1, x5, x6, x7, x8, x9, x10, x11, x12 => if x5.toList = x7.toList then (if x6 = x8 then ((law09_Ours.f k x9).bind fun t211 => ((ref09_Same.f k t211 x11).bind fun t214 => (if t214 = true then (some (x10 == x12)) else (some false)))) else (some false)) else (some false)
end
def law10_CodecTells.f (k : Nat) (l0 : List (S54)) (a1 : ByteArray) : Option (Bool) := (law10_alive.f).bind fun t194 => (if t194 = true then ((law09_Few.f k l0).bind fun t195 => (if t195 = true then (law10_CodecTells.j0 k l0 a1 (decide ((a1.size : Int) > 6000))) else (law10_CodecTells.j0 k l0 a1 true))) else (some false))
theorem law10_CodecTells.mono_l : ∀ k, (∀ y0 y1 y2, LeO (law10_CodecTells.j0 k y0 y1 y2) (law10_CodecTells.j0 (k + 1) y0 y1 y2)) ∧ (∀ y0 y1 y2 y3 y4 y5 y6 y7, LeO (law10_CodecTells.j1 k y0 y1 y2 y3 y4 y5 y6 y7) (law10_CodecTells.j1 (k + 1) y0 y1 y2 y3 y4 y5 y6 y7))
 | 0 => ⟨fun _ _ _ r h => by simp [law10_CodecTells.j0] at h, fun _ _ _ _ _ _ _ _ r h => by simp [law10_CodecTells.j1] at h⟩
 | k + 1 => by
  obtain ⟨ih0, ih1⟩ := law10_CodecTells.mono_l k
  refine ⟨?_, ?_⟩
  ·intro y0 y1 y2
   unfold law10_CodecTells.j0
   repeat' with_reducible first | exact LeO.refl _ | apply ih0 | apply ih1 | apply law09_Few.mono | apply law09_Ours.mono | apply law09_Theirs.mono | apply ref09_Same.mono | apply ref10_Parse.mono | apply ref10_Print.mono | exact LeO.none _ | apply LeO.ite | refine LeO.bind ?_ fun _ => ?_
  ·intro y0 y1 y2 y3 y4 y5 y6 y7
   unfold law10_CodecTells.j1
   repeat' with_reducible first | exact LeO.refl _ | apply ih0 | apply ih1 | apply law09_Few.mono | apply law09_Ours.mono | apply law09_Theirs.mono | apply ref09_Same.mono | apply ref10_Parse.mono | apply ref10_Print.mono | exact LeO.none _ | apply LeO.ite | refine LeO.bind ?_ fun _ => ?_
theorem law10_CodecTells.mono : ∀ a0 a1 k, LeO (law10_CodecTells.f k a0 a1) (law10_CodecTells.f (k + 1) a0 a1) := by
 intro a0 a1 k
 obtain ⟨ih0, ih1⟩ := law10_CodecTells.mono_l k
 unfold law10_CodecTells.f
 repeat' with_reducible first | exact LeO.refl _ | apply ih0 | apply ih1 | apply law09_Few.mono | apply law09_Ours.mono | apply law09_Theirs.mono | apply ref09_Same.mono | apply ref10_Parse.mono | apply ref10_Print.mono | exact LeO.none _ | apply LeO.ite | refine LeO.bind ?_ fun _ => ?_
set_option maxHeartbeats 8000000 in
set_option maxRecDepth 100000 in
theorem law10_CodecTells.calls (k : Nat) (A0 : Option Addr) (c0 : Nat) (l0 : List (S54)) (a1 : ByteArray) (r : Bool) (w : World) (hr0 : Kd.C k54 w A0 l0.length l0) (hc0 : l0.length ≤ c0) (h : law10_CodecTells.f k l0 a1 = some r) (hLd_ : Go.Proofs.YtjbdkdmoacdbpaaGreatDoor.X.LaidW w) :
  Calls Tryz.prog 3 #[.slice A0 l0.length c0, .string a1] w fun e w' => e = .returned (.bool r) ∧ Below w.heap.size w w' := by
 have HR0 := Aside0.mk hr0
 have HC0 := Aside0.mk hc0
 clear hr0 hc0
 have HB := Aside0.mk (Below.refl w.heap.size w)
 have H : ((law10_alive.f).bind fun t194 => (if t194 = true then ((law09_Few.f k l0).bind fun t195 => (if t195 = true then (law10_CodecTells.j0 k l0 a1 (decide ((a1.size : Int) > 6000))) else (law10_CodecTells.j0 k l0 a1 true))) else (some false))) = some r := h
 clear h
 obtain ⟨t194, A3, H⟩ := RFn.bn H
 by_cases c4 : t194 = true
 ·subst c4
  have H1 : ((law09_Few.f k l0).bind fun t195 => (if t195 = true then (law10_CodecTells.j0 k l0 a1 (decide ((a1.size : Int) > 6000))) else (law10_CodecTells.j0 k l0 a1 true))) = some r := by rw [if_pos rfl] at H; exact H
  clear H
  have H := H1
  clear H1
  have HC5 := Aside0.mk H
  clear H
  go_enter Tryz.func3, Tryz.ntmps3
  go_upto_region 3 with (first | ((with_reducible refine gate_callee (f := 8) rfl ?_); refine RFn.goesM (some 13) Tryz.func8 #[] rfl ?_; (with_reducible refine (law10_alive.calls  true _ A3.out (Go.Proofs.YtjbdkdmoacdbpaaGreatDoor.X.LaidW.below hLd_ RFn.bel)).mono ?_); rintro e w6 ⟨rfl, hb⟩; refine ⟨_, rfl, ?_⟩; have n0_ := Aside0.mk (below_step (RFn.bel) hb); clear HB; have HB := n0_; clear n0_; (try clear hb)))
  (try simp only [Act.put, List.setIfInBounds_toArray, List.set_cons_zero, List.set_cons_succ])
  go_cut [22] (fun v22 wc => ∃ (kq : Nat) (x22_4 : Bool), v22 = .bool x22_4 ∧ Aside0 (law10_CodecTells.j0 kq l0 a1 x22_4 = some r) ∧ Aside0 (kq ≤ k) ∧ Aside0 (Below w.heap.size w wc))
  case first =>
   have H := HC5.out
   clear HC5
   obtain ⟨t195, A7, H⟩ := RFn.bn H
   by_cases c8 : t195 = true
   ·subst c8
    have H1 : (law10_CodecTells.j0 k l0 a1 (decide ((a1.size : Int) > 6000))) = some r := by rw [if_pos rfl] at H; exact H
    clear H
    have H := H1
    clear H1
    have H' := Aside0.mk H
    clear H
    go_wp2_with (first | ((with_reducible refine gate_callee (f := 9) rfl ?_); refine RFn.goesM (some 16) Tryz.func9 #[.slice A0 l0.length c0] rfl ?_; (with_reducible refine (law09_Few.calls k _ _ l0 true _ ?side1 ?side2 A7.out).mono ?_); (case side1 => exact RFn.mC (Kd.C_below HR0.out HB.out)); (case side2 => exact HC0.out); rintro e w9 ⟨rfl, hb⟩; refine ⟨_, rfl, ?_⟩; have n0_ := Aside0.mk (below_step (RFn.bel) hb); clear HB; have HB := n0_; clear n0_; (try clear hb)))
    go_meet
    case rel => exact ⟨_, (decide ((a1.size : Int) > 6000)), (by first | rfl | (simp; done) | (simp [*]; done)), H', ⟨by first | omega | exact Nat.le_refl _⟩, ⟨RFn.bel⟩⟩
   ·replace c8 := Bool.eq_false_iff.mpr c8
    subst c8
    have H1 : (law10_CodecTells.j0 k l0 a1 true) = some r := by rw [if_neg (show ¬ (false = true) by decide)] at H; exact H
    clear H
    have H := H1
    clear H1
    have H' := Aside0.mk H
    clear H
    go_wp2_with (first | ((with_reducible refine gate_callee (f := 9) rfl ?_); refine RFn.goesM (some 16) Tryz.func9 #[.slice A0 l0.length c0] rfl ?_; (with_reducible refine (law09_Few.calls k _ _ l0 false _ ?side1 ?side2 A7.out).mono ?_); (case side1 => exact RFn.mC (Kd.C_below HR0.out HB.out)); (case side2 => exact HC0.out); rintro e w10 ⟨rfl, hb⟩; refine ⟨_, rfl, ?_⟩; have n0_ := Aside0.mk (below_step (RFn.bel) hb); clear HB; have HB := n0_; clear n0_; (try clear hb)))
    go_meet
    case rel => exact ⟨_, (true), (by first | rfl | (simp; done) | (simp [*]; done)), H', ⟨by first | omega | exact Nat.le_refl _⟩, ⟨RFn.bel⟩⟩
  case rest =>
   clear HC5
   try clear c4
   try clear c8
   obtain ⟨kq, x22_4, rfl, HA, HJ4, HB⟩ := hcut
   cases kq with
   | zero => exact absurd HA.out (by simp [law10_CodecTells.j0])
   | succ kj4 =>
    have H := HA.out
    clear HA
    simp only [law10_CodecTells.j0] at H
    by_cases c11 : x22_4 = true
    ·subst c11
     have H1 : (some true) = some r := by rw [if_pos rfl] at H; exact H
     clear H
     have H := H1
     clear H1
     obtain rfl := Option.some.inj H
     go_wp2
     go_ret
     exact ⟨by first | rfl | (simp [errW_none, errW_some] <;> rfl) | (simp [*, errW_none, errW_some] <;> rfl), RFn.bel⟩
    ·replace c11 := Bool.eq_false_iff.mpr c11
     subst c11
     have H1 : ((law09_Theirs.f kj4 l0).bind fun t196 => ((codec_Print.f t196).bind fun bt199 => ((ref10_Print.f kj4 l0).bind fun bt201 => ((codec_Parse.f a1).bind fun bt203 => ((ref10_Parse.f kj4 a1).bind fun bt207 => (law10_CodecTells.j1 kj4 bt199.1 bt199.2 bt201.1 bt201.2 bt203.1 bt203.2 bt207.1 bt207.2)))))) = some r := by rw [if_neg (show ¬ (false = true) by decide)] at H; exact H
     clear H
     have H := H1
     clear H1
     obtain ⟨t196, A12, H⟩ := RFn.bn H
     obtain ⟨⟨t199, t200⟩, A13, H⟩ := RFn.bn H
     obtain ⟨⟨t201, t202⟩, A14, H⟩ := RFn.bn H
     obtain ⟨⟨t203, t204⟩, A15, H⟩ := RFn.bn H
     have HC16 := Aside0.mk H
     clear H
     go_upto_region 8 with (first | ((with_reducible refine gate_callee (f := 11) rfl ?_); refine RFn.goesM (some 25) Tryz.func11 #[.slice A0 l0.length c0] rfl ?_; (with_reducible refine (law09_Theirs.calls kj4 _ _ l0 t196 _ ?side1 ?side2 A12.out).mono ?_); (case side1 => exact RFn.mC (Kd.C_below HR0.out HB.out)); (case side2 => exact HC0.out); rintro e w17 ⟨v197, rfl, ho0, hb⟩; refine ⟨_, rfl, ?_⟩; have n0_ := Aside0.mk (Kd.R_lower ho0 (below_size (RFn.bel))); have n1_ := Aside0.mk (below_step (RFn.bel) hb); clear HB; have HO198 := n0_; have HB := n1_; clear n0_ n1_; (try clear hb); (try clear ho0); obtain ⟨Ao18, co18, eo18⟩ := Kd.R_slice HO198.out; subst eo18) | ((with_reducible refine gate_callee (f := 10) rfl ?_); refine RFn.goesM (some 26) Tryz.func10 #[.slice Ao18 t196.length co18] rfl ?_; (with_reducible refine (codec_Print.calls _ _ t196 t199 t200 _ ?side1 ?side2 A13.out (Go.Proofs.YtjbdkdmoacdbpaaGreatDoor.X.LaidW.below hLd_ RFn.bel)).mono ?_); (case side1 => exact RFn.mC (Kd.R_reads' HO198.out).2.2); (case side2 => exact (Kd.R_reads' HO198.out).2.1); rintro e w19 ⟨rfl, hb⟩; refine ⟨_, rfl, ?_⟩; have n0_ := Aside0.mk (Kd.R_below (RFn.mR HO198) hb); have n1_ := Aside0.mk (below_step (RFn.bel) hb); clear HO198; clear HB; have HO198 := n0_; have HB := n1_; clear n0_ n1_; (try clear hb)) | ((with_reducible refine gate_callee (f := 12) rfl ?_); refine RFn.goesM (some 31) Tryz.func12 #[.slice A0 l0.length c0] rfl ?_; (with_reducible refine (ref10_Print.calls kj4 _ _ l0 t201 t202 _ ?side1 ?side2 A14.out).mono ?_); (case side1 => exact RFn.mC (Kd.C_below HR0.out HB.out)); (case side2 => exact HC0.out); rintro e w20 ⟨rfl, hb⟩; refine ⟨_, rfl, ?_⟩; have n0_ := Aside0.mk (Kd.R_below (RFn.mR HO198) hb); have n1_ := Aside0.mk (below_step (RFn.bel) hb); clear HO198; clear HB; have HO198 := n0_; have HB := n1_; clear n0_ n1_; (try clear hb)) | ((with_reducible refine gate_callee (f := 13) rfl ?_); refine RFn.goesM (some 36) Tryz.func13 #[.string a1] rfl ?_; (with_reducible refine (codec_Parse.calls a1 t203 t204 _ A15.out (Go.Proofs.YtjbdkdmoacdbpaaGreatDoor.X.LaidW.below hLd_ RFn.bel)).mono ?_); rintro e w21 ⟨v205, rfl, ho0, hb⟩; refine ⟨_, rfl, ?_⟩; have n0_ := Aside0.mk (Kd.R_elder' (RFn.mR HO198) (Kd.R_base ho0) hb); have n1_ := Aside0.mk (Kd.R_lower (Kd.R_new' ho0 (Kd.R_lt (RFn.mR HO198))) (below_size (RFn.bel))); have n2_ := Aside0.mk (below_step (RFn.bel) hb); clear HO198; clear HB; have HO198 := n0_; have HO206 := n1_; have HB := n2_; clear n0_ n1_ n2_; (try clear hb); (try clear ho0)))
     (try simp only [Act.put, List.setIfInBounds_toArray, List.set_cons_zero, List.set_cons_succ])
     go_cut [11, 12] (fun v11 v12 wc => ∃ (kq : Nat) (x11_15 : List (S54)) (x12_15 : Int), v12 = .int .i64 x12_15 ∧ Aside0 (law10_CodecTells.j1 kq t199 t200 t201 t202 t203 t204 x11_15 x12_15 = some r) ∧ Aside0 (kq ≤ kj4) ∧ Aside0 (Kd.R k50 50 wc w.heap.size (fun _ => True) v205 t203) ∧ Aside0 (Kd.R k54 54 wc w.heap.size (fun _ => True) v11 x11_15) ∧ Aside0 (Below w.heap.size w wc))
     case first =>
      have H := HC16.out
      clear HC16
      obtain ⟨⟨t207, t208⟩, A22, H⟩ := RFn.bn H
      have H' := Aside0.mk H
      clear H
      go_wp2_with (first | ((with_reducible refine gate_callee (f := 14) rfl ?_); refine RFn.goesM (some 41) Tryz.func14 #[.string a1] rfl ?_; (with_reducible refine (ref10_Parse.calls kj4 a1 t207 t208 _ A22.out).mono ?_); rintro e w23 ⟨v209, rfl, ho0, hb⟩; refine ⟨_, rfl, ?_⟩; have n0_ := Aside0.mk (Kd.R_below (RFn.mR HO198) hb); have n1_ := Aside0.mk (Kd.R_below (RFn.mR HO206) hb); have n2_ := Aside0.mk (Kd.R_lower ho0 (below_size (RFn.bel))); have n3_ := Aside0.mk (below_step (RFn.bel) hb); clear HO198; clear HO206; clear HB; have HO198 := n0_; have HO206 := n1_; have HO210 := n2_; have HB := n3_; clear n0_ n1_ n2_ n3_; (try clear hb); (try clear ho0)))
      go_meet
      case rel => exact ⟨_, (t207), (t208), (by first | rfl | (simp; done) | (simp [*]; done)), H', ⟨by have := HJ4.out; first | omega | exact Nat.le_refl _⟩, ⟨by (with_reducible repeat (first | apply Kd.R_alloc | apply Kd.R_drewN | apply Kd.R_drew)); exact Kd.R_mono HO206.out (fun _ hk => by first | exact trivial | exact trivial)⟩, ⟨RFn.mR HO210⟩, ⟨RFn.bel⟩⟩
     case rest =>
      clear HC16
      try clear c4
      try clear c8
      try clear c11
      obtain ⟨kq, x11_15, x12_15, rfl, HA, HJ15, HO_9, HO_11, HB⟩ := hcut
      cases kq with
      | zero => exact absurd HA.out (by simp [law10_CodecTells.j1])
      | succ kj15 =>
       have H := HA.out
       clear HA
       simp only [law10_CodecTells.j1] at H
       by_cases c24 : t199.toList = t201.toList
       ·rw [if_pos c24] at H
        have c24b0 : (t199.toList == t201.toList) = true := beq_iff_eq.mpr c24
        have c24b1 : (t199.toList != t201.toList) = false := bne_eq_false_iff_eq.mpr c24
        clear c24
        by_cases c25 : t200 = t202
        ·rw [if_pos c25] at H
         have c25b0 : (t200 == t202) = true := beq_iff_eq.mpr c25
         have c25b1 : (t200 != t202) = false := bne_eq_false_iff_eq.mpr c25
         clear c25
         obtain ⟨t211, A26, H⟩ := RFn.bn H
         obtain ⟨t214, A27, H⟩ := RFn.bn H
         by_cases c28 : t214 = true
         ·subst c28
          have H1 : (some (t204 == x12_15)) = some r := by rw [if_pos rfl] at H; exact H
          clear H
          have H := H1
          clear H1
          obtain rfl := Option.some.inj H
          obtain ⟨Ao29, co29, eo29⟩ := Kd.R_slice HO_9.out
          subst eo29
          go_wp2_with (first | (go_at_call 16; (with_reducible refine (law09_Ours.calls kj15 _ _ t203 t211 _ ?side1 ?side2 A26.out).mono ?_); (case side1 => exact RFn.mC (Kd.R_reads' HO_9.out).2.2); (case side2 => exact (Kd.R_reads' HO_9.out).2.1); rintro e w30 ⟨v212, rfl, ho0, hb⟩; have n0_ := Aside0.mk (Kd.R_below (RFn.mR HO_9) hb); have n1_ := Aside0.mk (Kd.R_elder' (RFn.mR HO_11) (Kd.R_base ho0) hb); have n2_ := Aside0.mk (Kd.R_lower (Kd.R_new' ho0 (Kd.R_lt (RFn.mR HO_11))) (below_size (RFn.bel))); have n3_ := Aside0.mk (below_step (RFn.bel) hb); clear HO_9; clear HO_11; clear HB; have HO_9 := n0_; have HO_11 := n1_; have HO213 := n2_; have HB := n3_; clear n0_ n1_ n2_ n3_; (try clear hb); (try clear ho0); obtain ⟨Ao31, co31, eo31⟩ := Kd.R_slice HO213.out; subst eo31; obtain ⟨Ao32, co32, eo32⟩ := Kd.R_slice HO_11.out; subst eo32) | (go_at_call 15; (with_reducible refine (ref09_Same.calls kj15 _ _ t211 _ _ x11_15 true _ ?side1 ?side2 ?side3 ?side4 A27.out).mono ?_); (case side1 => exact RFn.mC (Kd.R_reads' HO213.out).2.2); (case side2 => exact (Kd.R_reads' HO213.out).2.1); (case side3 => exact RFn.mC (Kd.R_reads' HO_11.out).2.2); (case side4 => exact (Kd.R_reads' HO_11.out).2.1); rintro e w' ⟨rfl, ⟨nd, rfl⟩⟩))
          go_ret
          exact ⟨by first | rfl | (simp [errW_none, errW_some] <;> rfl) | (simp [*, errW_none, errW_some] <;> rfl), RFn.bel⟩
         ·replace c28 := Bool.eq_false_iff.mpr c28
          subst c28
          have H1 : (some false) = some r := by rw [if_neg (show ¬ (false = true) by decide)] at H; exact H
          clear H
          have H := H1
          clear H1
          obtain rfl := Option.some.inj H
          obtain ⟨Ao33, co33, eo33⟩ := Kd.R_slice HO_9.out
          subst eo33
          go_wp2_with (first | (go_at_call 16; (with_reducible refine (law09_Ours.calls kj15 _ _ t203 t211 _ ?side1 ?side2 A26.out).mono ?_); (case side1 => exact RFn.mC (Kd.R_reads' HO_9.out).2.2); (case side2 => exact (Kd.R_reads' HO_9.out).2.1); rintro e w34 ⟨v212, rfl, ho0, hb⟩; have n0_ := Aside0.mk (Kd.R_below (RFn.mR HO_9) hb); have n1_ := Aside0.mk (Kd.R_elder' (RFn.mR HO_11) (Kd.R_base ho0) hb); have n2_ := Aside0.mk (Kd.R_lower (Kd.R_new' ho0 (Kd.R_lt (RFn.mR HO_11))) (below_size (RFn.bel))); have n3_ := Aside0.mk (below_step (RFn.bel) hb); clear HO_9; clear HO_11; clear HB; have HO_9 := n0_; have HO_11 := n1_; have HO213 := n2_; have HB := n3_; clear n0_ n1_ n2_ n3_; (try clear hb); (try clear ho0); obtain ⟨Ao35, co35, eo35⟩ := Kd.R_slice HO213.out; subst eo35; obtain ⟨Ao36, co36, eo36⟩ := Kd.R_slice HO_11.out; subst eo36) | (go_at_call 15; (with_reducible refine (ref09_Same.calls kj15 _ _ t211 _ _ x11_15 false _ ?side1 ?side2 ?side3 ?side4 A27.out).mono ?_); (case side1 => exact RFn.mC (Kd.R_reads' HO213.out).2.2); (case side2 => exact (Kd.R_reads' HO213.out).2.1); (case side3 => exact RFn.mC (Kd.R_reads' HO_11.out).2.2); (case side4 => exact (Kd.R_reads' HO_11.out).2.1); rintro e w' ⟨rfl, ⟨nd, rfl⟩⟩))
          go_ret
          exact ⟨by first | rfl | (simp [errW_none, errW_some] <;> rfl) | (simp [*, errW_none, errW_some] <;> rfl), RFn.bel⟩
        ·rw [if_neg c25] at H
         have c25b0 : (t200 == t202) = false := beq_eq_false_iff_ne.mpr c25
         have c25b1 : (t200 != t202) = true := bne_iff_ne.mpr c25
         obtain rfl := Option.some.inj H
         go_wp2
         go_ret
         exact ⟨by first | rfl | (simp [errW_none, errW_some] <;> rfl) | (simp [*, errW_none, errW_some] <;> rfl), RFn.bel⟩
       ·rw [if_neg c24] at H
        have c24b0 : (t199.toList == t201.toList) = false := beq_eq_false_iff_ne.mpr c24
        have c24b1 : (t199.toList != t201.toList) = true := bne_iff_ne.mpr c24
        obtain rfl := Option.some.inj H
        go_wp2
        go_ret
        exact ⟨by first | rfl | (simp [errW_none, errW_some] <;> rfl) | (simp [*, errW_none, errW_some] <;> rfl), RFn.bel⟩
 ·replace c4 := Bool.eq_false_iff.mpr c4
  subst c4
  have H1 : (some false) = some r := by rw [if_neg (show ¬ (false = true) by decide)] at H; exact H
  clear H
  have H := H1
  clear H1
  obtain rfl := Option.some.inj H
  go_enter Tryz.func3, Tryz.ntmps3
  go_wp2_with (first | ((with_reducible refine gate_callee (f := 8) rfl ?_); refine RFn.goesM (some 13) Tryz.func8 #[] rfl ?_; (with_reducible refine (law10_alive.calls  false _ A3.out (Go.Proofs.YtjbdkdmoacdbpaaGreatDoor.X.LaidW.below hLd_ RFn.bel)).mono ?_); rintro e w37 ⟨rfl, hb⟩; refine ⟨_, rfl, ?_⟩; have n0_ := Aside0.mk (below_step (RFn.bel) hb); clear HB; have HB := n0_; clear n0_; (try clear hb)))
  go_ret
  exact ⟨by first | rfl | (simp [errW_none, errW_some] <;> rfl) | (simp [*, errW_none, errW_some] <;> rfl), RFn.bel⟩
/-- THE ONE PURE STATEMENT of law10_CodecTells: ours. -/
def law10_CodecTells.Pure : Prop := ∀ (l0 : List (S54)) (a1 : ByteArray), l0.length ≤ 9223372036854775807 → (∀ x ∈ l0, g54 x) → a1.size ≤ 140737488351232 → ∃ k, law10_CodecTells.f k l0 a1 = some true
end Go.Proofs.YtjbdkdmoacdbpaaGreatDoor.Q
