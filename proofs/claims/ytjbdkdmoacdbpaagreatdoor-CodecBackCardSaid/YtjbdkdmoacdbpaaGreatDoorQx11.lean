/- printed by a program of this session (wip/tools/pr.sh): it is not a print of the kit -/
import Derived.Test.YtjbdkdmoacdbpaaGreatDoorXLayCompare
import Derived.Test.YtjbdkdmoacdbpaaGreatDoorQx0
import Derived.Test.YtjbdkdmoacdbpaaGreatDoorQx3
import Derived.Test.YtjbdkdmoacdbpaaGreatDoorQx4
import Derived.Test.YtjbdkdmoacdbpaaGreatDoorQx5
import Derived.Test.YtjbdkdmoacdbpaaGreatDoorQx8
import Derived.Test.YtjbdkdmoacdbpaaGreatDoorQx10
namespace Go.Proofs.YtjbdkdmoacdbpaaGreatDoor.Q
open Go.RowKit Go.Proofs.YtjbdkdmoacdbpaaGreatDoorW.PrintWords Go.Proofs.YtjbdkdmoacdbpaaGreatDoorW.PrintLast Go.Proofs.YtjbdkdmoacdbpaaGreatDoorW.PrintMore
attribute [local go_sem] max2_int min2_int max_two min_two max_three min_three max_four min_four RFn.gtr_str   -- for this text's walks alone
set_option linter.unusedVariables false
set_option linter.unusedSimpArgs false
/-! ### law10_CodecBack: function 4 -/
mutual
def law10_CodecBack.j0 : Nat → List (S54) → List (S54) → ByteArray → Bool → Option (Bool)
 | 0, _, _, _, _ => none
 | k + 1, x0, x1, x2, x31 => if x31 = true then (some true) else ((law09_Theirs.f k x0).bind fun t236 => ((codec_Print.f t236).bind fun bt239 => ((law09_Theirs.f k x1).bind fun t241 => ((codec_Print.f t241).bind fun bt244 => (if bt239.2 = 0 then ((codec_Parse.f bt239.1).bind fun bt246 => (law10_CodecBack.j1 k x0 x1 x2 bt239.1 bt244.1 bt244.2 bt246.1 bt246.2)) else (law10_CodecBack.j3 k x2))))))
def law10_CodecBack.j3 : Nat → ByteArray → Option (Bool)
 | 0, _ => none
 | k + 1, x2 => (codec_Parse.f x2).bind fun bt256 => (if bt256.2 = 0 then ((codec_Print.f bt256.1).bind fun bt260 => (if bt260.2 = 0 then (some (bt260.1.toList == x2.toList)) else (some false))) else (some ((bt256.1.length : Int) == 0)))
def law10_CodecBack.j1 : Nat → List (S54) → List (S54) → ByteArray → ByteArray → ByteArray → Int → List (S50) → Int → Option (Bool)
 | 0, _, _, _, _, _, _, _, _ => none
 | k + 1, x0, x1, x2, x7, x9, x10, x11, x12 => if x12 = 0 then ((law09_Ours.f k x11).bind fun t250 => ((ref09_Same.f k t250 x0).bind fun t253 => (if t253 = true then ((fact_Right.f k x11).bind fun t254 => (law10_CodecBack.j2 k x0 x1 x2 x7 x9 x10 (!t254))) else (law10_CodecBack.j2 k x0 x1 x2 x7 x9 x10 true)))) else (law10_CodecBack.j2 k x0 x1 x2 x7 x9 x10 true)
def law10_CodecBack.j2 : Nat → List (S54) → List (S54) → ByteArray → ByteArray → ByteArray → Int → Bool → Option (Bool)
 | 0, _, _, _, _, _, _, _ => none
 | k + 1, x0, x1, x2, x7, x9, x10, x64 => if x64 = true then (some false) else (if x10 = 0 then ((ref09_Same.f k x0 x1).bind fun t255 => (if ((x7.toList == x9.toList) != t255) = true then (some false) else (law10_CodecBack.j3 k x2))) else (law10_CodecBack.j3 k x2))
end
def law10_CodecBack.f (k : Nat) (l0 : List (S54)) (l1 : List (S54)) (a2 : ByteArray) : Option (Bool) := (law10_alive.f).bind fun t233 => (if t233 = true then ((law09_Few.f k l0).bind fun t234 => (if t234 = true then ((law09_Few.f k l1).bind fun t235 => (if t235 = true then (law10_CodecBack.j0 k l0 l1 a2 (decide ((a2.size : Int) > 6000))) else (law10_CodecBack.j0 k l0 l1 a2 true))) else (law10_CodecBack.j0 k l0 l1 a2 true))) else (some false))
theorem law10_CodecBack.mono_l : ∀ k, (∀ y0 y1 y2 y3, LeO (law10_CodecBack.j0 k y0 y1 y2 y3) (law10_CodecBack.j0 (k + 1) y0 y1 y2 y3)) ∧ (∀ y0, LeO (law10_CodecBack.j3 k y0) (law10_CodecBack.j3 (k + 1) y0)) ∧ (∀ y0 y1 y2 y3 y4 y5 y6 y7, LeO (law10_CodecBack.j1 k y0 y1 y2 y3 y4 y5 y6 y7) (law10_CodecBack.j1 (k + 1) y0 y1 y2 y3 y4 y5 y6 y7)) ∧ (∀ y0 y1 y2 y3 y4 y5 y6, LeO (law10_CodecBack.j2 k y0 y1 y2 y3 y4 y5 y6) (law10_CodecBack.j2 (k + 1) y0 y1 y2 y3 y4 y5 y6))
 | 0 => ⟨fun _ _ _ _ r h => by simp [law10_CodecBack.j0] at h, fun _ r h => by simp [law10_CodecBack.j3] at h, fun _ _ _ _ _ _ _ _ r h => by simp [law10_CodecBack.j1] at h, fun _ _ _ _ _ _ _ r h => by simp [law10_CodecBack.j2] at h⟩
 | k + 1 => by
  obtain ⟨ih0, ih1, ih2, ih3⟩ := law10_CodecBack.mono_l k
  refine ⟨?_, ?_, ?_, ?_⟩
  ·intro y0 y1 y2 y3
   unfold law10_CodecBack.j0
   repeat' with_reducible first | exact LeO.refl _ | apply ih0 | apply ih1 | apply ih2 | apply ih3 | apply fact_Right.mono | apply law09_Few.mono | apply law09_Ours.mono | apply law09_Theirs.mono | apply ref09_Same.mono | exact LeO.none _ | apply LeO.ite | refine LeO.bind ?_ fun _ => ?_
  ·intro y0
   unfold law10_CodecBack.j3
   repeat' with_reducible first | exact LeO.refl _ | apply ih0 | apply ih1 | apply ih2 | apply ih3 | apply fact_Right.mono | apply law09_Few.mono | apply law09_Ours.mono | apply law09_Theirs.mono | apply ref09_Same.mono | exact LeO.none _ | apply LeO.ite | refine LeO.bind ?_ fun _ => ?_
  ·intro y0 y1 y2 y3 y4 y5 y6 y7
   unfold law10_CodecBack.j1
   repeat' with_reducible first | exact LeO.refl _ | apply ih0 | apply ih1 | apply ih2 | apply ih3 | apply fact_Right.mono | apply law09_Few.mono | apply law09_Ours.mono | apply law09_Theirs.mono | apply ref09_Same.mono | exact LeO.none _ | apply LeO.ite | refine LeO.bind ?_ fun _ => ?_
  ·intro y0 y1 y2 y3 y4 y5 y6
   unfold law10_CodecBack.j2
   repeat' with_reducible first | exact LeO.refl _ | apply ih0 | apply ih1 | apply ih2 | apply ih3 | apply fact_Right.mono | apply law09_Few.mono | apply law09_Ours.mono | apply law09_Theirs.mono | apply ref09_Same.mono | exact LeO.none _ | apply LeO.ite | refine LeO.bind ?_ fun _ => ?_
theorem law10_CodecBack.mono : ∀ a0 a1 a2 k, LeO (law10_CodecBack.f k a0 a1 a2) (law10_CodecBack.f (k + 1) a0 a1 a2) := by
 intro a0 a1 a2 k
 obtain ⟨ih0, ih1, ih2, ih3⟩ := law10_CodecBack.mono_l k
 unfold law10_CodecBack.f
 repeat' with_reducible first | exact LeO.refl _ | apply ih0 | apply ih1 | apply ih2 | apply ih3 | apply fact_Right.mono | apply law09_Few.mono | apply law09_Ours.mono | apply law09_Theirs.mono | apply ref09_Same.mono | exact LeO.none _ | apply LeO.ite | refine LeO.bind ?_ fun _ => ?_
set_option maxHeartbeats 8000000 in
set_option maxRecDepth 100000 in
theorem law10_CodecBack.calls (k : Nat) (A0 : Option Addr) (c0 : Nat) (l0 : List (S54)) (A1 : Option Addr) (c1 : Nat) (l1 : List (S54)) (a2 : ByteArray) (r : Bool) (w : World) (hr0 : Kd.C k54 w A0 l0.length l0) (hc0 : l0.length ≤ c0) (hr1 : Kd.C k54 w A1 l1.length l1) (hc1 : l1.length ≤ c1) (h : law10_CodecBack.f k l0 l1 a2 = some r) (hLd_ : Go.Proofs.YtjbdkdmoacdbpaaGreatDoor.X.LaidW w) :
  Calls Tryz.prog 4 #[.slice A0 l0.length c0, .slice A1 l1.length c1, .string a2] w fun e w' => e = .returned (.bool r) ∧ Below w.heap.size w w' := by
 have HR0 := Aside0.mk hr0
 have HC0 := Aside0.mk hc0
 clear hr0 hc0
 have HR1 := Aside0.mk hr1
 have HC1 := Aside0.mk hc1
 clear hr1 hc1
 have HB := Aside0.mk (Below.refl w.heap.size w)
 have H : ((law10_alive.f).bind fun t233 => (if t233 = true then ((law09_Few.f k l0).bind fun t234 => (if t234 = true then ((law09_Few.f k l1).bind fun t235 => (if t235 = true then (law10_CodecBack.j0 k l0 l1 a2 (decide ((a2.size : Int) > 6000))) else (law10_CodecBack.j0 k l0 l1 a2 true))) else (law10_CodecBack.j0 k l0 l1 a2 true))) else (some false))) = some r := h
 clear h
 obtain ⟨t233, A4, H⟩ := RFn.bn H
 by_cases c5 : t233 = true
 ·subst c5
  have H1 : ((law09_Few.f k l0).bind fun t234 => (if t234 = true then ((law09_Few.f k l1).bind fun t235 => (if t235 = true then (law10_CodecBack.j0 k l0 l1 a2 (decide ((a2.size : Int) > 6000))) else (law10_CodecBack.j0 k l0 l1 a2 true))) else (law10_CodecBack.j0 k l0 l1 a2 true))) = some r := by rw [if_pos rfl] at H; exact H
  clear H
  have H := H1
  clear H1
  have HC6 := Aside0.mk H
  clear H
  go_enter Tryz.func4, Tryz.ntmps4
  go_upto_region 3 with (first | ((with_reducible refine gate_callee (f := 8) rfl ?_); refine RFn.goesM (some 17) Tryz.func8 #[] rfl ?_; (with_reducible refine (law10_alive.calls  true _ A4.out (Go.Proofs.YtjbdkdmoacdbpaaGreatDoor.X.LaidW.below hLd_ RFn.bel)).mono ?_); rintro e w7 ⟨rfl, hb⟩; refine ⟨_, rfl, ?_⟩; have n0_ := Aside0.mk (below_step (RFn.bel) hb); clear HB; have HB := n0_; clear n0_; (try clear hb)))
  (try simp only [Act.put, List.setIfInBounds_toArray, List.set_cons_zero, List.set_cons_succ])
  go_cut [31] (fun v31 wc => ∃ (kq : Nat) (x31_5 : Bool), v31 = .bool x31_5 ∧ Aside0 (law10_CodecBack.j0 kq l0 l1 a2 x31_5 = some r) ∧ Aside0 (kq ≤ k) ∧ Aside0 (Below w.heap.size w wc))
  case first =>
   have H := HC6.out
   clear HC6
   obtain ⟨t234, A8, H⟩ := RFn.bn H
   by_cases c9 : t234 = true
   ·subst c9
    have H1 : ((law09_Few.f k l1).bind fun t235 => (if t235 = true then (law10_CodecBack.j0 k l0 l1 a2 (decide ((a2.size : Int) > 6000))) else (law10_CodecBack.j0 k l0 l1 a2 true))) = some r := by rw [if_pos rfl] at H; exact H
    clear H
    have H := H1
    clear H1
    obtain ⟨t235, A10, H⟩ := RFn.bn H
    by_cases c11 : t235 = true
    ·subst c11
     have H1 : (law10_CodecBack.j0 k l0 l1 a2 (decide ((a2.size : Int) > 6000))) = some r := by rw [if_pos rfl] at H; exact H
     clear H
     have H := H1
     clear H1
     have H' := Aside0.mk H
     clear H
     go_wp2_with (first | ((with_reducible refine gate_callee (f := 9) rfl ?_); refine RFn.goesM (some 20) Tryz.func9 #[.slice A0 l0.length c0] rfl ?_; (with_reducible refine (law09_Few.calls k _ _ l0 true _ ?side1 ?side2 A8.out).mono ?_); (case side1 => exact RFn.mC (Kd.C_below HR0.out HB.out)); (case side2 => exact HC0.out); rintro e w12 ⟨rfl, hb⟩; refine ⟨_, rfl, ?_⟩; have n0_ := Aside0.mk (below_step (RFn.bel) hb); clear HB; have HB := n0_; clear n0_; (try clear hb)) | (go_at_call 9; (with_reducible refine (law09_Few.calls k _ _ l1 true _ ?side1 ?side2 A10.out).mono ?_); (case side1 => exact RFn.mC (Kd.C_below HR1.out HB.out)); (case side2 => exact HC1.out); rintro e w13 ⟨rfl, hb⟩; have n0_ := Aside0.mk (below_step (RFn.bel) hb); clear HB; have HB := n0_; clear n0_; (try clear hb)))
     go_meet
     case rel => exact ⟨_, (decide ((a2.size : Int) > 6000)), (by first | rfl | (simp; done) | (simp [*]; done)), H', ⟨by first | omega | exact Nat.le_refl _⟩, ⟨RFn.bel⟩⟩
    ·replace c11 := Bool.eq_false_iff.mpr c11
     subst c11
     have H1 : (law10_CodecBack.j0 k l0 l1 a2 true) = some r := by rw [if_neg (show ¬ (false = true) by decide)] at H; exact H
     clear H
     have H := H1
     clear H1
     have H' := Aside0.mk H
     clear H
     go_wp2_with (first | ((with_reducible refine gate_callee (f := 9) rfl ?_); refine RFn.goesM (some 20) Tryz.func9 #[.slice A0 l0.length c0] rfl ?_; (with_reducible refine (law09_Few.calls k _ _ l0 true _ ?side1 ?side2 A8.out).mono ?_); (case side1 => exact RFn.mC (Kd.C_below HR0.out HB.out)); (case side2 => exact HC0.out); rintro e w14 ⟨rfl, hb⟩; refine ⟨_, rfl, ?_⟩; have n0_ := Aside0.mk (below_step (RFn.bel) hb); clear HB; have HB := n0_; clear n0_; (try clear hb)) | (go_at_call 9; (with_reducible refine (law09_Few.calls k _ _ l1 false _ ?side1 ?side2 A10.out).mono ?_); (case side1 => exact RFn.mC (Kd.C_below HR1.out HB.out)); (case side2 => exact HC1.out); rintro e w15 ⟨rfl, hb⟩; have n0_ := Aside0.mk (below_step (RFn.bel) hb); clear HB; have HB := n0_; clear n0_; (try clear hb)))
     go_meet
     case rel => exact ⟨_, (true), (by first | rfl | (simp; done) | (simp [*]; done)), H', ⟨by first | omega | exact Nat.le_refl _⟩, ⟨RFn.bel⟩⟩
   ·replace c9 := Bool.eq_false_iff.mpr c9
    subst c9
    have H1 : (law10_CodecBack.j0 k l0 l1 a2 true) = some r := by rw [if_neg (show ¬ (false = true) by decide)] at H; exact H
    clear H
    have H := H1
    clear H1
    have H' := Aside0.mk H
    clear H
    go_wp2_with (first | ((with_reducible refine gate_callee (f := 9) rfl ?_); refine RFn.goesM (some 20) Tryz.func9 #[.slice A0 l0.length c0] rfl ?_; (with_reducible refine (law09_Few.calls k _ _ l0 false _ ?side1 ?side2 A8.out).mono ?_); (case side1 => exact RFn.mC (Kd.C_below HR0.out HB.out)); (case side2 => exact HC0.out); rintro e w16 ⟨rfl, hb⟩; refine ⟨_, rfl, ?_⟩; have n0_ := Aside0.mk (below_step (RFn.bel) hb); clear HB; have HB := n0_; clear n0_; (try clear hb)))
    go_meet
    case rel => exact ⟨_, (true), (by first | rfl | (simp; done) | (simp [*]; done)), H', ⟨by first | omega | exact Nat.le_refl _⟩, ⟨RFn.bel⟩⟩
  case rest =>
   clear HC6
   try clear c1
   try clear c5
   try clear c9
   try clear c11
   obtain ⟨kq, x31_5, rfl, HA, HJ5, HB⟩ := hcut
   cases kq with
   | zero => exact absurd HA.out (by simp [law10_CodecBack.j0])
   | succ kj5 =>
    have H := HA.out
    clear HA
    simp only [law10_CodecBack.j0] at H
    by_cases c17 : x31_5 = true
    ·subst c17
     have H1 : (some true) = some r := by rw [if_pos rfl] at H; exact H
     clear H
     have H := H1
     clear H1
     obtain rfl := Option.some.inj H
     go_wp2
     go_ret
     exact ⟨by first | rfl | (simp [errW_none, errW_some] <;> rfl) | (simp [*, errW_none, errW_some] <;> rfl), RFn.bel⟩
    ·replace c17 := Bool.eq_false_iff.mpr c17
     subst c17
     have H1 : ((law09_Theirs.f kj5 l0).bind fun t236 => ((codec_Print.f t236).bind fun bt239 => ((law09_Theirs.f kj5 l1).bind fun t241 => ((codec_Print.f t241).bind fun bt244 => (if bt239.2 = 0 then ((codec_Parse.f bt239.1).bind fun bt246 => (law10_CodecBack.j1 kj5 l0 l1 a2 bt239.1 bt244.1 bt244.2 bt246.1 bt246.2)) else (law10_CodecBack.j3 kj5 a2)))))) = some r := by rw [if_neg (show ¬ (false = true) by decide)] at H; exact H
     clear H
     have H := H1
     clear H1
     obtain ⟨t236, A18, H⟩ := RFn.bn H
     obtain ⟨⟨t239, t240⟩, A19, H⟩ := RFn.bn H
     obtain ⟨t241, A20, H⟩ := RFn.bn H
     obtain ⟨⟨t244, t245⟩, A21, H⟩ := RFn.bn H
     have HC22 := Aside0.mk H
     clear H
     go_upto_if 45 with (first | ((with_reducible refine gate_callee (f := 11) rfl ?_); refine RFn.goesM (some 34) Tryz.func11 #[.slice A0 l0.length c0] rfl ?_; (with_reducible refine (law09_Theirs.calls kj5 _ _ l0 t236 _ ?side1 ?side2 A18.out).mono ?_); (case side1 => exact RFn.mC (Kd.C_below HR0.out HB.out)); (case side2 => exact HC0.out); rintro e w23 ⟨v237, rfl, ho0, hb⟩; refine ⟨_, rfl, ?_⟩; have n0_ := Aside0.mk (Kd.R_lower ho0 (below_size (RFn.bel))); have n1_ := Aside0.mk (below_step (RFn.bel) hb); clear HB; have HO238 := n0_; have HB := n1_; clear n0_ n1_; (try clear hb); (try clear ho0); obtain ⟨Ao24, co24, eo24⟩ := Kd.R_slice HO238.out; subst eo24) | ((with_reducible refine gate_callee (f := 10) rfl ?_); refine RFn.goesM (some 35) Tryz.func10 #[.slice Ao24 t236.length co24] rfl ?_; (with_reducible refine (codec_Print.calls _ _ t236 t239 t240 _ ?side1 ?side2 A19.out (Go.Proofs.YtjbdkdmoacdbpaaGreatDoor.X.LaidW.below hLd_ RFn.bel)).mono ?_); (case side1 => exact RFn.mC (Kd.R_reads' HO238.out).2.2); (case side2 => exact (Kd.R_reads' HO238.out).2.1); rintro e w25 ⟨rfl, hb⟩; refine ⟨_, rfl, ?_⟩; have n0_ := Aside0.mk (Kd.R_below (RFn.mR HO238) hb); have n1_ := Aside0.mk (below_step (RFn.bel) hb); clear HO238; clear HB; have HO238 := n0_; have HB := n1_; clear n0_ n1_; (try clear hb)) | ((with_reducible refine gate_callee (f := 11) rfl ?_); refine RFn.goesM (some 40) Tryz.func11 #[.slice A1 l1.length c1] rfl ?_; (with_reducible refine (law09_Theirs.calls kj5 _ _ l1 t241 _ ?side1 ?side2 A20.out).mono ?_); (case side1 => exact RFn.mC (Kd.C_below HR1.out HB.out)); (case side2 => exact HC1.out); rintro e w26 ⟨v242, rfl, ho0, hb⟩; refine ⟨_, rfl, ?_⟩; have n0_ := Aside0.mk (Kd.R_elder' (RFn.mR HO238) (Kd.R_base ho0) hb); have n1_ := Aside0.mk (Kd.R_lower (Kd.R_new' ho0 (Kd.R_lt (RFn.mR HO238))) (below_size (RFn.bel))); have n2_ := Aside0.mk (below_step (RFn.bel) hb); clear HO238; clear HB; have HO238 := n0_; have HO243 := n1_; have HB := n2_; clear n0_ n1_ n2_; (try clear hb); (try clear ho0); obtain ⟨Ao27, co27, eo27⟩ := Kd.R_slice HO243.out; subst eo27) | ((with_reducible refine gate_callee (f := 10) rfl ?_); refine RFn.goesM (some 41) Tryz.func10 #[.slice Ao27 t241.length co27] rfl ?_; (with_reducible refine (codec_Print.calls _ _ t241 t244 t245 _ ?side1 ?side2 A21.out (Go.Proofs.YtjbdkdmoacdbpaaGreatDoor.X.LaidW.below hLd_ RFn.bel)).mono ?_); (case side1 => exact RFn.mC (Kd.R_reads' HO243.out).2.2); (case side2 => exact (Kd.R_reads' HO243.out).2.1); rintro e w28 ⟨rfl, hb⟩; refine ⟨_, rfl, ?_⟩; have n0_ := Aside0.mk (Kd.R_below (RFn.mR HO238) hb); have n1_ := Aside0.mk (Kd.R_below (RFn.mR HO243) hb); have n2_ := Aside0.mk (below_step (RFn.bel) hb); clear HO238; clear HO243; clear HB; have HO238 := n0_; have HO243 := n1_; have HB := n2_; clear n0_ n1_ n2_; (try clear hb)))
     (try simp only [Act.put, List.setIfInBounds_toArray, List.set_cons_zero, List.set_cons_succ])
     go_cut [] (fun wc => ∃ (kq : Nat), Aside0 (law10_CodecBack.j3 kq a2 = some r) ∧ Aside0 (kq ≤ kj5) ∧ Aside0 (Below w.heap.size w wc))
     case first =>
      have H := HC22.out
      clear HC22
      by_cases c29 : t240 = 0
      ·rw [if_pos c29] at H
       have c29b0 : (t240 == 0) = true := beq_iff_eq.mpr c29
       have c29b1 : (t240 != 0) = false := bne_eq_false_iff_eq.mpr c29
       clear c29
       (first | rw [c29b0] | (simp only [i64_w, i32_w]; rw [c29b0]) | skip)
       have HC30 := Aside0.mk H
       clear H
       go_upto_region 8 with (fail)
       go_cut [11, 12] (fun v11 v12 wc => ∃ (kq : Nat) (x11_29 : List (S50)) (x12_29 : Int), v12 = .int .i64 x12_29 ∧ Aside0 (law10_CodecBack.j1 kq l0 l1 a2 t239 t244 t245 x11_29 x12_29 = some r) ∧ Aside0 (kq ≤ kj5) ∧ Aside0 (Kd.R k50 50 wc w.heap.size (fun _ => True) v11 x11_29) ∧ Aside0 (Below w.heap.size w wc))
       case first =>
        have H := HC30.out
        clear HC30
        obtain ⟨⟨t246, t247⟩, A31, H⟩ := RFn.bn H
        have H' := Aside0.mk H
        clear H
        go_wp2_with (first | ((with_reducible refine gate_callee (f := 13) rfl ?_); refine RFn.goesM (some 48) Tryz.func13 #[.string t239] rfl ?_; (with_reducible refine (codec_Parse.calls t239 t246 t247 _ A31.out (Go.Proofs.YtjbdkdmoacdbpaaGreatDoor.X.LaidW.below hLd_ RFn.bel)).mono ?_); rintro e w32 ⟨v248, rfl, ho0, hb⟩; refine ⟨_, rfl, ?_⟩; have n0_ := Aside0.mk (Kd.R_elder' (RFn.mR HO238) (Kd.R_base ho0) hb); have n1_ := Aside0.mk (Kd.R_elder' (RFn.mR HO243) (Kd.R_base ho0) hb); have n2_ := Aside0.mk (Kd.R_lower (Kd.R_new' (Kd.R_new' ho0 (Kd.R_lt (RFn.mR HO238))) (Kd.R_lt (RFn.mR HO243))) (below_size (RFn.bel))); have n3_ := Aside0.mk (below_step (RFn.bel) hb); clear HO238; clear HO243; clear HB; have HO238 := n0_; have HO243 := n1_; have HO249 := n2_; have HB := n3_; clear n0_ n1_ n2_ n3_; (try clear hb); (try clear ho0)))
        go_meet
        case rel => exact ⟨_, (t246), (t247), (by first | rfl | (simp; done) | (simp [*]; done)), H', ⟨by have := HJ5.out; first | omega | exact Nat.le_refl _⟩, ⟨by (with_reducible repeat (first | apply Kd.R_alloc | apply Kd.R_drewN | apply Kd.R_drew)); exact Kd.R_mono HO249.out (fun _ hk => by first | exact trivial | exact trivial)⟩, ⟨RFn.bel⟩⟩
       case rest =>
        clear HC30
        try clear c1
        try clear c5
        try clear c9
        try clear c11
        try clear c17
        try clear c29
        try clear c29b0
        try clear c29b1
        obtain ⟨kq, x11_29, x12_29, rfl, HA, HJ29, HO_11, HB⟩ := hcut
        cases kq with
        | zero => exact absurd HA.out (by simp [law10_CodecBack.j1])
        | succ kj29 =>
         have H := HA.out
         clear HA
         simp only [law10_CodecBack.j1] at H
         have HC33 := Aside0.mk H
         clear H
         go_upto_region 9 with (fail)
         go_cut [64] (fun v64 wc => ∃ (kq : Nat) (x64_32 : Bool), v64 = .bool x64_32 ∧ Aside0 (law10_CodecBack.j2 kq l0 l1 a2 t239 t244 t245 x64_32 = some r) ∧ Aside0 (kq ≤ kj29) ∧ Aside0 (Below w.heap.size w wc))
         case first =>
          have H := HC33.out
          clear HC33
          by_cases c34 : x12_29 = 0
          ·rw [if_pos c34] at H
           have c34b0 : (x12_29 == 0) = true := beq_iff_eq.mpr c34
           have c34b1 : (x12_29 != 0) = false := bne_eq_false_iff_eq.mpr c34
           clear c34
           (first | rw [c34b0] | (simp only [i64_w, i32_w]; rw [c34b0]) | skip)
           obtain ⟨t250, A35, H⟩ := RFn.bn H
           obtain ⟨t253, A36, H⟩ := RFn.bn H
           by_cases c37 : t253 = true
           ·subst c37
            have H1 : ((fact_Right.f kj29 x11_29).bind fun t254 => (law10_CodecBack.j2 kj29 l0 l1 a2 t239 t244 t245 (!t254))) = some r := by rw [if_pos rfl] at H; exact H
            clear H
            have H := H1
            clear H1
            obtain ⟨t254, A38, H⟩ := RFn.bn H
            have H' := Aside0.mk H
            clear H
            obtain ⟨Ao39, co39, eo39⟩ := Kd.R_slice HO_11.out
            subst eo39
            go_wp2_with (first | (go_at_call 16; (with_reducible refine (law09_Ours.calls kj29 _ _ x11_29 t250 _ ?side1 ?side2 A35.out).mono ?_); (case side1 => exact RFn.mC (Kd.R_reads' HO_11.out).2.2); (case side2 => exact (Kd.R_reads' HO_11.out).2.1); rintro e w40 ⟨v251, rfl, ho0, hb⟩; have n0_ := Aside0.mk (Kd.R_below (RFn.mR HO_11) hb); have n1_ := Aside0.mk (Kd.R_lower ho0 (below_size (RFn.bel))); have n2_ := Aside0.mk (below_step (RFn.bel) hb); clear HO_11; clear HB; have HO_11 := n0_; have HO252 := n1_; have HB := n2_; clear n0_ n1_ n2_; (try clear hb); (try clear ho0); obtain ⟨Ao41, co41, eo41⟩ := Kd.R_slice HO252.out; subst eo41) | (go_at_call 15; (with_reducible refine (ref09_Same.calls kj29 _ _ t250 _ _ l0 true _ ?side1 ?side2 ?side3 ?side4 A36.out).mono ?_); (case side1 => exact RFn.mC (Kd.R_reads' HO252.out).2.2); (case side2 => exact (Kd.R_reads' HO252.out).2.1); (case side3 => exact RFn.mC (Kd.C_below HR0.out HB.out)); (case side4 => exact HC0.out); rintro e w' ⟨rfl, ⟨nd, rfl⟩⟩) | (go_at_call 17; (with_reducible refine (fact_Right.calls kj29 _ _ x11_29 t254 _ ?side1 ?side2 A38.out).mono ?_); (case side1 => exact RFn.mC (Kd.R_reads' HO_11.out).2.2); (case side2 => exact (Kd.R_reads' HO_11.out).2.1); rintro e w42 ⟨rfl, hb⟩; have n0_ := Aside0.mk (Kd.R_below (RFn.mR HO_11) hb); have n1_ := Aside0.mk (Kd.R_below (RFn.mR HO252) hb); have n2_ := Aside0.mk (below_step (RFn.bel) hb); clear HO_11; clear HO252; clear HB; have HO_11 := n0_; have HO252 := n1_; have HB := n2_; clear n0_ n1_ n2_; (try clear hb)))
            go_meet
            case rel => exact ⟨_, (!t254), (by first | rfl | (simp; done) | (simp [*]; done)), H', ⟨by have := HJ5.out; have := HJ29.out; first | omega | exact Nat.le_refl _⟩, ⟨RFn.bel⟩⟩
           ·replace c37 := Bool.eq_false_iff.mpr c37
            subst c37
            have H1 : (law10_CodecBack.j2 kj29 l0 l1 a2 t239 t244 t245 true) = some r := by rw [if_neg (show ¬ (false = true) by decide)] at H; exact H
            clear H
            have H := H1
            clear H1
            have H' := Aside0.mk H
            clear H
            obtain ⟨Ao43, co43, eo43⟩ := Kd.R_slice HO_11.out
            subst eo43
            go_wp2_with (first | (go_at_call 16; (with_reducible refine (law09_Ours.calls kj29 _ _ x11_29 t250 _ ?side1 ?side2 A35.out).mono ?_); (case side1 => exact RFn.mC (Kd.R_reads' HO_11.out).2.2); (case side2 => exact (Kd.R_reads' HO_11.out).2.1); rintro e w44 ⟨v251, rfl, ho0, hb⟩; have n0_ := Aside0.mk (Kd.R_below (RFn.mR HO_11) hb); have n1_ := Aside0.mk (Kd.R_lower ho0 (below_size (RFn.bel))); have n2_ := Aside0.mk (below_step (RFn.bel) hb); clear HO_11; clear HB; have HO_11 := n0_; have HO252 := n1_; have HB := n2_; clear n0_ n1_ n2_; (try clear hb); (try clear ho0); obtain ⟨Ao45, co45, eo45⟩ := Kd.R_slice HO252.out; subst eo45) | (go_at_call 15; (with_reducible refine (ref09_Same.calls kj29 _ _ t250 _ _ l0 false _ ?side1 ?side2 ?side3 ?side4 A36.out).mono ?_); (case side1 => exact RFn.mC (Kd.R_reads' HO252.out).2.2); (case side2 => exact (Kd.R_reads' HO252.out).2.1); (case side3 => exact RFn.mC (Kd.C_below HR0.out HB.out)); (case side4 => exact HC0.out); rintro e w' ⟨rfl, ⟨nd, rfl⟩⟩))
            go_meet
            case rel => exact ⟨_, (true), (by first | rfl | (simp; done) | (simp [*]; done)), H', ⟨by have := HJ5.out; have := HJ29.out; first | omega | exact Nat.le_refl _⟩, ⟨RFn.bel⟩⟩
          ·rw [if_neg c34] at H
           have c34b0 : (x12_29 == 0) = false := beq_eq_false_iff_ne.mpr c34
           have c34b1 : (x12_29 != 0) = true := bne_iff_ne.mpr c34
           (first | rw [c34b0] | (simp only [i64_w, i32_w]; rw [c34b0]) | skip)
           have H' := Aside0.mk H
           clear H
           go_wp2
           go_meet
           case rel => exact ⟨_, (true), (by first | rfl | (simp; done) | (simp [*]; done)), H', ⟨by have := HJ5.out; have := HJ29.out; first | omega | exact Nat.le_refl _⟩, ⟨RFn.bel⟩⟩
         case rest =>
          clear HC33
          try clear c1
          try clear c5
          try clear c9
          try clear c11
          try clear c17
          try clear c29
          try clear c29b0
          try clear c29b1
          try clear c34
          try clear c34b0
          try clear c34b1
          try clear c37
          obtain ⟨kq, x64_32, rfl, HA, HJ32, HB⟩ := hcut
          cases kq with
          | zero => exact absurd HA.out (by simp [law10_CodecBack.j2])
          | succ kj32 =>
           have H := HA.out
           clear HA
           simp only [law10_CodecBack.j2] at H
           by_cases c46 : x64_32 = true
           ·subst c46
            have H1 : (some false) = some r := by rw [if_pos rfl] at H; exact H
            clear H
            have H := H1
            clear H1
            obtain rfl := Option.some.inj H
            go_wp2
            go_ret
            exact ⟨by first | rfl | (simp [errW_none, errW_some] <;> rfl) | (simp [*, errW_none, errW_some] <;> rfl), RFn.bel⟩
           ·replace c46 := Bool.eq_false_iff.mpr c46
            subst c46
            have H1 : (if t245 = 0 then ((ref09_Same.f kj32 l0 l1).bind fun t255 => (if ((t239.toList == t244.toList) != t255) = true then (some false) else (law10_CodecBack.j3 kj32 a2))) else (law10_CodecBack.j3 kj32 a2)) = some r := by rw [if_neg (show ¬ (false = true) by decide)] at H; exact H
            clear H
            have H := H1
            clear H1
            by_cases c47 : t245 = 0
            ·rw [if_pos c47] at H
             have c47b0 : (t245 == 0) = true := beq_iff_eq.mpr c47
             have c47b1 : (t245 != 0) = false := bne_eq_false_iff_eq.mpr c47
             clear c47
             obtain ⟨t255, A48, H⟩ := RFn.bn H
             by_cases c49 : ((t239.toList == t244.toList) != t255) = true
             ·rw [if_pos c49] at H
              have c49b0 : ((t239.toList == t244.toList) != t255) = true := c49
              (try (have c49b1 : decide ((t239.toList == t244.toList) = t255) = false := by simpa using c49))
              (try (have c49b2 : ((t239.toList == t244.toList) == t255) = false := by simpa using c49))
              (try (have c49b3 : ¬ ((t239.toList == t244.toList) = t255) := by simpa using c49))
              clear c49
              obtain rfl := Option.some.inj H
              go_wp2_with (first | (go_at_call 15; (with_reducible refine (ref09_Same.calls kj32 _ _ l0 _ _ l1 t255 _ ?side1 ?side2 ?side3 ?side4 A48.out).mono ?_); (case side1 => exact RFn.mC (Kd.C_below HR0.out HB.out)); (case side2 => exact HC0.out); (case side3 => exact RFn.mC (Kd.C_below HR1.out HB.out)); (case side4 => exact HC1.out); rintro e w' ⟨rfl, ⟨nd, rfl⟩⟩))
              go_ret
              exact ⟨by first | rfl | (simp [errW_none, errW_some] <;> rfl) | (simp [*, errW_none, errW_some] <;> rfl), RFn.bel⟩
             ·rw [if_neg c49] at H
              have c49b0 : ((t239.toList == t244.toList) != t255) = false := by simpa using c49
              (try (have c49b1 : decide ((t239.toList == t244.toList) = t255) = true := by simpa using c49))
              (try (have c49b2 : ((t239.toList == t244.toList) == t255) = true := by simpa using c49))
              clear c49
              have H' := Aside0.mk H
              clear H
              go_wp2_with (first | (go_at_call 15; (with_reducible refine (ref09_Same.calls kj32 _ _ l0 _ _ l1 t255 _ ?side1 ?side2 ?side3 ?side4 A48.out).mono ?_); (case side1 => exact RFn.mC (Kd.C_below HR0.out HB.out)); (case side2 => exact HC0.out); (case side3 => exact RFn.mC (Kd.C_below HR1.out HB.out)); (case side4 => exact HC1.out); rintro e w' ⟨rfl, ⟨nd, rfl⟩⟩))
              go_meet
              case rel => exact ⟨_, H', ⟨by have := HJ5.out; have := HJ29.out; have := HJ32.out; first | omega | exact Nat.le_refl _⟩, ⟨RFn.bel⟩⟩
            ·rw [if_neg c47] at H
             have c47b0 : (t245 == 0) = false := beq_eq_false_iff_ne.mpr c47
             have c47b1 : (t245 != 0) = true := bne_iff_ne.mpr c47
             have H' := Aside0.mk H
             clear H
             go_wp2
             go_meet
             case rel => exact ⟨_, H', ⟨by have := HJ5.out; have := HJ29.out; have := HJ32.out; first | omega | exact Nat.le_refl _⟩, ⟨RFn.bel⟩⟩
      ·rw [if_neg c29] at H
       have c29b0 : (t240 == 0) = false := beq_eq_false_iff_ne.mpr c29
       have c29b1 : (t240 != 0) = true := bne_iff_ne.mpr c29
       (first | rw [c29b0] | (simp only [i64_w, i32_w]; rw [c29b0]) | skip)
       have H' := Aside0.mk H
       clear H
       go_wp2
       go_meet
       case rel => exact ⟨_, H', ⟨by have := HJ5.out; first | omega | exact Nat.le_refl _⟩, ⟨RFn.bel⟩⟩
     case rest =>
      clear HC22
      try clear c1
      try clear c5
      try clear c9
      try clear c11
      try clear c17
      try clear c29
      try clear c29b0
      try clear c29b1
      try clear c34
      try clear c34b0
      try clear c34b1
      try clear c37
      try clear c46
      try clear c47
      try clear c47b0
      try clear c47b1
      try clear c49
      try clear c49b0
      try clear c49b1
      try clear c49b2
      obtain ⟨kq, HA, HJ21, HB⟩ := hcut
      cases kq with
      | zero => exact absurd HA.out (by simp [law10_CodecBack.j3])
      | succ kj21 =>
       have H := HA.out
       clear HA
       simp only [law10_CodecBack.j3] at H
       obtain ⟨⟨t256, t257⟩, A50, H⟩ := RFn.bn H
       by_cases c51 : t257 = 0
       ·rw [if_pos c51] at H
        have c51b0 : (t257 == 0) = true := beq_iff_eq.mpr c51
        have c51b1 : (t257 != 0) = false := bne_eq_false_iff_eq.mpr c51
        clear c51
        obtain ⟨⟨t260, t261⟩, A52, H⟩ := RFn.bn H
        by_cases c53 : t261 = 0
        ·rw [if_pos c53] at H
         have c53b0 : (t261 == 0) = true := beq_iff_eq.mpr c53
         have c53b1 : (t261 != 0) = false := bne_eq_false_iff_eq.mpr c53
         clear c53
         obtain rfl := Option.some.inj H
         go_wp2_with (first | ((with_reducible refine gate_callee (f := 13) rfl ?_); refine RFn.goesM (some 78) Tryz.func13 #[.string a2] rfl ?_; (with_reducible refine (codec_Parse.calls a2 t256 t257 _ A50.out (Go.Proofs.YtjbdkdmoacdbpaaGreatDoor.X.LaidW.below hLd_ RFn.bel)).mono ?_); rintro e w54 ⟨v258, rfl, ho0, hb⟩; refine ⟨_, rfl, ?_⟩; have n0_ := Aside0.mk (Kd.R_lower ho0 (below_size (RFn.bel))); have n1_ := Aside0.mk (below_step (RFn.bel) hb); clear HB; have HO259 := n0_; have HB := n1_; clear n0_ n1_; (try clear hb); (try clear ho0); obtain ⟨Ao55, co55, eo55⟩ := Kd.R_slice HO259.out; subst eo55) | ((with_reducible refine gate_callee (f := 10) rfl ?_); refine RFn.goesM (some 88) Tryz.func10 #[.slice Ao55 t256.length co55] rfl ?_; (with_reducible refine (codec_Print.calls _ _ t256 t260 t261 _ ?side1 ?side2 A52.out (Go.Proofs.YtjbdkdmoacdbpaaGreatDoor.X.LaidW.below hLd_ RFn.bel)).mono ?_); (case side1 => exact RFn.mC (Kd.R_reads' HO259.out).2.2); (case side2 => exact (Kd.R_reads' HO259.out).2.1); rintro e w56 ⟨rfl, hb⟩; refine ⟨_, rfl, ?_⟩; have n0_ := Aside0.mk (Kd.R_below (RFn.mR HO259) hb); have n1_ := Aside0.mk (below_step (RFn.bel) hb); clear HO259; clear HB; have HO259 := n0_; have HB := n1_; clear n0_ n1_; (try clear hb)))
         go_ret
         exact ⟨by first | rfl | (simp [errW_none, errW_some] <;> rfl) | (simp [*, errW_none, errW_some] <;> rfl), RFn.bel⟩
        ·rw [if_neg c53] at H
         have c53b0 : (t261 == 0) = false := beq_eq_false_iff_ne.mpr c53
         have c53b1 : (t261 != 0) = true := bne_iff_ne.mpr c53
         obtain rfl := Option.some.inj H
         go_wp2_with (first | ((with_reducible refine gate_callee (f := 13) rfl ?_); refine RFn.goesM (some 78) Tryz.func13 #[.string a2] rfl ?_; (with_reducible refine (codec_Parse.calls a2 t256 t257 _ A50.out (Go.Proofs.YtjbdkdmoacdbpaaGreatDoor.X.LaidW.below hLd_ RFn.bel)).mono ?_); rintro e w57 ⟨v258, rfl, ho0, hb⟩; refine ⟨_, rfl, ?_⟩; have n0_ := Aside0.mk (Kd.R_lower ho0 (below_size (RFn.bel))); have n1_ := Aside0.mk (below_step (RFn.bel) hb); clear HB; have HO259 := n0_; have HB := n1_; clear n0_ n1_; (try clear hb); (try clear ho0); obtain ⟨Ao58, co58, eo58⟩ := Kd.R_slice HO259.out; subst eo58) | ((with_reducible refine gate_callee (f := 10) rfl ?_); refine RFn.goesM (some 88) Tryz.func10 #[.slice Ao58 t256.length co58] rfl ?_; (with_reducible refine (codec_Print.calls _ _ t256 t260 t261 _ ?side1 ?side2 A52.out (Go.Proofs.YtjbdkdmoacdbpaaGreatDoor.X.LaidW.below hLd_ RFn.bel)).mono ?_); (case side1 => exact RFn.mC (Kd.R_reads' HO259.out).2.2); (case side2 => exact (Kd.R_reads' HO259.out).2.1); rintro e w59 ⟨rfl, hb⟩; refine ⟨_, rfl, ?_⟩; have n0_ := Aside0.mk (Kd.R_below (RFn.mR HO259) hb); have n1_ := Aside0.mk (below_step (RFn.bel) hb); clear HO259; clear HB; have HO259 := n0_; have HB := n1_; clear n0_ n1_; (try clear hb)))
         go_ret
         exact ⟨by first | rfl | (simp [errW_none, errW_some] <;> rfl) | (simp [*, errW_none, errW_some] <;> rfl), RFn.bel⟩
       ·rw [if_neg c51] at H
        have c51b0 : (t257 == 0) = false := beq_eq_false_iff_ne.mpr c51
        have c51b1 : (t257 != 0) = true := bne_iff_ne.mpr c51
        obtain rfl := Option.some.inj H
        go_wp2_with (first | ((with_reducible refine gate_callee (f := 13) rfl ?_); refine RFn.goesM (some 78) Tryz.func13 #[.string a2] rfl ?_; (with_reducible refine (codec_Parse.calls a2 t256 t257 _ A50.out (Go.Proofs.YtjbdkdmoacdbpaaGreatDoor.X.LaidW.below hLd_ RFn.bel)).mono ?_); rintro e w60 ⟨v258, rfl, ho0, hb⟩; refine ⟨_, rfl, ?_⟩; have n0_ := Aside0.mk (Kd.R_lower ho0 (below_size (RFn.bel))); have n1_ := Aside0.mk (below_step (RFn.bel) hb); clear HB; have HO259 := n0_; have HB := n1_; clear n0_ n1_; (try clear hb); (try clear ho0); obtain ⟨Ao61, co61, eo61⟩ := Kd.R_slice HO259.out; subst eo61))
        go_ret
        exact ⟨by first | rfl | (simp [errW_none, errW_some] <;> rfl) | (simp [*, errW_none, errW_some] <;> rfl), RFn.bel⟩
 ·replace c5 := Bool.eq_false_iff.mpr c5
  subst c5
  have H1 : (some false) = some r := by rw [if_neg (show ¬ (false = true) by decide)] at H; exact H
  clear H
  have H := H1
  clear H1
  obtain rfl := Option.some.inj H
  go_enter Tryz.func4, Tryz.ntmps4
  go_wp2_with (first | ((with_reducible refine gate_callee (f := 8) rfl ?_); refine RFn.goesM (some 17) Tryz.func8 #[] rfl ?_; (with_reducible refine (law10_alive.calls  false _ A4.out (Go.Proofs.YtjbdkdmoacdbpaaGreatDoor.X.LaidW.below hLd_ RFn.bel)).mono ?_); rintro e w62 ⟨rfl, hb⟩; refine ⟨_, rfl, ?_⟩; have n0_ := Aside0.mk (below_step (RFn.bel) hb); clear HB; have HB := n0_; clear n0_; (try clear hb)))
  go_ret
  exact ⟨by first | rfl | (simp [errW_none, errW_some] <;> rfl) | (simp [*, errW_none, errW_some] <;> rfl), RFn.bel⟩
/-- THE ONE PURE STATEMENT of law10_CodecBack: ours. -/
def law10_CodecBack.Pure : Prop := ∀ (l0 : List (S54)) (l1 : List (S54)) (a2 : ByteArray), l0.length ≤ 9223372036854775807 → (∀ x ∈ l0, g54 x) → l1.length ≤ 9223372036854775807 → (∀ x ∈ l1, g54 x) → a2.size ≤ 140737488351232 → ∃ k, law10_CodecBack.f k l0 l1 a2 = some true
end Go.Proofs.YtjbdkdmoacdbpaaGreatDoor.Q
