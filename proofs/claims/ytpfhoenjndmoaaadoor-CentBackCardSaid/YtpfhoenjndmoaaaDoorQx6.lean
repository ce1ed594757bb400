/- printed by a program of this session (wip/tools/pr.sh): it is not a print of the kit -/
import Derived.Test.YtpfhoenjndmoaaaDoorQx0
import Derived.Test.YtpfhoenjndmoaaaDoorQx1
import Derived.Test.YtpfhoenjndmoaaaDoorQx5
namespace Go.Proofs.YtpfhoenjndmoaaaDoor.Q
open Go.RowKit Go.Proofs.YtpfhoenjndmoaaaDoorW.PrintWords Go.Proofs.YtpfhoenjndmoaaaDoorW.PrintLast Go.Proofs.YtpfhoenjndmoaaaDoorW.PrintMore
attribute [local go_sem] max2_int min2_int max_two min_two max_three min_three max_four min_four   -- for this text's walks alone
set_option linter.unusedVariables false
set_option linter.unusedSimpArgs false

/-! ### law01_CentBack: function 6 -/
mutual
def law01_CentBack.j0 : Nat → Int → Int → ByteArray → Int → Int → Bool → Option (Bool)
 | 0, _, _, _, _, _, _ => none
 | k + 1, x0, x1, x2, x7, x8, x41 => if x41 = true then (some false) else (if x8 = 0 then ((cent_Sub.f x7 x1).bind fun bt159 => (if bt159.1 = x0 then (if bt159.2 = 0 then (law01_CentBack.j1 k x0 x2) else (some false)) else (some false))) else (law01_CentBack.j1 k x0 x2))
def law01_CentBack.j1 : Nat → Int → ByteArray → Option (Bool)
 | 0, _, _ => none
 | k + 1, x0, x2 => (cent_Print.f x0).bind fun t161 => ((cent_Parse.f t161).bind fun bt162 => (if bt162.1 = x0 then (law01_CentBack.j2 k x2 (bt162.2 != 0)) else (law01_CentBack.j2 k x2 true)))
def law01_CentBack.j2 : Nat → ByteArray → Bool → Option (Bool)
 | 0, _, _ => none
 | k + 1, x2, x69 => if x69 = true then (some false) else ((cent_Parse.f x2).bind fun bt164 => (if bt164.2 = 0 then ((cent_Print.f bt164.1).bind fun t166 => (some (t166.toList == x2.toList))) else (some true)))
end
def law01_CentBack.f (k : Nat) (a0 : Int) (a1 : Int) (a2 : ByteArray) : Option (Bool) := (law01_alive.f k).bind fun t154 => (if t154 = true then (if (a2.size : Int) > 300 then (some true) else ((cent_Add.f a0 a1).bind fun bt155 => ((cent_Add.f a1 a0).bind fun bt157 => (if bt155.1 = bt157.1 then (law01_CentBack.j0 k a0 a1 a2 bt155.1 bt155.2 (bt155.2 != bt157.2)) else (law01_CentBack.j0 k a0 a1 a2 bt155.1 bt155.2 true))))) else (some false))
theorem law01_CentBack.mono_l : ∀ k, (∀ y0 y1 y2 y3 y4 y5, LeO (law01_CentBack.j0 k y0 y1 y2 y3 y4 y5) (law01_CentBack.j0 (k + 1) y0 y1 y2 y3 y4 y5)) ∧ (∀ y0 y1, LeO (law01_CentBack.j1 k y0 y1) (law01_CentBack.j1 (k + 1) y0 y1)) ∧ (∀ y0 y1, LeO (law01_CentBack.j2 k y0 y1) (law01_CentBack.j2 (k + 1) y0 y1))
 | 0 => ⟨fun _ _ _ _ _ _ r h => by simp [law01_CentBack.j0] at h, fun _ _ r h => by simp [law01_CentBack.j1] at h, fun _ _ r h => by simp [law01_CentBack.j2] at h⟩
 | k + 1 => by
  obtain ⟨ih0, ih1, ih2⟩ := law01_CentBack.mono_l k
  refine ⟨?_, ?_, ?_⟩
  ·intro y0 y1 y2 y3 y4 y5
   unfold law01_CentBack.j0
   repeat' first
   | (with_reducible exact ih0 _ _ _ _ _ _)
   | (with_reducible exact ih1 _ _)
   | (with_reducible exact ih2 _ _)
   | (with_reducible exact law01_alive.mono _)
   | (with_reducible exact LeO.refl _)
   | (with_reducible exact LeO.none _)
   | (with_reducible refine LeO.ite ?_ ?_)
   | (with_reducible refine LeO.bind ?_ (fun _ => ?_))
   | exact ih0 _ _ _ _ _ _
   | exact ih1 _ _
   | exact ih2 _ _
   | exact law01_alive.mono _
   | exact LeO.none _
   | refine LeO.ite ?_ ?_
   | refine LeO.bind ?_ (fun _ => ?_)
  ·intro y0 y1
   unfold law01_CentBack.j1
   repeat' first
   | (with_reducible exact ih0 _ _ _ _ _ _)
   | (with_reducible exact ih1 _ _)
   | (with_reducible exact ih2 _ _)
   | (with_reducible exact law01_alive.mono _)
   | (with_reducible exact LeO.refl _)
   | (with_reducible exact LeO.none _)
   | (with_reducible refine LeO.ite ?_ ?_)
   | (with_reducible refine LeO.bind ?_ (fun _ => ?_))
   | exact ih0 _ _ _ _ _ _
   | exact ih1 _ _
   | exact ih2 _ _
   | exact law01_alive.mono _
   | exact LeO.none _
   | refine LeO.ite ?_ ?_
   | refine LeO.bind ?_ (fun _ => ?_)
  ·intro y0 y1
   unfold law01_CentBack.j2
   repeat' first
   | (with_reducible exact ih0 _ _ _ _ _ _)
   | (with_reducible exact ih1 _ _)
   | (with_reducible exact ih2 _ _)
   | (with_reducible exact law01_alive.mono _)
   | (with_reducible exact LeO.refl _)
   | (with_reducible exact LeO.none _)
   | (with_reducible refine LeO.ite ?_ ?_)
   | (with_reducible refine LeO.bind ?_ (fun _ => ?_))
   | exact ih0 _ _ _ _ _ _
   | exact ih1 _ _
   | exact ih2 _ _
   | exact law01_alive.mono _
   | exact LeO.none _
   | refine LeO.ite ?_ ?_
   | refine LeO.bind ?_ (fun _ => ?_)
theorem law01_CentBack.mono : ∀ a0 a1 a2 k, LeO (law01_CentBack.f k a0 a1 a2) (law01_CentBack.f (k + 1) a0 a1 a2) := by
 intro a0 a1 a2 k
 obtain ⟨ih0, ih1, ih2⟩ := law01_CentBack.mono_l k
 unfold law01_CentBack.f
 repeat' first
   | (with_reducible exact ih0 _ _ _ _ _ _)
   | (with_reducible exact ih1 _ _)
   | (with_reducible exact ih2 _ _)
   | (with_reducible exact law01_alive.mono _)
   | (with_reducible exact LeO.refl _)
   | (with_reducible exact LeO.none _)
   | (with_reducible refine LeO.ite ?_ ?_)
   | (with_reducible refine LeO.bind ?_ (fun _ => ?_))
   | exact ih0 _ _ _ _ _ _
   | exact ih1 _ _
   | exact ih2 _ _
   | exact law01_alive.mono _
   | exact LeO.none _
   | refine LeO.ite ?_ ?_
   | refine LeO.bind ?_ (fun _ => ?_)
set_option maxHeartbeats 8000000 in
set_option maxRecDepth 100000 in
theorem law01_CentBack.calls (k : Nat) (a0 : Int) (a1 : Int) (a2 : ByteArray) (r : Bool) (w : World) (h : law01_CentBack.f k a0 a1 a2 = some r) (hLd_ : Go.Proofs.YtpfhoenjndmoaaaDoor.X.LaidW w) :
  Calls Tryd.prog 6 #[.int .i64 a0, .int .i64 a1, .string a2] w fun e w' => e = .returned (.bool r) ∧ Below w.heap.size w w' := by
 have HB := Aside0.mk (Below.refl w.heap.size w)
 have H : ((law01_alive.f k).bind fun t154 => (if t154 = true then (if (a2.size : Int) > 300 then (some true) else ((cent_Add.f a0 a1).bind fun bt155 => ((cent_Add.f a1 a0).bind fun bt157 => (if bt155.1 = bt157.1 then (law01_CentBack.j0 k a0 a1 a2 bt155.1 bt155.2 (bt155.2 != bt157.2)) else (law01_CentBack.j0 k a0 a1 a2 bt155.1 bt155.2 true))))) else (some false))) = some r := h
 clear h
 replace H := Option.bind_eq_some_iff.mp H
 obtain ⟨t154, A40, H⟩ := H
 replace H : (if t154 = true then (if (a2.size : Int) > 300 then (some true) else ((cent_Add.f a0 a1).bind fun bt155 => ((cent_Add.f a1 a0).bind fun bt157 => (if bt155.1 = bt157.1 then (law01_CentBack.j0 k a0 a1 a2 bt155.1 bt155.2 (bt155.2 != bt157.2)) else (law01_CentBack.j0 k a0 a1 a2 bt155.1 bt155.2 true))))) else (some false)) = some r := H
 have A4 := Aside0.mk A40
 clear A40
 by_cases c5 : t154 = true
 ·subst c5
  have H1 : (if (a2.size : Int) > 300 then (some true) else ((cent_Add.f a0 a1).bind fun bt155 => ((cent_Add.f a1 a0).bind fun bt157 => (if bt155.1 = bt157.1 then (law01_CentBack.j0 k a0 a1 a2 bt155.1 bt155.2 (bt155.2 != bt157.2)) else (law01_CentBack.j0 k a0 a1 a2 bt155.1 bt155.2 true))))) = some r := by rw [if_pos rfl] at H; exact H
  clear H
  have H := H1
  clear H1
  by_cases c6 : (a2.size : Int) > 300
  ·rw [if_pos c6] at H
   have c6b0 : decide (300 < (a2.size : Int)) = true := decide_eq_true c6
   have c6b1 : decide (300 < a2.size) = true := decide_eq_true (by omega)
   clear c6
   obtain rfl := Option.some.inj H
   go_enter Tryd.func6, Tryd.ntmps6
   go_wp2_with (first | ((with_reducible refine gate_callee (f := 9) rfl ?_); refine RFn.goesM (some 17) Tryd.func9 #[] rfl ?_; (with_reducible refine (law01_alive.calls k  true _ A4.out (Go.Proofs.YtpfhoenjndmoaaaDoor.X.LaidW.below hLd_ RFn.bel)).mono ?_); rintro e w7 ⟨rfl, hb⟩; refine ⟨_, rfl, ?_⟩; have n0_ := Aside0.mk (below_step (RFn.bel) hb); clear HB; have HB := n0_; clear n0_; (try clear hb); (try clear hb2); (try clear hk); (try clear hi)))
   go_ret
   exact ⟨by first | rfl | (simp [errW_none, errW_some] <;> rfl) | (simp [*, errW_none, errW_some] <;> rfl), RFn.bel⟩
  ·rw [if_neg c6] at H
   have c6b0 : decide (300 < (a2.size : Int)) = false := decide_eq_false c6
   have c6b1 : decide (300 < a2.size) = false := decide_eq_false (by omega)
   clear c6
   replace H := Option.bind_eq_some_iff.mp H
   obtain ⟨⟨t155, t156⟩, A80, H⟩ := H
   replace H : ((cent_Add.f a1 a0).bind fun bt157 => (if t155 = bt157.1 then (law01_CentBack.j0 k a0 a1 a2 t155 t156 (t156 != bt157.2)) else (law01_CentBack.j0 k a0 a1 a2 t155 t156 true))) = some r := H
   have A8 := Aside0.mk A80
   clear A80
   replace H := Option.bind_eq_some_iff.mp H
   obtain ⟨⟨t157, t158⟩, A90, H⟩ := H
   replace H : (if t155 = t157 then (law01_CentBack.j0 k a0 a1 a2 t155 t156 (t156 != t158)) else (law01_CentBack.j0 k a0 a1 a2 t155 t156 true)) = some r := H
   have A9 := Aside0.mk A90
   clear A90
   have HC10 := Aside0.mk H
   clear H
   go_enter Tryd.func6, Tryd.ntmps6
   go_upto_region 7 with (first | ((with_reducible refine gate_callee (f := 9) rfl ?_); refine RFn.goesM (some 17) Tryd.func9 #[] rfl ?_; (with_reducible refine (law01_alive.calls k  true _ A4.out (Go.Proofs.YtpfhoenjndmoaaaDoor.X.LaidW.below hLd_ RFn.bel)).mono ?_); rintro e w11 ⟨rfl, hb⟩; refine ⟨_, rfl, ?_⟩; have n0_ := Aside0.mk (below_step (RFn.bel) hb); clear HB; have HB := n0_; clear n0_; (try clear hb); (try clear hb2); (try clear hk); (try clear hi)) | ((with_reducible refine gate_callee (f := 15) rfl ?_); refine RFn.goesM (some 25) Tryd.func15 #[.int .i64 a0, .int .i64 a1] rfl ?_; (with_reducible refine (cent_Add.calls a0 a1 t155 t156 _ A8.out).mono ?_); rintro e w' ⟨rfl, ⟨nd, rfl⟩⟩; refine ⟨_, rfl, ?_⟩) | ((with_reducible refine gate_callee (f := 15) rfl ?_); refine RFn.goesM (some 31) Tryd.func15 #[.int .i64 a1, .int .i64 a0] rfl ?_; (with_reducible refine (cent_Add.calls a1 a0 t157 t158 _ A9.out).mono ?_); rintro e w' ⟨rfl, ⟨nd, rfl⟩⟩; refine ⟨_, rfl, ?_⟩))
   (try simp only [Act.put, List.setIfInBounds_toArray, List.set_cons_zero, List.set_cons_succ])
   go_cut [41] (fun v41 wc => ∃ (kq : Nat) (x41_9 : Bool), v41 = .bool x41_9 ∧ Aside0 (law01_CentBack.j0 kq a0 a1 a2 t155 t156 x41_9 = some r) ∧ Aside0 (kq ≤ k) ∧ Aside0 (Below w.heap.size w wc))
   case first =>
    have H := HC10.out
    clear HC10
    by_cases c12 : t155 = t157
    ·rw [if_pos c12] at H
     have c12b0 : (t155 == t157) = true := beq_iff_eq.mpr c12
     have c12b1 : (t155 != t157) = false := bne_eq_false_iff_eq.mpr c12
     clear c12
     (first | rw [c12b0] | (simp only [i64_w, i32_w]; rw [c12b0]) | skip)
     have H' := Aside0.mk H
     clear H
     go_wp2
     go_meet
     case rel => exact ⟨_, ((t156 != t158)), (by first | rfl | (simp; done) | (simp [*]; done)), H', ⟨by first | omega | exact Nat.le_refl _⟩, ⟨RFn.bel⟩⟩
    ·rw [if_neg c12] at H
     have c12b0 : (t155 == t157) = false := beq_eq_false_iff_ne.mpr c12
     have c12b1 : (t155 != t157) = true := bne_iff_ne.mpr c12
     (first | rw [c12b0] | (simp only [i64_w, i32_w]; rw [c12b0]) | skip)
     have H' := Aside0.mk H
     clear H
     go_wp2
     go_meet
     case rel => exact ⟨_, (true), (by first | rfl | (simp; done) | (simp [*]; done)), H', ⟨by first | omega | exact Nat.le_refl _⟩, ⟨RFn.bel⟩⟩
   case rest =>
    clear HC10
    try clear c1
    try clear p2
    try clear c5
    try clear c6
    try clear c6b0
    try clear c6b1
    try clear c9
    try clear c12
    try clear c12b0
    try clear c12b1
    obtain ⟨kq, x41_9, rfl, HA, HJ9, HB⟩ := hcut
    cases kq with
    | zero => exact absurd HA.out (by simp [law01_CentBack.j0])
    | succ kj9 =>
     have H := HA.out
     clear HA
     simp only [law01_CentBack.j0] at H
     by_cases c13 : x41_9 = true
     ·subst c13
      have H1 : (some false) = some r := by rw [if_pos rfl] at H; exact H
      clear H
      have H := H1
      clear H1
      obtain rfl := Option.some.inj H
      go_wp2
      go_ret
      exact ⟨by first | rfl | (simp [errW_none, errW_some] <;> rfl) | (simp [*, errW_none, errW_some] <;> rfl), RFn.bel⟩
     ·replace c13 := Bool.eq_false_iff.mpr c13
      subst c13
      have H1 : (if t156 = 0 then ((cent_Sub.f t155 a1).bind fun bt159 => (if bt159.1 = a0 then (if bt159.2 = 0 then (law01_CentBack.j1 kj9 a0 a2) else (some false)) else (some false))) else (law01_CentBack.j1 kj9 a0 a2)) = some r := by rw [if_neg (show ¬ (false = true) by decide)] at H; exact H
      clear H
      have H := H1
      clear H1
      have HC14 := Aside0.mk H
      clear H
      go_upto_if 43 with (fail)
      go_cut [] (fun wc => ∃ (kq : Nat), Aside0 (law01_CentBack.j1 kq a0 a2 = some r) ∧ Aside0 (kq ≤ kj9) ∧ Aside0 (Below w.heap.size w wc))
      case first =>
       have H := HC14.out
       clear HC14
       by_cases c15 : t156 = 0
       ·rw [if_pos c15] at H
        have c15b0 : (t156 == 0) = true := beq_iff_eq.mpr c15
        have c15b1 : (t156 != 0) = false := bne_eq_false_iff_eq.mpr c15
        clear c15
        (first | rw [c15b0] | (simp only [i64_w, i32_w]; rw [c15b0]) | skip)
        replace H := Option.bind_eq_some_iff.mp H
        obtain ⟨⟨t159, t160⟩, A160, H⟩ := H
        replace H : (if t159 = a0 then (if t160 = 0 then (law01_CentBack.j1 kj9 a0 a2) else (some false)) else (some false)) = some r := H
        have A16 := Aside0.mk A160
        clear A160
        by_cases c17 : t159 = a0
        ·rw [if_pos c17] at H
         have c17b0 : (t159 == a0) = true := beq_iff_eq.mpr c17
         have c17b1 : (t159 != a0) = false := bne_eq_false_iff_eq.mpr c17
         clear c17
         by_cases c18 : t160 = 0
         ·rw [if_pos c18] at H
          have c18b0 : (t160 == 0) = true := beq_iff_eq.mpr c18
          have c18b1 : (t160 != 0) = false := bne_eq_false_iff_eq.mpr c18
          clear c18
          have H' := Aside0.mk H
          clear H
          go_wp2_with (first | ((with_reducible refine gate_callee (f := 16) rfl ?_); refine RFn.goesM (some 47) Tryd.func16 #[.int .i64 t155, .int .i64 a1] rfl ?_; (with_reducible refine (cent_Sub.calls t155 a1 t159 t160 _ A16.out).mono ?_); rintro e w' ⟨rfl, ⟨nd, rfl⟩⟩; refine ⟨_, rfl, ?_⟩))
          go_meet
          case rel => exact ⟨_, H', ⟨by have := HJ9.out; first | omega | exact Nat.le_refl _⟩, ⟨RFn.bel⟩⟩
         ·rw [if_neg c18] at H
          have c18b0 : (t160 == 0) = false := beq_eq_false_iff_ne.mpr c18
          have c18b1 : (t160 != 0) = true := bne_iff_ne.mpr c18
          obtain rfl := Option.some.inj H
          go_wp2_with (first | ((with_reducible refine gate_callee (f := 16) rfl ?_); refine RFn.goesM (some 47) Tryd.func16 #[.int .i64 t155, .int .i64 a1] rfl ?_; (with_reducible refine (cent_Sub.calls t155 a1 t159 t160 _ A16.out).mono ?_); rintro e w' ⟨rfl, ⟨nd, rfl⟩⟩; refine ⟨_, rfl, ?_⟩))
          go_ret
          exact ⟨by first | rfl | (simp [errW_none, errW_some] <;> rfl) | (simp [*, errW_none, errW_some] <;> rfl), RFn.bel⟩
        ·rw [if_neg c17] at H
         have c17b0 : (t159 == a0) = false := beq_eq_false_iff_ne.mpr c17
         have c17b1 : (t159 != a0) = true := bne_iff_ne.mpr c17
         obtain rfl := Option.some.inj H
         go_wp2_with (first | ((with_reducible refine gate_callee (f := 16) rfl ?_); refine RFn.goesM (some 47) Tryd.func16 #[.int .i64 t155, .int .i64 a1] rfl ?_; (with_reducible refine (cent_Sub.calls t155 a1 t159 t160 _ A16.out).mono ?_); rintro e w' ⟨rfl, ⟨nd, rfl⟩⟩; refine ⟨_, rfl, ?_⟩))
         go_ret
         exact ⟨by first | rfl | (simp [errW_none, errW_some] <;> rfl) | (simp [*, errW_none, errW_some] <;> rfl), RFn.bel⟩
       ·rw [if_neg c15] at H
        have c15b0 : (t156 == 0) = false := beq_eq_false_iff_ne.mpr c15
        have c15b1 : (t156 != 0) = true := bne_iff_ne.mpr c15
        (first | rw [c15b0] | (simp only [i64_w, i32_w]; rw [c15b0]) | skip)
        have H' := Aside0.mk H
        clear H
        go_wp2
        go_meet
        case rel => exact ⟨_, H', ⟨by have := HJ9.out; first | omega | exact Nat.le_refl _⟩, ⟨RFn.bel⟩⟩
      case rest =>
       clear HC14
       try clear c1
       try clear p2
       try clear c5
       try clear c6
       try clear c6b0
       try clear c6b1
       try clear c9
       try clear c12
       try clear c12b0
       try clear c12b1
       try clear c13
       try clear c15
       try clear c15b0
       try clear c15b1
       try clear c16
       try clear c17
       try clear c17b0
       try clear c17b1
       try clear c18
       try clear c18b0
       try clear c18b1
       try clear p2
       obtain ⟨kq, HA, HJ13, HB⟩ := hcut
       cases kq with
       | zero => exact absurd HA.out (by simp [law01_CentBack.j1])
       | succ kj13 =>
        have H := HA.out
        clear HA
        simp only [law01_CentBack.j1] at H
        replace H := Option.bind_eq_some_iff.mp H
        obtain ⟨t161, A190, H⟩ := H
        replace H : ((cent_Parse.f t161).bind fun bt162 => (if bt162.1 = a0 then (law01_CentBack.j2 kj13 a2 (bt162.2 != 0)) else (law01_CentBack.j2 kj13 a2 true))) = some r := H
        have A19 := Aside0.mk A190
        clear A190
        replace H := Option.bind_eq_some_iff.mp H
        obtain ⟨⟨t162, t163⟩, A200, H⟩ := H
        replace H : (if t162 = a0 then (law01_CentBack.j2 kj13 a2 (t163 != 0)) else (law01_CentBack.j2 kj13 a2 true)) = some r := H
        have A20 := Aside0.mk A200
        clear A200
        have HC21 := Aside0.mk H
        clear H
        go_upto_region 14 with (first | ((with_reducible refine gate_callee (f := 12) rfl ?_); refine RFn.goesM (some 59) Tryd.func12 #[.int .i64 a0] rfl ?_; (with_reducible refine (cent_Print.calls a0 t161 _ A19.out (Go.Proofs.YtpfhoenjndmoaaaDoor.X.LaidW.below hLd_ RFn.bel)).mono ?_); rintro e w22 ⟨rfl, hb⟩; refine ⟨_, rfl, ?_⟩; have n0_ := Aside0.mk (below_step (RFn.bel) hb); clear HB; have HB := n0_; clear n0_; (try clear hb); (try clear hb2); (try clear hk); (try clear hi)) | ((with_reducible refine gate_callee (f := 10) rfl ?_); refine RFn.goesM (some 60) Tryd.func10 #[.string t161] rfl ?_; (with_reducible refine (cent_Parse.calls t161 t162 t163 _ A20.out (Go.Proofs.YtpfhoenjndmoaaaDoor.X.LaidW.below hLd_ RFn.bel)).mono ?_); rintro e w23 ⟨rfl, hb⟩; refine ⟨_, rfl, ?_⟩; have n0_ := Aside0.mk (below_step (RFn.bel) hb); clear HB; have HB := n0_; clear n0_; (try clear hb); (try clear hb2); (try clear hk); (try clear hi)))
        (try simp only [Act.put, List.setIfInBounds_toArray, List.set_cons_zero, List.set_cons_succ])
        go_cut [69] (fun v69 wc => ∃ (kq : Nat) (x69_20 : Bool), v69 = .bool x69_20 ∧ Aside0 (law01_CentBack.j2 kq a2 x69_20 = some r) ∧ Aside0 (kq ≤ kj13) ∧ Aside0 (Below w.heap.size w wc))
        case first =>
         have H := HC21.out
         clear HC21
         by_cases c24 : t162 = a0
         ·rw [if_pos c24] at H
          have c24b0 : (t162 == a0) = true := beq_iff_eq.mpr c24
          have c24b1 : (t162 != a0) = false := bne_eq_false_iff_eq.mpr c24
          clear c24
          (first | rw [c24b0] | (simp only [i64_w, i32_w]; rw [c24b0]) | skip)
          have H' := Aside0.mk H
          clear H
          go_wp2
          go_meet
          case rel => exact ⟨_, ((t163 != 0)), (by first | rfl | (simp; done) | (simp [*]; done)), H', ⟨by have := HJ9.out; have := HJ13.out; first | omega | exact Nat.le_refl _⟩, ⟨RFn.bel⟩⟩
         ·rw [if_neg c24] at H
          have c24b0 : (t162 == a0) = false := beq_eq_false_iff_ne.mpr c24
          have c24b1 : (t162 != a0) = true := bne_iff_ne.mpr c24
          (first | rw [c24b0] | (simp only [i64_w, i32_w]; rw [c24b0]) | skip)
          have H' := Aside0.mk H
          clear H
          go_wp2
          go_meet
          case rel => exact ⟨_, (true), (by first | rfl | (simp; done) | (simp [*]; done)), H', ⟨by have := HJ9.out; have := HJ13.out; first | omega | exact Nat.le_refl _⟩, ⟨RFn.bel⟩⟩
        case rest =>
         clear HC21
         try clear c1
         try clear c2
         try clear p2
         try clear c5
         try clear c6
         try clear c6b0
         try clear c6b1
         try clear c9
         try clear c10
         try clear c12
         try clear c12b0
         try clear c12b1
         try clear c13
         try clear c15
         try clear c15b0
         try clear c15b1
         try clear c16
         try clear c17
         try clear c17b0
         try clear c17b1
         try clear c18
         try clear c18b0
         try clear c18b1
         try clear c24
         try clear c24b0
         try clear c24b1
         try clear p2
         obtain ⟨kq, x69_20, rfl, HA, HJ20, HB⟩ := hcut
         cases kq with
         | zero => exact absurd HA.out (by simp [law01_CentBack.j2])
         | succ kj20 =>
          have H := HA.out
          clear HA
          simp only [law01_CentBack.j2] at H
          by_cases c25 : x69_20 = true
          ·subst c25
           have H1 : (some false) = some r := by rw [if_pos rfl] at H; exact H
           clear H
           have H := H1
           clear H1
           obtain rfl := Option.some.inj H
           go_wp2
           go_ret
           exact ⟨by first | rfl | (simp [errW_none, errW_some] <;> rfl) | (simp [*, errW_none, errW_some] <;> rfl), RFn.bel⟩
          ·replace c25 := Bool.eq_false_iff.mpr c25
           subst c25
           have H1 : ((cent_Parse.f a2).bind fun bt164 => (if bt164.2 = 0 then ((cent_Print.f bt164.1).bind fun t166 => (some (t166.toList == a2.toList))) else (some true))) = some r := by rw [if_neg (show ¬ (false = true) by decide)] at H; exact H
           clear H
           have H := H1
           clear H1
           replace H := Option.bind_eq_some_iff.mp H
           obtain ⟨⟨t164, t165⟩, A260, H⟩ := H
           replace H : (if t165 = 0 then ((cent_Print.f t164).bind fun t166 => (some (t166.toList == a2.toList))) else (some true)) = some r := H
           have A26 := Aside0.mk A260
           clear A260
           by_cases c27 : t165 = 0
           ·rw [if_pos c27] at H
            have c27b0 : (t165 == 0) = true := beq_iff_eq.mpr c27
            have c27b1 : (t165 != 0) = false := bne_eq_false_iff_eq.mpr c27
            clear c27
            replace H := Option.bind_eq_some_iff.mp H
            obtain ⟨t166, A280, H⟩ := H
            replace H : (some (t166.toList == a2.toList)) = some r := H
            have A28 := Aside0.mk A280
            clear A280
            obtain rfl := Option.some.inj H
            go_wp2_with (first | ((with_reducible refine gate_callee (f := 10) rfl ?_); refine RFn.goesM (some 72) Tryd.func10 #[.string a2] rfl ?_; (with_reducible refine (cent_Parse.calls a2 t164 t165 _ A26.out (Go.Proofs.YtpfhoenjndmoaaaDoor.X.LaidW.below hLd_ RFn.bel)).mono ?_); rintro e w29 ⟨rfl, hb⟩; refine ⟨_, rfl, ?_⟩; have n0_ := Aside0.mk (below_step (RFn.bel) hb); clear HB; have HB := n0_; clear n0_; (try clear hb); (try clear hb2); (try clear hk); (try clear hi)) | (go_at_call 12; (with_reducible refine (cent_Print.calls t164 t166 _ A28.out (Go.Proofs.YtpfhoenjndmoaaaDoor.X.LaidW.below hLd_ RFn.bel)).mono ?_); rintro e w30 ⟨rfl, hb⟩; have n0_ := Aside0.mk (below_step (RFn.bel) hb); clear HB; have HB := n0_; clear n0_; (try clear hb); (try clear hb2); (try clear hk); (try clear hi)))
            go_ret
            exact ⟨by first | rfl | (simp [errW_none, errW_some] <;> rfl) | (simp [*, errW_none, errW_some] <;> rfl), RFn.bel⟩
           ·rw [if_neg c27] at H
            have c27b0 : (t165 == 0) = false := beq_eq_false_iff_ne.mpr c27
            have c27b1 : (t165 != 0) = true := bne_iff_ne.mpr c27
            obtain rfl := Option.some.inj H
            go_wp2_with (first | ((with_reducible refine gate_callee (f := 10) rfl ?_); refine RFn.goesM (some 72) Tryd.func10 #[.string a2] rfl ?_; (with_reducible refine (cent_Parse.calls a2 t164 t165 _ A26.out (Go.Proofs.YtpfhoenjndmoaaaDoor.X.LaidW.below hLd_ RFn.bel)).mono ?_); rintro e w31 ⟨rfl, hb⟩; refine ⟨_, rfl, ?_⟩; have n0_ := Aside0.mk (below_step (RFn.bel) hb); clear HB; have HB := n0_; clear n0_; (try clear hb); (try clear hb2); (try clear hk); (try clear hi)))
            go_ret
            exact ⟨by first | rfl | (simp [errW_none, errW_some] <;> rfl) | (simp [*, errW_none, errW_some] <;> rfl), RFn.bel⟩
 ·replace c5 := Bool.eq_false_iff.mpr c5
  subst c5
  have H1 : (some false) = some r := by rw [if_neg (show ¬ (false = true) by decide)] at H; exact H
  clear H
  have H := H1
  clear H1
  obtain rfl := Option.some.inj H
  go_enter Tryd.func6, Tryd.ntmps6
  go_wp2_with (first | ((with_reducible refine gate_callee (f := 9) rfl ?_); refine RFn.goesM (some 17) Tryd.func9 #[] rfl ?_; (with_reducible refine (law01_alive.calls k  false _ A4.out (Go.Proofs.YtpfhoenjndmoaaaDoor.X.LaidW.below hLd_ RFn.bel)).mono ?_); rintro e w32 ⟨rfl, hb⟩; refine ⟨_, rfl, ?_⟩; have n0_ := Aside0.mk (below_step (RFn.bel) hb); clear HB; have HB := n0_; clear n0_; (try clear hb); (try clear hb2); (try clear hk); (try clear hi)))
  go_ret
  exact ⟨by first | rfl | (simp [errW_none, errW_some] <;> rfl) | (simp [*, errW_none, errW_some] <;> rfl), RFn.bel⟩

/-- THE ONE PURE STATEMENT of law01_CentBack: ours. -/
def law01_CentBack.Pure : Prop := ∀ (a0 : Int) (a1 : Int) (a2 : ByteArray), (Lit.int .i64 a0).wf = true → (Lit.int .i64 a1).wf = true → a2.size ≤ 140737488351232 → ∃ k, law01_CentBack.f k a0 a1 a2 = some true

end Go.Proofs.YtpfhoenjndmoaaaDoor.Q
