/- printed by a program of this session (wip/tools/pr.sh): it is not a print of the kit -/
import Derived.Test.YtpfhoenjndmoaaaDoorQx0
import Derived.Test.YtpfhoenjndmoaaaDoorQx1
namespace Go.Proofs.YtpfhoenjndmoaaaDoor.Q
open Go.RowKit Go.Proofs.YtpfhoenjndmoaaaDoorW.PrintWords Go.Proofs.YtpfhoenjndmoaaaDoorW.PrintLast Go.Proofs.YtpfhoenjndmoaaaDoorW.PrintMore
attribute [local go_sem] max2_int min2_int max_two min_two max_three min_three max_four min_four   -- for this text's walks alone
set_option linter.unusedVariables false
set_option linter.unusedSimpArgs false

/-! ### law01_CentPrints: function 5 -/
mutual
def law01_CentPrints.j0 : Nat → Int → ByteArray → Bool → Option (Bool)
 | 0, _, _, _ => none
 | k + 1, x0, x5, x25 => if x25 = true then (some false) else (law01_CentPrints.l0 k x0 x5 0 x0)
def law01_CentPrints.l0 : Nat → Int → ByteArray → Int → Int → Option (Bool)
 | 0, _, _, _, _ => none
 | k + 1, x0, x5, x7, x8 => if x8 = 0 then (if x7 = 0 then (law01_CentPrints.l0 k x0 x5 (wrap64 (x7 + 1)) (wrap64 (Int.tdiv x8 10))) else (if x0 < 0 then (some ((x5.size : Int) == (wrap64 (x7 + 1)))) else (some ((x5.size : Int) == x7)))) else (law01_CentPrints.l0 k x0 x5 (wrap64 (x7 + 1)) (wrap64 (Int.tdiv x8 10)))
end
def law01_CentPrints.f (k : Nat) (a0 : Int) (a1 : Int) : Option (Bool) := (law01_alive.f k).bind fun t151 => (if t151 = true then ((cent_Print.f a0).bind fun t152 => ((cent_Print.f a1).bind fun t153 => (if ((t152.toList == t153.toList) != (a0 == a1)) = true then (law01_CentPrints.j0 k a0 t152 true) else (law01_CentPrints.j0 k a0 t152 (t152.toList == ([] : List UInt8)))))) else (some false))
theorem law01_CentPrints.mono_l : ∀ k, (∀ y0 y1 y2, LeO (law01_CentPrints.j0 k y0 y1 y2) (law01_CentPrints.j0 (k + 1) y0 y1 y2)) ∧ (∀ y0 y1 y2 y3, LeO (law01_CentPrints.l0 k y0 y1 y2 y3) (law01_CentPrints.l0 (k + 1) y0 y1 y2 y3))
 | 0 => ⟨fun _ _ _ r h => by simp [law01_CentPrints.j0] at h, fun _ _ _ _ r h => by simp [law01_CentPrints.l0] at h⟩
 | k + 1 => by
  obtain ⟨ih0, ih1⟩ := law01_CentPrints.mono_l k
  refine ⟨?_, ?_⟩
  ·intro y0 y1 y2
   unfold law01_CentPrints.j0
   repeat' first
   | (with_reducible exact ih0 _ _ _)
   | (with_reducible exact ih1 _ _ _ _)
   | (with_reducible exact law01_alive.mono _)
   | (with_reducible exact LeO.refl _)
   | (with_reducible exact LeO.none _)
   | (with_reducible refine LeO.ite ?_ ?_)
   | (with_reducible refine LeO.bind ?_ (fun _ => ?_))
   | exact ih0 _ _ _
   | exact ih1 _ _ _ _
   | exact law01_alive.mono _
   | exact LeO.none _
   | refine LeO.ite ?_ ?_
   | refine LeO.bind ?_ (fun _ => ?_)
  ·intro y0 y1 y2 y3
   unfold law01_CentPrints.l0
   repeat' first
   | (with_reducible exact ih0 _ _ _)
   | (with_reducible exact ih1 _ _ _ _)
   | (with_reducible exact law01_alive.mono _)
   | (with_reducible exact LeO.refl _)
   | (with_reducible exact LeO.none _)
   | (with_reducible refine LeO.ite ?_ ?_)
   | (with_reducible refine LeO.bind ?_ (fun _ => ?_))
   | exact ih0 _ _ _
   | exact ih1 _ _ _ _
   | exact law01_alive.mono _
   | exact LeO.none _
   | refine LeO.ite ?_ ?_
   | refine LeO.bind ?_ (fun _ => ?_)
theorem law01_CentPrints.mono : ∀ a0 a1 k, LeO (law01_CentPrints.f k a0 a1) (law01_CentPrints.f (k + 1) a0 a1) := by
 intro a0 a1 k
 obtain ⟨ih0, ih1⟩ := law01_CentPrints.mono_l k
 unfold law01_CentPrints.f
 repeat' first
   | (with_reducible exact ih0 _ _ _)
   | (with_reducible exact ih1 _ _ _ _)
   | (with_reducible exact law01_alive.mono _)
   | (with_reducible exact LeO.refl _)
   | (with_reducible exact LeO.none _)
   | (with_reducible refine LeO.ite ?_ ?_)
   | (with_reducible refine LeO.bind ?_ (fun _ => ?_))
   | exact ih0 _ _ _
   | exact ih1 _ _ _ _
   | exact law01_alive.mono _
   | exact LeO.none _
   | refine LeO.ite ?_ ?_
   | refine LeO.bind ?_ (fun _ => ?_)
set_option maxHeartbeats 8000000 in
set_option maxRecDepth 100000 in
theorem law01_CentPrints.calls (k : Nat) (a0 : Int) (a1 : Int) (r : Bool) (w : World) (h : law01_CentPrints.f k a0 a1 = some r) (hLd_ : Go.Proofs.YtpfhoenjndmoaaaDoor.X.LaidW w) :
  Calls Tryd.prog 5 #[.int .i64 a0, .int .i64 a1] w fun e w' => e = .returned (.bool r) ∧ Below w.heap.size w w' := by
 have HB := Aside0.mk (Below.refl w.heap.size w)
 have H : ((law01_alive.f k).bind fun t151 => (if t151 = true then ((cent_Print.f a0).bind fun t152 => ((cent_Print.f a1).bind fun t153 => (if ((t152.toList == t153.toList) != (a0 == a1)) = true then (law01_CentPrints.j0 k a0 t152 true) else (law01_CentPrints.j0 k a0 t152 (t152.toList == ([] : List UInt8)))))) else (some false))) = some r := h
 clear h
 replace H := Option.bind_eq_some_iff.mp H
 obtain ⟨t151, A30, H⟩ := H
 replace H : (if t151 = true then ((cent_Print.f a0).bind fun t152 => ((cent_Print.f a1).bind fun t153 => (if ((t152.toList == t153.toList) != (a0 == a1)) = true then (law01_CentPrints.j0 k a0 t152 true) else (law01_CentPrints.j0 k a0 t152 (t152.toList == ([] : List UInt8)))))) else (some false)) = some r := H
 have A3 := Aside0.mk A30
 clear A30
 by_cases c4 : t151 = true
 ·subst c4
  have H1 : ((cent_Print.f a0).bind fun t152 => ((cent_Print.f a1).bind fun t153 => (if ((t152.toList == t153.toList) != (a0 == a1)) = true then (law01_CentPrints.j0 k a0 t152 true) else (law01_CentPrints.j0 k a0 t152 (t152.toList == ([] : List UInt8)))))) = some r := by rw [if_pos rfl] at H; exact H
  clear H
  have H := H1
  clear H1
  replace H := Option.bind_eq_some_iff.mp H
  obtain ⟨t152, A50, H⟩ := H
  replace H : ((cent_Print.f a1).bind fun t153 => (if ((t152.toList == t153.toList) != (a0 == a1)) = true then (law01_CentPrints.j0 k a0 t152 true) else (law01_CentPrints.j0 k a0 t152 (t152.toList == ([] : List UInt8))))) = some r := H
  have A5 := Aside0.mk A50
  clear A50
  replace H := Option.bind_eq_some_iff.mp H
  obtain ⟨t153, A60, H⟩ := H
  replace H : (if ((t152.toList == t153.toList) != (a0 == a1)) = true then (law01_CentPrints.j0 k a0 t152 true) else (law01_CentPrints.j0 k a0 t152 (t152.toList == ([] : List UInt8)))) = some r := H
  have A6 := Aside0.mk A60
  clear A60
  have HC7 := Aside0.mk H
  clear H
  go_enter Tryd.func5, Tryd.ntmps5
  go_upto_region 4 with (first | ((with_reducible refine gate_callee (f := 9) rfl ?_); refine RFn.goesM (some 9) Tryd.func9 #[] rfl ?_; (with_reducible refine (law01_alive.calls k  true _ A3.out (Go.Proofs.YtpfhoenjndmoaaaDoor.X.LaidW.below hLd_ RFn.bel)).mono ?_); rintro e w8 ⟨rfl, hb⟩; refine ⟨_, rfl, ?_⟩; have n0_ := Aside0.mk (below_step (RFn.bel) hb); clear HB; have HB := n0_; clear n0_; (try clear hb); (try clear hb2); (try clear hk); (try clear hi)) | ((with_reducible refine gate_callee (f := 12) rfl ?_); refine RFn.goesM (some 12) Tryd.func12 #[.int .i64 a0] rfl ?_; (with_reducible refine (cent_Print.calls a0 t152 _ A5.out (Go.Proofs.YtpfhoenjndmoaaaDoor.X.LaidW.below hLd_ RFn.bel)).mono ?_); rintro e w9 ⟨rfl, hb⟩; refine ⟨_, rfl, ?_⟩; have n0_ := Aside0.mk (below_step (RFn.bel) hb); clear HB; have HB := n0_; clear n0_; (try clear hb); (try clear hb2); (try clear hk); (try clear hi)) | ((with_reducible refine gate_callee (f := 12) rfl ?_); refine RFn.goesM (some 14) Tryd.func12 #[.int .i64 a1] rfl ?_; (with_reducible refine (cent_Print.calls a1 t153 _ A6.out (Go.Proofs.YtpfhoenjndmoaaaDoor.X.LaidW.below hLd_ RFn.bel)).mono ?_); rintro e w10 ⟨rfl, hb⟩; refine ⟨_, rfl, ?_⟩; have n0_ := Aside0.mk (below_step (RFn.bel) hb); clear HB; have HB := n0_; clear n0_; (try clear hb); (try clear hb2); (try clear hk); (try clear hi)))
  (try simp only [Act.put, List.setIfInBounds_toArray, List.set_cons_zero, List.set_cons_succ])
  go_cut [25] (fun v25 wc => ∃ (kq : Nat) (x25_6 : Bool), v25 = .bool x25_6 ∧ Aside0 (law01_CentPrints.j0 kq a0 t152 x25_6 = some r) ∧ Aside0 (kq ≤ k) ∧ Aside0 (Below w.heap.size w wc))
  case first =>
   have H := HC7.out
   clear HC7
   by_cases c11 : ((t152.toList == t153.toList) != (a0 == a1)) = true
   ·rw [if_pos c11] at H
    have c11b0 : ((t152.toList == t153.toList) != (a0 == a1)) = true := c11
    (try (have c11b1 : decide ((t152.toList == t153.toList) = (a0 == a1)) = false := by simpa using c11))
    (try (have c11b2 : ((t152.toList == t153.toList) == (a0 == a1)) = false := by simpa using c11))
    (try (have c11b3 : ¬ ((t152.toList == t153.toList) = (a0 == a1)) := by simpa using c11))
    clear c11
    (first | rw [c11b0] | (simp only [i64_w, i32_w]; rw [c11b0]) | skip)
    have H' := Aside0.mk H
    clear H
    go_wp2
    go_meet
    case rel => exact ⟨_, (true), (by first | rfl | (simp; done) | (simp [*]; done)), H', ⟨by first | omega | exact Nat.le_refl _⟩, ⟨RFn.bel⟩⟩
   ·rw [if_neg c11] at H
    have c11b0 : ((t152.toList == t153.toList) != (a0 == a1)) = false := by simpa using c11
    (try (have c11b1 : decide ((t152.toList == t153.toList) = (a0 == a1)) = true := by simpa using c11))
    (try (have c11b2 : ((t152.toList == t153.toList) == (a0 == a1)) = true := by simpa using c11))
    clear c11
    (first | rw [c11b0] | (simp only [i64_w, i32_w]; rw [c11b0]) | skip)
    have H' := Aside0.mk H
    clear H
    go_wp2
    go_meet
    case rel => exact ⟨_, ((t152.toList == ([] : List UInt8))), (by first | rfl | (simp; done) | (simp [*]; done)), H', ⟨by first | omega | exact Nat.le_refl _⟩, ⟨RFn.bel⟩⟩
  case rest =>
   clear HC7
   try clear c1
   try clear p2
   try clear c4
   try clear c5
   try clear c9
   try clear c11
   try clear c11b0
   try clear c11b1
   try clear c11b2
   obtain ⟨kq, x25_6, rfl, HA, HJ6, HB⟩ := hcut
   cases kq with
   | zero => exact absurd HA.out (by simp [law01_CentPrints.j0])
   | succ kj6 =>
    have H := HA.out
    clear HA
    simp only [law01_CentPrints.j0] at H
    by_cases c12 : x25_6 = true
    ·subst c12
     have H1 : (some false) = some r := by rw [if_pos rfl] at H; exact H
     clear H
     have H := H1
     clear H1
     obtain rfl := Option.some.inj H
     go_wp2
     go_ret
     exact ⟨by first | rfl | (simp [errW_none, errW_some] <;> rfl) | (simp [*, errW_none, errW_some] <;> rfl), RFn.bel⟩
    ·replace c12 := Bool.eq_false_iff.mpr c12
     subst c12
     have H1 : (law01_CentPrints.l0 kj6 a0 t152 0 a0) = some r := by rw [if_neg (show ¬ (false = true) by decide)] at H; exact H
     clear H
     have H := H1
     clear H1
     have H' := Aside0.mk H
     clear H
     go_wp2
     go_loopg [7, 8] kj6 (fun kq v7 v8 w' => ∃ (x7_2 : Int) (x8_2 : Int), v7 = .int .i64 x7_2 ∧ v8 = .int .i64 x8_2 ∧ Aside0 (law01_CentPrints.l0 kq a0 t152 x7_2 x8_2 = some r) ∧ Aside0 (kq ≤ kj6) ∧ Aside0 (Below w.heap.size w w'))
     case atStart => exact ⟨(0), (a0), (by first | rfl | (simp; done) | (simp [*]; done)), (by first | rfl | (simp; done) | (simp [*]; done)), H', ⟨Nat.le_refl _⟩, ⟨RFn.bel⟩⟩
     case round =>
      clear H'
      try clear c1
      try clear p2
      try clear c4
      try clear c5
      try clear c9
      try clear c11
      try clear c11b0
      try clear c11b1
      try clear c11b2
      try clear c12
      try clear p2
      obtain ⟨x7_2, x8_2, rfl, rfl, HA, HK2, HB⟩ := hrel
      cases gk with
      | zero => exact absurd HA.out (by simp [law01_CentPrints.l0])
      | succ k2 =>
       have H := HA.out
       clear HA
       simp only [law01_CentPrints.l0] at H
       by_cases c13 : x8_2 = 0
       ·rw [if_pos c13] at H
        have c13b0 : (x8_2 == 0) = true := beq_iff_eq.mpr c13
        have c13b1 : (x8_2 != 0) = false := bne_eq_false_iff_eq.mpr c13
        clear c13
        by_cases c14 : x7_2 = 0
        ·rw [if_pos c14] at H
         have c14b0 : (x7_2 == 0) = true := beq_iff_eq.mpr c14
         have c14b1 : (x7_2 != 0) = false := bne_eq_false_iff_eq.mpr c14
         clear c14
         have H' := Aside0.mk H
         clear H
         go_wp2
         go_roundg k2
         case measure => have := HJ6.out; have := HK2.out; omega
         case rel => exact ⟨(wrap64 (x7_2 + 1)), (wrap64 (Int.tdiv x8_2 10)), (by first | rfl | (simp; done) | (simp [*]; done)), (by first | rfl | (simp; done) | (simp [*]; done)), H', ⟨by have := HJ6.out; have := HK2.out; omega⟩, ⟨RFn.bel⟩⟩
        ·rw [if_neg c14] at H
         have c14b0 : (x7_2 == 0) = false := beq_eq_false_iff_ne.mpr c14
         have c14b1 : (x7_2 != 0) = true := bne_iff_ne.mpr c14
         by_cases c15 : a0 < 0
         ·rw [if_pos c15] at H
          have c15b0 : decide (a0 < 0) = true := decide_eq_true c15
          clear c15
          obtain rfl := Option.some.inj H
          go_wp2
          go_ret
          exact ⟨by first | rfl | (simp [errW_none, errW_some] <;> rfl) | (simp [*, errW_none, errW_some] <;> rfl), RFn.bel⟩
         ·rw [if_neg c15] at H
          have c15b0 : decide (a0 < 0) = false := decide_eq_false c15
          clear c15
          obtain rfl := Option.some.inj H
          go_wp2
          go_ret
          exact ⟨by first | rfl | (simp [errW_none, errW_some] <;> rfl) | (simp [*, errW_none, errW_some] <;> rfl), RFn.bel⟩
       ·rw [if_neg c13] at H
        have c13b0 : (x8_2 == 0) = false := beq_eq_false_iff_ne.mpr c13
        have c13b1 : (x8_2 != 0) = true := bne_iff_ne.mpr c13
        have H' := Aside0.mk H
        clear H
        go_wp2
        go_roundg k2
        case measure => have := HJ6.out; have := HK2.out; omega
        case rel => exact ⟨(wrap64 (x7_2 + 1)), (wrap64 (Int.tdiv x8_2 10)), (by first | rfl | (simp; done) | (simp [*]; done)), (by first | rfl | (simp; done) | (simp [*]; done)), H', ⟨by have := HJ6.out; have := HK2.out; omega⟩, ⟨RFn.bel⟩⟩
 ·replace c4 := Bool.eq_false_iff.mpr c4
  subst c4
  have H1 : (some false) = some r := by rw [if_neg (show ¬ (false = true) by decide)] at H; exact H
  clear H
  have H := H1
  clear H1
  obtain rfl := Option.some.inj H
  go_enter Tryd.func5, Tryd.ntmps5
  go_wp2_with (first | ((with_reducible refine gate_callee (f := 9) rfl ?_); refine RFn.goesM (some 9) Tryd.func9 #[] rfl ?_; (with_reducible refine (law01_alive.calls k  false _ A3.out (Go.Proofs.YtpfhoenjndmoaaaDoor.X.LaidW.below hLd_ RFn.bel)).mono ?_); rintro e w16 ⟨rfl, hb⟩; refine ⟨_, rfl, ?_⟩; have n0_ := Aside0.mk (below_step (RFn.bel) hb); clear HB; have HB := n0_; clear n0_; (try clear hb); (try clear hb2); (try clear hk); (try clear hi)))
  go_ret
  exact ⟨by first | rfl | (simp [errW_none, errW_some] <;> rfl) | (simp [*, errW_none, errW_some] <;> rfl), RFn.bel⟩

/-- THE ONE PURE STATEMENT of law01_CentPrints: ours. -/
def law01_CentPrints.Pure : Prop := ∀ (a0 : Int) (a1 : Int), (Lit.int .i64 a0).wf = true → (Lit.int .i64 a1).wf = true → ∃ k, law01_CentPrints.f k a0 a1 = some true

end Go.Proofs.YtpfhoenjndmoaaaDoor.Q
