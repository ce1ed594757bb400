/- printed by a program of this session (wip/tools/pr.sh): it is not a print of the kit -/
import Derived.Test.YtpfhoenjndmoaaaDoorQx0
import Derived.Test.YtpfhoenjndmoaaaDoorQx1
import Derived.Test.YtpfhoenjndmoaaaDoorQx5
import Derived.Test.YtpfhoenjndmoaaaDoorQx7
namespace Go.Proofs.YtpfhoenjndmoaaaDoor.Q
open Go.RowKit Go.Proofs.YtpfhoenjndmoaaaDoorW.PrintWords Go.Proofs.YtpfhoenjndmoaaaDoorW.PrintLast Go.Proofs.YtpfhoenjndmoaaaDoorW.PrintMore
attribute [local go_sem] max2_int min2_int max_two min_two max_three min_three max_four min_four   -- for this text's walks alone
set_option linter.unusedVariables false
set_option linter.unusedSimpArgs false

/-! ### law01_CentSigns: function 8 -/
def law01_CentSigns.f (k : Nat) (a0 : Int) (a1 : Int) : Option (Bool) := (law01_alive.f k).bind fun t189 => (if t189 = true then ((cent_Neg.f a1).bind fun bt190 => (if bt190.2 = 0 then ((cent_Sub.f a0 a1).bind fun bt192 => ((cent_Add.f a0 bt190.1).bind fun bt194 => ((cent_Neg.f bt190.1).bind fun bt196 => (if bt192.1 = bt194.1 then (if bt192.2 = bt194.2 then (if bt196.2 = 0 then (some (bt196.1 == a1)) else (some false)) else (some false)) else (some false))))) else (if bt190.2 = 2 then (some (a1 == (-9223372036854775808))) else (some false)))) else (some false))
theorem law01_CentSigns.mono : ∀ a0 a1 k, LeO (law01_CentSigns.f k a0 a1) (law01_CentSigns.f (k + 1) a0 a1) := by
 intro a0 a1 k
 unfold law01_CentSigns.f
 repeat' first
   | (with_reducible exact law01_alive.mono _)
   | (with_reducible exact LeO.refl _)
   | (with_reducible exact LeO.none _)
   | (with_reducible refine LeO.ite ?_ ?_)
   | (with_reducible refine LeO.bind ?_ (fun _ => ?_))
   | exact law01_alive.mono _
   | exact LeO.none _
   | refine LeO.ite ?_ ?_
   | refine LeO.bind ?_ (fun _ => ?_)
set_option maxHeartbeats 8000000 in
set_option maxRecDepth 100000 in
theorem law01_CentSigns.calls (k : Nat) (a0 : Int) (a1 : Int) (r : Bool) (w : World) (h : law01_CentSigns.f k a0 a1 = some r) (hLd_ : Go.Proofs.YtpfhoenjndmoaaaDoor.X.LaidW w) :
  Calls Tryd.prog 8 #[.int .i64 a0, .int .i64 a1] w fun e w' => e = .returned (.bool r) ∧ Below w.heap.size w w' := by
 have HB := Aside0.mk (Below.refl w.heap.size w)
 have H : ((law01_alive.f k).bind fun t189 => (if t189 = true then ((cent_Neg.f a1).bind fun bt190 => (if bt190.2 = 0 then ((cent_Sub.f a0 a1).bind fun bt192 => ((cent_Add.f a0 bt190.1).bind fun bt194 => ((cent_Neg.f bt190.1).bind fun bt196 => (if bt192.1 = bt194.1 then (if bt192.2 = bt194.2 then (if bt196.2 = 0 then (some (bt196.1 == a1)) else (some false)) else (some false)) else (some false))))) else (if bt190.2 = 2 then (some (a1 == (-9223372036854775808))) else (some false)))) else (some false))) = some r := h
 clear h
 replace H := Option.bind_eq_some_iff.mp H
 obtain ⟨t189, A30, H⟩ := H
 replace H : (if t189 = true then ((cent_Neg.f a1).bind fun bt190 => (if bt190.2 = 0 then ((cent_Sub.f a0 a1).bind fun bt192 => ((cent_Add.f a0 bt190.1).bind fun bt194 => ((cent_Neg.f bt190.1).bind fun bt196 => (if bt192.1 = bt194.1 then (if bt192.2 = bt194.2 then (if bt196.2 = 0 then (some (bt196.1 == a1)) else (some false)) else (some false)) else (some false))))) else (if bt190.2 = 2 then (some (a1 == (-9223372036854775808))) else (some false)))) else (some false)) = some r := H
 have A3 := Aside0.mk A30
 clear A30
 by_cases c4 : t189 = true
 ·subst c4
  have H1 : ((cent_Neg.f a1).bind fun bt190 => (if bt190.2 = 0 then ((cent_Sub.f a0 a1).bind fun bt192 => ((cent_Add.f a0 bt190.1).bind fun bt194 => ((cent_Neg.f bt190.1).bind fun bt196 => (if bt192.1 = bt194.1 then (if bt192.2 = bt194.2 then (if bt196.2 = 0 then (some (bt196.1 == a1)) else (some false)) else (some false)) else (some false))))) else (if bt190.2 = 2 then (some (a1 == (-9223372036854775808))) else (some false)))) = some r := by rw [if_pos rfl] at H; exact H
  clear H
  have H := H1
  clear H1
  replace H := Option.bind_eq_some_iff.mp H
  obtain ⟨⟨t190, t191⟩, A50, H⟩ := H
  replace H : (if t191 = 0 then ((cent_Sub.f a0 a1).bind fun bt192 => ((cent_Add.f a0 t190).bind fun bt194 => ((cent_Neg.f t190).bind fun bt196 => (if bt192.1 = bt194.1 then (if bt192.2 = bt194.2 then (if bt196.2 = 0 then (some (bt196.1 == a1)) else (some false)) else (some false)) else (some false))))) else (if t191 = 2 then (some (a1 == (-9223372036854775808))) else (some false))) = some r := H
  have A5 := Aside0.mk A50
  clear A50
  by_cases c6 : t191 = 0
  ·rw [if_pos c6] at H
   have c6b0 : (t191 == 0) = true := beq_iff_eq.mpr c6
   have c6b1 : (t191 != 0) = false := bne_eq_false_iff_eq.mpr c6
   clear c6
   replace H := Option.bind_eq_some_iff.mp H
   obtain ⟨⟨t192, t193⟩, A70, H⟩ := H
   replace H : ((cent_Add.f a0 t190).bind fun bt194 => ((cent_Neg.f t190).bind fun bt196 => (if t192 = bt194.1 then (if t193 = bt194.2 then (if bt196.2 = 0 then (some (bt196.1 == a1)) else (some false)) else (some false)) else (some false)))) = some r := H
   have A7 := Aside0.mk A70
   clear A70
   replace H := Option.bind_eq_some_iff.mp H
   obtain ⟨⟨t194, t195⟩, A80, H⟩ := H
   replace H : ((cent_Neg.f t190).bind fun bt196 => (if t192 = t194 then (if t193 = t195 then (if bt196.2 = 0 then (some (bt196.1 == a1)) else (some false)) else (some false)) else (some false))) = some r := H
   have A8 := Aside0.mk A80
   clear A80
   replace H := Option.bind_eq_some_iff.mp H
   obtain ⟨⟨t196, t197⟩, A90, H⟩ := H
   replace H : (if t192 = t194 then (if t193 = t195 then (if t197 = 0 then (some (t196 == a1)) else (some false)) else (some false)) else (some false)) = some r := H
   have A9 := Aside0.mk A90
   clear A90
   by_cases c10 : t192 = t194
   ·rw [if_pos c10] at H
    have c10b0 : (t192 == t194) = true := beq_iff_eq.mpr c10
    have c10b1 : (t192 != t194) = false := bne_eq_false_iff_eq.mpr c10
    clear c10
    by_cases c11 : t193 = t195
    ·rw [if_pos c11] at H
     have c11b0 : (t193 == t195) = true := beq_iff_eq.mpr c11
     have c11b1 : (t193 != t195) = false := bne_eq_false_iff_eq.mpr c11
     clear c11
     by_cases c12 : t197 = 0
     ·rw [if_pos c12] at H
      have c12b0 : (t197 == 0) = true := beq_iff_eq.mpr c12
      have c12b1 : (t197 != 0) = false := bne_eq_false_iff_eq.mpr c12
      clear c12
      obtain rfl := Option.some.inj H
      go_enter Tryd.func8, Tryd.ntmps8
      go_wp2_with (first | ((with_reducible refine gate_callee (f := 9) rfl ?_); refine RFn.goesM (some 13) Tryd.func9 #[] rfl ?_; (with_reducible refine (law01_alive.calls k  true _ A3.out (Go.Proofs.YtpfhoenjndmoaaaDoor.X.LaidW.below hLd_ RFn.bel)).mono ?_); rintro e w13 ⟨rfl, hb⟩; refine ⟨_, rfl, ?_⟩; have n0_ := Aside0.mk (below_step (RFn.bel) hb); clear HB; have HB := n0_; clear n0_; (try clear hb); (try clear hb2); (try clear hk); (try clear hi)) | ((with_reducible refine gate_callee (f := 19) rfl ?_); refine RFn.goesM (some 17) Tryd.func19 #[.int .i64 a1] rfl ?_; (with_reducible refine (cent_Neg.calls a1 t190 t191 _ A5.out).mono ?_); rintro e w' ⟨rfl, ⟨nd, rfl⟩⟩; refine ⟨_, rfl, ?_⟩) | ((with_reducible refine gate_callee (f := 16) rfl ?_); refine RFn.goesM (some 31) Tryd.func16 #[.int .i64 a0, .int .i64 a1] rfl ?_; (with_reducible refine (cent_Sub.calls a0 a1 t192 t193 _ A7.out).mono ?_); rintro e w' ⟨rfl, ⟨nd, rfl⟩⟩; refine ⟨_, rfl, ?_⟩) | ((with_reducible refine gate_callee (f := 15) rfl ?_); refine RFn.goesM (some 37) Tryd.func15 #[.int .i64 a0, .int .i64 t190] rfl ?_; (with_reducible refine (cent_Add.calls a0 t190 t194 t195 _ A8.out).mono ?_); rintro e w' ⟨rfl, ⟨nd, rfl⟩⟩; refine ⟨_, rfl, ?_⟩) | ((with_reducible refine gate_callee (f := 19) rfl ?_); refine RFn.goesM (some 42) Tryd.func19 #[.int .i64 t190] rfl ?_; (with_reducible refine (cent_Neg.calls t190 t196 t197 _ A9.out).mono ?_); rintro e w' ⟨rfl, ⟨nd, rfl⟩⟩; refine ⟨_, rfl, ?_⟩))
      go_ret
      exact ⟨by first | rfl | (simp [errW_none, errW_some] <;> rfl) | (simp [*, errW_none, errW_some] <;> rfl), RFn.bel⟩
     ·rw [if_neg c12] at H
      have c12b0 : (t197 == 0) = false := beq_eq_false_iff_ne.mpr c12
      have c12b1 : (t197 != 0) = true := bne_iff_ne.mpr c12
      obtain rfl := Option.some.inj H
      go_enter Tryd.func8, Tryd.ntmps8
      go_wp2_with (first | ((with_reducible refine gate_callee (f := 9) rfl ?_); refine RFn.goesM (some 13) Tryd.func9 #[] rfl ?_; (with_reducible refine (law01_alive.calls k  true _ A3.out (Go.Proofs.YtpfhoenjndmoaaaDoor.X.LaidW.below hLd_ RFn.bel)).mono ?_); rintro e w14 ⟨rfl, hb⟩; refine ⟨_, rfl, ?_⟩; have n0_ := Aside0.mk (below_step (RFn.bel) hb); clear HB; have HB := n0_; clear n0_; (try clear hb); (try clear hb2); (try clear hk); (try clear hi)) | ((with_reducible refine gate_callee (f := 19) rfl ?_); refine RFn.goesM (some 17) Tryd.func19 #[.int .i64 a1] rfl ?_; (with_reducible refine (cent_Neg.calls a1 t190 t191 _ A5.out).mono ?_); rintro e w' ⟨rfl, ⟨nd, rfl⟩⟩; refine ⟨_, rfl, ?_⟩) | ((with_reducible refine gate_callee (f := 16) rfl ?_); refine RFn.goesM (some 31) Tryd.func16 #[.int .i64 a0, .int .i64 a1] rfl ?_; (with_reducible refine (cent_Sub.calls a0 a1 t192 t193 _ A7.out).mono ?_); rintro e w' ⟨rfl, ⟨nd, rfl⟩⟩; refine ⟨_, rfl, ?_⟩) | ((with_reducible refine gate_callee (f := 15) rfl ?_); refine RFn.goesM (some 37) Tryd.func15 #[.int .i64 a0, .int .i64 t190] rfl ?_; (with_reducible refine (cent_Add.calls a0 t190 t194 t195 _ A8.out).mono ?_); rintro e w' ⟨rfl, ⟨nd, rfl⟩⟩; refine ⟨_, rfl, ?_⟩) | ((with_reducible refine gate_callee (f := 19) rfl ?_); refine RFn.goesM (some 42) Tryd.func19 #[.int .i64 t190] rfl ?_; (with_reducible refine (cent_Neg.calls t190 t196 t197 _ A9.out).mono ?_); rintro e w' ⟨rfl, ⟨nd, rfl⟩⟩; refine ⟨_, rfl, ?_⟩))
      go_ret
      exact ⟨by first | rfl | (simp [errW_none, errW_some] <;> rfl) | (simp [*, errW_none, errW_some] <;> rfl), RFn.bel⟩
    ·rw [if_neg c11] at H
     have c11b0 : (t193 == t195) = false := beq_eq_false_iff_ne.mpr c11
     have c11b1 : (t193 != t195) = true := bne_iff_ne.mpr c11
     obtain rfl := Option.some.inj H
     go_enter Tryd.func8, Tryd.ntmps8
     go_wp2_with (first | ((with_reducible refine gate_callee (f := 9) rfl ?_); refine RFn.goesM (some 13) Tryd.func9 #[] rfl ?_; (with_reducible refine (law01_alive.calls k  true _ A3.out (Go.Proofs.YtpfhoenjndmoaaaDoor.X.LaidW.below hLd_ RFn.bel)).mono ?_); rintro e w15 ⟨rfl, hb⟩; refine ⟨_, rfl, ?_⟩; have n0_ := Aside0.mk (below_step (RFn.bel) hb); clear HB; have HB := n0_; clear n0_; (try clear hb); (try clear hb2); (try clear hk); (try clear hi)) | ((with_reducible refine gate_callee (f := 19) rfl ?_); refine RFn.goesM (some 17) Tryd.func19 #[.int .i64 a1] rfl ?_; (with_reducible refine (cent_Neg.calls a1 t190 t191 _ A5.out).mono ?_); rintro e w' ⟨rfl, ⟨nd, rfl⟩⟩; refine ⟨_, rfl, ?_⟩) | ((with_reducible refine gate_callee (f := 16) rfl ?_); refine RFn.goesM (some 31) Tryd.func16 #[.int .i64 a0, .int .i64 a1] rfl ?_; (with_reducible refine (cent_Sub.calls a0 a1 t192 t193 _ A7.out).mono ?_); rintro e w' ⟨rfl, ⟨nd, rfl⟩⟩; refine ⟨_, rfl, ?_⟩) | ((with_reducible refine gate_callee (f := 15) rfl ?_); refine RFn.goesM (some 37) Tryd.func15 #[.int .i64 a0, .int .i64 t190] rfl ?_; (with_reducible refine (cent_Add.calls a0 t190 t194 t195 _ A8.out).mono ?_); rintro e w' ⟨rfl, ⟨nd, rfl⟩⟩; refine ⟨_, rfl, ?_⟩) | ((with_reducible refine gate_callee (f := 19) rfl ?_); refine RFn.goesM (some 42) Tryd.func19 #[.int .i64 t190] rfl ?_; (with_reducible refine (cent_Neg.calls t190 t196 t197 _ A9.out).mono ?_); rintro e w' ⟨rfl, ⟨nd, rfl⟩⟩; refine ⟨_, rfl, ?_⟩))
     go_ret
     exact ⟨by first | rfl | (simp [errW_none, errW_some] <;> rfl) | (simp [*, errW_none, errW_some] <;> rfl), RFn.bel⟩
   ·rw [if_neg c10] at H
    have c10b0 : (t192 == t194) = false := beq_eq_false_iff_ne.mpr c10
    have c10b1 : (t192 != t194) = true := bne_iff_ne.mpr c10
    obtain rfl := Option.some.inj H
    go_enter Tryd.func8, Tryd.ntmps8
    go_wp2_with (first | ((with_reducible refine gate_callee (f := 9) rfl ?_); refine RFn.goesM (some 13) Tryd.func9 #[] rfl ?_; (with_reducible refine (law01_alive.calls k  true _ A3.out (Go.Proofs.YtpfhoenjndmoaaaDoor.X.LaidW.below hLd_ RFn.bel)).mono ?_); rintro e w16 ⟨rfl, hb⟩; refine ⟨_, rfl, ?_⟩; have n0_ := Aside0.mk (below_step (RFn.bel) hb); clear HB; have HB := n0_; clear n0_; (try clear hb); (try clear hb2); (try clear hk); (try clear hi)) | ((with_reducible refine gate_callee (f := 19) rfl ?_); refine RFn.goesM (some 17) Tryd.func19 #[.int .i64 a1] rfl ?_; (with_reducible refine (cent_Neg.calls a1 t190 t191 _ A5.out).mono ?_); rintro e w' ⟨rfl, ⟨nd, rfl⟩⟩; refine ⟨_, rfl, ?_⟩) | ((with_reducible refine gate_callee (f := 16) rfl ?_); refine RFn.goesM (some 31) Tryd.func16 #[.int .i64 a0, .int .i64 a1] rfl ?_; (with_reducible refine (cent_Sub.calls a0 a1 t192 t193 _ A7.out).mono ?_); rintro e w' ⟨rfl, ⟨nd, rfl⟩⟩; refine ⟨_, rfl, ?_⟩) | ((with_reducible refine gate_callee (f := 15) rfl ?_); refine RFn.goesM (some 37) Tryd.func15 #[.int .i64 a0, .int .i64 t190] rfl ?_; (with_reducible refine (cent_Add.calls a0 t190 t194 t195 _ A8.out).mono ?_); rintro e w' ⟨rfl, ⟨nd, rfl⟩⟩; refine ⟨_, rfl, ?_⟩) | ((with_reducible refine gate_callee (f := 19) rfl ?_); refine RFn.goesM (some 42) Tryd.func19 #[.int .i64 t190] rfl ?_; (with_reducible refine (cent_Neg.calls t190 t196 t197 _ A9.out).mono ?_); rintro e w' ⟨rfl, ⟨nd, rfl⟩⟩; refine ⟨_, rfl, ?_⟩))
    go_ret
    exact ⟨by first | rfl | (simp [errW_none, errW_some] <;> rfl) | (simp [*, errW_none, errW_some] <;> rfl), RFn.bel⟩
  ·rw [if_neg c6] at H
   have c6b0 : (t191 == 0) = false := beq_eq_false_iff_ne.mpr c6
   have c6b1 : (t191 != 0) = true := bne_iff_ne.mpr c6
   by_cases c17 : t191 = 2
   ·rw [if_pos c17] at H
    have c17b0 : (t191 == 2) = true := beq_iff_eq.mpr c17
    have c17b1 : (t191 != 2) = false := bne_eq_false_iff_eq.mpr c17
    clear c17
    obtain rfl := Option.some.inj H
    go_enter Tryd.func8, Tryd.ntmps8
    go_wp2_with (first | ((with_reducible refine gate_callee (f := 9) rfl ?_); refine RFn.goesM (some 13) Tryd.func9 #[] rfl ?_; (with_reducible refine (law01_alive.calls k  true _ A3.out (Go.Proofs.YtpfhoenjndmoaaaDoor.X.LaidW.below hLd_ RFn.bel)).mono ?_); rintro e w18 ⟨rfl, hb⟩; refine ⟨_, rfl, ?_⟩; have n0_ := Aside0.mk (below_step (RFn.bel) hb); clear HB; have HB := n0_; clear n0_; (try clear hb); (try clear hb2); (try clear hk); (try clear hi)) | ((with_reducible refine gate_callee (f := 19) rfl ?_); refine RFn.goesM (some 17) Tryd.func19 #[.int .i64 a1] rfl ?_; (with_reducible refine (cent_Neg.calls a1 t190 t191 _ A5.out).mono ?_); rintro e w' ⟨rfl, ⟨nd, rfl⟩⟩; refine ⟨_, rfl, ?_⟩))
    go_ret
    exact ⟨by first | rfl | (simp [errW_none, errW_some] <;> rfl) | (simp [*, errW_none, errW_some] <;> rfl), RFn.bel⟩
   ·rw [if_neg c17] at H
    have c17b0 : (t191 == 2) = false := beq_eq_false_iff_ne.mpr c17
    have c17b1 : (t191 != 2) = true := bne_iff_ne.mpr c17
    obtain rfl := Option.some.inj H
    go_enter Tryd.func8, Tryd.ntmps8
    go_wp2_with (first | ((with_reducible refine gate_callee (f := 9) rfl ?_); refine RFn.goesM (some 13) Tryd.func9 #[] rfl ?_; (with_reducible refine (law01_alive.calls k  true _ A3.out (Go.Proofs.YtpfhoenjndmoaaaDoor.X.LaidW.below hLd_ RFn.bel)).mono ?_); rintro e w19 ⟨rfl, hb⟩; refine ⟨_, rfl, ?_⟩; have n0_ := Aside0.mk (below_step (RFn.bel) hb); clear HB; have HB := n0_; clear n0_; (try clear hb); (try clear hb2); (try clear hk); (try clear hi)) | ((with_reducible refine gate_callee (f := 19) rfl ?_); refine RFn.goesM (some 17) Tryd.func19 #[.int .i64 a1] rfl ?_; (with_reducible refine (cent_Neg.calls a1 t190 t191 _ A5.out).mono ?_); rintro e w' ⟨rfl, ⟨nd, rfl⟩⟩; refine ⟨_, rfl, ?_⟩))
    go_ret
    exact ⟨by first | rfl | (simp [errW_none, errW_some] <;> rfl) | (simp [*, errW_none, errW_some] <;> rfl), RFn.bel⟩
 ·replace c4 := Bool.eq_false_iff.mpr c4
  subst c4
  have H1 : (some false) = some r := by rw [if_neg (show ¬ (false = true) by decide)] at H; exact H
  clear H
  have H := H1
  clear H1
  obtain rfl := Option.some.inj H
  go_enter Tryd.func8, Tryd.ntmps8
  go_wp2_with (first | ((with_reducible refine gate_callee (f := 9) rfl ?_); refine RFn.goesM (some 13) Tryd.func9 #[] rfl ?_; (with_reducible refine (law01_alive.calls k  false _ A3.out (Go.Proofs.YtpfhoenjndmoaaaDoor.X.LaidW.below hLd_ RFn.bel)).mono ?_); rintro e w20 ⟨rfl, hb⟩; refine ⟨_, rfl, ?_⟩; have n0_ := Aside0.mk (below_step (RFn.bel) hb); clear HB; have HB := n0_; clear n0_; (try clear hb); (try clear hb2); (try clear hk); (try clear hi)))
  go_ret
  exact ⟨by first | rfl | (simp [errW_none, errW_some] <;> rfl) | (simp [*, errW_none, errW_some] <;> rfl), RFn.bel⟩

/-- THE ONE PURE STATEMENT of law01_CentSigns: ours. -/
def law01_CentSigns.Pure : Prop := ∀ (a0 : Int) (a1 : Int), (Lit.int .i64 a0).wf = true → (Lit.int .i64 a1).wf = true → ∃ k, law01_CentSigns.f k a0 a1 = some true

end Go.Proofs.YtpfhoenjndmoaaaDoor.Q
