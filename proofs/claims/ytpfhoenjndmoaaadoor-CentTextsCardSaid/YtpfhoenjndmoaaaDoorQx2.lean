/- printed by a program of this session (wip/tools/pr.sh): it is not a print of the kit -/
import Derived.Test.YtpfhoenjndmoaaaDoorQx0
import Derived.Test.YtpfhoenjndmoaaaDoorQx1
namespace Go.Proofs.YtpfhoenjndmoaaaDoor.Q
open Go.RowKit Go.Proofs.YtpfhoenjndmoaaaDoorW.PrintWords Go.Proofs.YtpfhoenjndmoaaaDoorW.PrintLast Go.Proofs.YtpfhoenjndmoaaaDoorW.PrintMore
attribute [local go_sem] max2_int min2_int max_two min_two max_three min_three max_four min_four   -- for this text's walks alone
set_option linter.unusedVariables false
set_option linter.unusedSimpArgs false

/-! ### law01_CentTexts: function 3 -/
def law01_CentTexts.f (k : Nat) (a0 : Int) (a1 : ByteArray) : Option (Bool) := (law01_alive.f k).bind fun t121 => (if t121 = true then (if (a1.size : Int) > 300 then (some true) else ((cent_Parse.f a1).bind fun bt122 => ((ref01_Parse.f k a1).bind fun bt124 => ((cent_Print.f a0).bind fun t126 => ((ref01_Print.f k a0).bind fun t127 => (if t126.toList = t127.toList then (if bt122.1 = bt124.1 then (some (bt122.2 == bt124.2)) else (some false)) else (some false))))))) else (some false))
theorem law01_CentTexts.mono : ∀ a0 a1 k, LeO (law01_CentTexts.f k a0 a1) (law01_CentTexts.f (k + 1) a0 a1) := by
 intro a0 a1 k
 unfold law01_CentTexts.f
 repeat' first
   | (with_reducible exact law01_alive.mono _)
   | (with_reducible exact ref01_Parse.mono _ _)
   | (with_reducible exact ref01_Print.mono _ _)
   | (with_reducible exact LeO.refl _)
   | (with_reducible exact LeO.none _)
   | (with_reducible refine LeO.ite ?_ ?_)
   | (with_reducible refine LeO.bind ?_ (fun _ => ?_))
   | exact law01_alive.mono _
   | exact ref01_Parse.mono _ _
   | exact ref01_Print.mono _ _
   | exact LeO.none _
   | refine LeO.ite ?_ ?_
   | refine LeO.bind ?_ (fun _ => ?_)
set_option maxHeartbeats 8000000 in
set_option maxRecDepth 100000 in
theorem law01_CentTexts.calls (k : Nat) (a0 : Int) (a1 : ByteArray) (r : Bool) (w : World) (h : law01_CentTexts.f k a0 a1 = some r) (hLd_ : Go.Proofs.YtpfhoenjndmoaaaDoor.X.LaidW w) :
  Calls Tryd.prog 3 #[.int .i64 a0, .string a1] w fun e w' => e = .returned (.bool r) ∧ Below w.heap.size w w' := by
 have HB := Aside0.mk (Below.refl w.heap.size w)
 have H : ((law01_alive.f k).bind fun t121 => (if t121 = true then (if (a1.size : Int) > 300 then (some true) else ((cent_Parse.f a1).bind fun bt122 => ((ref01_Parse.f k a1).bind fun bt124 => ((cent_Print.f a0).bind fun t126 => ((ref01_Print.f k a0).bind fun t127 => (if t126.toList = t127.toList then (if bt122.1 = bt124.1 then (some (bt122.2 == bt124.2)) else (some false)) else (some false))))))) else (some false))) = some r := h
 clear h
 replace H := Option.bind_eq_some_iff.mp H
 obtain ⟨t121, A30, H⟩ := H
 replace H : (if t121 = true then (if (a1.size : Int) > 300 then (some true) else ((cent_Parse.f a1).bind fun bt122 => ((ref01_Parse.f k a1).bind fun bt124 => ((cent_Print.f a0).bind fun t126 => ((ref01_Print.f k a0).bind fun t127 => (if t126.toList = t127.toList then (if bt122.1 = bt124.1 then (some (bt122.2 == bt124.2)) else (some false)) else (some false))))))) else (some false)) = some r := H
 have A3 := Aside0.mk A30
 clear A30
 by_cases c4 : t121 = true
 ·subst c4
  have H1 : (if (a1.size : Int) > 300 then (some true) else ((cent_Parse.f a1).bind fun bt122 => ((ref01_Parse.f k a1).bind fun bt124 => ((cent_Print.f a0).bind fun t126 => ((ref01_Print.f k a0).bind fun t127 => (if t126.toList = t127.toList then (if bt122.1 = bt124.1 then (some (bt122.2 == bt124.2)) else (some false)) else (some false))))))) = some r := by rw [if_pos rfl] at H; exact H
  clear H
  have H := H1
  clear H1
  by_cases c5 : (a1.size : Int) > 300
  ·rw [if_pos c5] at H
   have c5b0 : decide (300 < (a1.size : Int)) = true := decide_eq_true c5
   have c5b1 : decide (300 < a1.size) = true := decide_eq_true (by omega)
   clear c5
   obtain rfl := Option.some.inj H
   go_enter Tryd.func3, Tryd.ntmps3
   go_wp2_with (first | ((with_reducible refine gate_callee (f := 9) rfl ?_); refine RFn.goesM (some 9) Tryd.func9 #[] rfl ?_; (with_reducible refine (law01_alive.calls k  true _ A3.out (Go.Proofs.YtpfhoenjndmoaaaDoor.X.LaidW.below hLd_ RFn.bel)).mono ?_); rintro e w6 ⟨rfl, hb⟩; refine ⟨_, rfl, ?_⟩; have n0_ := Aside0.mk (below_step (RFn.bel) hb); clear HB; have HB := n0_; clear n0_; (try clear hb); (try clear hb2); (try clear hk); (try clear hi)))
   go_ret
   exact ⟨by first | rfl | (simp [errW_none, errW_some] <;> rfl) | (simp [*, errW_none, errW_some] <;> rfl), RFn.bel⟩
  ·rw [if_neg c5] at H
   have c5b0 : decide (300 < (a1.size : Int)) = false := decide_eq_false c5
   have c5b1 : decide (300 < a1.size) = false := decide_eq_false (by omega)
   clear c5
   replace H := Option.bind_eq_some_iff.mp H
   obtain ⟨⟨t122, t123⟩, A70, H⟩ := H
   replace H : ((ref01_Parse.f k a1).bind fun bt124 => ((cent_Print.f a0).bind fun t126 => ((ref01_Print.f k a0).bind fun t127 => (if t126.toList = t127.toList then (if t122 = bt124.1 then (some (t123 == bt124.2)) else (some false)) else (some false))))) = some r := H
   have A7 := Aside0.mk A70
   clear A70
   replace H := Option.bind_eq_some_iff.mp H
   obtain ⟨⟨t124, t125⟩, A80, H⟩ := H
   replace H : ((cent_Print.f a0).bind fun t126 => ((ref01_Print.f k a0).bind fun t127 => (if t126.toList = t127.toList then (if t122 = t124 then (some (t123 == t125)) else (some false)) else (some false)))) = some r := H
   have A8 := Aside0.mk A80
   clear A80
   replace H := Option.bind_eq_some_iff.mp H
   obtain ⟨t126, A90, H⟩ := H
   replace H : ((ref01_Print.f k a0).bind fun t127 => (if t126.toList = t127.toList then (if t122 = t124 then (some (t123 == t125)) else (some false)) else (some false))) = some r := H
   have A9 := Aside0.mk A90
   clear A90
   replace H := Option.bind_eq_some_iff.mp H
   obtain ⟨t127, A100, H⟩ := H
   replace H : (if t126.toList = t127.toList then (if t122 = t124 then (some (t123 == t125)) else (some false)) else (some false)) = some r := H
   have A10 := Aside0.mk A100
   clear A100
   by_cases c11 : t126.toList = t127.toList
   ·rw [if_pos c11] at H
    have c11b0 : (t126.toList == t127.toList) = true := beq_iff_eq.mpr c11
    have c11b1 : (t126.toList != t127.toList) = false := bne_eq_false_iff_eq.mpr c11
    clear c11
    by_cases c12 : t122 = t124
    ·rw [if_pos c12] at H
     have c12b0 : (t122 == t124) = true := beq_iff_eq.mpr c12
     have c12b1 : (t122 != t124) = false := bne_eq_false_iff_eq.mpr c12
     clear c12
     obtain rfl := Option.some.inj H
     go_enter Tryd.func3, Tryd.ntmps3
     go_wp2_with (first | ((with_reducible refine gate_callee (f := 9) rfl ?_); refine RFn.goesM (some 9) Tryd.func9 #[] rfl ?_; (with_reducible refine (law01_alive.calls k  true _ A3.out (Go.Proofs.YtpfhoenjndmoaaaDoor.X.LaidW.below hLd_ RFn.bel)).mono ?_); rintro e w13 ⟨rfl, hb⟩; refine ⟨_, rfl, ?_⟩; have n0_ := Aside0.mk (below_step (RFn.bel) hb); clear HB; have HB := n0_; clear n0_; (try clear hb); (try clear hb2); (try clear hk); (try clear hi)) | ((with_reducible refine gate_callee (f := 10) rfl ?_); refine RFn.goesM (some 16) Tryd.func10 #[.string a1] rfl ?_; (with_reducible refine (cent_Parse.calls a1 t122 t123 _ A7.out (Go.Proofs.YtpfhoenjndmoaaaDoor.X.LaidW.below hLd_ RFn.bel)).mono ?_); rintro e w14 ⟨rfl, hb⟩; refine ⟨_, rfl, ?_⟩; have n0_ := Aside0.mk (below_step (RFn.bel) hb); clear HB; have HB := n0_; clear n0_; (try clear hb); (try clear hb2); (try clear hk); (try clear hi)) | ((with_reducible refine gate_callee (f := 11) rfl ?_); refine RFn.goesM (some 21) Tryd.func11 #[.string a1] rfl ?_; (with_reducible refine (ref01_Parse.calls k a1 t124 t125 _ A8.out).mono ?_); rintro e w' ⟨rfl, ⟨nd, rfl⟩⟩; refine ⟨_, rfl, ?_⟩) | ((with_reducible refine gate_callee (f := 12) rfl ?_); refine RFn.goesM (some 25) Tryd.func12 #[.int .i64 a0] rfl ?_; (with_reducible refine (cent_Print.calls a0 t126 _ A9.out (Go.Proofs.YtpfhoenjndmoaaaDoor.X.LaidW.below hLd_ RFn.bel)).mono ?_); rintro e w15 ⟨rfl, hb⟩; refine ⟨_, rfl, ?_⟩; have n0_ := Aside0.mk (below_step (RFn.bel) hb); clear HB; have HB := n0_; clear n0_; (try clear hb); (try clear hb2); (try clear hk); (try clear hi)) | ((with_reducible refine gate_callee (f := 13) rfl ?_); refine RFn.goesM (some 27) Tryd.func13 #[.int .i64 a0] rfl ?_; (with_reducible refine (ref01_Print.calls k a0 t127 _ A10.out).mono ?_); rintro e w' ⟨rfl, ⟨nd, rfl⟩⟩; refine ⟨_, rfl, ?_⟩))
     go_ret
     exact ⟨by first | rfl | (simp [errW_none, errW_some] <;> rfl) | (simp [*, errW_none, errW_some] <;> rfl), RFn.bel⟩
    ·rw [if_neg c12] at H
     have c12b0 : (t122 == t124) = false := beq_eq_false_iff_ne.mpr c12
     have c12b1 : (t122 != t124) = true := bne_iff_ne.mpr c12
     obtain rfl := Option.some.inj H
     go_enter Tryd.func3, Tryd.ntmps3
     go_wp2_with (first | ((with_reducible refine gate_callee (f := 9) rfl ?_); refine RFn.goesM (some 9) Tryd.func9 #[] rfl ?_; (with_reducible refine (law01_alive.calls k  true _ A3.out (Go.Proofs.YtpfhoenjndmoaaaDoor.X.LaidW.below hLd_ RFn.bel)).mono ?_); rintro e w16 ⟨rfl, hb⟩; refine ⟨_, rfl, ?_⟩; have n0_ := Aside0.mk (below_step (RFn.bel) hb); clear HB; have HB := n0_; clear n0_; (try clear hb); (try clear hb2); (try clear hk); (try clear hi)) | ((with_reducible refine gate_callee (f := 10) rfl ?_); refine RFn.goesM (some 16) Tryd.func10 #[.string a1] rfl ?_; (with_reducible refine (cent_Parse.calls a1 t122 t123 _ A7.out (Go.Proofs.YtpfhoenjndmoaaaDoor.X.LaidW.below hLd_ RFn.bel)).mono ?_); rintro e w17 ⟨rfl, hb⟩; refine ⟨_, rfl, ?_⟩; have n0_ := Aside0.mk (below_step (RFn.bel) hb); clear HB; have HB := n0_; clear n0_; (try clear hb); (try clear hb2); (try clear hk); (try clear hi)) | ((with_reducible refine gate_callee (f := 11) rfl ?_); refine RFn.goesM (some 21) Tryd.func11 #[.string a1] rfl ?_; (with_reducible refine (ref01_Parse.calls k a1 t124 t125 _ A8.out).mono ?_); rintro e w' ⟨rfl, ⟨nd, rfl⟩⟩; refine ⟨_, rfl, ?_⟩) | ((with_reducible refine gate_callee (f := 12) rfl ?_); refine RFn.goesM (some 25) Tryd.func12 #[.int .i64 a0] rfl ?_; (with_reducible refine (cent_Print.calls a0 t126 _ A9.out (Go.Proofs.YtpfhoenjndmoaaaDoor.X.LaidW.below hLd_ RFn.bel)).mono ?_); rintro e w18 ⟨rfl, hb⟩; refine ⟨_, rfl, ?_⟩; have n0_ := Aside0.mk (below_step (RFn.bel) hb); clear HB; have HB := n0_; clear n0_; (try clear hb); (try clear hb2); (try clear hk); (try clear hi)) | ((with_reducible refine gate_callee (f := 13) rfl ?_); refine RFn.goesM (some 27) Tryd.func13 #[.int .i64 a0] rfl ?_; (with_reducible refine (ref01_Print.calls k a0 t127 _ A10.out).mono ?_); rintro e w' ⟨rfl, ⟨nd, rfl⟩⟩; refine ⟨_, rfl, ?_⟩))
     go_ret
     exact ⟨by first | rfl | (simp [errW_none, errW_some] <;> rfl) | (simp [*, errW_none, errW_some] <;> rfl), RFn.bel⟩
   ·rw [if_neg c11] at H
    have c11b0 : (t126.toList == t127.toList) = false := beq_eq_false_iff_ne.mpr c11
    have c11b1 : (t126.toList != t127.toList) = true := bne_iff_ne.mpr c11
    obtain rfl := Option.some.inj H
    go_enter Tryd.func3, Tryd.ntmps3
    go_wp2_with (first | ((with_reducible refine gate_callee (f := 9) rfl ?_); refine RFn.goesM (some 9) Tryd.func9 #[] rfl ?_; (with_reducible refine (law01_alive.calls k  true _ A3.out (Go.Proofs.YtpfhoenjndmoaaaDoor.X.LaidW.below hLd_ RFn.bel)).mono ?_); rintro e w19 ⟨rfl, hb⟩; refine ⟨_, rfl, ?_⟩; have n0_ := Aside0.mk (below_step (RFn.bel) hb); clear HB; have HB := n0_; clear n0_; (try clear hb); (try clear hb2); (try clear hk); (try clear hi)) | ((with_reducible refine gate_callee (f := 10) rfl ?_); refine RFn.goesM (some 16) Tryd.func10 #[.string a1] rfl ?_; (with_reducible refine (cent_Parse.calls a1 t122 t123 _ A7.out (Go.Proofs.YtpfhoenjndmoaaaDoor.X.LaidW.below hLd_ RFn.bel)).mono ?_); rintro e w20 ⟨rfl, hb⟩; refine ⟨_, rfl, ?_⟩; have n0_ := Aside0.mk (below_step (RFn.bel) hb); clear HB; have HB := n0_; clear n0_; (try clear hb); (try clear hb2); (try clear hk); (try clear hi)) | ((with_reducible refine gate_callee (f := 11) rfl ?_); refine RFn.goesM (some 21) Tryd.func11 #[.string a1] rfl ?_; (with_reducible refine (ref01_Parse.calls k a1 t124 t125 _ A8.out).mono ?_); rintro e w' ⟨rfl, ⟨nd, rfl⟩⟩; refine ⟨_, rfl, ?_⟩) | ((with_reducible refine gate_callee (f := 12) rfl ?_); refine RFn.goesM (some 25) Tryd.func12 #[.int .i64 a0] rfl ?_; (with_reducible refine (cent_Print.calls a0 t126 _ A9.out (Go.Proofs.YtpfhoenjndmoaaaDoor.X.LaidW.below hLd_ RFn.bel)).mono ?_); rintro e w21 ⟨rfl, hb⟩; refine ⟨_, rfl, ?_⟩; have n0_ := Aside0.mk (below_step (RFn.bel) hb); clear HB; have HB := n0_; clear n0_; (try clear hb); (try clear hb2); (try clear hk); (try clear hi)) | ((with_reducible refine gate_callee (f := 13) rfl ?_); refine RFn.goesM (some 27) Tryd.func13 #[.int .i64 a0] rfl ?_; (with_reducible refine (ref01_Print.calls k a0 t127 _ A10.out).mono ?_); rintro e w' ⟨rfl, ⟨nd, rfl⟩⟩; refine ⟨_, rfl, ?_⟩))
    go_ret
    exact ⟨by first | rfl | (simp [errW_none, errW_some] <;> rfl) | (simp [*, errW_none, errW_some] <;> rfl), RFn.bel⟩
 ·replace c4 := Bool.eq_false_iff.mpr c4
  subst c4
  have H1 : (some false) = some r := by rw [if_neg (show ¬ (false = true) by decide)] at H; exact H
  clear H
  have H := H1
  clear H1
  obtain rfl := Option.some.inj H
  go_enter Tryd.func3, Tryd.ntmps3
  go_wp2_with (first | ((with_reducible refine gate_callee (f := 9) rfl ?_); refine RFn.goesM (some 9) Tryd.func9 #[] rfl ?_; (with_reducible refine (law01_alive.calls k  false _ A3.out (Go.Proofs.YtpfhoenjndmoaaaDoor.X.LaidW.below hLd_ RFn.bel)).mono ?_); rintro e w22 ⟨rfl, hb⟩; refine ⟨_, rfl, ?_⟩; have n0_ := Aside0.mk (below_step (RFn.bel) hb); clear HB; have HB := n0_; clear n0_; (try clear hb); (try clear hb2); (try clear hk); (try clear hi)))
  go_ret
  exact ⟨by first | rfl | (simp [errW_none, errW_some] <;> rfl) | (simp [*, errW_none, errW_some] <;> rfl), RFn.bel⟩

/-- THE ONE PURE STATEMENT of law01_CentTexts: ours. -/
def law01_CentTexts.Pure : Prop := ∀ (a0 : Int) (a1 : ByteArray), (Lit.int .i64 a0).wf = true → a1.size ≤ 140737488351232 → ∃ k, law01_CentTexts.f k a0 a1 = some true

end Go.Proofs.YtpfhoenjndmoaaaDoor.Q
