/- printed by a program of this session (wip/tools/pr.sh): it is not a print of the kit -/
import Derived.Test.YtpfhoenjndmoaaaDoorQx0
import Derived.Test.YtpfhoenjndmoaaaDoorQx1
import Derived.Test.YtpfhoenjndmoaaaDoorQx5
import Derived.Test.YtpfhoenjndmoaaaDoorQx7
namespace Go.Proofs.YtpfhoenjndmoaaaDoor.Q
open Go.RowKit Go.Proofs.YtpfhoenjndmoaaaDoorW.PrintWords Go.Proofs.YtpfhoenjndmoaaaDoorW.PrintLast Go.Proofs.YtpfhoenjndmoaaaDoorW.PrintMore
attribute [local go_sem] max2_int min2_int max_two min_two max_three min_three max_four min_four   -- for this text's walks alone
set_option linter.unusedVariables false
set_option linter.unusedSimpArgs false

/-! ### law01_CentTells: function 7 -/
def law01_CentTells.f (k : Nat) (a0 : Int) (a1 : Int) (l2 : List Int) : Option (Bool) := (law01_alive.f k).bind fun t172 => (if t172 = true then (if (l2.length : Int) > 300 then (some true) else ((cent_Add.f a0 a1).bind fun bt173 => ((ref01_Add.f a0 a1).bind fun bt175 => ((cent_Sub.f a0 a1).bind fun bt177 => ((ref01_Sub.f a0 a1).bind fun bt179 => ((cent_Neg.f a0).bind fun bt181 => ((ref01_Neg.f a0).bind fun bt183 => ((cent_Sum.f k l2).bind fun bt185 => ((ref01_Sum.f k l2).bind fun bt187 => (if bt173.1 = bt175.1 then (if bt173.2 = bt175.2 then (if bt177.1 = bt179.1 then (if bt177.2 = bt179.2 then (if bt181.1 = bt183.1 then (if bt181.2 = bt183.2 then (if bt185.1 = bt187.1 then (some (bt185.2 == bt187.2)) else (some false)) else (some false)) else (some false)) else (some false)) else (some false)) else (some false)) else (some false))))))))))) else (some false))
theorem law01_CentTells.mono : ∀ a0 a1 a2 k, LeO (law01_CentTells.f k a0 a1 a2) (law01_CentTells.f (k + 1) a0 a1 a2) := by
 intro a0 a1 a2 k
 unfold law01_CentTells.f
 repeat' first
   | (with_reducible exact cent_Sum.mono _ _)
   | (with_reducible exact law01_alive.mono _)
   | (with_reducible exact ref01_Sum.mono _ _)
   | (with_reducible exact LeO.refl _)
   | (with_reducible exact LeO.none _)
   | (with_reducible refine LeO.ite ?_ ?_)
   | (with_reducible refine LeO.bind ?_ (fun _ => ?_))
   | exact cent_Sum.mono _ _
   | exact law01_alive.mono _
   | exact ref01_Sum.mono _ _
   | exact LeO.none _
   | refine LeO.ite ?_ ?_
   | refine LeO.bind ?_ (fun _ => ?_)
set_option maxHeartbeats 8000000 in
set_option maxRecDepth 100000 in
theorem law01_CentTells.calls (k : Nat) (a0 : Int) (a1 : Int) (A2 : Option Addr) (c2 : Nat) (l2 : List Int) (r : Bool) (w : World) (hr2 : Kd.C (Kd.int .i64) w A2 l2.length l2) (hc2 : l2.length ≤ c2) (h : law01_CentTells.f k a0 a1 l2 = some r) (hLd_ : Go.Proofs.YtpfhoenjndmoaaaDoor.X.LaidW w) :
  Calls Tryd.prog 7 #[.int .i64 a0, .int .i64 a1, .slice A2 l2.length c2] w fun e w' => e = .returned (.bool r) ∧ Below w.heap.size w w' := by
 have HR2 := Aside0.mk hr2
 have HC2 := Aside0.mk hc2
 clear hr2 hc2
 have HB := Aside0.mk (Below.refl w.heap.size w)
 have H : ((law01_alive.f k).bind fun t172 => (if t172 = true then (if (l2.length : Int) > 300 then (some true) else ((cent_Add.f a0 a1).bind fun bt173 => ((ref01_Add.f a0 a1).bind fun bt175 => ((cent_Sub.f a0 a1).bind fun bt177 => ((ref01_Sub.f a0 a1).bind fun bt179 => ((cent_Neg.f a0).bind fun bt181 => ((ref01_Neg.f a0).bind fun bt183 => ((cent_Sum.f k l2).bind fun bt185 => ((ref01_Sum.f k l2).bind fun bt187 => (if bt173.1 = bt175.1 then (if bt173.2 = bt175.2 then (if bt177.1 = bt179.1 then (if bt177.2 = bt179.2 then (if bt181.1 = bt183.1 then (if bt181.2 = bt183.2 then (if bt185.1 = bt187.1 then (some (bt185.2 == bt187.2)) else (some false)) else (some false)) else (some false)) else (some false)) else (some false)) else (some false)) else (some false))))))))))) else (some false))) = some r := h
 clear h
 replace H := Option.bind_eq_some_iff.mp H
 obtain ⟨t172, A40, H⟩ := H
 replace H : (if t172 = true then (if (l2.length : Int) > 300 then (some true) else ((cent_Add.f a0 a1).bind fun bt173 => ((ref01_Add.f a0 a1).bind fun bt175 => ((cent_Sub.f a0 a1).bind fun bt177 => ((ref01_Sub.f a0 a1).bind fun bt179 => ((cent_Neg.f a0).bind fun bt181 => ((ref01_Neg.f a0).bind fun bt183 => ((cent_Sum.f k l2).bind fun bt185 => ((ref01_Sum.f k l2).bind fun bt187 => (if bt173.1 = bt175.1 then (if bt173.2 = bt175.2 then (if bt177.1 = bt179.1 then (if bt177.2 = bt179.2 then (if bt181.1 = bt183.1 then (if bt181.2 = bt183.2 then (if bt185.1 = bt187.1 then (some (bt185.2 == bt187.2)) else (some false)) else (some false)) else (some false)) else (some false)) else (some false)) else (some false)) else (some false))))))))))) else (some false)) = some r := H
 have A4 := Aside0.mk A40
 clear A40
 by_cases c5 : t172 = true
 ·subst c5
  have H1 : (if (l2.length : Int) > 300 then (some true) else ((cent_Add.f a0 a1).bind fun bt173 => ((ref01_Add.f a0 a1).bind fun bt175 => ((cent_Sub.f a0 a1).bind fun bt177 => ((ref01_Sub.f a0 a1).bind fun bt179 => ((cent_Neg.f a0).bind fun bt181 => ((ref01_Neg.f a0).bind fun bt183 => ((cent_Sum.f k l2).bind fun bt185 => ((ref01_Sum.f k l2).bind fun bt187 => (if bt173.1 = bt175.1 then (if bt173.2 = bt175.2 then (if bt177.1 = bt179.1 then (if bt177.2 = bt179.2 then (if bt181.1 = bt183.1 then (if bt181.2 = bt183.2 then (if bt185.1 = bt187.1 then (some (bt185.2 == bt187.2)) else (some false)) else (some false)) else (some false)) else (some false)) else (some false)) else (some false)) else (some false))))))))))) = some r := by rw [if_pos rfl] at H; exact H
  clear H
  have H := H1
  clear H1
  by_cases c6 : (l2.length : Int) > 300
  ·rw [if_pos c6] at H
   have c6b0 : decide (300 < (l2.length : Int)) = true := decide_eq_true c6
   have c6b1 : decide (300 < l2.length) = true := decide_eq_true (by omega)
   clear c6
   obtain rfl := Option.some.inj H
   go_enter Tryd.func7, Tryd.ntmps7
   go_wp2_with (first | ((with_reducible refine gate_callee (f := 9) rfl ?_); refine RFn.goesM (some 23) Tryd.func9 #[] rfl ?_; (with_reducible refine (law01_alive.calls k  true _ A4.out (Go.Proofs.YtpfhoenjndmoaaaDoor.X.LaidW.below hLd_ RFn.bel)).mono ?_); rintro e w7 ⟨rfl, hb⟩; refine ⟨_, rfl, ?_⟩; have n0_ := Aside0.mk (below_step (RFn.bel) hb); clear HB; have HB := n0_; clear n0_; (try clear hb); (try clear hb2); (try clear hk); (try clear hi)))
   go_ret
   exact ⟨by first | rfl | (simp [errW_none, errW_some] <;> rfl) | (simp [*, errW_none, errW_some] <;> rfl), RFn.bel⟩
  ·rw [if_neg c6] at H
   have c6b0 : decide (300 < (l2.length : Int)) = false := decide_eq_false c6
   have c6b1 : decide (300 < l2.length) = false := decide_eq_false (by omega)
   clear c6
   replace H := Option.bind_eq_some_iff.mp H
   obtain ⟨⟨t173, t174⟩, A80, H⟩ := H
   replace H : ((ref01_Add.f a0 a1).bind fun bt175 => ((cent_Sub.f a0 a1).bind fun bt177 => ((ref01_Sub.f a0 a1).bind fun bt179 => ((cent_Neg.f a0).bind fun bt181 => ((ref01_Neg.f a0).bind fun bt183 => ((cent_Sum.f k l2).bind fun bt185 => ((ref01_Sum.f k l2).bind fun bt187 => (if t173 = bt175.1 then (if t174 = bt175.2 then (if bt177.1 = bt179.1 then (if bt177.2 = bt179.2 then (if bt181.1 = bt183.1 then (if bt181.2 = bt183.2 then (if bt185.1 = bt187.1 then (some (bt185.2 == bt187.2)) else (some false)) else (some false)) else (some false)) else (some false)) else (some false)) else (some false)) else (some false))))))))) = some r := H
   have A8 := Aside0.mk A80
   clear A80
   replace H := Option.bind_eq_some_iff.mp H
   obtain ⟨⟨t175, t176⟩, A90, H⟩ := H
   replace H : ((cent_Sub.f a0 a1).bind fun bt177 => ((ref01_Sub.f a0 a1).bind fun bt179 => ((cent_Neg.f a0).bind fun bt181 => ((ref01_Neg.f a0).bind fun bt183 => ((cent_Sum.f k l2).bind fun bt185 => ((ref01_Sum.f k l2).bind fun bt187 => (if t173 = t175 then (if t174 = t176 then (if bt177.1 = bt179.1 then (if bt177.2 = bt179.2 then (if bt181.1 = bt183.1 then (if bt181.2 = bt183.2 then (if bt185.1 = bt187.1 then (some (bt185.2 == bt187.2)) else (some false)) else (some false)) else (some false)) else (some false)) else (some false)) else (some false)) else (some false)))))))) = some r := H
   have A9 := Aside0.mk A90
   clear A90
   replace H := Option.bind_eq_some_iff.mp H
   obtain ⟨⟨t177, t178⟩, A100, H⟩ := H
   replace H : ((ref01_Sub.f a0 a1).bind fun bt179 => ((cent_Neg.f a0).bind fun bt181 => ((ref01_Neg.f a0).bind fun bt183 => ((cent_Sum.f k l2).bind fun bt185 => ((ref01_Sum.f k l2).bind fun bt187 => (if t173 = t175 then (if t174 = t176 then (if t177 = bt179.1 then (if t178 = bt179.2 then (if bt181.1 = bt183.1 then (if bt181.2 = bt183.2 then (if bt185.1 = bt187.1 then (some (bt185.2 == bt187.2)) else (some false)) else (some false)) else (some false)) else (some false)) else (some false)) else (some false)) else (some false))))))) = some r := H
   have A10 := Aside0.mk A100
   clear A100
   replace H := Option.bind_eq_some_iff.mp H
   obtain ⟨⟨t179, t180⟩, A110, H⟩ := H
   replace H : ((cent_Neg.f a0).bind fun bt181 => ((ref01_Neg.f a0).bind fun bt183 => ((cent_Sum.f k l2).bind fun bt185 => ((ref01_Sum.f k l2).bind fun bt187 => (if t173 = t175 then (if t174 = t176 then (if t177 = t179 then (if t178 = t180 then (if bt181.1 = bt183.1 then (if bt181.2 = bt183.2 then (if bt185.1 = bt187.1 then (some (bt185.2 == bt187.2)) else (some false)) else (some false)) else (some false)) else (some false)) else (some false)) else (some false)) else (some false)))))) = some r := H
   have A11 := Aside0.mk A110
   clear A110
   replace H := Option.bind_eq_some_iff.mp H
   obtain ⟨⟨t181, t182⟩, A120, H⟩ := H
   replace H : ((ref01_Neg.f a0).bind fun bt183 => ((cent_Sum.f k l2).bind fun bt185 => ((ref01_Sum.f k l2).bind fun bt187 => (if t173 = t175 then (if t174 = t176 then (if t177 = t179 then (if t178 = t180 then (if t181 = bt183.1 then (if t182 = bt183.2 then (if bt185.1 = bt187.1 then (some (bt185.2 == bt187.2)) else (some false)) else (some false)) else (some false)) else (some false)) else (some false)) else (some false)) else (some false))))) = some r := H
   have A12 := Aside0.mk A120
   clear A120
   replace H := Option.bind_eq_some_iff.mp H
   obtain ⟨⟨t183, t184⟩, A130, H⟩ := H
   replace H : ((cent_Sum.f k l2).bind fun bt185 => ((ref01_Sum.f k l2).bind fun bt187 => (if t173 = t175 then (if t174 = t176 then (if t177 = t179 then (if t178 = t180 then (if t181 = t183 then (if t182 = t184 then (if bt185.1 = bt187.1 then (some (bt185.2 == bt187.2)) else (some false)) else (some false)) else (some false)) else (some false)) else (some false)) else (some false)) else (some false)))) = some r := H
   have A13 := Aside0.mk A130
   clear A130
   replace H := Option.bind_eq_some_iff.mp H
   obtain ⟨⟨t185, t186⟩, A140, H⟩ := H
   replace H : ((ref01_Sum.f k l2).bind fun bt187 => (if t173 = t175 then (if t174 = t176 then (if t177 = t179 then (if t178 = t180 then (if t181 = t183 then (if t182 = t184 then (if t185 = bt187.1 then (some (t186 == bt187.2)) else (some false)) else (some false)) else (some false)) else (some false)) else (some false)) else (some false)) else (some false))) = some r := H
   have A14 := Aside0.mk A140
   clear A140
   replace H := Option.bind_eq_some_iff.mp H
   obtain ⟨⟨t187, t188⟩, A150, H⟩ := H
   replace H : (if t173 = t175 then (if t174 = t176 then (if t177 = t179 then (if t178 = t180 then (if t181 = t183 then (if t182 = t184 then (if t185 = t187 then (some (t186 == t188)) else (some false)) else (some false)) else (some false)) else (some false)) else (some false)) else (some false)) else (some false)) = some r := H
   have A15 := Aside0.mk A150
   clear A150
   by_cases c16 : t173 = t175
   ·rw [if_pos c16] at H
    have c16b0 : (t173 == t175) = true := beq_iff_eq.mpr c16
    have c16b1 : (t173 != t175) = false := bne_eq_false_iff_eq.mpr c16
    clear c16
    by_cases c17 : t174 = t176
    ·rw [if_pos c17] at H
     have c17b0 : (t174 == t176) = true := beq_iff_eq.mpr c17
     have c17b1 : (t174 != t176) = false := bne_eq_false_iff_eq.mpr c17
     clear c17
     by_cases c18 : t177 = t179
     ·rw [if_pos c18] at H
      have c18b0 : (t177 == t179) = true := beq_iff_eq.mpr c18
      have c18b1 : (t177 != t179) = false := bne_eq_false_iff_eq.mpr c18
      clear c18
      by_cases c19 : t178 = t180
      ·rw [if_pos c19] at H
       have c19b0 : (t178 == t180) = true := beq_iff_eq.mpr c19
       have c19b1 : (t178 != t180) = false := bne_eq_false_iff_eq.mpr c19
       clear c19
       by_cases c20 : t181 = t183
       ·rw [if_pos c20] at H
        have c20b0 : (t181 == t183) = true := beq_iff_eq.mpr c20
        have c20b1 : (t181 != t183) = false := bne_eq_false_iff_eq.mpr c20
        clear c20
        by_cases c21 : t182 = t184
        ·rw [if_pos c21] at H
         have c21b0 : (t182 == t184) = true := beq_iff_eq.mpr c21
         have c21b1 : (t182 != t184) = false := bne_eq_false_iff_eq.mpr c21
         clear c21
         by_cases c22 : t185 = t187
         ·rw [if_pos c22] at H
          have c22b0 : (t185 == t187) = true := beq_iff_eq.mpr c22
          have c22b1 : (t185 != t187) = false := bne_eq_false_iff_eq.mpr c22
          clear c22
          obtain rfl := Option.some.inj H
          go_enter Tryd.func7, Tryd.ntmps7
          go_wp2_with (first | ((with_reducible refine gate_callee (f := 9) rfl ?_); refine RFn.goesM (some 23) Tryd.func9 #[] rfl ?_; (with_reducible refine (law01_alive.calls k  true _ A4.out (Go.Proofs.YtpfhoenjndmoaaaDoor.X.LaidW.below hLd_ RFn.bel)).mono ?_); rintro e w23 ⟨rfl, hb⟩; refine ⟨_, rfl, ?_⟩; have n0_ := Aside0.mk (below_step (RFn.bel) hb); clear HB; have HB := n0_; clear n0_; (try clear hb); (try clear hb2); (try clear hk); (try clear hi)) | ((with_reducible refine gate_callee (f := 15) rfl ?_); refine RFn.goesM (some 31) Tryd.func15 #[.int .i64 a0, .int .i64 a1] rfl ?_; (with_reducible refine (cent_Add.calls a0 a1 t173 t174 _ A8.out).mono ?_); rintro e w' ⟨rfl, ⟨nd, rfl⟩⟩; refine ⟨_, rfl, ?_⟩) | ((with_reducible refine gate_callee (f := 17) rfl ?_); refine RFn.goesM (some 37) Tryd.func17 #[.int .i64 a0, .int .i64 a1] rfl ?_; (with_reducible refine (ref01_Add.calls a0 a1 t175 t176 _ A9.out).mono ?_); rintro e w' ⟨rfl, ⟨nd, rfl⟩⟩; refine ⟨_, rfl, ?_⟩) | ((with_reducible refine gate_callee (f := 16) rfl ?_); refine RFn.goesM (some 43) Tryd.func16 #[.int .i64 a0, .int .i64 a1] rfl ?_; (with_reducible refine (cent_Sub.calls a0 a1 t177 t178 _ A10.out).mono ?_); rintro e w' ⟨rfl, ⟨nd, rfl⟩⟩; refine ⟨_, rfl, ?_⟩) | ((with_reducible refine gate_callee (f := 18) rfl ?_); refine RFn.goesM (some 49) Tryd.func18 #[.int .i64 a0, .int .i64 a1] rfl ?_; (with_reducible refine (ref01_Sub.calls a0 a1 t179 t180 _ A11.out).mono ?_); rintro e w' ⟨rfl, ⟨nd, rfl⟩⟩; refine ⟨_, rfl, ?_⟩) | ((with_reducible refine gate_callee (f := 19) rfl ?_); refine RFn.goesM (some 54) Tryd.func19 #[.int .i64 a0] rfl ?_; (with_reducible refine (cent_Neg.calls a0 t181 t182 _ A12.out).mono ?_); rintro e w' ⟨rfl, ⟨nd, rfl⟩⟩; refine ⟨_, rfl, ?_⟩) | ((with_reducible refine gate_callee (f := 20) rfl ?_); refine RFn.goesM (some 59) Tryd.func20 #[.int .i64 a0] rfl ?_; (with_reducible refine (ref01_Neg.calls a0 t183 t184 _ A13.out).mono ?_); rintro e w' ⟨rfl, ⟨nd, rfl⟩⟩; refine ⟨_, rfl, ?_⟩) | ((with_reducible refine gate_callee (f := 14) rfl ?_); refine RFn.goesM (some 64) Tryd.func14 #[.slice A2 l2.length c2] rfl ?_; (with_reducible refine (cent_Sum.calls k _ _ l2 t185 t186 _ ?side1 ?side2 A14.out).mono ?_); (case side1 => repeat (first | exact (Kd.C_below HR2.out (RFn.bel)) | (with_reducible refine Kd.C_alloc ?_ _) | (with_reducible refine Kd.C_drewN ?_ _) | (with_reducible refine Kd.C_drew ?_))); (case side2 => exact HC2.out); rintro e w' ⟨rfl, ⟨nd, rfl⟩⟩; refine ⟨_, rfl, ?_⟩) | ((with_reducible refine gate_callee (f := 21) rfl ?_); refine RFn.goesM (some 69) Tryd.func21 #[.slice A2 l2.length c2] rfl ?_; (with_reducible refine (ref01_Sum.calls k _ _ l2 t187 t188 _ ?side1 ?side2 A15.out).mono ?_); (case side1 => repeat (first | exact (Kd.C_below HR2.out (RFn.bel)) | (with_reducible refine Kd.C_alloc ?_ _) | (with_reducible refine Kd.C_drewN ?_ _) | (with_reducible refine Kd.C_drew ?_))); (case side2 => exact HC2.out); rintro e w' ⟨rfl, ⟨nd, rfl⟩⟩; refine ⟨_, rfl, ?_⟩))
          go_ret
          exact ⟨by first | rfl | (simp [errW_none, errW_some] <;> rfl) | (simp [*, errW_none, errW_some] <;> rfl), RFn.bel⟩
         ·rw [if_neg c22] at H
          have c22b0 : (t185 == t187) = false := beq_eq_false_iff_ne.mpr c22
          have c22b1 : (t185 != t187) = true := bne_iff_ne.mpr c22
          obtain rfl := Option.some.inj H
          go_enter Tryd.func7, Tryd.ntmps7
          go_wp2_with (first | ((with_reducible refine gate_callee (f := 9) rfl ?_); refine RFn.goesM (some 23) Tryd.func9 #[] rfl ?_; (with_reducible refine (law01_alive.calls k  true _ A4.out (Go.Proofs.YtpfhoenjndmoaaaDoor.X.LaidW.below hLd_ RFn.bel)).mono ?_); rintro e w24 ⟨rfl, hb⟩; refine ⟨_, rfl, ?_⟩; have n0_ := Aside0.mk (below_step (RFn.bel) hb); clear HB; have HB := n0_; clear n0_; (try clear hb); (try clear hb2); (try clear hk); (try clear hi)) | ((with_reducible refine gate_callee (f := 15) rfl ?_); refine RFn.goesM (some 31) Tryd.func15 #[.int .i64 a0, .int .i64 a1] rfl ?_; (with_reducible refine (cent_Add.calls a0 a1 t173 t174 _ A8.out).mono ?_); rintro e w' ⟨rfl, ⟨nd, rfl⟩⟩; refine ⟨_, rfl, ?_⟩) | ((with_reducible refine gate_callee (f := 17) rfl ?_); refine RFn.goesM (some 37) Tryd.func17 #[.int .i64 a0, .int .i64 a1] rfl ?_; (with_reducible refine (ref01_Add.calls a0 a1 t175 t176 _ A9.out).mono ?_); rintro e w' ⟨rfl, ⟨nd, rfl⟩⟩; refine ⟨_, rfl, ?_⟩) | ((with_reducible refine gate_callee (f := 16) rfl ?_); refine RFn.goesM (some 43) Tryd.func16 #[.int .i64 a0, .int .i64 a1] rfl ?_; (with_reducible refine (cent_Sub.calls a0 a1 t177 t178 _ A10.out).mono ?_); rintro e w' ⟨rfl, ⟨nd, rfl⟩⟩; refine ⟨_, rfl, ?_⟩) | ((with_reducible refine gate_callee (f := 18) rfl ?_); refine RFn.goesM (some 49) Tryd.func18 #[.int .i64 a0, .int .i64 a1] rfl ?_; (with_reducible refine (ref01_Sub.calls a0 a1 t179 t180 _ A11.out).mono ?_); rintro e w' ⟨rfl, ⟨nd, rfl⟩⟩; refine ⟨_, rfl, ?_⟩) | ((with_reducible refine gate_callee (f := 19) rfl ?_); refine RFn.goesM (some 54) Tryd.func19 #[.int .i64 a0] rfl ?_; (with_reducible refine (cent_Neg.calls a0 t181 t182 _ A12.out).mono ?_); rintro e w' ⟨rfl, ⟨nd, rfl⟩⟩; refine ⟨_, rfl, ?_⟩) | ((with_reducible refine gate_callee (f := 20) rfl ?_); refine RFn.goesM (some 59) Tryd.func20 #[.int .i64 a0] rfl ?_; (with_reducible refine (ref01_Neg.calls a0 t183 t184 _ A13.out).mono ?_); rintro e w' ⟨rfl, ⟨nd, rfl⟩⟩; refine ⟨_, rfl, ?_⟩) | ((with_reducible refine gate_callee (f := 14) rfl ?_); refine RFn.goesM (some 64) Tryd.func14 #[.slice A2 l2.length c2] rfl ?_; (with_reducible refine (cent_Sum.calls k _ _ l2 t185 t186 _ ?side1 ?side2 A14.out).mono ?_); (case side1 => repeat (first | exact (Kd.C_below HR2.out (RFn.bel)) | (with_reducible refine Kd.C_alloc ?_ _) | (with_reducible refine Kd.C_drewN ?_ _) | (with_reducible refine Kd.C_drew ?_))); (case side2 => exact HC2.out); rintro e w' ⟨rfl, ⟨nd, rfl⟩⟩; refine ⟨_, rfl, ?_⟩) | ((with_reducible refine gate_callee (f := 21) rfl ?_); refine RFn.goesM (some 69) Tryd.func21 #[.slice A2 l2.length c2] rfl ?_; (with_reducible refine (ref01_Sum.calls k _ _ l2 t187 t188 _ ?side1 ?side2 A15.out).mono ?_); (case side1 => repeat (first | exact (Kd.C_below HR2.out (RFn.bel)) | (with_reducible refine Kd.C_alloc ?_ _) | (with_reducible refine Kd.C_drewN ?_ _) | (with_reducible refine Kd.C_drew ?_))); (case side2 => exact HC2.out); rintro e w' ⟨rfl, ⟨nd, rfl⟩⟩; refine ⟨_, rfl, ?_⟩))
          go_ret
          exact ⟨by first | rfl | (simp [errW_none, errW_some] <;> rfl) | (simp [*, errW_none, errW_some] <;> rfl), RFn.bel⟩
        ·rw [if_neg c21] at H
         have c21b0 : (t182 == t184) = false := beq_eq_false_iff_ne.mpr c21
         have c21b1 : (t182 != t184) = true := bne_iff_ne.mpr c21
         obtain rfl := Option.some.inj H
         go_enter Tryd.func7, Tryd.ntmps7
         go_wp2_with (first | ((with_reducible refine gate_callee (f := 9) rfl ?_); refine RFn.goesM (some 23) Tryd.func9 #[] rfl ?_; (with_reducible refine (law01_alive.calls k  true _ A4.out (Go.Proofs.YtpfhoenjndmoaaaDoor.X.LaidW.below hLd_ RFn.bel)).mono ?_); rintro e w25 ⟨rfl, hb⟩; refine ⟨_, rfl, ?_⟩; have n0_ := Aside0.mk (below_step (RFn.bel) hb); clear HB; have HB := n0_; clear n0_; (try clear hb); (try clear hb2); (try clear hk); (try clear hi)) | ((with_reducible refine gate_callee (f := 15) rfl ?_); refine RFn.goesM (some 31) Tryd.func15 #[.int .i64 a0, .int .i64 a1] rfl ?_; (with_reducible refine (cent_Add.calls a0 a1 t173 t174 _ A8.out).mono ?_); rintro e w' ⟨rfl, ⟨nd, rfl⟩⟩; refine ⟨_, rfl, ?_⟩) | ((with_reducible refine gate_callee (f := 17) rfl ?_); refine RFn.goesM (some 37) Tryd.func17 #[.int .i64 a0, .int .i64 a1] rfl ?_; (with_reducible refine (ref01_Add.calls a0 a1 t175 t176 _ A9.out).mono ?_); rintro e w' ⟨rfl, ⟨nd, rfl⟩⟩; refine ⟨_, rfl, ?_⟩) | ((with_reducible refine gate_callee (f := 16) rfl ?_); refine RFn.goesM (some 43) Tryd.func16 #[.int .i64 a0, .int .i64 a1] rfl ?_; (with_reducible refine (cent_Sub.calls a0 a1 t177 t178 _ A10.out).mono ?_); rintro e w' ⟨rfl, ⟨nd, rfl⟩⟩; refine ⟨_, rfl, ?_⟩) | ((with_reducible refine gate_callee (f := 18) rfl ?_); refine RFn.goesM (some 49) Tryd.func18 #[.int .i64 a0, .int .i64 a1] rfl ?_; (with_reducible refine (ref01_Sub.calls a0 a1 t179 t180 _ A11.out).mono ?_); rintro e w' ⟨rfl, ⟨nd, rfl⟩⟩; refine ⟨_, rfl, ?_⟩) | ((with_reducible refine gate_callee (f := 19) rfl ?_); refine RFn.goesM (some 54) Tryd.func19 #[.int .i64 a0] rfl ?_; (with_reducible refine (cent_Neg.calls a0 t181 t182 _ A12.out).mono ?_); rintro e w' ⟨rfl, ⟨nd, rfl⟩⟩; refine ⟨_, rfl, ?_⟩) | ((with_reducible refine gate_callee (f := 20) rfl ?_); refine RFn.goesM (some 59) Tryd.func20 #[.int .i64 a0] rfl ?_; (with_reducible refine (ref01_Neg.calls a0 t183 t184 _ A13.out).mono ?_); rintro e w' ⟨rfl, ⟨nd, rfl⟩⟩; refine ⟨_, rfl, ?_⟩) | ((with_reducible refine gate_callee (f := 14) rfl ?_); refine RFn.goesM (some 64) Tryd.func14 #[.slice A2 l2.length c2] rfl ?_; (with_reducible refine (cent_Sum.calls k _ _ l2 t185 t186 _ ?side1 ?side2 A14.out).mono ?_); (case side1 => repeat (first | exact (Kd.C_below HR2.out (RFn.bel)) | (with_reducible refine Kd.C_alloc ?_ _) | (with_reducible refine Kd.C_drewN ?_ _) | (with_reducible refine Kd.C_drew ?_))); (case side2 => exact HC2.out); rintro e w' ⟨rfl, ⟨nd, rfl⟩⟩; refine ⟨_, rfl, ?_⟩) | ((with_reducible refine gate_callee (f := 21) rfl ?_); refine RFn.goesM (some 69) Tryd.func21 #[.slice A2 l2.length c2] rfl ?_; (with_reducible refine (ref01_Sum.calls k _ _ l2 t187 t188 _ ?side1 ?side2 A15.out).mono ?_); (case side1 => repeat (first | exact (Kd.C_below HR2.out (RFn.bel)) | (with_reducible refine Kd.C_alloc ?_ _) | (with_reducible refine Kd.C_drewN ?_ _) | (with_reducible refine Kd.C_drew ?_))); (case side2 => exact HC2.out); rintro e w' ⟨rfl, ⟨nd, rfl⟩⟩; refine ⟨_, rfl, ?_⟩))
         go_ret
         exact ⟨by first | rfl | (simp [errW_none, errW_some] <;> rfl) | (simp [*, errW_none, errW_some] <;> rfl), RFn.bel⟩
       ·rw [if_neg c20] at H
        have c20b0 : (t181 == t183) = false := beq_eq_false_iff_ne.mpr c20
        have c20b1 : (t181 != t183) = true := bne_iff_ne.mpr c20
        obtain rfl := Option.some.inj H
        go_enter Tryd.func7, Tryd.ntmps7
        go_wp2_with (first | ((with_reducible refine gate_callee (f := 9) rfl ?_); refine RFn.goesM (some 23) Tryd.func9 #[] rfl ?_; (with_reducible refine (law01_alive.calls k  true _ A4.out (Go.Proofs.YtpfhoenjndmoaaaDoor.X.LaidW.below hLd_ RFn.bel)).mono ?_); rintro e w26 ⟨rfl, hb⟩; refine ⟨_, rfl, ?_⟩; have n0_ := Aside0.mk (below_step (RFn.bel) hb); clear HB; have HB := n0_; clear n0_; (try clear hb); (try clear hb2); (try clear hk); (try clear hi)) | ((with_reducible refine gate_callee (f := 15) rfl ?_); refine RFn.goesM (some 31) Tryd.func15 #[.int .i64 a0, .int .i64 a1] rfl ?_; (with_reducible refine (cent_Add.calls a0 a1 t173 t174 _ A8.out).mono ?_); rintro e w' ⟨rfl, ⟨nd, rfl⟩⟩; refine ⟨_, rfl, ?_⟩) | ((with_reducible refine gate_callee (f := 17) rfl ?_); refine RFn.goesM (some 37) Tryd.func17 #[.int .i64 a0, .int .i64 a1] rfl ?_; (with_reducible refine (ref01_Add.calls a0 a1 t175 t176 _ A9.out).mono ?_); rintro e w' ⟨rfl, ⟨nd, rfl⟩⟩; refine ⟨_, rfl, ?_⟩) | ((with_reducible refine gate_callee (f := 16) rfl ?_); refine RFn.goesM (some 43) Tryd.func16 #[.int .i64 a0, .int .i64 a1] rfl ?_; (with_reducible refine (cent_Sub.calls a0 a1 t177 t178 _ A10.out).mono ?_); rintro e w' ⟨rfl, ⟨nd, rfl⟩⟩; refine ⟨_, rfl, ?_⟩) | ((with_reducible refine gate_callee (f := 18) rfl ?_); refine RFn.goesM (some 49) Tryd.func18 #[.int .i64 a0, .int .i64 a1] rfl ?_; (with_reducible refine (ref01_Sub.calls a0 a1 t179 t180 _ A11.out).mono ?_); rintro e w' ⟨rfl, ⟨nd, rfl⟩⟩; refine ⟨_, rfl, ?_⟩) | ((with_reducible refine gate_callee (f := 19) rfl ?_); refine RFn.goesM (some 54) Tryd.func19 #[.int .i64 a0] rfl ?_; (with_reducible refine (cent_Neg.calls a0 t181 t182 _ A12.out).mono ?_); rintro e w' ⟨rfl, ⟨nd, rfl⟩⟩; refine ⟨_, rfl, ?_⟩) | ((with_reducible refine gate_callee (f := 20) rfl ?_); refine RFn.goesM (some 59) Tryd.func20 #[.int .i64 a0] rfl ?_; (with_reducible refine (ref01_Neg.calls a0 t183 t184 _ A13.out).mono ?_); rintro e w' ⟨rfl, ⟨nd, rfl⟩⟩; refine ⟨_, rfl, ?_⟩) | ((with_reducible refine gate_callee (f := 14) rfl ?_); refine RFn.goesM (some 64) Tryd.func14 #[.slice A2 l2.length c2] rfl ?_; (with_reducible refine (cent_Sum.calls k _ _ l2 t185 t186 _ ?side1 ?side2 A14.out).mono ?_); (case side1 => repeat (first | exact (Kd.C_below HR2.out (RFn.bel)) | (with_reducible refine Kd.C_alloc ?_ _) | (with_reducible refine Kd.C_drewN ?_ _) | (with_reducible refine Kd.C_drew ?_))); (case side2 => exact HC2.out); rintro e w' ⟨rfl, ⟨nd, rfl⟩⟩; refine ⟨_, rfl, ?_⟩) | ((with_reducible refine gate_callee (f := 21) rfl ?_); refine RFn.goesM (some 69) Tryd.func21 #[.slice A2 l2.length c2] rfl ?_; (with_reducible refine (ref01_Sum.calls k _ _ l2 t187 t188 _ ?side1 ?side2 A15.out).mono ?_); (case side1 => repeat (first | exact (Kd.C_below HR2.out (RFn.bel)) | (with_reducible refine Kd.C_alloc ?_ _) | (with_reducible refine Kd.C_drewN ?_ _) | (with_reducible refine Kd.C_drew ?_))); (case side2 => exact HC2.out); rintro e w' ⟨rfl, ⟨nd, rfl⟩⟩; refine ⟨_, rfl, ?_⟩))
        go_ret
        exact ⟨by first | rfl | (simp [errW_none, errW_some] <;> rfl) | (simp [*, errW_none, errW_some] <;> rfl), RFn.bel⟩
      ·rw [if_neg c19] at H
       have c19b0 : (t178 == t180) = false := beq_eq_false_iff_ne.mpr c19
       have c19b1 : (t178 != t180) = true := bne_iff_ne.mpr c19
       obtain rfl := Option.some.inj H
       go_enter Tryd.func7, Tryd.ntmps7
       go_wp2_with (first | ((with_reducible refine gate_callee (f := 9) rfl ?_); refine RFn.goesM (some 23) Tryd.func9 #[] rfl ?_; (with_reducible refine (law01_alive.calls k  true _ A4.out (Go.Proofs.YtpfhoenjndmoaaaDoor.X.LaidW.below hLd_ RFn.bel)).mono ?_); rintro e w27 ⟨rfl, hb⟩; refine ⟨_, rfl, ?_⟩; have n0_ := Aside0.mk (below_step (RFn.bel) hb); clear HB; have HB := n0_; clear n0_; (try clear hb); (try clear hb2); (try clear hk); (try clear hi)) | ((with_reducible refine gate_callee (f := 15) rfl ?_); refine RFn.goesM (some 31) Tryd.func15 #[.int .i64 a0, .int .i64 a1] rfl ?_; (with_reducible refine (cent_Add.calls a0 a1 t173 t174 _ A8.out).mono ?_); rintro e w' ⟨rfl, ⟨nd, rfl⟩⟩; refine ⟨_, rfl, ?_⟩) | ((with_reducible refine gate_callee (f := 17) rfl ?_); refine RFn.goesM (some 37) Tryd.func17 #[.int .i64 a0, .int .i64 a1] rfl ?_; (with_reducible refine (ref01_Add.calls a0 a1 t175 t176 _ A9.out).mono ?_); rintro e w' ⟨rfl, ⟨nd, rfl⟩⟩; refine ⟨_, rfl, ?_⟩) | ((with_reducible refine gate_callee (f := 16) rfl ?_); refine RFn.goesM (some 43) Tryd.func16 #[.int .i64 a0, .int .i64 a1] rfl ?_; (with_reducible refine (cent_Sub.calls a0 a1 t177 t178 _ A10.out).mono ?_); rintro e w' ⟨rfl, ⟨nd, rfl⟩⟩; refine ⟨_, rfl, ?_⟩) | ((with_reducible refine gate_callee (f := 18) rfl ?_); refine RFn.goesM (some 49) Tryd.func18 #[.int .i64 a0, .int .i64 a1] rfl ?_; (with_reducible refine (ref01_Sub.calls a0 a1 t179 t180 _ A11.out).mono ?_); rintro e w' ⟨rfl, ⟨nd, rfl⟩⟩; refine ⟨_, rfl, ?_⟩) | ((with_reducible refine gate_callee (f := 19) rfl ?_); refine RFn.goesM (some 54) Tryd.func19 #[.int .i64 a0] rfl ?_; (with_reducible refine (cent_Neg.calls a0 t181 t182 _ A12.out).mono ?_); rintro e w' ⟨rfl, ⟨nd, rfl⟩⟩; refine ⟨_, rfl, ?_⟩) | ((with_reducible refine gate_callee (f := 20) rfl ?_); refine RFn.goesM (some 59) Tryd.func20 #[.int .i64 a0] rfl ?_; (with_reducible refine (ref01_Neg.calls a0 t183 t184 _ A13.out).mono ?_); rintro e w' ⟨rfl, ⟨nd, rfl⟩⟩; refine ⟨_, rfl, ?_⟩) | ((with_reducible refine gate_callee (f := 14) rfl ?_); refine RFn.goesM (some 64) Tryd.func14 #[.slice A2 l2.length c2] rfl ?_; (with_reducible refine (cent_Sum.calls k _ _ l2 t185 t186 _ ?side1 ?side2 A14.out).mono ?_); (case side1 => repeat (first | exact (Kd.C_below HR2.out (RFn.bel)) | (with_reducible refine Kd.C_alloc ?_ _) | (with_reducible refine Kd.C_drewN ?_ _) | (with_reducible refine Kd.C_drew ?_))); (case side2 => exact HC2.out); rintro e w' ⟨rfl, ⟨nd, rfl⟩⟩; refine ⟨_, rfl, ?_⟩) | ((with_reducible refine gate_callee (f := 21) rfl ?_); refine RFn.goesM (some 69) Tryd.func21 #[.slice A2 l2.length c2] rfl ?_; (with_reducible refine (ref01_Sum.calls k _ _ l2 t187 t188 _ ?side1 ?side2 A15.out).mono ?_); (case side1 => repeat (first | exact (Kd.C_below HR2.out (RFn.bel)) | (with_reducible refine Kd.C_alloc ?_ _) | (with_reducible refine Kd.C_drewN ?_ _) | (with_reducible refine Kd.C_drew ?_))); (case side2 => exact HC2.out); rintro e w' ⟨rfl, ⟨nd, rfl⟩⟩; refine ⟨_, rfl, ?_⟩))
       go_ret
       exact ⟨by first | rfl | (simp [errW_none, errW_some] <;> rfl) | (simp [*, errW_none, errW_some] <;> rfl), RFn.bel⟩
     ·rw [if_neg c18] at H
      have c18b0 : (t177 == t179) = false := beq_eq_false_iff_ne.mpr c18
      have c18b1 : (t177 != t179) = true := bne_iff_ne.mpr c18
      obtain rfl := Option.some.inj H
      go_enter Tryd.func7, Tryd.ntmps7
      go_wp2_with (first | ((with_reducible refine gate_callee (f := 9) rfl ?_); refine RFn.goesM (some 23) Tryd.func9 #[] rfl ?_; (with_reducible refine (law01_alive.calls k  true _ A4.out (Go.Proofs.YtpfhoenjndmoaaaDoor.X.LaidW.below hLd_ RFn.bel)).mono ?_); rintro e w28 ⟨rfl, hb⟩; refine ⟨_, rfl, ?_⟩; have n0_ := Aside0.mk (below_step (RFn.bel) hb); clear HB; have HB := n0_; clear n0_; (try clear hb); (try clear hb2); (try clear hk); (try clear hi)) | ((with_reducible refine gate_callee (f := 15) rfl ?_); refine RFn.goesM (some 31) Tryd.func15 #[.int .i64 a0, .int .i64 a1] rfl ?_; (with_reducible refine (cent_Add.calls a0 a1 t173 t174 _ A8.out).mono ?_); rintro e w' ⟨rfl, ⟨nd, rfl⟩⟩; refine ⟨_, rfl, ?_⟩) | ((with_reducible refine gate_callee (f := 17) rfl ?_); refine RFn.goesM (some 37) Tryd.func17 #[.int .i64 a0, .int .i64 a1] rfl ?_; (with_reducible refine (ref01_Add.calls a0 a1 t175 t176 _ A9.out).mono ?_); rintro e w' ⟨rfl, ⟨nd, rfl⟩⟩; refine ⟨_, rfl, ?_⟩) | ((with_reducible refine gate_callee (f := 16) rfl ?_); refine RFn.goesM (some 43) Tryd.func16 #[.int .i64 a0, .int .i64 a1] rfl ?_; (with_reducible refine (cent_Sub.calls a0 a1 t177 t178 _ A10.out).mono ?_); rintro e w' ⟨rfl, ⟨nd, rfl⟩⟩; refine ⟨_, rfl, ?_⟩) | ((with_reducible refine gate_callee (f := 18) rfl ?_); refine RFn.goesM (some 49) Tryd.func18 #[.int .i64 a0, .int .i64 a1] rfl ?_; (with_reducible refine (ref01_Sub.calls a0 a1 t179 t180 _ A11.out).mono ?_); rintro e w' ⟨rfl, ⟨nd, rfl⟩⟩; refine ⟨_, rfl, ?_⟩) | ((with_reducible refine gate_callee (f := 19) rfl ?_); refine RFn.goesM (some 54) Tryd.func19 #[.int .i64 a0] rfl ?_; (with_reducible refine (cent_Neg.calls a0 t181 t182 _ A12.out).mono ?_); rintro e w' ⟨rfl, ⟨nd, rfl⟩⟩; refine ⟨_, rfl, ?_⟩) | ((with_reducible refine gate_callee (f := 20) rfl ?_); refine RFn.goesM (some 59) Tryd.func20 #[.int .i64 a0] rfl ?_; (with_reducible refine (ref01_Neg.calls a0 t183 t184 _ A13.out).mono ?_); rintro e w' ⟨rfl, ⟨nd, rfl⟩⟩; refine ⟨_, rfl, ?_⟩) | ((with_reducible refine gate_callee (f := 14) rfl ?_); refine RFn.goesM (some 64) Tryd.func14 #[.slice A2 l2.length c2] rfl ?_; (with_reducible refine (cent_Sum.calls k _ _ l2 t185 t186 _ ?side1 ?side2 A14.out).mono ?_); (case side1 => repeat (first | exact (Kd.C_below HR2.out (RFn.bel)) | (with_reducible refine Kd.C_alloc ?_ _) | (with_reducible refine Kd.C_drewN ?_ _) | (with_reducible refine Kd.C_drew ?_))); (case side2 => exact HC2.out); rintro e w' ⟨rfl, ⟨nd, rfl⟩⟩; refine ⟨_, rfl, ?_⟩) | ((with_reducible refine gate_callee (f := 21) rfl ?_); refine RFn.goesM (some 69) Tryd.func21 #[.slice A2 l2.length c2] rfl ?_; (with_reducible refine (ref01_Sum.calls k _ _ l2 t187 t188 _ ?side1 ?side2 A15.out).mono ?_); (case side1 => repeat (first | exact (Kd.C_below HR2.out (RFn.bel)) | (with_reducible refine Kd.C_alloc ?_ _) | (with_reducible refine Kd.C_drewN ?_ _) | (with_reducible refine Kd.C_drew ?_))); (case side2 => exact HC2.out); rintro e w' ⟨rfl, ⟨nd, rfl⟩⟩; refine ⟨_, rfl, ?_⟩))
      go_ret
      exact ⟨by first | rfl | (simp [errW_none, errW_some] <;> rfl) | (simp [*, errW_none, errW_some] <;> rfl), RFn.bel⟩
    ·rw [if_neg c17] at H
     have c17b0 : (t174 == t176) = false := beq_eq_false_iff_ne.mpr c17
     have c17b1 : (t174 != t176) = true := bne_iff_ne.mpr c17
     obtain rfl := Option.some.inj H
     go_enter Tryd.func7, Tryd.ntmps7
     go_wp2_with (first | ((with_reducible refine gate_callee (f := 9) rfl ?_); refine RFn.goesM (some 23) Tryd.func9 #[] rfl ?_; (with_reducible refine (law01_alive.calls k  true _ A4.out (Go.Proofs.YtpfhoenjndmoaaaDoor.X.LaidW.below hLd_ RFn.bel)).mono ?_); rintro e w29 ⟨rfl, hb⟩; refine ⟨_, rfl, ?_⟩; have n0_ := Aside0.mk (below_step (RFn.bel) hb); clear HB; have HB := n0_; clear n0_; (try clear hb); (try clear hb2); (try clear hk); (try clear hi)) | ((with_reducible refine gate_callee (f := 15) rfl ?_); refine RFn.goesM (some 31) Tryd.func15 #[.int .i64 a0, .int .i64 a1] rfl ?_; (with_reducible refine (cent_Add.calls a0 a1 t173 t174 _ A8.out).mono ?_); rintro e w' ⟨rfl, ⟨nd, rfl⟩⟩; refine ⟨_, rfl, ?_⟩) | ((with_reducible refine gate_callee (f := 17) rfl ?_); refine RFn.goesM (some 37) Tryd.func17 #[.int .i64 a0, .int .i64 a1] rfl ?_; (with_reducible refine (ref01_Add.calls a0 a1 t175 t176 _ A9.out).mono ?_); rintro e w' ⟨rfl, ⟨nd, rfl⟩⟩; refine ⟨_, rfl, ?_⟩) | ((with_reducible refine gate_callee (f := 16) rfl ?_); refine RFn.goesM (some 43) Tryd.func16 #[.int .i64 a0, .int .i64 a1] rfl ?_; (with_reducible refine (cent_Sub.calls a0 a1 t177 t178 _ A10.out).mono ?_); rintro e w' ⟨rfl, ⟨nd, rfl⟩⟩; refine ⟨_, rfl, ?_⟩) | ((with_reducible refine gate_callee (f := 18) rfl ?_); refine RFn.goesM (some 49) Tryd.func18 #[.int .i64 a0, .int .i64 a1] rfl ?_; (with_reducible refine (ref01_Sub.calls a0 a1 t179 t180 _ A11.out).mono ?_); rintro e w' ⟨rfl, ⟨nd, rfl⟩⟩; refine ⟨_, rfl, ?_⟩) | ((with_reducible refine gate_callee (f := 19) rfl ?_); refine RFn.goesM (some 54) Tryd.func19 #[.int .i64 a0] rfl ?_; (with_reducible refine (cent_Neg.calls a0 t181 t182 _ A12.out).mono ?_); rintro e w' ⟨rfl, ⟨nd, rfl⟩⟩; refine ⟨_, rfl, ?_⟩) | ((with_reducible refine gate_callee (f := 20) rfl ?_); refine RFn.goesM (some 59) Tryd.func20 #[.int .i64 a0] rfl ?_; (with_reducible refine (ref01_Neg.calls a0 t183 t184 _ A13.out).mono ?_); rintro e w' ⟨rfl, ⟨nd, rfl⟩⟩; refine ⟨_, rfl, ?_⟩) | ((with_reducible refine gate_callee (f := 14) rfl ?_); refine RFn.goesM (some 64) Tryd.func14 #[.slice A2 l2.length c2] rfl ?_; (with_reducible refine (cent_Sum.calls k _ _ l2 t185 t186 _ ?side1 ?side2 A14.out).mono ?_); (case side1 => repeat (first | exact (Kd.C_below HR2.out (RFn.bel)) | (with_reducible refine Kd.C_alloc ?_ _) | (with_reducible refine Kd.C_drewN ?_ _) | (with_reducible refine Kd.C_drew ?_))); (case side2 => exact HC2.out); rintro e w' ⟨rfl, ⟨nd, rfl⟩⟩; refine ⟨_, rfl, ?_⟩) | ((with_reducible refine gate_callee (f := 21) rfl ?_); refine RFn.goesM (some 69) Tryd.func21 #[.slice A2 l2.length c2] rfl ?_; (with_reducible refine (ref01_Sum.calls k _ _ l2 t187 t188 _ ?side1 ?side2 A15.out).mono ?_); (case side1 => repeat (first | exact (Kd.C_below HR2.out (RFn.bel)) | (with_reducible refine Kd.C_alloc ?_ _) | (with_reducible refine Kd.C_drewN ?_ _) | (with_reducible refine Kd.C_drew ?_))); (case side2 => exact HC2.out); rintro e w' ⟨rfl, ⟨nd, rfl⟩⟩; refine ⟨_, rfl, ?_⟩))
     go_ret
     exact ⟨by first | rfl | (simp [errW_none, errW_some] <;> rfl) | (simp [*, errW_none, errW_some] <;> rfl), RFn.bel⟩
   ·rw [if_neg c16] at H
    have c16b0 : (t173 == t175) = false := beq_eq_false_iff_ne.mpr c16
    have c16b1 : (t173 != t175) = true := bne_iff_ne.mpr c16
    obtain rfl := Option.some.inj H
    go_enter Tryd.func7, Tryd.ntmps7
    go_wp2_with (first | ((with_reducible refine gate_callee (f := 9) rfl ?_); refine RFn.goesM (some 23) Tryd.func9 #[] rfl ?_; (with_reducible refine (law01_alive.calls k  true _ A4.out (Go.Proofs.YtpfhoenjndmoaaaDoor.X.LaidW.below hLd_ RFn.bel)).mono ?_); rintro e w30 ⟨rfl, hb⟩; refine ⟨_, rfl, ?_⟩; have n0_ := Aside0.mk (below_step (RFn.bel) hb); clear HB; have HB := n0_; clear n0_; (try clear hb); (try clear hb2); (try clear hk); (try clear hi)) | ((with_reducible refine gate_callee (f := 15) rfl ?_); refine RFn.goesM (some 31) Tryd.func15 #[.int .i64 a0, .int .i64 a1] rfl ?_; (with_reducible refine (cent_Add.calls a0 a1 t173 t174 _ A8.out).mono ?_); rintro e w' ⟨rfl, ⟨nd, rfl⟩⟩; refine ⟨_, rfl, ?_⟩) | ((with_reducible refine gate_callee (f := 17) rfl ?_); refine RFn.goesM (some 37) Tryd.func17 #[.int .i64 a0, .int .i64 a1] rfl ?_; (with_reducible refine (ref01_Add.calls a0 a1 t175 t176 _ A9.out).mono ?_); rintro e w' ⟨rfl, ⟨nd, rfl⟩⟩; refine ⟨_, rfl, ?_⟩) | ((with_reducible refine gate_callee (f := 16) rfl ?_); refine RFn.goesM (some 43) Tryd.func16 #[.int .i64 a0, .int .i64 a1] rfl ?_; (with_reducible refine (cent_Sub.calls a0 a1 t177 t178 _ A10.out).mono ?_); rintro e w' ⟨rfl, ⟨nd, rfl⟩⟩; refine ⟨_, rfl, ?_⟩) | ((with_reducible refine gate_callee (f := 18) rfl ?_); refine RFn.goesM (some 49) Tryd.func18 #[.int .i64 a0, .int .i64 a1] rfl ?_; (with_reducible refine (ref01_Sub.calls a0 a1 t179 t180 _ A11.out).mono ?_); rintro e w' ⟨rfl, ⟨nd, rfl⟩⟩; refine ⟨_, rfl, ?_⟩) | ((with_reducible refine gate_callee (f := 19) rfl ?_); refine RFn.goesM (some 54) Tryd.func19 #[.int .i64 a0] rfl ?_; (with_reducible refine (cent_Neg.calls a0 t181 t182 _ A12.out).mono ?_); rintro e w' ⟨rfl, ⟨nd, rfl⟩⟩; refine ⟨_, rfl, ?_⟩) | ((with_reducible refine gate_callee (f := 20) rfl ?_); refine RFn.goesM (some 59) Tryd.func20 #[.int .i64 a0] rfl ?_; (with_reducible refine (ref01_Neg.calls a0 t183 t184 _ A13.out).mono ?_); rintro e w' ⟨rfl, ⟨nd, rfl⟩⟩; refine ⟨_, rfl, ?_⟩) | ((with_reducible refine gate_callee (f := 14) rfl ?_); refine RFn.goesM (some 64) Tryd.func14 #[.slice A2 l2.length c2] rfl ?_; (with_reducible refine (cent_Sum.calls k _ _ l2 t185 t186 _ ?side1 ?side2 A14.out).mono ?_); (case side1 => repeat (first | exact (Kd.C_below HR2.out (RFn.bel)) | (with_reducible refine Kd.C_alloc ?_ _) | (with_reducible refine Kd.C_drewN ?_ _) | (with_reducible refine Kd.C_drew ?_))); (case side2 => exact HC2.out); rintro e w' ⟨rfl, ⟨nd, rfl⟩⟩; refine ⟨_, rfl, ?_⟩) | ((with_reducible refine gate_callee (f := 21) rfl ?_); refine RFn.goesM (some 69) Tryd.func21 #[.slice A2 l2.length c2] rfl ?_; (with_reducible refine (ref01_Sum.calls k _ _ l2 t187 t188 _ ?side1 ?side2 A15.out).mono ?_); (case side1 => repeat (first | exact (Kd.C_below HR2.out (RFn.bel)) | (with_reducible refine Kd.C_alloc ?_ _) | (with_reducible refine Kd.C_drewN ?_ _) | (with_reducible refine Kd.C_drew ?_))); (case side2 => exact HC2.out); rintro e w' ⟨rfl, ⟨nd, rfl⟩⟩; refine ⟨_, rfl, ?_⟩))
    go_ret
    exact ⟨by first | rfl | (simp [errW_none, errW_some] <;> rfl) | (simp [*, errW_none, errW_some] <;> rfl), RFn.bel⟩
 ·replace c5 := Bool.eq_false_iff.mpr c5
  subst c5
  have H1 : (some false) = some r := by rw [if_neg (show ¬ (false = true) by decide)] at H; exact H
  clear H
  have H := H1
  clear H1
  obtain rfl := Option.some.inj H
  go_enter Tryd.func7, Tryd.ntmps7
  go_wp2_with (first | ((with_reducible refine gate_callee (f := 9) rfl ?_); refine RFn.goesM (some 23) Tryd.func9 #[] rfl ?_; (with_reducible refine (law01_alive.calls k  false _ A4.out (Go.Proofs.YtpfhoenjndmoaaaDoor.X.LaidW.below hLd_ RFn.bel)).mono ?_); rintro e w31 ⟨rfl, hb⟩; refine ⟨_, rfl, ?_⟩; have n0_ := Aside0.mk (below_step (RFn.bel) hb); clear HB; have HB := n0_; clear n0_; (try clear hb); (try clear hb2); (try clear hk); (try clear hi)))
  go_ret
  exact ⟨by first | rfl | (simp [errW_none, errW_some] <;> rfl) | (simp [*, errW_none, errW_some] <;> rfl), RFn.bel⟩

/-- THE ONE PURE STATEMENT of law01_CentTells: ours. -/
def law01_CentTells.Pure : Prop := ∀ (a0 : Int) (a1 : Int) (l2 : List Int), (Lit.int .i64 a0).wf = true → (Lit.int .i64 a1).wf = true → l2.length ≤ 9223372036854775807 → (∀ x ∈ l2, (Lit.int .i64 x).wf = true) → ∃ k, law01_CentTells.f k a0 a1 l2 = some true

end Go.Proofs.YtpfhoenjndmoaaaDoor.Q
