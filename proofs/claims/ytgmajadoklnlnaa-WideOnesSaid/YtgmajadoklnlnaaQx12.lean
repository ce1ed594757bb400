/- printed by a program of this session (wip/tools/pr.sh): it is not a print of the kit -/
import Derived.Test.YtgmajadoklnlnaaQx0
import Derived.Test.YtgmajadoklnlnaaQx2
namespace Go.Proofs.Ytgmajadoklnlnaa.Q
open Go.RowKit Go.Proofs.YtgmajadoklnlnaaW.PrintWords Go.Proofs.YtgmajadoklnlnaaW.PrintLast Go.Proofs.YtgmajadoklnlnaaW.PrintMore
attribute [local go_sem] max2_int min2_int max_two min_two max_three min_three max_four min_four   -- for this text's walks alone
set_option linter.unusedVariables false
set_option linter.unusedSimpArgs false

/-! ### comptrollerlaw02_WideOnes: function 10 -/
def comptrollerlaw02_WideOnes.j0 : Nat → Int → Int → Int → Bool → Option (Bool)
  | 0, _, _, _, _ => none
  | k + 1, x0, x9, x10, x57 => if x57 = true then (some false) else (if x0 = (-9223372036854775808) then (some (x10 == 2)) else (if x9 = (wrap64 (-x0)) then (some (x10 == 0)) else (some false)))
def comptrollerlaw02_WideOnes.f (k : Nat) (a0 : Int) (a1 : Int) : Option (Bool) := (comptrollerlaw02_alive.f k).bind fun t295 => (if t295 = true then ((wide_MulDiv.f k a0 1 1).bind fun bt296 => ((wide_MulDiv.f k a1 a0 a0).bind fun bt298 => ((wide_MulDiv.f k a0 1 (-1)).bind fun bt300 => (if bt296.1 = a0 then (if bt296.2 = 0 then (if a0 = 0 then (if bt298.2 = 3 then (comptrollerlaw02_WideOnes.j0 k a0 bt300.1 bt300.2 false) else (comptrollerlaw02_WideOnes.j0 k a0 bt300.1 bt300.2 true)) else (if bt298.1 = a1 then (comptrollerlaw02_WideOnes.j0 k a0 bt300.1 bt300.2 (bt298.2 != 0)) else (comptrollerlaw02_WideOnes.j0 k a0 bt300.1 bt300.2 true))) else (comptrollerlaw02_WideOnes.j0 k a0 bt300.1 bt300.2 true)) else (comptrollerlaw02_WideOnes.j0 k a0 bt300.1 bt300.2 true))))) else (some false))
theorem comptrollerlaw02_WideOnes.mono_l : ∀ k, (∀ y0 y1 y2 y3, LeO (comptrollerlaw02_WideOnes.j0 k y0 y1 y2 y3) (comptrollerlaw02_WideOnes.j0 (k + 1) y0 y1 y2 y3))
  | 0 => fun _ _ _ _ r h => by simp [comptrollerlaw02_WideOnes.j0] at h
  | k + 1 => by
    have ih0 := comptrollerlaw02_WideOnes.mono_l k
    · intro y0 y1 y2 y3
      unfold comptrollerlaw02_WideOnes.j0
      repeat' first
      | (with_reducible exact ih0 _ _ _ _)
      | (with_reducible exact comptrollerlaw02_alive.mono _)
      | (with_reducible exact wide_MulDiv.mono _ _ _ _)
      | (with_reducible exact LeO.refl _)
      | (with_reducible exact LeO.none _)
      | (with_reducible refine LeO.ite ?_ ?_)
      | (with_reducible refine LeO.bind ?_ (fun _ => ?_))
      | exact ih0 _ _ _ _
      | exact comptrollerlaw02_alive.mono _
      | exact wide_MulDiv.mono _ _ _ _
      | exact LeO.none _
      | refine LeO.ite ?_ ?_
      | refine LeO.bind ?_ (fun _ => ?_)
theorem comptrollerlaw02_WideOnes.mono : ∀ a0 a1 k, LeO (comptrollerlaw02_WideOnes.f k a0 a1) (comptrollerlaw02_WideOnes.f (k + 1) a0 a1) := by
  intro a0 a1 k
  have ih0 := comptrollerlaw02_WideOnes.mono_l k
  unfold comptrollerlaw02_WideOnes.f
  repeat' first
      | (with_reducible exact ih0 _ _ _ _)
      | (with_reducible exact comptrollerlaw02_alive.mono _)
      | (with_reducible exact wide_MulDiv.mono _ _ _ _)
      | (with_reducible exact LeO.refl _)
      | (with_reducible exact LeO.none _)
      | (with_reducible refine LeO.ite ?_ ?_)
      | (with_reducible refine LeO.bind ?_ (fun _ => ?_))
      | exact ih0 _ _ _ _
      | exact comptrollerlaw02_alive.mono _
      | exact wide_MulDiv.mono _ _ _ _
      | exact LeO.none _
      | refine LeO.ite ?_ ?_
      | refine LeO.bind ?_ (fun _ => ?_)
set_option maxHeartbeats 8000000 in
set_option maxRecDepth 100000 in
theorem comptrollerlaw02_WideOnes.calls (k : Nat) (a0 : Int) (a1 : Int) (r : Bool) (w : World) (h : comptrollerlaw02_WideOnes.f k a0 a1 = some r) :
    Calls Try.prog 10 #[.int .i64 a0, .int .i64 a1] w fun e w' => e = .returned (.bool r) ∧ Below w.heap.size w w' := by
  have HB := Aside0.mk (Below.refl w.heap.size w)
  have H : ((comptrollerlaw02_alive.f k).bind fun t295 => (if t295 = true then ((wide_MulDiv.f k a0 1 1).bind fun bt296 => ((wide_MulDiv.f k a1 a0 a0).bind fun bt298 => ((wide_MulDiv.f k a0 1 (-1)).bind fun bt300 => (if bt296.1 = a0 then (if bt296.2 = 0 then (if a0 = 0 then (if bt298.2 = 3 then (comptrollerlaw02_WideOnes.j0 k a0 bt300.1 bt300.2 false) else (comptrollerlaw02_WideOnes.j0 k a0 bt300.1 bt300.2 true)) else (if bt298.1 = a1 then (comptrollerlaw02_WideOnes.j0 k a0 bt300.1 bt300.2 (bt298.2 != 0)) else (comptrollerlaw02_WideOnes.j0 k a0 bt300.1 bt300.2 true))) else (comptrollerlaw02_WideOnes.j0 k a0 bt300.1 bt300.2 true)) else (comptrollerlaw02_WideOnes.j0 k a0 bt300.1 bt300.2 true))))) else (some false))) = some r := h
  clear h
  replace H := Option.bind_eq_some_iff.mp H
  obtain ⟨t295, A30, H⟩ := H
  replace H : (if t295 = true then ((wide_MulDiv.f k a0 1 1).bind fun bt296 => ((wide_MulDiv.f k a1 a0 a0).bind fun bt298 => ((wide_MulDiv.f k a0 1 (-1)).bind fun bt300 => (if bt296.1 = a0 then (if bt296.2 = 0 then (if a0 = 0 then (if bt298.2 = 3 then (comptrollerlaw02_WideOnes.j0 k a0 bt300.1 bt300.2 false) else (comptrollerlaw02_WideOnes.j0 k a0 bt300.1 bt300.2 true)) else (if bt298.1 = a1 then (comptrollerlaw02_WideOnes.j0 k a0 bt300.1 bt300.2 (bt298.2 != 0)) else (comptrollerlaw02_WideOnes.j0 k a0 bt300.1 bt300.2 true))) else (comptrollerlaw02_WideOnes.j0 k a0 bt300.1 bt300.2 true)) else (comptrollerlaw02_WideOnes.j0 k a0 bt300.1 bt300.2 true))))) else (some false)) = some r := H
  have A3 := Aside0.mk A30
  clear A30
  by_cases c4 : t295 = true
  · subst c4
    have H1 : ((wide_MulDiv.f k a0 1 1).bind fun bt296 => ((wide_MulDiv.f k a1 a0 a0).bind fun bt298 => ((wide_MulDiv.f k a0 1 (-1)).bind fun bt300 => (if bt296.1 = a0 then (if bt296.2 = 0 then (if a0 = 0 then (if bt298.2 = 3 then (comptrollerlaw02_WideOnes.j0 k a0 bt300.1 bt300.2 false) else (comptrollerlaw02_WideOnes.j0 k a0 bt300.1 bt300.2 true)) else (if bt298.1 = a1 then (comptrollerlaw02_WideOnes.j0 k a0 bt300.1 bt300.2 (bt298.2 != 0)) else (comptrollerlaw02_WideOnes.j0 k a0 bt300.1 bt300.2 true))) else (comptrollerlaw02_WideOnes.j0 k a0 bt300.1 bt300.2 true)) else (comptrollerlaw02_WideOnes.j0 k a0 bt300.1 bt300.2 true))))) = some r := by rw [if_pos rfl] at H; exact H
    clear H
    have H := H1
    clear H1
    replace H := Option.bind_eq_some_iff.mp H
    obtain ⟨⟨t296, t297⟩, A50, H⟩ := H
    replace H : ((wide_MulDiv.f k a1 a0 a0).bind fun bt298 => ((wide_MulDiv.f k a0 1 (-1)).bind fun bt300 => (if t296 = a0 then (if t297 = 0 then (if a0 = 0 then (if bt298.2 = 3 then (comptrollerlaw02_WideOnes.j0 k a0 bt300.1 bt300.2 false) else (comptrollerlaw02_WideOnes.j0 k a0 bt300.1 bt300.2 true)) else (if bt298.1 = a1 then (comptrollerlaw02_WideOnes.j0 k a0 bt300.1 bt300.2 (bt298.2 != 0)) else (comptrollerlaw02_WideOnes.j0 k a0 bt300.1 bt300.2 true))) else (comptrollerlaw02_WideOnes.j0 k a0 bt300.1 bt300.2 true)) else (comptrollerlaw02_WideOnes.j0 k a0 bt300.1 bt300.2 true)))) = some r := H
    have A5 := Aside0.mk A50
    clear A50
    replace H := Option.bind_eq_some_iff.mp H
    obtain ⟨⟨t298, t299⟩, A60, H⟩ := H
    replace H : ((wide_MulDiv.f k a0 1 (-1)).bind fun bt300 => (if t296 = a0 then (if t297 = 0 then (if a0 = 0 then (if t299 = 3 then (comptrollerlaw02_WideOnes.j0 k a0 bt300.1 bt300.2 false) else (comptrollerlaw02_WideOnes.j0 k a0 bt300.1 bt300.2 true)) else (if t298 = a1 then (comptrollerlaw02_WideOnes.j0 k a0 bt300.1 bt300.2 (t299 != 0)) else (comptrollerlaw02_WideOnes.j0 k a0 bt300.1 bt300.2 true))) else (comptrollerlaw02_WideOnes.j0 k a0 bt300.1 bt300.2 true)) else (comptrollerlaw02_WideOnes.j0 k a0 bt300.1 bt300.2 true))) = some r := H
    have A6 := Aside0.mk A60
    clear A60
    replace H := Option.bind_eq_some_iff.mp H
    obtain ⟨⟨t300, t301⟩, A70, H⟩ := H
    replace H : (if t296 = a0 then (if t297 = 0 then (if a0 = 0 then (if t299 = 3 then (comptrollerlaw02_WideOnes.j0 k a0 t300 t301 false) else (comptrollerlaw02_WideOnes.j0 k a0 t300 t301 true)) else (if t298 = a1 then (comptrollerlaw02_WideOnes.j0 k a0 t300 t301 (t299 != 0)) else (comptrollerlaw02_WideOnes.j0 k a0 t300 t301 true))) else (comptrollerlaw02_WideOnes.j0 k a0 t300 t301 true)) else (comptrollerlaw02_WideOnes.j0 k a0 t300 t301 true)) = some r := H
    have A7 := Aside0.mk A70
    clear A70
    have HC8 := Aside0.mk H
    clear H
    go_enter Try.func10, Try.ntmps10
    go_upto_region 6 with (first | ((with_reducible refine gate_callee (f := 11) rfl ?_); refine goesL_ (some 11) rfl rfl Try.func11 (by kernel_rfl) rfl #[] rfl (by (try simp only [List.map_toArray, List.map_cons, List.map_nil]); first | done | rfl | (simp only [List.length_drop, List.length_take]; rfl)) ?_; (with_reducible refine (comptrollerlaw02_alive.calls k  true _ A3.out).mono ?_); rintro e w9 ⟨rfl, hb⟩; refine ⟨_, rfl, ?_⟩; have n0_ := Aside0.mk (below_step (by repeat (first | (with_reducible first | exact HB.out | apply below_alloc | apply pw_below_drewN | apply below_drew1) | exact HB.out)) hb); clear HB; have HB := n0_; clear n0_; (try clear hb); (try clear hb2); (try clear hk); (try clear hi)) | ((with_reducible refine gate_callee (f := 12) rfl ?_); refine goesL_ (some 15) rfl rfl Try.func12 (by kernel_rfl) rfl #[.int .i64 a0, .int .i64 1, .int .i64 1] rfl (by (try simp only [List.map_toArray, List.map_cons, List.map_nil]); first | done | rfl | (simp only [List.length_drop, List.length_take]; rfl)) ?_; (with_reducible refine (wide_MulDiv.calls k a0 1 1 t296 t297 _ A5.out).mono ?_); rintro e w10 ⟨rfl, hb⟩; refine ⟨_, rfl, ?_⟩; have n0_ := Aside0.mk (below_step (by repeat (first | (with_reducible first | exact HB.out | apply below_alloc | apply pw_below_drewN | apply below_drew1) | exact HB.out)) hb); clear HB; have HB := n0_; clear n0_; (try clear hb); (try clear hb2); (try clear hk); (try clear hi)) | ((with_reducible refine gate_callee (f := 12) rfl ?_); refine goesL_ (some 22) rfl rfl Try.func12 (by kernel_rfl) rfl #[.int .i64 a1, .int .i64 a0, .int .i64 a0] rfl (by (try simp only [List.map_toArray, List.map_cons, List.map_nil]); first | done | rfl | (simp only [List.length_drop, List.length_take]; rfl)) ?_; (with_reducible refine (wide_MulDiv.calls k a1 a0 a0 t298 t299 _ A6.out).mono ?_); rintro e w11 ⟨rfl, hb⟩; refine ⟨_, rfl, ?_⟩; have n0_ := Aside0.mk (below_step (by repeat (first | (with_reducible first | exact HB.out | apply below_alloc | apply pw_below_drewN | apply below_drew1) | exact HB.out)) hb); clear HB; have HB := n0_; clear n0_; (try clear hb); (try clear hb2); (try clear hk); (try clear hi)) | ((with_reducible refine gate_callee (f := 12) rfl ?_); refine goesL_ (some 27) rfl rfl Try.func12 (by kernel_rfl) rfl #[.int .i64 a0, .int .i64 1, .int .i64 (-1)] rfl (by (try simp only [List.map_toArray, List.map_cons, List.map_nil]); first | done | rfl | (simp only [List.length_drop, List.length_take]; rfl)) ?_; (with_reducible refine (wide_MulDiv.calls k a0 1 (-1) t300 t301 _ A7.out).mono ?_); rintro e w12 ⟨rfl, hb⟩; refine ⟨_, rfl, ?_⟩; have n0_ := Aside0.mk (below_step (by repeat (first | (with_reducible first | exact HB.out | apply below_alloc | apply pw_below_drewN | apply below_drew1) | exact HB.out)) hb); clear HB; have HB := n0_; clear n0_; (try clear hb); (try clear hb2); (try clear hk); (try clear hi)))
    (try simp only [Act.put, List.setIfInBounds_toArray, List.set_cons_zero, List.set_cons_succ])
    go_cut [57] (fun v57 wc => ∃ (kq : Nat) (x57_7 : Bool), v57 = .bool x57_7 ∧ Aside0 (comptrollerlaw02_WideOnes.j0 kq a0 t300 t301 x57_7 = some r) ∧ Aside0 (kq ≤ k) ∧ Aside0 (Below w.heap.size w wc))
    case first =>
      have H := HC8.out
      clear HC8
      by_cases c13 : t296 = a0
      · rw [if_pos c13] at H
        have c13b0 : (t296 == a0) = true := beq_iff_eq.mpr c13
        have c13b1 : (t296 != a0) = false := bne_eq_false_iff_eq.mpr c13
        clear c13
        (first | rw [c13b0] | (simp only [i64_w, i32_w]; rw [c13b0]) | skip)
        by_cases c14 : t297 = 0
        · rw [if_pos c14] at H
          have c14b0 : (t297 == 0) = true := beq_iff_eq.mpr c14
          have c14b1 : (t297 != 0) = false := bne_eq_false_iff_eq.mpr c14
          clear c14
          by_cases c15 : a0 = 0
          · rw [if_pos c15] at H
            have c15b0 : (a0 == 0) = true := beq_iff_eq.mpr c15
            have c15b1 : (a0 != 0) = false := bne_eq_false_iff_eq.mpr c15
            clear c15
            by_cases c16 : t299 = 3
            · rw [if_pos c16] at H
              have c16b0 : (t299 == 3) = true := beq_iff_eq.mpr c16
              have c16b1 : (t299 != 3) = false := bne_eq_false_iff_eq.mpr c16
              clear c16
              have H' := Aside0.mk H
              clear H
              go_wp2
              go_meet
              case rel => exact ⟨_, (false), (by first | rfl | (simp; done) | (simp [*]; done)), H', ⟨by first | omega | exact Nat.le_refl _⟩, ⟨by repeat (first | (with_reducible first | exact HB.out | apply below_alloc | apply pw_below_drewN | apply below_drew1) | exact HB.out)⟩⟩
            · rw [if_neg c16] at H
              have c16b0 : (t299 == 3) = false := beq_eq_false_iff_ne.mpr c16
              have c16b1 : (t299 != 3) = true := bne_iff_ne.mpr c16
              have H' := Aside0.mk H
              clear H
              go_wp2
              go_meet
              case rel => exact ⟨_, (true), (by first | rfl | (simp; done) | (simp [*]; done)), H', ⟨by first | omega | exact Nat.le_refl _⟩, ⟨by repeat (first | (with_reducible first | exact HB.out | apply below_alloc | apply pw_below_drewN | apply below_drew1) | exact HB.out)⟩⟩
          · rw [if_neg c15] at H
            have c15b0 : (a0 == 0) = false := beq_eq_false_iff_ne.mpr c15
            have c15b1 : (a0 != 0) = true := bne_iff_ne.mpr c15
            by_cases c17 : t298 = a1
            · rw [if_pos c17] at H
              have c17b0 : (t298 == a1) = true := beq_iff_eq.mpr c17
              have c17b1 : (t298 != a1) = false := bne_eq_false_iff_eq.mpr c17
              clear c17
              have H' := Aside0.mk H
              clear H
              go_wp2
              go_meet
              case rel => exact ⟨_, ((t299 != 0)), (by first | rfl | (simp; done) | (simp [*]; done)), H', ⟨by first | omega | exact Nat.le_refl _⟩, ⟨by repeat (first | (with_reducible first | exact HB.out | apply below_alloc | apply pw_below_drewN | apply below_drew1) | exact HB.out)⟩⟩
            · rw [if_neg c17] at H
              have c17b0 : (t298 == a1) = false := beq_eq_false_iff_ne.mpr c17
              have c17b1 : (t298 != a1) = true := bne_iff_ne.mpr c17
              have H' := Aside0.mk H
              clear H
              go_wp2
              go_meet
              case rel => exact ⟨_, (true), (by first | rfl | (simp; done) | (simp [*]; done)), H', ⟨by first | omega | exact Nat.le_refl _⟩, ⟨by repeat (first | (with_reducible first | exact HB.out | apply below_alloc | apply pw_below_drewN | apply below_drew1) | exact HB.out)⟩⟩
        · rw [if_neg c14] at H
          have c14b0 : (t297 == 0) = false := beq_eq_false_iff_ne.mpr c14
          have c14b1 : (t297 != 0) = true := bne_iff_ne.mpr c14
          have H' := Aside0.mk H
          clear H
          go_wp2
          go_meet
          case rel => exact ⟨_, (true), (by first | rfl | (simp; done) | (simp [*]; done)), H', ⟨by first | omega | exact Nat.le_refl _⟩, ⟨by repeat (first | (with_reducible first | exact HB.out | apply below_alloc | apply pw_below_drewN | apply below_drew1) | exact HB.out)⟩⟩
      · rw [if_neg c13] at H
        have c13b0 : (t296 == a0) = false := beq_eq_false_iff_ne.mpr c13
        have c13b1 : (t296 != a0) = true := bne_iff_ne.mpr c13
        (first | rw [c13b0] | (simp only [i64_w, i32_w]; rw [c13b0]) | skip)
        have H' := Aside0.mk H
        clear H
        go_wp2
        go_meet
        case rel => exact ⟨_, (true), (by first | rfl | (simp; done) | (simp [*]; done)), H', ⟨by first | omega | exact Nat.le_refl _⟩, ⟨by repeat (first | (with_reducible first | exact HB.out | apply below_alloc | apply pw_below_drewN | apply below_drew1) | exact HB.out)⟩⟩
    case rest =>
      clear HC8
      try clear c1
      try clear p2
      try clear c4
      try clear c10
      try clear c11
      try clear c12
      try clear c13
      try clear c13b0
      try clear c13b1
      try clear c14
      try clear c14b0
      try clear c14b1
      try clear c15
      try clear c15b0
      try clear c15b1
      try clear c16
      try clear c16b0
      try clear c16b1
      try clear c17
      try clear c17b0
      try clear c17b1
      obtain ⟨kq, x57_7, rfl, HA, HJ7, HB⟩ := hcut
      cases kq with
      | zero => exact absurd HA.out (by simp [comptrollerlaw02_WideOnes.j0])
      | succ kj7 =>
        have H := HA.out
        clear HA
        simp only [comptrollerlaw02_WideOnes.j0] at H
        by_cases c18 : x57_7 = true
        · subst c18
          have H1 : (some false) = some r := by rw [if_pos rfl] at H; exact H
          clear H
          have H := H1
          clear H1
          obtain rfl := Option.some.inj H
          go_wp2
          go_ret
          exact ⟨by first | rfl | (simp [errW_none, errW_some] <;> rfl) | (simp [*, errW_none, errW_some] <;> rfl), by repeat (first | (with_reducible first | exact HB.out | apply below_alloc | apply pw_below_drewN | apply below_drew1) | exact HB.out)⟩
        · replace c18 := Bool.eq_false_iff.mpr c18
          subst c18
          have H1 : (if a0 = (-9223372036854775808) then (some (t301 == 2)) else (if t300 = (wrap64 (-a0)) then (some (t301 == 0)) else (some false))) = some r := by rw [if_neg (show ¬ (false = true) by decide)] at H; exact H
          clear H
          have H := H1
          clear H1
          by_cases c19 : a0 = (-9223372036854775808)
          · rw [if_pos c19] at H
            have c19b0 : (a0 == (-9223372036854775808)) = true := beq_iff_eq.mpr c19
            have c19b1 : (a0 != (-9223372036854775808)) = false := bne_eq_false_iff_eq.mpr c19
            clear c19
            obtain rfl := Option.some.inj H
            go_wp2
            go_ret
            exact ⟨by first | rfl | (simp [errW_none, errW_some] <;> rfl) | (simp [*, errW_none, errW_some] <;> rfl), by repeat (first | (with_reducible first | exact HB.out | apply below_alloc | apply pw_below_drewN | apply below_drew1) | exact HB.out)⟩
          · rw [if_neg c19] at H
            have c19b0 : (a0 == (-9223372036854775808)) = false := beq_eq_false_iff_ne.mpr c19
            have c19b1 : (a0 != (-9223372036854775808)) = true := bne_iff_ne.mpr c19
            by_cases c20 : t300 = (wrap64 (-a0))
            · rw [if_pos c20] at H
              have c20b0 : (t300 == (wrap64 (-a0))) = true := beq_iff_eq.mpr c20
              have c20b1 : (t300 != (wrap64 (-a0))) = false := bne_eq_false_iff_eq.mpr c20
              clear c20
              obtain rfl := Option.some.inj H
              go_wp2
              go_ret
              exact ⟨by first | rfl | (simp [errW_none, errW_some] <;> rfl) | (simp [*, errW_none, errW_some] <;> rfl), by repeat (first | (with_reducible first | exact HB.out | apply below_alloc | apply pw_below_drewN | apply below_drew1) | exact HB.out)⟩
            · rw [if_neg c20] at H
              have c20b0 : (t300 == (wrap64 (-a0))) = false := beq_eq_false_iff_ne.mpr c20
              have c20b1 : (t300 != (wrap64 (-a0))) = true := bne_iff_ne.mpr c20
              obtain rfl := Option.some.inj H
              go_wp2
              go_ret
              exact ⟨by first | rfl | (simp [errW_none, errW_some] <;> rfl) | (simp [*, errW_none, errW_some] <;> rfl), by repeat (first | (with_reducible first | exact HB.out | apply below_alloc | apply pw_below_drewN | apply below_drew1) | exact HB.out)⟩
  · replace c4 := Bool.eq_false_iff.mpr c4
    subst c4
    have H1 : (some false) = some r := by rw [if_neg (show ¬ (false = true) by decide)] at H; exact H
    clear H
    have H := H1
    clear H1
    obtain rfl := Option.some.inj H
    go_enter Try.func10, Try.ntmps10
    go_wp2_with (first | ((with_reducible refine gate_callee (f := 11) rfl ?_); refine goesL_ (some 11) rfl rfl Try.func11 (by kernel_rfl) rfl #[] rfl (by (try simp only [List.map_toArray, List.map_cons, List.map_nil]); first | done | rfl | (simp only [List.length_drop, List.length_take]; rfl)) ?_; (with_reducible refine (comptrollerlaw02_alive.calls k  false _ A3.out).mono ?_); rintro e w21 ⟨rfl, hb⟩; refine ⟨_, rfl, ?_⟩; have n0_ := Aside0.mk (below_step (by repeat (first | (with_reducible first | exact HB.out | apply below_alloc | apply pw_below_drewN | apply below_drew1) | exact HB.out)) hb); clear HB; have HB := n0_; clear n0_; (try clear hb); (try clear hb2); (try clear hk); (try clear hi)))
    go_ret
    exact ⟨by first | rfl | (simp [errW_none, errW_some] <;> rfl) | (simp [*, errW_none, errW_some] <;> rfl), by repeat (first | (with_reducible first | exact HB.out | apply below_alloc | apply pw_below_drewN | apply below_drew1) | exact HB.out)⟩

/-- THE ONE PURE STATEMENT of comptrollerlaw02_WideOnes: ours. -/
def comptrollerlaw02_WideOnes.Pure : Prop := ∀ (a0 : Int) (a1 : Int), (Lit.int .i64 a0).wf = true → (Lit.int .i64 a1).wf = true → ∃ k, comptrollerlaw02_WideOnes.f k a0 a1 = some true

end Go.Proofs.Ytgmajadoklnlnaa.Q
