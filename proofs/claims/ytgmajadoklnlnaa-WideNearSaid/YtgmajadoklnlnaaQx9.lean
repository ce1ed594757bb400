/- printed by a program of this session (wip/tools/pr.sh): it is not a print of the kit -/
import Derived.Test.YtgmajadoklnlnaaQx0
import Derived.Test.YtgmajadoklnlnaaQx2
namespace Go.Proofs.Ytgmajadoklnlnaa.Q
open Go.RowKit Go.Proofs.YtgmajadoklnlnaaW.PrintWords Go.Proofs.YtgmajadoklnlnaaW.PrintLast Go.Proofs.YtgmajadoklnlnaaW.PrintMore
attribute [local go_sem] max2_int min2_int max_two min_two max_three min_three max_four min_four   -- for this text's walks alone
set_option linter.unusedVariables false
set_option linter.unusedSimpArgs false

/-! ### comptrollerlaw02_WideNear: function 7 -/
def comptrollerlaw02_WideNear.j0 : Nat → Int → Int → Int → Int → Int → Option (Bool)
  | 0, _, _, _, _, _ => none
  | k + 1, x2, x7, x8, x9, x11 => if x8 < 0 then (if (wrap64 (2 * x11)) > (wrap64 (-x8)) then (some false) else (if (wrap64 (2 * x11)) < (wrap64 (-x8)) then (some true) else (if x7 ≥ 0 then (if (wrap64 (x9 * (wrap64 (x2)))) > x7 then (some true) else (if x7 < 0 then (some (decide ((wrap64 (x9 * (wrap64 (x2)))) < x7))) else (some false))) else (if x7 < 0 then (some (decide ((wrap64 (x9 * (wrap64 (x2)))) < x7))) else (some false))))) else (if (wrap64 (2 * x11)) > x8 then (some false) else (if (wrap64 (2 * x11)) < x8 then (some true) else (if x7 ≥ 0 then (if (wrap64 (x9 * (wrap64 (x2)))) > x7 then (some true) else (if x7 < 0 then (some (decide ((wrap64 (x9 * (wrap64 (x2)))) < x7))) else (some false))) else (if x7 < 0 then (some (decide ((wrap64 (x9 * (wrap64 (x2)))) < x7))) else (some false)))))
def comptrollerlaw02_WideNear.f (k : Nat) (a0 : Int) (a1 : Int) (a2 : Int) : Option (Bool) := (comptrollerlaw02_alive.f k).bind fun t280 => (if t280 = true then (if a2 = 0 then (some true) else ((wide_MulDiv.f k (wrap64 (a0)) (wrap64 (a1)) (wrap64 (a2))).bind fun bt281 => (if bt281.2 = 0 then (if (wrap64 ((wrap64 ((wrap64 (a0)) * (wrap64 (a1)))) - (wrap64 (bt281.1 * (wrap64 (a2)))))) < 0 then (comptrollerlaw02_WideNear.j0 k a2 (wrap64 ((wrap64 (a0)) * (wrap64 (a1)))) (wrap64 (a2)) bt281.1 (wrap64 (-(wrap64 ((wrap64 ((wrap64 (a0)) * (wrap64 (a1)))) - (wrap64 (bt281.1 * (wrap64 (a2))))))))) else (comptrollerlaw02_WideNear.j0 k a2 (wrap64 ((wrap64 (a0)) * (wrap64 (a1)))) (wrap64 (a2)) bt281.1 (wrap64 ((wrap64 ((wrap64 (a0)) * (wrap64 (a1)))) - (wrap64 (bt281.1 * (wrap64 (a2)))))))) else (some false)))) else (some false))
theorem comptrollerlaw02_WideNear.mono_l : ∀ k, (∀ y0 y1 y2 y3 y4, LeO (comptrollerlaw02_WideNear.j0 k y0 y1 y2 y3 y4) (comptrollerlaw02_WideNear.j0 (k + 1) y0 y1 y2 y3 y4))
  | 0 => fun _ _ _ _ _ r h => by simp [comptrollerlaw02_WideNear.j0] at h
  | k + 1 => by
    have ih0 := comptrollerlaw02_WideNear.mono_l k
    · intro y0 y1 y2 y3 y4
      unfold comptrollerlaw02_WideNear.j0
      repeat' first
      | (with_reducible exact ih0 _ _ _ _ _)
      | (with_reducible exact comptrollerlaw02_alive.mono _)
      | (with_reducible exact wide_MulDiv.mono _ _ _ _)
      | (with_reducible exact LeO.refl _)
      | (with_reducible exact LeO.none _)
      | (with_reducible refine LeO.ite ?_ ?_)
      | (with_reducible refine LeO.bind ?_ (fun _ => ?_))
      | exact ih0 _ _ _ _ _
      | exact comptrollerlaw02_alive.mono _
      | exact wide_MulDiv.mono _ _ _ _
      | exact LeO.none _
      | refine LeO.ite ?_ ?_
      | refine LeO.bind ?_ (fun _ => ?_)
theorem comptrollerlaw02_WideNear.mono : ∀ a0 a1 a2 k, LeO (comptrollerlaw02_WideNear.f k a0 a1 a2) (comptrollerlaw02_WideNear.f (k + 1) a0 a1 a2) := by
  intro a0 a1 a2 k
  have ih0 := comptrollerlaw02_WideNear.mono_l k
  unfold comptrollerlaw02_WideNear.f
  repeat' first
      | (with_reducible exact ih0 _ _ _ _ _)
      | (with_reducible exact comptrollerlaw02_alive.mono _)
      | (with_reducible exact wide_MulDiv.mono _ _ _ _)
      | (with_reducible exact LeO.refl _)
      | (with_reducible exact LeO.none _)
      | (with_reducible refine LeO.ite ?_ ?_)
      | (with_reducible refine LeO.bind ?_ (fun _ => ?_))
      | exact ih0 _ _ _ _ _
      | exact comptrollerlaw02_alive.mono _
      | exact wide_MulDiv.mono _ _ _ _
      | exact LeO.none _
      | refine LeO.ite ?_ ?_
      | refine LeO.bind ?_ (fun _ => ?_)
set_option maxHeartbeats 8000000 in
set_option maxRecDepth 100000 in
theorem comptrollerlaw02_WideNear.calls (k : Nat) (a0 : Int) (a1 : Int) (a2 : Int) (r : Bool) (w : World) (h : comptrollerlaw02_WideNear.f k a0 a1 a2 = some r) :
    Calls Try.prog 7 #[.int .i32 a0, .int .i32 a1, .int .i32 a2] w fun e w' => e = .returned (.bool r) ∧ Below w.heap.size w w' := by
  have HB := Aside0.mk (Below.refl w.heap.size w)
  have H : ((comptrollerlaw02_alive.f k).bind fun t280 => (if t280 = true then (if a2 = 0 then (some true) else ((wide_MulDiv.f k (wrap64 (a0)) (wrap64 (a1)) (wrap64 (a2))).bind fun bt281 => (if bt281.2 = 0 then (if (wrap64 ((wrap64 ((wrap64 (a0)) * (wrap64 (a1)))) - (wrap64 (bt281.1 * (wrap64 (a2)))))) < 0 then (comptrollerlaw02_WideNear.j0 k a2 (wrap64 ((wrap64 (a0)) * (wrap64 (a1)))) (wrap64 (a2)) bt281.1 (wrap64 (-(wrap64 ((wrap64 ((wrap64 (a0)) * (wrap64 (a1)))) - (wrap64 (bt281.1 * (wrap64 (a2))))))))) else (comptrollerlaw02_WideNear.j0 k a2 (wrap64 ((wrap64 (a0)) * (wrap64 (a1)))) (wrap64 (a2)) bt281.1 (wrap64 ((wrap64 ((wrap64 (a0)) * (wrap64 (a1)))) - (wrap64 (bt281.1 * (wrap64 (a2)))))))) else (some false)))) else (some false))) = some r := h
  clear h
  replace H := Option.bind_eq_some_iff.mp H
  obtain ⟨t280, A40, H⟩ := H
  replace H : (if t280 = true then (if a2 = 0 then (some true) else ((wide_MulDiv.f k (wrap64 (a0)) (wrap64 (a1)) (wrap64 (a2))).bind fun bt281 => (if bt281.2 = 0 then (if (wrap64 ((wrap64 ((wrap64 (a0)) * (wrap64 (a1)))) - (wrap64 (bt281.1 * (wrap64 (a2)))))) < 0 then (comptrollerlaw02_WideNear.j0 k a2 (wrap64 ((wrap64 (a0)) * (wrap64 (a1)))) (wrap64 (a2)) bt281.1 (wrap64 (-(wrap64 ((wrap64 ((wrap64 (a0)) * (wrap64 (a1)))) - (wrap64 (bt281.1 * (wrap64 (a2))))))))) else (comptrollerlaw02_WideNear.j0 k a2 (wrap64 ((wrap64 (a0)) * (wrap64 (a1)))) (wrap64 (a2)) bt281.1 (wrap64 ((wrap64 ((wrap64 (a0)) * (wrap64 (a1)))) - (wrap64 (bt281.1 * (wrap64 (a2)))))))) else (some false)))) else (some false)) = some r := H
  have A4 := Aside0.mk A40
  clear A40
  by_cases c5 : t280 = true
  · subst c5
    have H1 : (if a2 = 0 then (some true) else ((wide_MulDiv.f k (wrap64 (a0)) (wrap64 (a1)) (wrap64 (a2))).bind fun bt281 => (if bt281.2 = 0 then (if (wrap64 ((wrap64 ((wrap64 (a0)) * (wrap64 (a1)))) - (wrap64 (bt281.1 * (wrap64 (a2)))))) < 0 then (comptrollerlaw02_WideNear.j0 k a2 (wrap64 ((wrap64 (a0)) * (wrap64 (a1)))) (wrap64 (a2)) bt281.1 (wrap64 (-(wrap64 ((wrap64 ((wrap64 (a0)) * (wrap64 (a1)))) - (wrap64 (bt281.1 * (wrap64 (a2))))))))) else (comptrollerlaw02_WideNear.j0 k a2 (wrap64 ((wrap64 (a0)) * (wrap64 (a1)))) (wrap64 (a2)) bt281.1 (wrap64 ((wrap64 ((wrap64 (a0)) * (wrap64 (a1)))) - (wrap64 (bt281.1 * (wrap64 (a2)))))))) else (some false)))) = some r := by rw [if_pos rfl] at H; exact H
    clear H
    have H := H1
    clear H1
    by_cases c6 : a2 = 0
    · rw [if_pos c6] at H
      have c6b0 : (a2 == 0) = true := beq_iff_eq.mpr c6
      have c6b1 : (a2 != 0) = false := bne_eq_false_iff_eq.mpr c6
      clear c6
      obtain rfl := Option.some.inj H
      go_enter Try.func7, Try.ntmps7
      go_wp2_with (first | ((with_reducible refine gate_callee (f := 11) rfl ?_); refine goesL_ (some 13) rfl rfl Try.func11 (by kernel_rfl) rfl #[] rfl (by (try simp only [List.map_toArray, List.map_cons, List.map_nil]); first | done | rfl | (simp only [List.length_drop, List.length_take]; rfl)) ?_; (with_reducible refine (comptrollerlaw02_alive.calls k  true _ A4.out).mono ?_); rintro e w7 ⟨rfl, hb⟩; refine ⟨_, rfl, ?_⟩; have n0_ := Aside0.mk (below_step (by repeat (first | (with_reducible first | exact HB.out | apply below_alloc | apply pw_below_drewN | apply below_drew1) | exact HB.out)) hb); clear HB; have HB := n0_; clear n0_; (try clear hb); (try clear hb2); (try clear hk); (try clear hi)))
      go_ret
      exact ⟨by first | rfl | (simp [errW_none, errW_some] <;> rfl) | (simp [*, errW_none, errW_some] <;> rfl), by repeat (first | (with_reducible first | exact HB.out | apply below_alloc | apply pw_below_drewN | apply below_drew1) | exact HB.out)⟩
    · rw [if_neg c6] at H
      have c6b0 : (a2 == 0) = false := beq_eq_false_iff_ne.mpr c6
      have c6b1 : (a2 != 0) = true := bne_iff_ne.mpr c6
      replace H := Option.bind_eq_some_iff.mp H
      obtain ⟨⟨t281, t282⟩, A80, H⟩ := H
      replace H : (if t282 = 0 then (if (wrap64 ((wrap64 ((wrap64 (a0)) * (wrap64 (a1)))) - (wrap64 (t281 * (wrap64 (a2)))))) < 0 then (comptrollerlaw02_WideNear.j0 k a2 (wrap64 ((wrap64 (a0)) * (wrap64 (a1)))) (wrap64 (a2)) t281 (wrap64 (-(wrap64 ((wrap64 ((wrap64 (a0)) * (wrap64 (a1)))) - (wrap64 (t281 * (wrap64 (a2))))))))) else (comptrollerlaw02_WideNear.j0 k a2 (wrap64 ((wrap64 (a0)) * (wrap64 (a1)))) (wrap64 (a2)) t281 (wrap64 ((wrap64 ((wrap64 (a0)) * (wrap64 (a1)))) - (wrap64 (t281 * (wrap64 (a2)))))))) else (some false)) = some r := H
      have A8 := Aside0.mk A80
      clear A80
      by_cases c9 : t282 = 0
      · rw [if_pos c9] at H
        have c9b0 : (t282 == 0) = true := beq_iff_eq.mpr c9
        have c9b1 : (t282 != 0) = false := bne_eq_false_iff_eq.mpr c9
        clear c9
        have HC10 := Aside0.mk H
        clear H
        go_enter Try.func7, Try.ntmps7
        go_upto_if 41 with (first | ((with_reducible refine gate_callee (f := 11) rfl ?_); refine goesL_ (some 13) rfl rfl Try.func11 (by kernel_rfl) rfl #[] rfl (by (try simp only [List.map_toArray, List.map_cons, List.map_nil]); first | done | rfl | (simp only [List.length_drop, List.length_take]; rfl)) ?_; (with_reducible refine (comptrollerlaw02_alive.calls k  true _ A4.out).mono ?_); rintro e w11 ⟨rfl, hb⟩; refine ⟨_, rfl, ?_⟩; have n0_ := Aside0.mk (below_step (by repeat (first | (with_reducible first | exact HB.out | apply below_alloc | apply pw_below_drewN | apply below_drew1) | exact HB.out)) hb); clear HB; have HB := n0_; clear n0_; (try clear hb); (try clear hb2); (try clear hk); (try clear hi)) | ((with_reducible refine gate_callee (f := 12) rfl ?_); refine goesL_ (some 30) rfl rfl Try.func12 (by kernel_rfl) rfl #[.int .i64 (wrap64 (a0)), .int .i64 (wrap64 (a1)), .int .i64 (wrap64 (a2))] rfl (by (try simp only [List.map_toArray, List.map_cons, List.map_nil]); first | done | rfl | (simp only [List.length_drop, List.length_take]; rfl)) ?_; (with_reducible refine (wide_MulDiv.calls k (wrap64 (a0)) (wrap64 (a1)) (wrap64 (a2)) t281 t282 _ A8.out).mono ?_); rintro e w12 ⟨rfl, hb⟩; refine ⟨_, rfl, ?_⟩; have n0_ := Aside0.mk (below_step (by repeat (first | (with_reducible first | exact HB.out | apply below_alloc | apply pw_below_drewN | apply below_drew1) | exact HB.out)) hb); clear HB; have HB := n0_; clear n0_; (try clear hb); (try clear hb2); (try clear hk); (try clear hi)))
        (try simp only [Act.put, List.setIfInBounds_toArray, List.set_cons_zero, List.set_cons_succ])
        go_cut [11] (fun v11 wc => ∃ (kq : Nat) (x11_9 : Int), v11 = .int .i64 x11_9 ∧ Aside0 (comptrollerlaw02_WideNear.j0 kq a2 (wrap64 ((wrap64 (a0)) * (wrap64 (a1)))) (wrap64 (a2)) t281 x11_9 = some r) ∧ Aside0 (kq ≤ k) ∧ Aside0 (Below w.heap.size w wc))
        case first =>
          have H := HC10.out
          clear HC10
          by_cases c13 : (wrap64 ((wrap64 ((wrap64 (a0)) * (wrap64 (a1)))) - (wrap64 (t281 * (wrap64 (a2)))))) < 0
          · rw [if_pos c13] at H
            have c13b0 : decide ((wrap64 ((wrap64 ((wrap64 (a0)) * (wrap64 (a1)))) - (wrap64 (t281 * (wrap64 (a2)))))) < 0) = true := decide_eq_true c13
            clear c13
            (first | rw [c13b0] | (simp only [i64_w, i32_w]; rw [c13b0]) | skip)
            have H' := Aside0.mk H
            clear H
            go_wp2
            go_meet
            case rel => exact ⟨_, (wrap64 (-(wrap64 ((wrap64 ((wrap64 (a0)) * (wrap64 (a1)))) - (wrap64 (t281 * (wrap64 (a2)))))))), (by first | rfl | (simp; done) | (simp [*]; done)), H', ⟨by first | omega | exact Nat.le_refl _⟩, ⟨by repeat (first | (with_reducible first | exact HB.out | apply below_alloc | apply pw_below_drewN | apply below_drew1) | exact HB.out)⟩⟩
          · rw [if_neg c13] at H
            have c13b0 : decide ((wrap64 ((wrap64 ((wrap64 (a0)) * (wrap64 (a1)))) - (wrap64 (t281 * (wrap64 (a2)))))) < 0) = false := decide_eq_false c13
            clear c13
            (first | rw [c13b0] | (simp only [i64_w, i32_w]; rw [c13b0]) | skip)
            have H' := Aside0.mk H
            clear H
            go_wp2
            go_meet
            case rel => exact ⟨_, (wrap64 ((wrap64 ((wrap64 (a0)) * (wrap64 (a1)))) - (wrap64 (t281 * (wrap64 (a2)))))), (by first | rfl | (simp; done) | (simp [*]; done)), H', ⟨by first | omega | exact Nat.le_refl _⟩, ⟨by repeat (first | (with_reducible first | exact HB.out | apply below_alloc | apply pw_below_drewN | apply below_drew1) | exact HB.out)⟩⟩
        case rest =>
          clear HC10
          try clear c1
          try clear p2
          try clear c5
          try clear c6
          try clear c6b0
          try clear c6b1
          try clear p6
          try clear c7
          try clear c9
          try clear c9b0
          try clear c9b1
          try clear c11
          try clear c12
          try clear c13
          try clear c13b0
          obtain ⟨kq, x11_9, rfl, HA, HJ9, HB⟩ := hcut
          cases kq with
          | zero => exact absurd HA.out (by simp [comptrollerlaw02_WideNear.j0])
          | succ kj9 =>
            have H := HA.out
            clear HA
            simp only [comptrollerlaw02_WideNear.j0] at H
            by_cases c14 : (wrap64 (a2)) < 0
            · rw [if_pos c14] at H
              have c14b0 : decide ((wrap64 (a2)) < 0) = true := decide_eq_true c14
              clear c14
              by_cases c15 : (wrap64 (2 * x11_9)) > (wrap64 (-(wrap64 (a2))))
              · rw [if_pos c15] at H
                have c15b0 : decide ((wrap64 (-(wrap64 (a2)))) < (wrap64 (2 * x11_9))) = true := decide_eq_true c15
                clear c15
                obtain rfl := Option.some.inj H
                go_wp2
                go_ret
                exact ⟨by first | rfl | (simp [errW_none, errW_some] <;> rfl) | (simp [*, errW_none, errW_some] <;> rfl), by repeat (first | (with_reducible first | exact HB.out | apply below_alloc | apply pw_below_drewN | apply below_drew1) | exact HB.out)⟩
              · rw [if_neg c15] at H
                have c15b0 : decide ((wrap64 (-(wrap64 (a2)))) < (wrap64 (2 * x11_9))) = false := decide_eq_false c15
                clear c15
                by_cases c16 : (wrap64 (2 * x11_9)) < (wrap64 (-(wrap64 (a2))))
                · rw [if_pos c16] at H
                  have c16b0 : decide ((wrap64 (2 * x11_9)) < (wrap64 (-(wrap64 (a2))))) = true := decide_eq_true c16
                  clear c16
                  obtain rfl := Option.some.inj H
                  go_wp2
                  go_ret
                  exact ⟨by first | rfl | (simp [errW_none, errW_some] <;> rfl) | (simp [*, errW_none, errW_some] <;> rfl), by repeat (first | (with_reducible first | exact HB.out | apply below_alloc | apply pw_below_drewN | apply below_drew1) | exact HB.out)⟩
                · rw [if_neg c16] at H
                  have c16b0 : decide ((wrap64 (2 * x11_9)) < (wrap64 (-(wrap64 (a2))))) = false := decide_eq_false c16
                  clear c16
                  by_cases c17 : (wrap64 ((wrap64 (a0)) * (wrap64 (a1)))) ≥ 0
                  · rw [if_pos c17] at H
                    have c17b0 : decide (0 ≤ (wrap64 ((wrap64 (a0)) * (wrap64 (a1))))) = true := decide_eq_true c17
                    clear c17
                    by_cases c18 : (wrap64 (t281 * (wrap64 (a2)))) > (wrap64 ((wrap64 (a0)) * (wrap64 (a1))))
                    · rw [if_pos c18] at H
                      have c18b0 : decide ((wrap64 ((wrap64 (a0)) * (wrap64 (a1)))) < (wrap64 (t281 * (wrap64 (a2))))) = true := decide_eq_true c18
                      clear c18
                      obtain rfl := Option.some.inj H
                      go_wp2
                      go_ret
                      exact ⟨by first | rfl | (simp [errW_none, errW_some] <;> rfl) | (simp [*, errW_none, errW_some] <;> rfl), by repeat (first | (with_reducible first | exact HB.out | apply below_alloc | apply pw_below_drewN | apply below_drew1) | exact HB.out)⟩
                    · rw [if_neg c18] at H
                      have c18b0 : decide ((wrap64 ((wrap64 (a0)) * (wrap64 (a1)))) < (wrap64 (t281 * (wrap64 (a2))))) = false := decide_eq_false c18
                      clear c18
                      by_cases c19 : (wrap64 ((wrap64 (a0)) * (wrap64 (a1)))) < 0
                      · rw [if_pos c19] at H
                        have c19b0 : decide ((wrap64 ((wrap64 (a0)) * (wrap64 (a1)))) < 0) = true := decide_eq_true c19
                        clear c19
                        obtain rfl := Option.some.inj H
                        go_wp2
                        go_ret
                        exact ⟨by first | rfl | (simp [errW_none, errW_some] <;> rfl) | (simp [*, errW_none, errW_some] <;> rfl), by repeat (first | (with_reducible first | exact HB.out | apply below_alloc | apply pw_below_drewN | apply below_drew1) | exact HB.out)⟩
                      · rw [if_neg c19] at H
                        have c19b0 : decide ((wrap64 ((wrap64 (a0)) * (wrap64 (a1)))) < 0) = false := decide_eq_false c19
                        clear c19
                        obtain rfl := Option.some.inj H
                        go_wp2
                        go_ret
                        exact ⟨by first | rfl | (simp [errW_none, errW_some] <;> rfl) | (simp [*, errW_none, errW_some] <;> rfl), by repeat (first | (with_reducible first | exact HB.out | apply below_alloc | apply pw_below_drewN | apply below_drew1) | exact HB.out)⟩
                  · rw [if_neg c17] at H
                    have c17b0 : decide (0 ≤ (wrap64 ((wrap64 (a0)) * (wrap64 (a1))))) = false := decide_eq_false c17
                    clear c17
                    by_cases c20 : (wrap64 ((wrap64 (a0)) * (wrap64 (a1)))) < 0
                    · rw [if_pos c20] at H
                      have c20b0 : decide ((wrap64 ((wrap64 (a0)) * (wrap64 (a1)))) < 0) = true := decide_eq_true c20
                      clear c20
                      obtain rfl := Option.some.inj H
                      go_wp2
                      go_ret
                      exact ⟨by first | rfl | (simp [errW_none, errW_some] <;> rfl) | (simp [*, errW_none, errW_some] <;> rfl), by repeat (first | (with_reducible first | exact HB.out | apply below_alloc | apply pw_below_drewN | apply below_drew1) | exact HB.out)⟩
                    · rw [if_neg c20] at H
                      have c20b0 : decide ((wrap64 ((wrap64 (a0)) * (wrap64 (a1)))) < 0) = false := decide_eq_false c20
                      clear c20
                      obtain rfl := Option.some.inj H
                      go_wp2
                      go_ret
                      exact ⟨by first | rfl | (simp [errW_none, errW_some] <;> rfl) | (simp [*, errW_none, errW_some] <;> rfl), by repeat (first | (with_reducible first | exact HB.out | apply below_alloc | apply pw_below_drewN | apply below_drew1) | exact HB.out)⟩
            · rw [if_neg c14] at H
              have c14b0 : decide ((wrap64 (a2)) < 0) = false := decide_eq_false c14
              clear c14
              by_cases c21 : (wrap64 (2 * x11_9)) > (wrap64 (a2))
              · rw [if_pos c21] at H
                have c21b0 : decide ((wrap64 (a2)) < (wrap64 (2 * x11_9))) = true := decide_eq_true c21
                clear c21
                obtain rfl := Option.some.inj H
                go_wp2
                go_ret
                exact ⟨by first | rfl | (simp [errW_none, errW_some] <;> rfl) | (simp [*, errW_none, errW_some] <;> rfl), by repeat (first | (with_reducible first | exact HB.out | apply below_alloc | apply pw_below_drewN | apply below_drew1) | exact HB.out)⟩
              · rw [if_neg c21] at H
                have c21b0 : decide ((wrap64 (a2)) < (wrap64 (2 * x11_9))) = false := decide_eq_false c21
                clear c21
                by_cases c22 : (wrap64 (2 * x11_9)) < (wrap64 (a2))
                · rw [if_pos c22] at H
                  have c22b0 : decide ((wrap64 (2 * x11_9)) < (wrap64 (a2))) = true := decide_eq_true c22
                  clear c22
                  obtain rfl := Option.some.inj H
                  go_wp2
                  go_ret
                  exact ⟨by first | rfl | (simp [errW_none, errW_some] <;> rfl) | (simp [*, errW_none, errW_some] <;> rfl), by repeat (first | (with_reducible first | exact HB.out | apply below_alloc | apply pw_below_drewN | apply below_drew1) | exact HB.out)⟩
                · rw [if_neg c22] at H
                  have c22b0 : decide ((wrap64 (2 * x11_9)) < (wrap64 (a2))) = false := decide_eq_false c22
                  clear c22
                  by_cases c23 : (wrap64 ((wrap64 (a0)) * (wrap64 (a1)))) ≥ 0
                  · rw [if_pos c23] at H
                    have c23b0 : decide (0 ≤ (wrap64 ((wrap64 (a0)) * (wrap64 (a1))))) = true := decide_eq_true c23
                    clear c23
                    by_cases c24 : (wrap64 (t281 * (wrap64 (a2)))) > (wrap64 ((wrap64 (a0)) * (wrap64 (a1))))
                    · rw [if_pos c24] at H
                      have c24b0 : decide ((wrap64 ((wrap64 (a0)) * (wrap64 (a1)))) < (wrap64 (t281 * (wrap64 (a2))))) = true := decide_eq_true c24
                      clear c24
                      obtain rfl := Option.some.inj H
                      go_wp2
                      go_ret
                      exact ⟨by first | rfl | (simp [errW_none, errW_some] <;> rfl) | (simp [*, errW_none, errW_some] <;> rfl), by repeat (first | (with_reducible first | exact HB.out | apply below_alloc | apply pw_below_drewN | apply below_drew1) | exact HB.out)⟩
                    · rw [if_neg c24] at H
                      have c24b0 : decide ((wrap64 ((wrap64 (a0)) * (wrap64 (a1)))) < (wrap64 (t281 * (wrap64 (a2))))) = false := decide_eq_false c24
                      clear c24
                      by_cases c25 : (wrap64 ((wrap64 (a0)) * (wrap64 (a1)))) < 0
                      · rw [if_pos c25] at H
                        have c25b0 : decide ((wrap64 ((wrap64 (a0)) * (wrap64 (a1)))) < 0) = true := decide_eq_true c25
                        clear c25
                        obtain rfl := Option.some.inj H
                        go_wp2
                        go_ret
                        exact ⟨by first | rfl | (simp [errW_none, errW_some] <;> rfl) | (simp [*, errW_none, errW_some] <;> rfl), by repeat (first | (with_reducible first | exact HB.out | apply below_alloc | apply pw_below_drewN | apply below_drew1) | exact HB.out)⟩
                      · rw [if_neg c25] at H
                        have c25b0 : decide ((wrap64 ((wrap64 (a0)) * (wrap64 (a1)))) < 0) = false := decide_eq_false c25
                        clear c25
                        obtain rfl := Option.some.inj H
                        go_wp2
                        go_ret
                        exact ⟨by first | rfl | (simp [errW_none, errW_some] <;> rfl) | (simp [*, errW_none, errW_some] <;> rfl), by repeat (first | (with_reducible first | exact HB.out | apply below_alloc | apply pw_below_drewN | apply below_drew1) | exact HB.out)⟩
                  · rw [if_neg c23] at H
                    have c23b0 : decide (0 ≤ (wrap64 ((wrap64 (a0)) * (wrap64 (a1))))) = false := decide_eq_false c23
                    clear c23
                    by_cases c26 : (wrap64 ((wrap64 (a0)) * (wrap64 (a1)))) < 0
                    · rw [if_pos c26] at H
                      have c26b0 : decide ((wrap64 ((wrap64 (a0)) * (wrap64 (a1)))) < 0) = true := decide_eq_true c26
                      clear c26
                      obtain rfl := Option.some.inj H
                      go_wp2
                      go_ret
                      exact ⟨by first | rfl | (simp [errW_none, errW_some] <;> rfl) | (simp [*, errW_none, errW_some] <;> rfl), by repeat (first | (with_reducible first | exact HB.out | apply below_alloc | apply pw_below_drewN | apply below_drew1) | exact HB.out)⟩
                    · rw [if_neg c26] at H
                      have c26b0 : decide ((wrap64 ((wrap64 (a0)) * (wrap64 (a1)))) < 0) = false := decide_eq_false c26
                      clear c26
                      obtain rfl := Option.some.inj H
                      go_wp2
                      go_ret
                      exact ⟨by first | rfl | (simp [errW_none, errW_some] <;> rfl) | (simp [*, errW_none, errW_some] <;> rfl), by repeat (first | (with_reducible first | exact HB.out | apply below_alloc | apply pw_below_drewN | apply below_drew1) | exact HB.out)⟩
      · rw [if_neg c9] at H
        have c9b0 : (t282 == 0) = false := beq_eq_false_iff_ne.mpr c9
        have c9b1 : (t282 != 0) = true := bne_iff_ne.mpr c9
        obtain rfl := Option.some.inj H
        go_enter Try.func7, Try.ntmps7
        go_wp2_with (first | ((with_reducible refine gate_callee (f := 11) rfl ?_); refine goesL_ (some 13) rfl rfl Try.func11 (by kernel_rfl) rfl #[] rfl (by (try simp only [List.map_toArray, List.map_cons, List.map_nil]); first | done | rfl | (simp only [List.length_drop, List.length_take]; rfl)) ?_; (with_reducible refine (comptrollerlaw02_alive.calls k  true _ A4.out).mono ?_); rintro e w27 ⟨rfl, hb⟩; refine ⟨_, rfl, ?_⟩; have n0_ := Aside0.mk (below_step (by repeat (first | (with_reducible first | exact HB.out | apply below_alloc | apply pw_below_drewN | apply below_drew1) | exact HB.out)) hb); clear HB; have HB := n0_; clear n0_; (try clear hb); (try clear hb2); (try clear hk); (try clear hi)) | ((with_reducible refine gate_callee (f := 12) rfl ?_); refine goesL_ (some 30) rfl rfl Try.func12 (by kernel_rfl) rfl #[.int .i64 (wrap64 (a0)), .int .i64 (wrap64 (a1)), .int .i64 (wrap64 (a2))] rfl (by (try simp only [List.map_toArray, List.map_cons, List.map_nil]); first | done | rfl | (simp only [List.length_drop, List.length_take]; rfl)) ?_; (with_reducible refine (wide_MulDiv.calls k (wrap64 (a0)) (wrap64 (a1)) (wrap64 (a2)) t281 t282 _ A8.out).mono ?_); rintro e w28 ⟨rfl, hb⟩; refine ⟨_, rfl, ?_⟩; have n0_ := Aside0.mk (below_step (by repeat (first | (with_reducible first | exact HB.out | apply below_alloc | apply pw_below_drewN | apply below_drew1) | exact HB.out)) hb); clear HB; have HB := n0_; clear n0_; (try clear hb); (try clear hb2); (try clear hk); (try clear hi)))
        go_ret
        exact ⟨by first | rfl | (simp [errW_none, errW_some] <;> rfl) | (simp [*, errW_none, errW_some] <;> rfl), by repeat (first | (with_reducible first | exact HB.out | apply below_alloc | apply pw_below_drewN | apply below_drew1) | exact HB.out)⟩
  · replace c5 := Bool.eq_false_iff.mpr c5
    subst c5
    have H1 : (some false) = some r := by rw [if_neg (show ¬ (false = true) by decide)] at H; exact H
    clear H
    have H := H1
    clear H1
    obtain rfl := Option.some.inj H
    go_enter Try.func7, Try.ntmps7
    go_wp2_with (first | ((with_reducible refine gate_callee (f := 11) rfl ?_); refine goesL_ (some 13) rfl rfl Try.func11 (by kernel_rfl) rfl #[] rfl (by (try simp only [List.map_toArray, List.map_cons, List.map_nil]); first | done | rfl | (simp only [List.length_drop, List.length_take]; rfl)) ?_; (with_reducible refine (comptrollerlaw02_alive.calls k  false _ A4.out).mono ?_); rintro e w29 ⟨rfl, hb⟩; refine ⟨_, rfl, ?_⟩; have n0_ := Aside0.mk (below_step (by repeat (first | (with_reducible first | exact HB.out | apply below_alloc | apply pw_below_drewN | apply below_drew1) | exact HB.out)) hb); clear HB; have HB := n0_; clear n0_; (try clear hb); (try clear hb2); (try clear hk); (try clear hi)))
    go_ret
    exact ⟨by first | rfl | (simp [errW_none, errW_some] <;> rfl) | (simp [*, errW_none, errW_some] <;> rfl), by repeat (first | (with_reducible first | exact HB.out | apply below_alloc | apply pw_below_drewN | apply below_drew1) | exact HB.out)⟩

/-- THE ONE PURE STATEMENT of comptrollerlaw02_WideNear: ours. -/
def comptrollerlaw02_WideNear.Pure : Prop := ∀ (a0 : Int) (a1 : Int) (a2 : Int), (Lit.int .i32 a0).wf = true → (Lit.int .i32 a1).wf = true → (Lit.int .i32 a2).wf = true → ∃ k, comptrollerlaw02_WideNear.f k a0 a1 a2 = some true

end Go.Proofs.Ytgmajadoklnlnaa.Q
