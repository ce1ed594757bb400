/- printed by a program of this session (wip/tools/pr.sh): it is not a print of the kit -/
import Derived.Test.YtffdhekmnoajiaaDoorXName
import Derived.Test.YtffdhekmnoajiaaDoorXLexJoin
import Derived.Test.YtffdhekmnoajiaaDoorXLexLines
import Derived.Test.YtffdhekmnoajiaaDoorQx0
import Derived.Test.YtffdhekmnoajiaaDoorQx1
import Derived.Test.YtffdhekmnoajiaaDoorQx2
namespace Go.Proofs.YtffdhekmnoajiaaDoor.Q
open Go.RowKit Go.Proofs.YtffdhekmnoajiaaDoorW.PrintWords Go.Proofs.YtffdhekmnoajiaaDoorW.PrintLast Go.Proofs.YtffdhekmnoajiaaDoorW.PrintMore
attribute [local go_sem] max2_int min2_int max_two min_two max_three min_three max_four min_four RFn.gtr_str   -- for this text's walks alone
set_option linter.unusedVariables false
set_option linter.unusedSimpArgs false
/-! ### law05_LexTells: function 3 -/
mutual
def law05_LexTells.j0 : Nat → ByteArray → List (S49) → List ByteArray → Bool → Option (Bool)
 | 0, _, _, _, _ => none
 | k + 1, x0, x1, x2, x35 => if x35 = true then (some true) else ((lex_Lines.f x0).bind fun bt176 => ((ref05_Lines.f k x0).bind fun bt180 => (law05_LexTells.j1 k x0 x1 x2 bt176.1 bt176.2 bt180.1 bt180.2)))
def law05_LexTells.j1 : Nat → ByteArray → List (S49) → List ByteArray → List (S42) → Int → List (S49) → Int → Option (Bool)
 | 0, _, _, _, _, _, _, _ => none
 | k + 1, x0, x1, x2, x7, x8, x9, x10 => (law05_Ours.f k x7).bind fun t184 => ((ref05_Same.f k t184 x9).bind fun t187 => (if t187 = true then (if x8 = x10 then ((lex_Name.f x0).bind fun t188 => ((ref05_Name.f k x0).bind fun t189 => (if (t188 == t189) = true then ((law05_theirs.f k x1).bind fun t190 => ((lex_Join.f t190).bind fun t193 => ((ref05_Join.f k x1).bind fun t194 => (if t193.toList = t194.toList then ((lex_Pick.f k x0 x2).bind fun t195 => ((ref05_Pick.f k x0 x2).bind fun t196 => (some (t195 == t196)))) else (some false))))) else (some false)))) else (some false)) else (some false)))
end
def law05_LexTells.f (k : Nat) (a0 : ByteArray) (l1 : List (S49)) (l2 : List ByteArray) : Option (Bool) := (law05_alive.f k).bind fun t173 => (if t173 = true then (if (a0.size : Int) > 3000 then (if (a0.size : Int) ≤ 20000 then (law05_LexTells.j0 k a0 l1 l2 true) else (if (a0.size : Int) > 30000 then (law05_LexTells.j0 k a0 l1 l2 true) else ((law05_few.f k l1).bind fun t174 => (if t174 = true then (law05_LexTells.j0 k a0 l1 l2 (decide ((l2.length : Int) > 60))) else (law05_LexTells.j0 k a0 l1 l2 true))))) else (if (a0.size : Int) > 30000 then (law05_LexTells.j0 k a0 l1 l2 true) else ((law05_few.f k l1).bind fun t175 => (if t175 = true then (law05_LexTells.j0 k a0 l1 l2 (decide ((l2.length : Int) > 60))) else (law05_LexTells.j0 k a0 l1 l2 true))))) else (some false))
theorem law05_LexTells.mono_l : ∀ k, (∀ y0 y1 y2 y3, LeO (law05_LexTells.j0 k y0 y1 y2 y3) (law05_LexTells.j0 (k + 1) y0 y1 y2 y3)) ∧ (∀ y0 y1 y2 y3 y4 y5 y6, LeO (law05_LexTells.j1 k y0 y1 y2 y3 y4 y5 y6) (law05_LexTells.j1 (k + 1) y0 y1 y2 y3 y4 y5 y6))
 | 0 => ⟨fun _ _ _ _ r h => by simp [law05_LexTells.j0] at h, fun _ _ _ _ _ _ _ r h => by simp [law05_LexTells.j1] at h⟩
 | k + 1 => by
  obtain ⟨ih0, ih1⟩ := law05_LexTells.mono_l k
  refine ⟨?_, ?_⟩
  ·intro y0 y1 y2 y3
   unfold law05_LexTells.j0
   repeat' with_reducible first | exact LeO.refl _ | apply ih0 | apply ih1 | apply law05_Ours.mono | apply law05_alive.mono | apply law05_few.mono | apply law05_theirs.mono | apply lex_Pick.mono | apply ref05_Join.mono | apply ref05_Lines.mono | apply ref05_Name.mono | apply ref05_Pick.mono | apply ref05_Same.mono | exact LeO.none _ | apply LeO.ite | refine LeO.bind ?_ fun _ => ?_
  ·intro y0 y1 y2 y3 y4 y5 y6
   unfold law05_LexTells.j1
   repeat' with_reducible first | exact LeO.refl _ | apply ih0 | apply ih1 | apply law05_Ours.mono | apply law05_alive.mono | apply law05_few.mono | apply law05_theirs.mono | apply lex_Pick.mono | apply ref05_Join.mono | apply ref05_Lines.mono | apply ref05_Name.mono | apply ref05_Pick.mono | apply ref05_Same.mono | exact LeO.none _ | apply LeO.ite | refine LeO.bind ?_ fun _ => ?_
theorem law05_LexTells.mono : ∀ a0 a1 a2 k, LeO (law05_LexTells.f k a0 a1 a2) (law05_LexTells.f (k + 1) a0 a1 a2) := by
 intro a0 a1 a2 k
 obtain ⟨ih0, ih1⟩ := law05_LexTells.mono_l k
 unfold law05_LexTells.f
 repeat' with_reducible first | exact LeO.refl _ | apply ih0 | apply ih1 | apply law05_Ours.mono | apply law05_alive.mono | apply law05_few.mono | apply law05_theirs.mono | apply lex_Pick.mono | apply ref05_Join.mono | apply ref05_Lines.mono | apply ref05_Name.mono | apply ref05_Pick.mono | apply ref05_Same.mono | exact LeO.none _ | apply LeO.ite | refine LeO.bind ?_ fun _ => ?_
set_option maxHeartbeats 8000000 in
set_option maxRecDepth 100000 in
theorem law05_LexTells.calls (k : Nat) (a0 : ByteArray) (A1 : Option Addr) (c1 : Nat) (l1 : List (S49)) (A2 : Option Addr) (c2 : Nat) (l2 : List ByteArray) (r : Bool) (w : World) (hr1 : Kd.C k49 w A1 l1.length l1) (hc1 : l1.length ≤ c1) (hr2 : Kd.C Kd.string w A2 l2.length l2) (hc2 : l2.length ≤ c2) (h : law05_LexTells.f k a0 l1 l2 = some r) (hLd_ : Go.Proofs.YtffdhekmnoajiaaDoor.X.LaidW w) :
  Calls Tryd.prog 3 #[.string a0, .slice A1 l1.length c1, .slice A2 l2.length c2] w fun e w' => e = .returned (.bool r) ∧ Below w.heap.size w w' := by
 have HR1 := Aside0.mk hr1
 have HC1 := Aside0.mk hc1
 clear hr1 hc1
 have HR2 := Aside0.mk hr2
 have HC2 := Aside0.mk hc2
 clear hr2 hc2
 have HB := Aside0.mk (Below.refl w.heap.size w)
 have H : ((law05_alive.f k).bind fun t173 => (if t173 = true then (if (a0.size : Int) > 3000 then (if (a0.size : Int) ≤ 20000 then (law05_LexTells.j0 k a0 l1 l2 true) else (if (a0.size : Int) > 30000 then (law05_LexTells.j0 k a0 l1 l2 true) else ((law05_few.f k l1).bind fun t174 => (if t174 = true then (law05_LexTells.j0 k a0 l1 l2 (decide ((l2.length : Int) > 60))) else (law05_LexTells.j0 k a0 l1 l2 true))))) else (if (a0.size : Int) > 30000 then (law05_LexTells.j0 k a0 l1 l2 true) else ((law05_few.f k l1).bind fun t175 => (if t175 = true then (law05_LexTells.j0 k a0 l1 l2 (decide ((l2.length : Int) > 60))) else (law05_LexTells.j0 k a0 l1 l2 true))))) else (some false))) = some r := h
 clear h
 obtain ⟨t173, A4, H⟩ := RFn.bn H
 by_cases c5 : t173 = true
 ·subst c5
  have H1 : (if (a0.size : Int) > 3000 then (if (a0.size : Int) ≤ 20000 then (law05_LexTells.j0 k a0 l1 l2 true) else (if (a0.size : Int) > 30000 then (law05_LexTells.j0 k a0 l1 l2 true) else ((law05_few.f k l1).bind fun t174 => (if t174 = true then (law05_LexTells.j0 k a0 l1 l2 (decide ((l2.length : Int) > 60))) else (law05_LexTells.j0 k a0 l1 l2 true))))) else (if (a0.size : Int) > 30000 then (law05_LexTells.j0 k a0 l1 l2 true) else ((law05_few.f k l1).bind fun t175 => (if t175 = true then (law05_LexTells.j0 k a0 l1 l2 (decide ((l2.length : Int) > 60))) else (law05_LexTells.j0 k a0 l1 l2 true))))) = some r := by rw [if_pos rfl] at H; exact H
  clear H
  have H := H1
  clear H1
  have HC6 := Aside0.mk H
  clear H
  go_enter Tryd.func3, Tryd.ntmps3
  go_upto_region 3 with (first | ((with_reducible refine gate_callee (f := 8) rfl ?_); refine RFn.goesM (some 11) Tryd.func8 #[] rfl ?_; (with_reducible refine (law05_alive.calls k  true _ A4.out (Go.Proofs.YtffdhekmnoajiaaDoor.X.LaidW.below hLd_ RFn.bel)).mono ?_); rintro e w7 ⟨rfl, hb⟩; refine ⟨_, rfl, ?_⟩; have n0_ := Aside0.mk (below_step (RFn.bel) hb); clear HB; have HB := n0_; clear n0_; (try clear hb)))
  (try simp only [Act.put, List.setIfInBounds_toArray, List.set_cons_zero, List.set_cons_succ])
  go_cut [35] (fun v35 wc => ∃ (kq : Nat) (x35_5 : Bool), v35 = .bool x35_5 ∧ Aside0 (law05_LexTells.j0 kq a0 l1 l2 x35_5 = some r) ∧ Aside0 (kq ≤ k) ∧ Aside0 (Below w.heap.size w wc))
  case first =>
   have H := HC6.out
   clear HC6
   by_cases c8 : (a0.size : Int) > 3000
   ·rw [if_pos c8] at H
    have c8b0 : decide (3000 < (a0.size : Int)) = true := decide_eq_true c8
    have c8b1 : decide (3000 < a0.size) = true := decide_eq_true (by omega)
    clear c8
    (first | rw [c8b0] | (simp only [i64_w, i32_w]; rw [c8b0]) | skip)
    by_cases c9 : (a0.size : Int) ≤ 20000
    ·rw [if_pos c9] at H
     have c9b0 : decide ((a0.size : Int) ≤ 20000) = true := decide_eq_true c9
     have c9b1 : decide (a0.size ≤ 20000) = true := decide_eq_true (by omega)
     clear c9
     have H' := Aside0.mk H
     clear H
     go_wp2
     go_meet
     case rel => exact ⟨_, (true), (by first | rfl | (simp; done) | (simp [*]; done)), H', ⟨by first | omega | exact Nat.le_refl _⟩, ⟨RFn.bel⟩⟩
    ·rw [if_neg c9] at H
     have c9b0 : decide ((a0.size : Int) ≤ 20000) = false := decide_eq_false c9
     have c9b1 : decide (a0.size ≤ 20000) = false := decide_eq_false (by omega)
     clear c9
     by_cases c10 : (a0.size : Int) > 30000
     ·rw [if_pos c10] at H
      have c10b0 : decide (30000 < (a0.size : Int)) = true := decide_eq_true c10
      have c10b1 : decide (30000 < a0.size) = true := decide_eq_true (by omega)
      clear c10
      have H' := Aside0.mk H
      clear H
      go_wp2
      go_meet
      case rel => exact ⟨_, (true), (by first | rfl | (simp; done) | (simp [*]; done)), H', ⟨by first | omega | exact Nat.le_refl _⟩, ⟨RFn.bel⟩⟩
     ·rw [if_neg c10] at H
      have c10b0 : decide (30000 < (a0.size : Int)) = false := decide_eq_false c10
      have c10b1 : decide (30000 < a0.size) = false := decide_eq_false (by omega)
      clear c10
      obtain ⟨t174, A11, H⟩ := RFn.bn H
      by_cases c12 : t174 = true
      ·subst c12
       have H1 : (law05_LexTells.j0 k a0 l1 l2 (decide ((l2.length : Int) > 60))) = some r := by rw [if_pos rfl] at H; exact H
       clear H
       have H := H1
       clear H1
       have H' := Aside0.mk H
       clear H
       go_wp2_with (first | (go_at_call 9; (with_reducible refine (law05_few.calls k _ _ l1 true _ ?side1 ?side2 A11.out).mono ?_); (case side1 => exact RFn.mC (Kd.C_below HR1.out HB.out)); (case side2 => exact HC1.out); rintro e w13 ⟨rfl, hb⟩; have n0_ := Aside0.mk (below_step (RFn.bel) hb); clear HB; have HB := n0_; clear n0_; (try clear hb)))
       go_meet
       case rel => exact ⟨_, (decide ((l2.length : Int) > 60)), (by first | rfl | (simp; done) | (simp [*]; done)), H', ⟨by first | omega | exact Nat.le_refl _⟩, ⟨RFn.bel⟩⟩
      ·replace c12 := Bool.eq_false_iff.mpr c12
       subst c12
       have H1 : (law05_LexTells.j0 k a0 l1 l2 true) = some r := by rw [if_neg (show ¬ (false = true) by decide)] at H; exact H
       clear H
       have H := H1
       clear H1
       have H' := Aside0.mk H
       clear H
       go_wp2_with (first | (go_at_call 9; (with_reducible refine (law05_few.calls k _ _ l1 false _ ?side1 ?side2 A11.out).mono ?_); (case side1 => exact RFn.mC (Kd.C_below HR1.out HB.out)); (case side2 => exact HC1.out); rintro e w14 ⟨rfl, hb⟩; have n0_ := Aside0.mk (below_step (RFn.bel) hb); clear HB; have HB := n0_; clear n0_; (try clear hb)))
       go_meet
       case rel => exact ⟨_, (true), (by first | rfl | (simp; done) | (simp [*]; done)), H', ⟨by first | omega | exact Nat.le_refl _⟩, ⟨RFn.bel⟩⟩
   ·rw [if_neg c8] at H
    have c8b0 : decide (3000 < (a0.size : Int)) = false := decide_eq_false c8
    have c8b1 : decide (3000 < a0.size) = false := decide_eq_false (by omega)
    clear c8
    (first | rw [c8b0] | (simp only [i64_w, i32_w]; rw [c8b0]) | skip)
    by_cases c15 : (a0.size : Int) > 30000
    ·rw [if_pos c15] at H
     have c15b0 : decide (30000 < (a0.size : Int)) = true := decide_eq_true c15
     have c15b1 : decide (30000 < a0.size) = true := decide_eq_true (by omega)
     clear c15
     have H' := Aside0.mk H
     clear H
     go_wp2
     go_meet
     case rel => exact ⟨_, (true), (by first | rfl | (simp; done) | (simp [*]; done)), H', ⟨by first | omega | exact Nat.le_refl _⟩, ⟨RFn.bel⟩⟩
    ·rw [if_neg c15] at H
     have c15b0 : decide (30000 < (a0.size : Int)) = false := decide_eq_false c15
     have c15b1 : decide (30000 < a0.size) = false := decide_eq_false (by omega)
     clear c15
     obtain ⟨t175, A16, H⟩ := RFn.bn H
     by_cases c17 : t175 = true
     ·subst c17
      have H1 : (law05_LexTells.j0 k a0 l1 l2 (decide ((l2.length : Int) > 60))) = some r := by rw [if_pos rfl] at H; exact H
      clear H
      have H := H1
      clear H1
      have H' := Aside0.mk H
      clear H
      go_wp2_with (first | (go_at_call 9; (with_reducible refine (law05_few.calls k _ _ l1 true _ ?side1 ?side2 A16.out).mono ?_); (case side1 => exact RFn.mC (Kd.C_below HR1.out HB.out)); (case side2 => exact HC1.out); rintro e w18 ⟨rfl, hb⟩; have n0_ := Aside0.mk (below_step (RFn.bel) hb); clear HB; have HB := n0_; clear n0_; (try clear hb)))
      go_meet
      case rel => exact ⟨_, (decide ((l2.length : Int) > 60)), (by first | rfl | (simp; done) | (simp [*]; done)), H', ⟨by first | omega | exact Nat.le_refl _⟩, ⟨RFn.bel⟩⟩
     ·replace c17 := Bool.eq_false_iff.mpr c17
      subst c17
      have H1 : (law05_LexTells.j0 k a0 l1 l2 true) = some r := by rw [if_neg (show ¬ (false = true) by decide)] at H; exact H
      clear H
      have H := H1
      clear H1
      have H' := Aside0.mk H
      clear H
      go_wp2_with (first | (go_at_call 9; (with_reducible refine (law05_few.calls k _ _ l1 false _ ?side1 ?side2 A16.out).mono ?_); (case side1 => exact RFn.mC (Kd.C_below HR1.out HB.out)); (case side2 => exact HC1.out); rintro e w19 ⟨rfl, hb⟩; have n0_ := Aside0.mk (below_step (RFn.bel) hb); clear HB; have HB := n0_; clear n0_; (try clear hb)))
      go_meet
      case rel => exact ⟨_, (true), (by first | rfl | (simp; done) | (simp [*]; done)), H', ⟨by first | omega | exact Nat.le_refl _⟩, ⟨RFn.bel⟩⟩
  case rest =>
   clear HC6
   try clear c1
   try clear c2
   try clear c5
   try clear c8
   try clear c8b0
   try clear c8b1
   try clear c9
   try clear c9b0
   try clear c9b1
   try clear c10
   try clear c10b0
   try clear c10b1
   try clear c12
   try clear c15
   try clear c15b0
   try clear c15b1
   try clear c17
   obtain ⟨kq, x35_5, rfl, HA, HJ5, HB⟩ := hcut
   cases kq with
   | zero => exact absurd HA.out (by simp [law05_LexTells.j0])
   | succ kj5 =>
    have H := HA.out
    clear HA
    simp only [law05_LexTells.j0] at H
    by_cases c20 : x35_5 = true
    ·subst c20
     have H1 : (some true) = some r := by rw [if_pos rfl] at H; exact H
     clear H
     have H := H1
     clear H1
     obtain rfl := Option.some.inj H
     go_wp2
     go_ret
     exact ⟨by first | rfl | (simp [errW_none, errW_some] <;> rfl) | (simp [*, errW_none, errW_some] <;> rfl), RFn.bel⟩
    ·replace c20 := Bool.eq_false_iff.mpr c20
     subst c20
     have H1 : ((lex_Lines.f a0).bind fun bt176 => ((ref05_Lines.f kj5 a0).bind fun bt180 => (law05_LexTells.j1 kj5 a0 l1 l2 bt176.1 bt176.2 bt180.1 bt180.2))) = some r := by rw [if_neg (show ¬ (false = true) by decide)] at H; exact H
     clear H
     have H := H1
     clear H1
     obtain ⟨⟨t176, t177⟩, A21, H⟩ := RFn.bn H
     have HC22 := Aside0.mk H
     clear H
     go_upto_region 6 with (first | ((with_reducible refine gate_callee (f := 10) rfl ?_); refine RFn.goesM (some 38) Tryd.func10 #[.string a0] rfl ?_; (with_reducible refine (lex_Lines.calls a0 t176 t177 _ A21.out (Go.Proofs.YtffdhekmnoajiaaDoor.X.LaidW.below hLd_ RFn.bel)).mono ?_); rintro e w23 ⟨v178, rfl, ho0, hb⟩; refine ⟨_, rfl, ?_⟩; have n0_ := Aside0.mk (Kd.N_lower (Kd.N_mono (ok' := fun k_ => True) (Kd.S_N (Kd.S_bound ho0)) (fun k_ hk_ => trivial)) (below_size (RFn.bel))); have n1_ := Aside0.mk (below_step (RFn.bel) hb); clear HB; have HO179 := n0_; have HB := n1_; clear n0_ n1_; (try clear hb); (try clear ho0)))
     (try simp only [Act.put, List.setIfInBounds_toArray, List.set_cons_zero, List.set_cons_succ])
     go_cut [9, 10] (fun v9 v10 wc => ∃ (kq : Nat) (x9_21 : List (S49)) (x10_21 : Int), v10 = .int .i64 x10_21 ∧ Aside0 (law05_LexTells.j1 kq a0 l1 l2 t176 t177 x9_21 x10_21 = some r) ∧ Aside0 (kq ≤ kj5) ∧ Aside0 (Kd.N k42 42 wc w.heap.size (fun _ => True) v178 t176) ∧ Aside0 (Kd.N k49 49 wc w.heap.size (fun _ => True) v9 x9_21) ∧ Aside0 (Below w.heap.size w wc))
     case first =>
      have H := HC22.out
      clear HC22
      obtain ⟨⟨t180, t181⟩, A24, H⟩ := RFn.bn H
      have H' := Aside0.mk H
      clear H
      go_wp2_with (first | ((with_reducible refine gate_callee (f := 11) rfl ?_); refine RFn.goesM (some 43) Tryd.func11 #[.string a0] rfl ?_; (with_reducible refine (ref05_Lines.calls kj5 a0 t180 t181 _ A24.out).mono ?_); rintro e w25 ⟨v182, rfl, ho0, hb⟩; refine ⟨_, rfl, ?_⟩; have n0_ := Aside0.mk (Kd.N_elder' (by (with_reducible repeat (first | apply Kd.N_alloc | apply Kd.N_drewN | apply Kd.N_drew)); exact HO179.out) (Kd.S_base ho0) hb); have n1_ := Aside0.mk (Kd.N_lower (Kd.N_mono (ok' := fun k_ => some k_ ≠ (v178 : Value).ownBlock) (Kd.S_N (Kd.S_bound ho0)) (fun k_ hk_ => (Kd.fresh' (Kd.N_lt (by (with_reducible repeat (first | apply Kd.N_alloc | apply Kd.N_drewN | apply Kd.N_drew)); exact HO179.out)) k_ hk_.2.1))) (below_size (RFn.bel))); have n2_ := Aside0.mk (below_step (RFn.bel) hb); clear HO179; clear HB; have HO179 := n0_; have HO183 := n1_; have HB := n2_; clear n0_ n1_ n2_; (try clear hb); (try clear ho0)))
      go_meet
      case rel => exact ⟨_, (t180), (t181), (by first | rfl | (simp; done) | (simp [*]; done)), H', ⟨by have := HJ5.out; first | omega | exact Nat.le_refl _⟩, ⟨by (with_reducible repeat (first | apply Kd.N_alloc | apply Kd.N_drewN | apply Kd.N_drew)); exact Kd.N_mono HO179.out (fun _ hk => by first | exact hk.2 | exact trivial)⟩, ⟨by (with_reducible repeat (first | apply Kd.N_alloc | apply Kd.N_drewN | apply Kd.N_drew)); first | exact HO183.out | exact Kd.N_mono HO183.out (fun _ _ => trivial)⟩, ⟨RFn.bel⟩⟩
     case rest =>
      clear HC22
      try clear c1
      try clear c2
      try clear c5
      try clear c8
      try clear c8b0
      try clear c8b1
      try clear c9
      try clear c9b0
      try clear c9b1
      try clear c10
      try clear c10b0
      try clear c10b1
      try clear c12
      try clear c15
      try clear c15b0
      try clear c15b1
      try clear c17
      try clear c20
      obtain ⟨kq, x9_21, x10_21, rfl, HA, HJ21, HO_7, HO_9, HB⟩ := hcut
      cases kq with
      | zero => exact absurd HA.out (by simp [law05_LexTells.j1])
      | succ kj21 =>
       have H := HA.out
       clear HA
       simp only [law05_LexTells.j1] at H
       obtain ⟨t184, A26, H⟩ := RFn.bn H
       obtain ⟨t187, A27, H⟩ := RFn.bn H
       by_cases c28 : t187 = true
       ·subst c28
        have H1 : (if t177 = x10_21 then ((lex_Name.f a0).bind fun t188 => ((ref05_Name.f kj21 a0).bind fun t189 => (if (t188 == t189) = true then ((law05_theirs.f kj21 l1).bind fun t190 => ((lex_Join.f t190).bind fun t193 => ((ref05_Join.f kj21 l1).bind fun t194 => (if t193.toList = t194.toList then ((lex_Pick.f kj21 a0 l2).bind fun t195 => ((ref05_Pick.f kj21 a0 l2).bind fun t196 => (some (t195 == t196)))) else (some false))))) else (some false)))) else (some false)) = some r := by rw [if_pos rfl] at H; exact H
        clear H
        have H := H1
        clear H1
        by_cases c29 : t177 = x10_21
        ·rw [if_pos c29] at H
         have c29b0 : (t177 == x10_21) = true := beq_iff_eq.mpr c29
         have c29b1 : (t177 != x10_21) = false := bne_eq_false_iff_eq.mpr c29
         clear c29
         obtain ⟨t188, A30, H⟩ := RFn.bn H
         obtain ⟨t189, A31, H⟩ := RFn.bn H
         by_cases c32 : (t188 == t189) = true
         ·rw [if_pos c32] at H
          have c32b0 : (t188 == t189) = true := c32
          (try (have c32b1 : decide (t188 = t189) = true := by simpa using c32))
          (try (have c32b2 : (t188 == t189) = true := by simpa using c32))
          clear c32
          obtain ⟨t190, A33, H⟩ := RFn.bn H
          obtain ⟨t193, A34, H⟩ := RFn.bn H
          obtain ⟨t194, A35, H⟩ := RFn.bn H
          by_cases c36 : t193.toList = t194.toList
          ·rw [if_pos c36] at H
           have c36b0 : (t193.toList == t194.toList) = true := beq_iff_eq.mpr c36
           have c36b1 : (t193.toList != t194.toList) = false := bne_eq_false_iff_eq.mpr c36
           clear c36
           obtain ⟨t195, A37, H⟩ := RFn.bn H
           obtain ⟨t196, A38, H⟩ := RFn.bn H
           obtain rfl := Option.some.inj H
           obtain ⟨Ao39, co39, eo39⟩ := Kd.N_slice HO_7.out
           subst eo39
           go_wp2_with (first | ((with_reducible refine gate_callee (f := 13) rfl ?_); refine RFn.goesM (some 47) Tryd.func13 #[.slice Ao39 t176.length co39] rfl ?_; (with_reducible refine (law05_Ours.calls kj21 (fun k_ => True) _ _ t176 t184 _ ?side1 A26.out).mono ?_); (case side1 => exact Kd.N_V (HO_7.out)); rintro e w40 ⟨v185, rfl, ho0, hb⟩; refine ⟨_, rfl, ?_⟩; have n0_ := Aside0.mk (Kd.N_elder' (by (with_reducible repeat (first | apply Kd.N_alloc | apply Kd.N_drewN | apply Kd.N_drew)); exact HO_7.out) (Kd.N_base ho0) hb); have n1_ := Aside0.mk (Kd.N_elder' (by (with_reducible repeat (first | apply Kd.N_alloc | apply Kd.N_drewN | apply Kd.N_drew)); exact HO_9.out) (Kd.N_base ho0) hb); have n2_ := Aside0.mk (Kd.N_lower (Kd.N_mono (ok' := fun k_ => True) ho0 (fun k_ hk_ => trivial)) (below_size (RFn.bel))); have n3_ := Aside0.mk (below_step (RFn.bel) hb); clear HO_7; clear HO_9; clear HB; have HO_7 := n0_; have HO_9 := n1_; have HO186 := n2_; have HB := n3_; clear n0_ n1_ n2_ n3_; (try clear hb); (try clear ho0); obtain ⟨Ao41, co41, eo41⟩ := Kd.N_slice HO186.out; subst eo41; obtain ⟨Ao42, co42, eo42⟩ := Kd.N_slice HO_9.out; subst eo42) | ((with_reducible refine gate_callee (f := 12) rfl ?_); refine RFn.goesM (some 49) Tryd.func12 #[.slice Ao41 t184.length co41, .slice Ao42 x9_21.length co42] rfl ?_; (with_reducible refine (ref05_Same.calls kj21 _ _ t184 _ _ x9_21 true _ ?side1 ?side2 ?side3 ?side4 A27.out).mono ?_); (case side1 => exact RFn.mC (Kd.N_reads' HO186.out).2.2); (case side2 => exact (Kd.N_reads' HO186.out).2.1); (case side3 => exact RFn.mC (Kd.N_reads' HO_9.out).2.2); (case side4 => exact (Kd.N_reads' HO_9.out).2.1); rintro e w' ⟨rfl, ⟨nd, rfl⟩⟩; refine ⟨_, rfl, ?_⟩) | (go_at_call 14; (with_reducible refine (lex_Name.calls a0 t188 _ A30.out).mono ?_); rintro e w43 ⟨rfl, hb⟩; have n0_ := Aside0.mk (Kd.N_below (by (with_reducible repeat (first | apply Kd.N_alloc | apply Kd.N_drewN | apply Kd.N_drew)); exact HO_7.out) hb); have n1_ := Aside0.mk (Kd.N_below (by (with_reducible repeat (first | apply Kd.N_alloc | apply Kd.N_drewN | apply Kd.N_drew)); exact HO_9.out) hb); have n2_ := Aside0.mk (Kd.N_below (by (with_reducible repeat (first | apply Kd.N_alloc | apply Kd.N_drewN | apply Kd.N_drew)); exact HO186.out) hb); have n3_ := Aside0.mk (below_step (RFn.bel) hb); clear HO_7; clear HO_9; clear HO186; clear HB; have HO_7 := n0_; have HO_9 := n1_; have HO186 := n2_; have HB := n3_; clear n0_ n1_ n2_ n3_; (try clear hb)) | (go_at_call 15; (with_reducible refine (ref05_Name.calls kj21 a0 t189 _ A31.out).mono ?_); rintro e w' ⟨rfl, ⟨nd, rfl⟩⟩) | (go_at_call 17; (with_reducible refine (law05_theirs.calls kj21 (fun k_ => k_ < w.heap.size) _ _ l1 t190 _ ?side1 A33.out).mono ?_); (case side1 => exact Kd.V_mk HC1.out (Kd.F_below (Kd.C_F k49_heap HR1.out) (RFn.bel))); rintro e w44 ⟨v191, rfl, ho0, hb⟩; have n0_ := Aside0.mk (Kd.N_elder' (by (with_reducible repeat (first | apply Kd.N_alloc | apply Kd.N_drewN | apply Kd.N_drew)); exact HO_7.out) (Kd.N_base ho0) hb); have n1_ := Aside0.mk (Kd.N_elder' (by (with_reducible repeat (first | apply Kd.N_alloc | apply Kd.N_drewN | apply Kd.N_drew)); exact HO_9.out) (Kd.N_base ho0) hb); have n2_ := Aside0.mk (Kd.N_elder' (by (with_reducible repeat (first | apply Kd.N_alloc | apply Kd.N_drewN | apply Kd.N_drew)); exact HO186.out) (Kd.N_base ho0) hb); have n3_ := Aside0.mk (Kd.N_lower (Kd.N_mono (ok' := fun k_ => some k_ ≠ (.slice Ao39 t176.length co39 : Value).ownBlock ∧ some k_ ≠ (.slice Ao42 x9_21.length co42 : Value).ownBlock ∧ some k_ ≠ (.slice Ao41 t184.length co41 : Value).ownBlock) ho0 (fun k_ hk_ => ⟨Or.elim hk_ (fun hs_ => fun e_ => Nat.not_le.2 hs_ (Kd.N_base HO_7.out k_ e_.symm)) (fun hn_ => (Kd.fresh' (Kd.N_lt (by (with_reducible repeat (first | apply Kd.N_alloc | apply Kd.N_drewN | apply Kd.N_drew)); exact HO_7.out)) k_ hn_)), Or.elim hk_ (fun hs_ => fun e_ => Nat.not_le.2 hs_ (Kd.N_base HO_9.out k_ e_.symm)) (fun hn_ => (Kd.fresh' (Kd.N_lt (by (with_reducible repeat (first | apply Kd.N_alloc | apply Kd.N_drewN | apply Kd.N_drew)); exact HO_9.out)) k_ hn_)), Or.elim hk_ (fun hs_ => fun e_ => Nat.not_le.2 hs_ (Kd.N_base HO186.out k_ e_.symm)) (fun hn_ => (Kd.fresh' (Kd.N_lt (by (with_reducible repeat (first | apply Kd.N_alloc | apply Kd.N_drewN | apply Kd.N_drew)); exact HO186.out)) k_ hn_))⟩)) (below_size (RFn.bel))); have n4_ := Aside0.mk (below_step (RFn.bel) hb); clear HO_7; clear HO_9; clear HO186; clear HB; have HO_7 := n0_; have HO_9 := n1_; have HO186 := n2_; have HO192 := n3_; have HB := n4_; clear n0_ n1_ n2_ n3_ n4_; (try clear hb); (try clear ho0); obtain ⟨Ao45, co45, eo45⟩ := Kd.N_slice HO192.out; subst eo45) | (go_at_call 16; (with_reducible refine (lex_Join.calls _ _ t190 t193 _ ?side1 ?side2 A34.out).mono ?_); (case side1 => exact RFn.mC (Kd.N_reads' HO192.out).2.2); (case side2 => exact (Kd.N_reads' HO192.out).2.1); rintro e w46 ⟨rfl, hb⟩; have n0_ := Aside0.mk (Kd.N_below (by (with_reducible repeat (first | apply Kd.N_alloc | apply Kd.N_drewN | apply Kd.N_drew)); exact HO_7.out) hb); have n1_ := Aside0.mk (Kd.N_below (by (with_reducible repeat (first | apply Kd.N_alloc | apply Kd.N_drewN | apply Kd.N_drew)); exact HO_9.out) hb); have n2_ := Aside0.mk (Kd.N_below (by (with_reducible repeat (first | apply Kd.N_alloc | apply Kd.N_drewN | apply Kd.N_drew)); exact HO186.out) hb); have n3_ := Aside0.mk (Kd.N_below (by (with_reducible repeat (first | apply Kd.N_alloc | apply Kd.N_drewN | apply Kd.N_drew)); exact HO192.out) hb); have n4_ := Aside0.mk (below_step (RFn.bel) hb); clear HO_7; clear HO_9; clear HO186; clear HO192; clear HB; have HO_7 := n0_; have HO_9 := n1_; have HO186 := n2_; have HO192 := n3_; have HB := n4_; clear n0_ n1_ n2_ n3_ n4_; (try clear hb)) | (go_at_call 18; (with_reducible refine (ref05_Join.calls kj21 _ _ l1 t194 _ ?side1 ?side2 A35.out).mono ?_); (case side1 => exact RFn.mC (Kd.C_below HR1.out HB.out)); (case side2 => exact HC1.out); rintro e w' ⟨rfl, ⟨nd, rfl⟩⟩) | (go_at_call 19; (with_reducible refine (lex_Pick.calls kj21 a0 _ _ l2 t195 _ ?side1 ?side2 A37.out).mono ?_); (case side1 => exact RFn.mC (Kd.C_below HR2.out (RFn.bel))); (case side2 => exact HC2.out); rintro e w' ⟨rfl, ⟨nd, rfl⟩⟩) | (go_at_call 20; (with_reducible refine (ref05_Pick.calls kj21 a0 _ _ l2 t196 _ ?side1 ?side2 A38.out).mono ?_); (case side1 => exact RFn.mC (Kd.C_below HR2.out (RFn.bel))); (case side2 => exact HC2.out); rintro e w' ⟨rfl, ⟨nd, rfl⟩⟩))
           go_ret
           exact ⟨by first | rfl | (simp [errW_none, errW_some] <;> rfl) | (simp [*, errW_none, errW_some] <;> rfl), RFn.bel⟩
          ·rw [if_neg c36] at H
           have c36b0 : (t193.toList == t194.toList) = false := beq_eq_false_iff_ne.mpr c36
           have c36b1 : (t193.toList != t194.toList) = true := bne_iff_ne.mpr c36
           obtain rfl := Option.some.inj H
           obtain ⟨Ao47, co47, eo47⟩ := Kd.N_slice HO_7.out
           subst eo47
           go_wp2_with (first | ((with_reducible refine gate_callee (f := 13) rfl ?_); refine RFn.goesM (some 47) Tryd.func13 #[.slice Ao47 t176.length co47] rfl ?_; (with_reducible refine (law05_Ours.calls kj21 (fun k_ => True) _ _ t176 t184 _ ?side1 A26.out).mono ?_); (case side1 => exact Kd.N_V (HO_7.out)); rintro e w48 ⟨v185, rfl, ho0, hb⟩; refine ⟨_, rfl, ?_⟩; have n0_ := Aside0.mk (Kd.N_elder' (by (with_reducible repeat (first | apply Kd.N_alloc | apply Kd.N_drewN | apply Kd.N_drew)); exact HO_7.out) (Kd.N_base ho0) hb); have n1_ := Aside0.mk (Kd.N_elder' (by (with_reducible repeat (first | apply Kd.N_alloc | apply Kd.N_drewN | apply Kd.N_drew)); exact HO_9.out) (Kd.N_base ho0) hb); have n2_ := Aside0.mk (Kd.N_lower (Kd.N_mono (ok' := fun k_ => True) ho0 (fun k_ hk_ => trivial)) (below_size (RFn.bel))); have n3_ := Aside0.mk (below_step (RFn.bel) hb); clear HO_7; clear HO_9; clear HB; have HO_7 := n0_; have HO_9 := n1_; have HO186 := n2_; have HB := n3_; clear n0_ n1_ n2_ n3_; (try clear hb); (try clear ho0); obtain ⟨Ao49, co49, eo49⟩ := Kd.N_slice HO186.out; subst eo49; obtain ⟨Ao50, co50, eo50⟩ := Kd.N_slice HO_9.out; subst eo50) | ((with_reducible refine gate_callee (f := 12) rfl ?_); refine RFn.goesM (some 49) Tryd.func12 #[.slice Ao49 t184.length co49, .slice Ao50 x9_21.length co50] rfl ?_; (with_reducible refine (ref05_Same.calls kj21 _ _ t184 _ _ x9_21 true _ ?side1 ?side2 ?side3 ?side4 A27.out).mono ?_); (case side1 => exact RFn.mC (Kd.N_reads' HO186.out).2.2); (case side2 => exact (Kd.N_reads' HO186.out).2.1); (case side3 => exact RFn.mC (Kd.N_reads' HO_9.out).2.2); (case side4 => exact (Kd.N_reads' HO_9.out).2.1); rintro e w' ⟨rfl, ⟨nd, rfl⟩⟩; refine ⟨_, rfl, ?_⟩) | (go_at_call 14; (with_reducible refine (lex_Name.calls a0 t188 _ A30.out).mono ?_); rintro e w51 ⟨rfl, hb⟩; have n0_ := Aside0.mk (Kd.N_below (by (with_reducible repeat (first | apply Kd.N_alloc | apply Kd.N_drewN | apply Kd.N_drew)); exact HO_7.out) hb); have n1_ := Aside0.mk (Kd.N_below (by (with_reducible repeat (first | apply Kd.N_alloc | apply Kd.N_drewN | apply Kd.N_drew)); exact HO_9.out) hb); have n2_ := Aside0.mk (Kd.N_below (by (with_reducible repeat (first | apply Kd.N_alloc | apply Kd.N_drewN | apply Kd.N_drew)); exact HO186.out) hb); have n3_ := Aside0.mk (below_step (RFn.bel) hb); clear HO_7; clear HO_9; clear HO186; clear HB; have HO_7 := n0_; have HO_9 := n1_; have HO186 := n2_; have HB := n3_; clear n0_ n1_ n2_ n3_; (try clear hb)) | (go_at_call 15; (with_reducible refine (ref05_Name.calls kj21 a0 t189 _ A31.out).mono ?_); rintro e w' ⟨rfl, ⟨nd, rfl⟩⟩) | (go_at_call 17; (with_reducible refine (law05_theirs.calls kj21 (fun k_ => k_ < w.heap.size) _ _ l1 t190 _ ?side1 A33.out).mono ?_); (case side1 => exact Kd.V_mk HC1.out (Kd.F_below (Kd.C_F k49_heap HR1.out) (RFn.bel))); rintro e w52 ⟨v191, rfl, ho0, hb⟩; have n0_ := Aside0.mk (Kd.N_elder' (by (with_reducible repeat (first | apply Kd.N_alloc | apply Kd.N_drewN | apply Kd.N_drew)); exact HO_7.out) (Kd.N_base ho0) hb); have n1_ := Aside0.mk (Kd.N_elder' (by (with_reducible repeat (first | apply Kd.N_alloc | apply Kd.N_drewN | apply Kd.N_drew)); exact HO_9.out) (Kd.N_base ho0) hb); have n2_ := Aside0.mk (Kd.N_elder' (by (with_reducible repeat (first | apply Kd.N_alloc | apply Kd.N_drewN | apply Kd.N_drew)); exact HO186.out) (Kd.N_base ho0) hb); have n3_ := Aside0.mk (Kd.N_lower (Kd.N_mono (ok' := fun k_ => some k_ ≠ (.slice Ao47 t176.length co47 : Value).ownBlock ∧ some k_ ≠ (.slice Ao50 x9_21.length co50 : Value).ownBlock ∧ some k_ ≠ (.slice Ao49 t184.length co49 : Value).ownBlock) ho0 (fun k_ hk_ => ⟨Or.elim hk_ (fun hs_ => fun e_ => Nat.not_le.2 hs_ (Kd.N_base HO_7.out k_ e_.symm)) (fun hn_ => (Kd.fresh' (Kd.N_lt (by (with_reducible repeat (first | apply Kd.N_alloc | apply Kd.N_drewN | apply Kd.N_drew)); exact HO_7.out)) k_ hn_)), Or.elim hk_ (fun hs_ => fun e_ => Nat.not_le.2 hs_ (Kd.N_base HO_9.out k_ e_.symm)) (fun hn_ => (Kd.fresh' (Kd.N_lt (by (with_reducible repeat (first | apply Kd.N_alloc | apply Kd.N_drewN | apply Kd.N_drew)); exact HO_9.out)) k_ hn_)), Or.elim hk_ (fun hs_ => fun e_ => Nat.not_le.2 hs_ (Kd.N_base HO186.out k_ e_.symm)) (fun hn_ => (Kd.fresh' (Kd.N_lt (by (with_reducible repeat (first | apply Kd.N_alloc | apply Kd.N_drewN | apply Kd.N_drew)); exact HO186.out)) k_ hn_))⟩)) (below_size (RFn.bel))); have n4_ := Aside0.mk (below_step (RFn.bel) hb); clear HO_7; clear HO_9; clear HO186; clear HB; have HO_7 := n0_; have HO_9 := n1_; have HO186 := n2_; have HO192 := n3_; have HB := n4_; clear n0_ n1_ n2_ n3_ n4_; (try clear hb); (try clear ho0); obtain ⟨Ao53, co53, eo53⟩ := Kd.N_slice HO192.out; subst eo53) | (go_at_call 16; (with_reducible refine (lex_Join.calls _ _ t190 t193 _ ?side1 ?side2 A34.out).mono ?_); (case side1 => exact RFn.mC (Kd.N_reads' HO192.out).2.2); (case side2 => exact (Kd.N_reads' HO192.out).2.1); rintro e w54 ⟨rfl, hb⟩; have n0_ := Aside0.mk (Kd.N_below (by (with_reducible repeat (first | apply Kd.N_alloc | apply Kd.N_drewN | apply Kd.N_drew)); exact HO_7.out) hb); have n1_ := Aside0.mk (Kd.N_below (by (with_reducible repeat (first | apply Kd.N_alloc | apply Kd.N_drewN | apply Kd.N_drew)); exact HO_9.out) hb); have n2_ := Aside0.mk (Kd.N_below (by (with_reducible repeat (first | apply Kd.N_alloc | apply Kd.N_drewN | apply Kd.N_drew)); exact HO186.out) hb); have n3_ := Aside0.mk (Kd.N_below (by (with_reducible repeat (first | apply Kd.N_alloc | apply Kd.N_drewN | apply Kd.N_drew)); exact HO192.out) hb); have n4_ := Aside0.mk (below_step (RFn.bel) hb); clear HO_7; clear HO_9; clear HO186; clear HO192; clear HB; have HO_7 := n0_; have HO_9 := n1_; have HO186 := n2_; have HO192 := n3_; have HB := n4_; clear n0_ n1_ n2_ n3_ n4_; (try clear hb)) | (go_at_call 18; (with_reducible refine (ref05_Join.calls kj21 _ _ l1 t194 _ ?side1 ?side2 A35.out).mono ?_); (case side1 => exact RFn.mC (Kd.C_below HR1.out HB.out)); (case side2 => exact HC1.out); rintro e w' ⟨rfl, ⟨nd, rfl⟩⟩))
           go_ret
           exact ⟨by first | rfl | (simp [errW_none, errW_some] <;> rfl) | (simp [*, errW_none, errW_some] <;> rfl), RFn.bel⟩
         ·rw [if_neg c32] at H
          have c32b0 : (t188 == t189) = false := by simpa using c32
          (try (have c32b1 : decide (t188 = t189) = false := by simpa using c32))
          (try (have c32b2 : (t188 == t189) = false := by simpa using c32))
          (try (have c32b3 : ¬ (t188 = t189) := by simpa using c32))
          clear c32
          obtain rfl := Option.some.inj H
          obtain ⟨Ao55, co55, eo55⟩ := Kd.N_slice HO_7.out
          subst eo55
          go_wp2_with (first | ((with_reducible refine gate_callee (f := 13) rfl ?_); refine RFn.goesM (some 47) Tryd.func13 #[.slice Ao55 t176.length co55] rfl ?_; (with_reducible refine (law05_Ours.calls kj21 (fun k_ => True) _ _ t176 t184 _ ?side1 A26.out).mono ?_); (case side1 => exact Kd.N_V (HO_7.out)); rintro e w56 ⟨v185, rfl, ho0, hb⟩; refine ⟨_, rfl, ?_⟩; have n0_ := Aside0.mk (Kd.N_elder' (by (with_reducible repeat (first | apply Kd.N_alloc | apply Kd.N_drewN | apply Kd.N_drew)); exact HO_7.out) (Kd.N_base ho0) hb); have n1_ := Aside0.mk (Kd.N_elder' (by (with_reducible repeat (first | apply Kd.N_alloc | apply Kd.N_drewN | apply Kd.N_drew)); exact HO_9.out) (Kd.N_base ho0) hb); have n2_ := Aside0.mk (Kd.N_lower (Kd.N_mono (ok' := fun k_ => True) ho0 (fun k_ hk_ => trivial)) (below_size (RFn.bel))); have n3_ := Aside0.mk (below_step (RFn.bel) hb); clear HO_7; clear HO_9; clear HB; have HO_7 := n0_; have HO_9 := n1_; have HO186 := n2_; have HB := n3_; clear n0_ n1_ n2_ n3_; (try clear hb); (try clear ho0); obtain ⟨Ao57, co57, eo57⟩ := Kd.N_slice HO186.out; subst eo57; obtain ⟨Ao58, co58, eo58⟩ := Kd.N_slice HO_9.out; subst eo58) | ((with_reducible refine gate_callee (f := 12) rfl ?_); refine RFn.goesM (some 49) Tryd.func12 #[.slice Ao57 t184.length co57, .slice Ao58 x9_21.length co58] rfl ?_; (with_reducible refine (ref05_Same.calls kj21 _ _ t184 _ _ x9_21 true _ ?side1 ?side2 ?side3 ?side4 A27.out).mono ?_); (case side1 => exact RFn.mC (Kd.N_reads' HO186.out).2.2); (case side2 => exact (Kd.N_reads' HO186.out).2.1); (case side3 => exact RFn.mC (Kd.N_reads' HO_9.out).2.2); (case side4 => exact (Kd.N_reads' HO_9.out).2.1); rintro e w' ⟨rfl, ⟨nd, rfl⟩⟩; refine ⟨_, rfl, ?_⟩) | (go_at_call 14; (with_reducible refine (lex_Name.calls a0 t188 _ A30.out).mono ?_); rintro e w59 ⟨rfl, hb⟩; have n0_ := Aside0.mk (Kd.N_below (by (with_reducible repeat (first | apply Kd.N_alloc | apply Kd.N_drewN | apply Kd.N_drew)); exact HO_7.out) hb); have n1_ := Aside0.mk (Kd.N_below (by (with_reducible repeat (first | apply Kd.N_alloc | apply Kd.N_drewN | apply Kd.N_drew)); exact HO_9.out) hb); have n2_ := Aside0.mk (Kd.N_below (by (with_reducible repeat (first | apply Kd.N_alloc | apply Kd.N_drewN | apply Kd.N_drew)); exact HO186.out) hb); have n3_ := Aside0.mk (below_step (RFn.bel) hb); clear HO_7; clear HO_9; clear HO186; clear HB; have HO_7 := n0_; have HO_9 := n1_; have HO186 := n2_; have HB := n3_; clear n0_ n1_ n2_ n3_; (try clear hb)) | (go_at_call 15; (with_reducible refine (ref05_Name.calls kj21 a0 t189 _ A31.out).mono ?_); rintro e w' ⟨rfl, ⟨nd, rfl⟩⟩))
          go_ret
          exact ⟨by first | rfl | (simp [errW_none, errW_some] <;> rfl) | (simp [*, errW_none, errW_some] <;> rfl), RFn.bel⟩
        ·rw [if_neg c29] at H
         have c29b0 : (t177 == x10_21) = false := beq_eq_false_iff_ne.mpr c29
         have c29b1 : (t177 != x10_21) = true := bne_iff_ne.mpr c29
         obtain rfl := Option.some.inj H
         obtain ⟨Ao60, co60, eo60⟩ := Kd.N_slice HO_7.out
         subst eo60
         go_wp2_with (first | ((with_reducible refine gate_callee (f := 13) rfl ?_); refine RFn.goesM (some 47) Tryd.func13 #[.slice Ao60 t176.length co60] rfl ?_; (with_reducible refine (law05_Ours.calls kj21 (fun k_ => True) _ _ t176 t184 _ ?side1 A26.out).mono ?_); (case side1 => exact Kd.N_V (HO_7.out)); rintro e w61 ⟨v185, rfl, ho0, hb⟩; refine ⟨_, rfl, ?_⟩; have n0_ := Aside0.mk (Kd.N_elder' (by (with_reducible repeat (first | apply Kd.N_alloc | apply Kd.N_drewN | apply Kd.N_drew)); exact HO_7.out) (Kd.N_base ho0) hb); have n1_ := Aside0.mk (Kd.N_elder' (by (with_reducible repeat (first | apply Kd.N_alloc | apply Kd.N_drewN | apply Kd.N_drew)); exact HO_9.out) (Kd.N_base ho0) hb); have n2_ := Aside0.mk (Kd.N_lower (Kd.N_mono (ok' := fun k_ => True) ho0 (fun k_ hk_ => trivial)) (below_size (RFn.bel))); have n3_ := Aside0.mk (below_step (RFn.bel) hb); clear HO_7; clear HO_9; clear HB; have HO_7 := n0_; have HO_9 := n1_; have HO186 := n2_; have HB := n3_; clear n0_ n1_ n2_ n3_; (try clear hb); (try clear ho0); obtain ⟨Ao62, co62, eo62⟩ := Kd.N_slice HO186.out; subst eo62; obtain ⟨Ao63, co63, eo63⟩ := Kd.N_slice HO_9.out; subst eo63) | ((with_reducible refine gate_callee (f := 12) rfl ?_); refine RFn.goesM (some 49) Tryd.func12 #[.slice Ao62 t184.length co62, .slice Ao63 x9_21.length co63] rfl ?_; (with_reducible refine (ref05_Same.calls kj21 _ _ t184 _ _ x9_21 true _ ?side1 ?side2 ?side3 ?side4 A27.out).mono ?_); (case side1 => exact RFn.mC (Kd.N_reads' HO186.out).2.2); (case side2 => exact (Kd.N_reads' HO186.out).2.1); (case side3 => exact RFn.mC (Kd.N_reads' HO_9.out).2.2); (case side4 => exact (Kd.N_reads' HO_9.out).2.1); rintro e w' ⟨rfl, ⟨nd, rfl⟩⟩; refine ⟨_, rfl, ?_⟩))
         go_ret
         exact ⟨by first | rfl | (simp [errW_none, errW_some] <;> rfl) | (simp [*, errW_none, errW_some] <;> rfl), RFn.bel⟩
       ·replace c28 := Bool.eq_false_iff.mpr c28
        subst c28
        have H1 : (some false) = some r := by rw [if_neg (show ¬ (false = true) by decide)] at H; exact H
        clear H
        have H := H1
        clear H1
        obtain rfl := Option.some.inj H
        obtain ⟨Ao64, co64, eo64⟩ := Kd.N_slice HO_7.out
        subst eo64
        go_wp2_with (first | ((with_reducible refine gate_callee (f := 13) rfl ?_); refine RFn.goesM (some 47) Tryd.func13 #[.slice Ao64 t176.length co64] rfl ?_; (with_reducible refine (law05_Ours.calls kj21 (fun k_ => True) _ _ t176 t184 _ ?side1 A26.out).mono ?_); (case side1 => exact Kd.N_V (HO_7.out)); rintro e w65 ⟨v185, rfl, ho0, hb⟩; refine ⟨_, rfl, ?_⟩; have n0_ := Aside0.mk (Kd.N_elder' (by (with_reducible repeat (first | apply Kd.N_alloc | apply Kd.N_drewN | apply Kd.N_drew)); exact HO_7.out) (Kd.N_base ho0) hb); have n1_ := Aside0.mk (Kd.N_elder' (by (with_reducible repeat (first | apply Kd.N_alloc | apply Kd.N_drewN | apply Kd.N_drew)); exact HO_9.out) (Kd.N_base ho0) hb); have n2_ := Aside0.mk (Kd.N_lower (Kd.N_mono (ok' := fun k_ => True) ho0 (fun k_ hk_ => trivial)) (below_size (RFn.bel))); have n3_ := Aside0.mk (below_step (RFn.bel) hb); clear HO_7; clear HO_9; clear HB; have HO_7 := n0_; have HO_9 := n1_; have HO186 := n2_; have HB := n3_; clear n0_ n1_ n2_ n3_; (try clear hb); (try clear ho0); obtain ⟨Ao66, co66, eo66⟩ := Kd.N_slice HO186.out; subst eo66; obtain ⟨Ao67, co67, eo67⟩ := Kd.N_slice HO_9.out; subst eo67) | ((with_reducible refine gate_callee (f := 12) rfl ?_); refine RFn.goesM (some 49) Tryd.func12 #[.slice Ao66 t184.length co66, .slice Ao67 x9_21.length co67] rfl ?_; (with_reducible refine (ref05_Same.calls kj21 _ _ t184 _ _ x9_21 false _ ?side1 ?side2 ?side3 ?side4 A27.out).mono ?_); (case side1 => exact RFn.mC (Kd.N_reads' HO186.out).2.2); (case side2 => exact (Kd.N_reads' HO186.out).2.1); (case side3 => exact RFn.mC (Kd.N_reads' HO_9.out).2.2); (case side4 => exact (Kd.N_reads' HO_9.out).2.1); rintro e w' ⟨rfl, ⟨nd, rfl⟩⟩; refine ⟨_, rfl, ?_⟩))
        go_ret
        exact ⟨by first | rfl | (simp [errW_none, errW_some] <;> rfl) | (simp [*, errW_none, errW_some] <;> rfl), RFn.bel⟩
 ·replace c5 := Bool.eq_false_iff.mpr c5
  subst c5
  have H1 : (some false) = some r := by rw [if_neg (show ¬ (false = true) by decide)] at H; exact H
  clear H
  have H := H1
  clear H1
  obtain rfl := Option.some.inj H
  go_enter Tryd.func3, Tryd.ntmps3
  go_wp2_with (first | ((with_reducible refine gate_callee (f := 8) rfl ?_); refine RFn.goesM (some 11) Tryd.func8 #[] rfl ?_; (with_reducible refine (law05_alive.calls k  false _ A4.out (Go.Proofs.YtffdhekmnoajiaaDoor.X.LaidW.below hLd_ RFn.bel)).mono ?_); rintro e w68 ⟨rfl, hb⟩; refine ⟨_, rfl, ?_⟩; have n0_ := Aside0.mk (below_step (RFn.bel) hb); clear HB; have HB := n0_; clear n0_; (try clear hb)))
  go_ret
  exact ⟨by first | rfl | (simp [errW_none, errW_some] <;> rfl) | (simp [*, errW_none, errW_some] <;> rfl), RFn.bel⟩
/-- THE ONE PURE STATEMENT of law05_LexTells: ours. -/
def law05_LexTells.Pure : Prop := ∀ (a0 : ByteArray) (l1 : List (S49)) (l2 : List ByteArray), a0.size ≤ 140737488351232 → l1.length ≤ 9223372036854775807 → (∀ x ∈ l1, g49 x) → l2.length ≤ 9223372036854775807 → (∀ x ∈ l2, x.size ≤ 9223372036854775807) → ∃ k, law05_LexTells.f k a0 l1 l2 = some true
end Go.Proofs.YtffdhekmnoajiaaDoor.Q
