/- printed by a program of this session (wip/tools/pr.sh): it is not a print of the kit -/
import Derived.Test.YtffdhekmnoajiaaDoorXName
import Derived.Test.YtffdhekmnoajiaaDoorXLexJoin
import Derived.Test.YtffdhekmnoajiaaDoorXLexLines
import Derived.Test.YtffdhekmnoajiaaDoorQx0
import Derived.Test.YtffdhekmnoajiaaDoorQx1
namespace Go.Proofs.YtffdhekmnoajiaaDoor.Q
open Go.RowKit Go.Proofs.YtffdhekmnoajiaaDoorW.PrintWords Go.Proofs.YtffdhekmnoajiaaDoorW.PrintLast Go.Proofs.YtffdhekmnoajiaaDoorW.PrintMore
attribute [local go_sem] max2_int min2_int max_two min_two max_three min_three max_four min_four RFn.gtr_str   -- for this text's walks alone
set_option linter.unusedVariables false
set_option linter.unusedSimpArgs false
/-! ### law05_LexPicks: function 5 -/
mutual
def law05_LexPicks.j0 : Nat → ByteArray → List ByteArray → Int → Bool → Option (Bool)
 | 0, _, _, _, _ => none
 | k + 1, x0, x1, x5, x35 => if x35 = true then (some false) else (law05_LexPicks.l0 k x0 x5 x1 (x1.length : Int) 0)
def law05_LexPicks.l0 : Nat → ByteArray → Int → List ByteArray → Int → Int → Option (Bool)
 | 0, _, _, _, _, _ => none
 | k + 1, x0, x5, x36, x37, x38 => if x38 < x37 then (if 0 ≤ x38 then (if x38 < (x36.length : Int) then (if (rdOf ByteArray.empty x36 x38).toList = x0.toList then (if x5 < 0 then (some false) else (if x38 < x5 then (some false) else (law05_LexPicks.l0 k x0 x5 x36 x37 (wrap64 (x38 + 1))))) else (law05_LexPicks.l0 k x0 x5 x36 x37 (wrap64 (x38 + 1)))) else (none)) else (none)) else (some true)
end
def law05_LexPicks.f (k : Nat) (a0 : ByteArray) (l1 : List ByteArray) : Option (Bool) := (law05_alive.f k).bind fun t244 => (if t244 = true then (if (l1.length : Int) > 60 then (some true) else ((lex_Pick.f k a0 l1).bind fun t245 => (if t245 < (-1) then (law05_LexPicks.j0 k a0 l1 t245 true) else (if t245 ≥ (l1.length : Int) then (law05_LexPicks.j0 k a0 l1 t245 true) else (if t245 ≥ 0 then (if 0 ≤ t245 then (if t245 < (l1.length : Int) then (law05_LexPicks.j0 k a0 l1 t245 ((rdOf ByteArray.empty l1 t245).toList != a0.toList)) else (none)) else (none)) else (law05_LexPicks.j0 k a0 l1 t245 false)))))) else (some false))
theorem law05_LexPicks.mono_l : ∀ k, (∀ y0 y1 y2 y3, LeO (law05_LexPicks.j0 k y0 y1 y2 y3) (law05_LexPicks.j0 (k + 1) y0 y1 y2 y3)) ∧ (∀ y0 y1 y2 y3 y4, LeO (law05_LexPicks.l0 k y0 y1 y2 y3 y4) (law05_LexPicks.l0 (k + 1) y0 y1 y2 y3 y4))
 | 0 => ⟨fun _ _ _ _ r h => by simp [law05_LexPicks.j0] at h, fun _ _ _ _ _ r h => by simp [law05_LexPicks.l0] at h⟩
 | k + 1 => by
  obtain ⟨ih0, ih1⟩ := law05_LexPicks.mono_l k
  refine ⟨?_, ?_⟩
  ·intro y0 y1 y2 y3
   unfold law05_LexPicks.j0
   repeat' with_reducible first | exact LeO.refl _ | apply ih0 | apply ih1 | apply law05_alive.mono | apply lex_Pick.mono | exact LeO.none _ | apply LeO.ite | refine LeO.bind ?_ fun _ => ?_
  ·intro y0 y1 y2 y3 y4
   unfold law05_LexPicks.l0
   repeat' with_reducible first | exact LeO.refl _ | apply ih0 | apply ih1 | apply law05_alive.mono | apply lex_Pick.mono | exact LeO.none _ | apply LeO.ite | refine LeO.bind ?_ fun _ => ?_
theorem law05_LexPicks.mono : ∀ a0 a1 k, LeO (law05_LexPicks.f k a0 a1) (law05_LexPicks.f (k + 1) a0 a1) := by
 intro a0 a1 k
 obtain ⟨ih0, ih1⟩ := law05_LexPicks.mono_l k
 unfold law05_LexPicks.f
 repeat' with_reducible first | exact LeO.refl _ | apply ih0 | apply ih1 | apply law05_alive.mono | apply lex_Pick.mono | exact LeO.none _ | apply LeO.ite | refine LeO.bind ?_ fun _ => ?_
set_option maxHeartbeats 8000000 in
set_option maxRecDepth 100000 in
theorem law05_LexPicks.calls (k : Nat) (a0 : ByteArray) (A1 : Option Addr) (c1 : Nat) (l1 : List ByteArray) (r : Bool) (w : World) (hr1 : Kd.C Kd.string w A1 l1.length l1) (hc1 : l1.length ≤ c1) (h : law05_LexPicks.f k a0 l1 = some r) (hLd_ : Go.Proofs.YtffdhekmnoajiaaDoor.X.LaidW w) :
  Calls Tryd.prog 5 #[.string a0, .slice A1 l1.length c1] w fun e w' => e = .returned (.bool r) ∧ Below w.heap.size w w' := by
 have HR1 := Aside0.mk hr1
 have HC1 := Aside0.mk hc1
 clear hr1 hc1
 have HB := Aside0.mk (Below.refl w.heap.size w)
 have H : ((law05_alive.f k).bind fun t244 => (if t244 = true then (if (l1.length : Int) > 60 then (some true) else ((lex_Pick.f k a0 l1).bind fun t245 => (if t245 < (-1) then (law05_LexPicks.j0 k a0 l1 t245 true) else (if t245 ≥ (l1.length : Int) then (law05_LexPicks.j0 k a0 l1 t245 true) else (if t245 ≥ 0 then (if 0 ≤ t245 then (if t245 < (l1.length : Int) then (law05_LexPicks.j0 k a0 l1 t245 ((rdOf ByteArray.empty l1 t245).toList != a0.toList)) else (none)) else (none)) else (law05_LexPicks.j0 k a0 l1 t245 false)))))) else (some false))) = some r := h
 clear h
 obtain ⟨t244, A3, H⟩ := RFn.bn H
 by_cases c4 : t244 = true
 ·subst c4
  have H1 : (if (l1.length : Int) > 60 then (some true) else ((lex_Pick.f k a0 l1).bind fun t245 => (if t245 < (-1) then (law05_LexPicks.j0 k a0 l1 t245 true) else (if t245 ≥ (l1.length : Int) then (law05_LexPicks.j0 k a0 l1 t245 true) else (if t245 ≥ 0 then (if 0 ≤ t245 then (if t245 < (l1.length : Int) then (law05_LexPicks.j0 k a0 l1 t245 ((rdOf ByteArray.empty l1 t245).toList != a0.toList)) else (none)) else (none)) else (law05_LexPicks.j0 k a0 l1 t245 false)))))) = some r := by rw [if_pos rfl] at H; exact H
  clear H
  have H := H1
  clear H1
  by_cases c5 : (l1.length : Int) > 60
  ·rw [if_pos c5] at H
   have c5b0 : decide (60 < (l1.length : Int)) = true := decide_eq_true c5
   have c5b1 : decide (60 < l1.length) = true := decide_eq_true (by omega)
   clear c5
   obtain rfl := Option.some.inj H
   go_enter Tryd.func5, Tryd.ntmps5
   go_wp2_with (first | ((with_reducible refine gate_callee (f := 8) rfl ?_); refine RFn.goesM (some 8) Tryd.func8 #[] rfl ?_; (with_reducible refine (law05_alive.calls k  true _ A3.out (Go.Proofs.YtffdhekmnoajiaaDoor.X.LaidW.below hLd_ RFn.bel)).mono ?_); rintro e w6 ⟨rfl, hb⟩; refine ⟨_, rfl, ?_⟩; have n0_ := Aside0.mk (below_step (RFn.bel) hb); clear HB; have HB := n0_; clear n0_; (try clear hb)))
   go_ret
   exact ⟨by first | rfl | (simp [errW_none, errW_some] <;> rfl) | (simp [*, errW_none, errW_some] <;> rfl), RFn.bel⟩
  ·rw [if_neg c5] at H
   have c5b0 : decide (60 < (l1.length : Int)) = false := decide_eq_false c5
   have c5b1 : decide (60 < l1.length) = false := decide_eq_false (by omega)
   clear c5
   obtain ⟨t245, A7, H⟩ := RFn.bn H
   have HC8 := Aside0.mk H
   clear H
   go_enter Tryd.func5, Tryd.ntmps5
   go_upto_region 6 with (first | ((with_reducible refine gate_callee (f := 8) rfl ?_); refine RFn.goesM (some 8) Tryd.func8 #[] rfl ?_; (with_reducible refine (law05_alive.calls k  true _ A3.out (Go.Proofs.YtffdhekmnoajiaaDoor.X.LaidW.below hLd_ RFn.bel)).mono ?_); rintro e w9 ⟨rfl, hb⟩; refine ⟨_, rfl, ?_⟩; have n0_ := Aside0.mk (below_step (RFn.bel) hb); clear HB; have HB := n0_; clear n0_; (try clear hb)) | ((with_reducible refine gate_callee (f := 19) rfl ?_); refine RFn.goesM (some 15) Tryd.func19 #[.string a0, .slice A1 l1.length c1] rfl ?_; (with_reducible refine (lex_Pick.calls k a0 _ _ l1 t245 _ ?side1 ?side2 A7.out).mono ?_); (case side1 => exact RFn.mC (Kd.C_below HR1.out HB.out)); (case side2 => exact HC1.out); rintro e w' ⟨rfl, ⟨nd, rfl⟩⟩; refine ⟨_, rfl, ?_⟩))
   (try simp only [Act.put, List.setIfInBounds_toArray, List.set_cons_zero, List.set_cons_succ])
   go_cut [35] (fun v35 wc => ∃ (kq : Nat) (x35_7 : Bool), v35 = .bool x35_7 ∧ Aside0 (law05_LexPicks.j0 kq a0 l1 t245 x35_7 = some r) ∧ Aside0 (kq ≤ k) ∧ Aside0 (Below w.heap.size w wc))
   case first =>
    have H := HC8.out
    clear HC8
    by_cases c10 : t245 < (-1)
    ·rw [if_pos c10] at H
     have c10b0 : decide (t245 < (-1)) = true := decide_eq_true c10
     clear c10
     (first | rw [c10b0] | (simp only [i64_w, i32_w]; rw [c10b0]) | skip)
     have H' := Aside0.mk H
     clear H
     go_wp2
     go_meet
     case rel => exact ⟨_, (true), (by first | rfl | (simp; done) | (simp [*]; done)), H', ⟨by first | omega | exact Nat.le_refl _⟩, ⟨RFn.bel⟩⟩
    ·rw [if_neg c10] at H
     have c10b0 : decide (t245 < (-1)) = false := decide_eq_false c10
     clear c10
     (first | rw [c10b0] | (simp only [i64_w, i32_w]; rw [c10b0]) | skip)
     by_cases c11 : t245 ≥ (l1.length : Int)
     ·rw [if_pos c11] at H
      have c11b0 : decide ((l1.length : Int) ≤ t245) = true := decide_eq_true c11
      clear c11
      have H' := Aside0.mk H
      clear H
      go_wp2
      go_meet
      case rel => exact ⟨_, (true), (by first | rfl | (simp; done) | (simp [*]; done)), H', ⟨by first | omega | exact Nat.le_refl _⟩, ⟨RFn.bel⟩⟩
     ·rw [if_neg c11] at H
      have c11b0 : decide ((l1.length : Int) ≤ t245) = false := decide_eq_false c11
      clear c11
      by_cases c12 : t245 ≥ 0
      ·rw [if_pos c12] at H
       have c12b0 : decide (0 ≤ t245) = true := decide_eq_true c12
       clear c12
       by_cases c13 : 0 ≤ t245
       ·rw [if_pos c13] at H
        have c13b0 : decide (0 ≤ t245) = true := decide_eq_true c13
        clear c13
        by_cases c14 : t245 < (l1.length : Int)
        ·rw [if_pos c14] at H
         have c14b0 : decide (t245 < (l1.length : Int)) = true := decide_eq_true c14
         clear c14
         have H' := Aside0.mk H
         clear H
         have p246 : 0 ≤ (t245 : Int) := RFn.od
         have q246 : t245 < (l1.length : Int) := RFn.od
         obtain ⟨ad246, e246, hx246_0⟩ := Kd.at_string HR1.out t245 p246 q246
         cases e246
         replace hx246_0 := RFn.hb HB hx246_0
         replace p246 := eq_true p246
         replace q246 := eq_true q246
         go_wp2
         go_meet
         case rel => exact ⟨_, (((rdOf ByteArray.empty l1 t245).toList != a0.toList)), (by first | rfl | (simp; done) | (simp [*]; done)), H', ⟨by first | omega | exact Nat.le_refl _⟩, ⟨RFn.bel⟩⟩
        ·rw [if_neg c14] at H
         exact absurd H (by simp)
       ·rw [if_neg c13] at H
        exact absurd H (by simp)
      ·rw [if_neg c12] at H
       have c12b0 : decide (0 ≤ t245) = false := decide_eq_false c12
       clear c12
       have H' := Aside0.mk H
       clear H
       go_wp2
       go_meet
       case rel => exact ⟨_, (false), (by first | rfl | (simp; done) | (simp [*]; done)), H', ⟨by first | omega | exact Nat.le_refl _⟩, ⟨RFn.bel⟩⟩
   case rest =>
    clear HC8
    try clear c1
    try clear c4
    try clear c5
    try clear c5b0
    try clear c5b1
    try clear c10
    try clear c10b0
    try clear c11
    try clear c11b0
    try clear c12
    try clear c12b0
    try clear c13
    try clear c13b0
    try clear c14
    try clear c14b0
    try clear hx246_0
    try clear p246
    try clear q246
    obtain ⟨kq, x35_7, rfl, HA, HJ7, HB⟩ := hcut
    cases kq with
    | zero => exact absurd HA.out (by simp [law05_LexPicks.j0])
    | succ kj7 =>
     have H := HA.out
     clear HA
     simp only [law05_LexPicks.j0] at H
     by_cases c15 : x35_7 = true
     ·subst c15
      have H1 : (some false) = some r := by rw [if_pos rfl] at H; exact H
      clear H
      have H := H1
      clear H1
      obtain rfl := Option.some.inj H
      go_wp2
      go_ret
      exact ⟨by first | rfl | (simp [errW_none, errW_some] <;> rfl) | (simp [*, errW_none, errW_some] <;> rfl), RFn.bel⟩
     ·replace c15 := Bool.eq_false_iff.mpr c15
      subst c15
      have H1 : (law05_LexPicks.l0 kj7 a0 t245 l1 (l1.length : Int) 0) = some r := by rw [if_neg (show ¬ (false = true) by decide)] at H; exact H
      clear H
      have H := H1
      clear H1
      have H' := Aside0.mk H
      clear H
      go_wp2
      go_loopg [38] kj7 (fun kq v38 w' => ∃ (x38_2 : Int), v38 = .int .i64 x38_2 ∧ Aside0 (law05_LexPicks.l0 kq a0 t245 l1 (l1.length : Int) x38_2 = some r) ∧ Aside0 (kq ≤ kj7) ∧ Aside0 (Below w.heap.size w w'))
      case atStart => exact ⟨(0), (by first | rfl | (simp; done) | (simp [*]; done)), H', ⟨Nat.le_refl _⟩, ⟨RFn.bel⟩⟩
      case round =>
       clear H'
       try clear c1
       try clear c4
       try clear c5
       try clear c5b0
       try clear c5b1
       try clear c10
       try clear c10b0
       try clear c11
       try clear c11b0
       try clear c12
       try clear c12b0
       try clear c13
       try clear c13b0
       try clear c14
       try clear c14b0
       try clear c15
       try clear hx246_0
       try clear p246
       try clear q246
       obtain ⟨x38_2, rfl, HA, HK2, HB⟩ := hrel
       cases gk with
       | zero => exact absurd HA.out (by simp [law05_LexPicks.l0])
       | succ k2 =>
        have H := HA.out
        clear HA
        simp only [law05_LexPicks.l0] at H
        by_cases c16 : x38_2 < (l1.length : Int)
        ·rw [if_pos c16] at H
         have c16b0 : decide (x38_2 < (l1.length : Int)) = true := decide_eq_true c16
         clear c16
         by_cases c17 : 0 ≤ x38_2
         ·rw [if_pos c17] at H
          have c17b0 : decide (0 ≤ x38_2) = true := decide_eq_true c17
          clear c17
          by_cases c18 : x38_2 < (l1.length : Int)
          ·rw [if_pos c18] at H
           have c18b0 : decide (x38_2 < (l1.length : Int)) = true := decide_eq_true c18
           clear c18
           by_cases c19 : (rdOf ByteArray.empty l1 x38_2).toList = a0.toList
           ·rw [if_pos c19] at H
            have c19b0 : ((rdOf ByteArray.empty l1 x38_2).toList == a0.toList) = true := beq_iff_eq.mpr c19
            have c19b1 : ((rdOf ByteArray.empty l1 x38_2).toList != a0.toList) = false := bne_eq_false_iff_eq.mpr c19
            clear c19
            by_cases c20 : t245 < 0
            ·rw [if_pos c20] at H
             have c20b0 : decide (t245 < 0) = true := decide_eq_true c20
             clear c20
             obtain rfl := Option.some.inj H
             have p247 : 0 ≤ (x38_2 : Int) := RFn.od
             have q247 : x38_2 < (l1.length : Int) := RFn.od
             obtain ⟨ad247, e247, hx247_0⟩ := Kd.at_string HR1.out x38_2 p247 q247
             cases e247
             replace hx247_0 := RFn.hb HB hx247_0
             replace p247 := eq_true p247
             replace q247 := eq_true q247
             go_wp2
             go_ret
             exact ⟨by first | rfl | (simp [errW_none, errW_some] <;> rfl) | (simp [*, errW_none, errW_some] <;> rfl), RFn.bel⟩
            ·rw [if_neg c20] at H
             have c20b0 : decide (t245 < 0) = false := decide_eq_false c20
             clear c20
             by_cases c21 : x38_2 < t245
             ·rw [if_pos c21] at H
              have c21b0 : decide (x38_2 < t245) = true := decide_eq_true c21
              clear c21
              obtain rfl := Option.some.inj H
              have p247 : 0 ≤ (x38_2 : Int) := RFn.od
              have q247 : x38_2 < (l1.length : Int) := RFn.od
              obtain ⟨ad247, e247, hx247_0⟩ := Kd.at_string HR1.out x38_2 p247 q247
              cases e247
              replace hx247_0 := RFn.hb HB hx247_0
              replace p247 := eq_true p247
              replace q247 := eq_true q247
              go_wp2
              go_ret
              exact ⟨by first | rfl | (simp [errW_none, errW_some] <;> rfl) | (simp [*, errW_none, errW_some] <;> rfl), RFn.bel⟩
             ·rw [if_neg c21] at H
              have c21b0 : decide (x38_2 < t245) = false := decide_eq_false c21
              clear c21
              have H' := Aside0.mk H
              clear H
              have p247 : 0 ≤ (x38_2 : Int) := RFn.od
              have q247 : x38_2 < (l1.length : Int) := RFn.od
              obtain ⟨ad247, e247, hx247_0⟩ := Kd.at_string HR1.out x38_2 p247 q247
              cases e247
              replace hx247_0 := RFn.hb HB hx247_0
              replace p247 := eq_true p247
              replace q247 := eq_true q247
              go_wp2
              go_roundg k2
              case measure => have := HJ7.out; have := HK2.out; omega
              case rel => exact ⟨(wrap64 (x38_2 + 1)), (by first | rfl | (simp; done) | (simp [*]; done)), H', ⟨by have := HJ7.out; have := HK2.out; omega⟩, ⟨RFn.bel⟩⟩
           ·rw [if_neg c19] at H
            have c19b0 : ((rdOf ByteArray.empty l1 x38_2).toList == a0.toList) = false := beq_eq_false_iff_ne.mpr c19
            have c19b1 : ((rdOf ByteArray.empty l1 x38_2).toList != a0.toList) = true := bne_iff_ne.mpr c19
            have H' := Aside0.mk H
            clear H
            have p247 : 0 ≤ (x38_2 : Int) := RFn.od
            have q247 : x38_2 < (l1.length : Int) := RFn.od
            obtain ⟨ad247, e247, hx247_0⟩ := Kd.at_string HR1.out x38_2 p247 q247
            cases e247
            replace hx247_0 := RFn.hb HB hx247_0
            replace p247 := eq_true p247
            replace q247 := eq_true q247
            go_wp2
            go_roundg k2
            case measure => have := HJ7.out; have := HK2.out; omega
            case rel => exact ⟨(wrap64 (x38_2 + 1)), (by first | rfl | (simp; done) | (simp [*]; done)), H', ⟨by have := HJ7.out; have := HK2.out; omega⟩, ⟨RFn.bel⟩⟩
          ·rw [if_neg c18] at H
           exact absurd H (by simp)
         ·rw [if_neg c17] at H
          exact absurd H (by simp)
        ·rw [if_neg c16] at H
         have c16b0 : decide (x38_2 < (l1.length : Int)) = false := decide_eq_false c16
         clear c16
         obtain rfl := Option.some.inj H
         go_wp2
         go_ret
         exact ⟨by first | rfl | (simp [errW_none, errW_some] <;> rfl) | (simp [*, errW_none, errW_some] <;> rfl), RFn.bel⟩
 ·replace c4 := Bool.eq_false_iff.mpr c4
  subst c4
  have H1 : (some false) = some r := by rw [if_neg (show ¬ (false = true) by decide)] at H; exact H
  clear H
  have H := H1
  clear H1
  obtain rfl := Option.some.inj H
  go_enter Tryd.func5, Tryd.ntmps5
  go_wp2_with (first | ((with_reducible refine gate_callee (f := 8) rfl ?_); refine RFn.goesM (some 8) Tryd.func8 #[] rfl ?_; (with_reducible refine (law05_alive.calls k  false _ A3.out (Go.Proofs.YtffdhekmnoajiaaDoor.X.LaidW.below hLd_ RFn.bel)).mono ?_); rintro e w22 ⟨rfl, hb⟩; refine ⟨_, rfl, ?_⟩; have n0_ := Aside0.mk (below_step (RFn.bel) hb); clear HB; have HB := n0_; clear n0_; (try clear hb)))
  go_ret
  exact ⟨by first | rfl | (simp [errW_none, errW_some] <;> rfl) | (simp [*, errW_none, errW_some] <;> rfl), RFn.bel⟩
/-- THE ONE PURE STATEMENT of law05_LexPicks: ours. -/
def law05_LexPicks.Pure : Prop := ∀ (a0 : ByteArray) (l1 : List ByteArray), a0.size ≤ 140737488351232 → l1.length ≤ 9223372036854775807 → (∀ x ∈ l1, x.size ≤ 9223372036854775807) → ∃ k, law05_LexPicks.f k a0 l1 = some true
end Go.Proofs.YtffdhekmnoajiaaDoor.Q
