/- printed by a program of this session (wip/tools/pr.sh): it is not a print of the kit -/
import Derived.Test.YtffdhekmnoajiaaDoorXName
import Derived.Test.YtffdhekmnoajiaaDoorXLexJoin
import Derived.Test.YtffdhekmnoajiaaDoorXLexLines
import Derived.Test.YtffdhekmnoajiaaDoorQx0
namespace Go.Proofs.YtffdhekmnoajiaaDoor.Q
open Go.RowKit Go.Proofs.YtffdhekmnoajiaaDoorW.PrintWords Go.Proofs.YtffdhekmnoajiaaDoorW.PrintLast Go.Proofs.YtffdhekmnoajiaaDoorW.PrintMore
attribute [local go_sem] max2_int min2_int max_two min_two max_three min_three max_four min_four RFn.gtr_str   -- for this text's walks alone
set_option linter.unusedVariables false
set_option linter.unusedSimpArgs false
/-! ### lex_Lines: function 10 -/
def lex_Lines.f (a0 : ByteArray) : Option (List S42 × Int) := Go.Proofs.YtffdhekmnoajiaaDoor.X.linesF a0
theorem lex_Lines.calls (a0 : ByteArray) (r1 : List S42) (r2 : Int) (w : World) (h : lex_Lines.f a0 = some (r1, r2)) (hLd_ : Go.Proofs.YtffdhekmnoajiaaDoor.X.LaidW w) :
  Calls Tryd.prog 10 #[.string a0] w fun e w' => ∃ v0_ : Value, e = .returned (.tuple #[v0_, .int .i64 r2]) ∧ Kd.S k42 42 w' w.heap.size (fun _ => True) v0_ r1 ∧ Below w.heap.size w w' := Go.Proofs.YtffdhekmnoajiaaDoor.X.lex_lines_calls a0 r1 r2 w h hLd_
/-! ### ref05_Same: function 12 -/
mutual
def ref05_Same.l0 : Nat → List (S49) → List (S49) → Int → Option (Bool)
 | 0, _, _, _ => none
 | k + 1, x0, x1, x5 => if x5 < (x0.length : Int) then (if 0 ≤ x5 then (if x5 < (x1.length : Int) then (if ((rd_T49 x0 x5).f0) = ((rd_T49 x1 x5).f0) then (ref05_Same.j1 k x0 x1 x5 ((((rd_T49 x0 x5).f1).length : Int) != (((rd_T49 x1 x5).f1).length : Int))) else (ref05_Same.j1 k x0 x1 x5 true)) else (none)) else (none)) else (some true)
def ref05_Same.j1 : Nat → List (S49) → List (S49) → Int → Bool → Option (Bool)
 | 0, _, _, _, _ => none
 | k + 1, x0, x1, x5, x43 => if x43 = true then (some false) else (ref05_Same.l1 k x0 x1 x5 0)
def ref05_Same.l1 : Nat → List (S49) → List (S49) → Int → Int → Option (Bool)
 | 0, _, _, _, _ => none
 | k + 1, x0, x1, x5, x6 => if 0 ≤ x5 then (if x5 < (x0.length : Int) then (if x6 < (((rd_T49 x0 x5).f1).length : Int) then (if 0 ≤ x6 then (if x5 < (x1.length : Int) then (if x6 < (((rd_T49 x1 x5).f1).length : Int) then (if (rdOf ByteArray.empty ((rd_T49 x0 x5).f1) x6).toList = (rdOf ByteArray.empty ((rd_T49 x1 x5).f1) x6).toList then (ref05_Same.l1 k x0 x1 x5 (wrap64 (x6 + 1))) else (some false)) else (none)) else (none)) else (none)) else (ref05_Same.l0 k x0 x1 (wrap64 (x5 + 1)))) else (none)) else (none)
end
def ref05_Same.f (k : Nat) (l0 : List (S49)) (l1 : List (S49)) : Option (Bool) := if (l0.length : Int) = (l1.length : Int) then (ref05_Same.l0 k l0 l1 0) else (some false)
theorem ref05_Same.mono_l : ∀ k, (∀ y0 y1 y2, LeO (ref05_Same.l0 k y0 y1 y2) (ref05_Same.l0 (k + 1) y0 y1 y2)) ∧ (∀ y0 y1 y2 y3, LeO (ref05_Same.j1 k y0 y1 y2 y3) (ref05_Same.j1 (k + 1) y0 y1 y2 y3)) ∧ (∀ y0 y1 y2 y3, LeO (ref05_Same.l1 k y0 y1 y2 y3) (ref05_Same.l1 (k + 1) y0 y1 y2 y3))
 | 0 => ⟨fun _ _ _ r h => by simp [ref05_Same.l0] at h, fun _ _ _ _ r h => by simp [ref05_Same.j1] at h, fun _ _ _ _ r h => by simp [ref05_Same.l1] at h⟩
 | k + 1 => by
  obtain ⟨ih0, ih1, ih2⟩ := ref05_Same.mono_l k
  refine ⟨?_, ?_, ?_⟩
  ·intro y0 y1 y2
   unfold ref05_Same.l0
   repeat' with_reducible first | exact LeO.refl _ | apply ih0 | apply ih1 | apply ih2 | exact LeO.none _ | apply LeO.ite | refine LeO.bind ?_ fun _ => ?_
  ·intro y0 y1 y2 y3
   unfold ref05_Same.j1
   repeat' with_reducible first | exact LeO.refl _ | apply ih0 | apply ih1 | apply ih2 | exact LeO.none _ | apply LeO.ite | refine LeO.bind ?_ fun _ => ?_
  ·intro y0 y1 y2 y3
   unfold ref05_Same.l1
   repeat' with_reducible first | exact LeO.refl _ | apply ih0 | apply ih1 | apply ih2 | exact LeO.none _ | apply LeO.ite | refine LeO.bind ?_ fun _ => ?_
theorem ref05_Same.mono : ∀ a0 a1 k, LeO (ref05_Same.f k a0 a1) (ref05_Same.f (k + 1) a0 a1) := by
 intro a0 a1 k
 obtain ⟨ih0, ih1, ih2⟩ := ref05_Same.mono_l k
 unfold ref05_Same.f
 repeat' with_reducible first | exact LeO.refl _ | apply ih0 | apply ih1 | apply ih2 | exact LeO.none _ | apply LeO.ite | refine LeO.bind ?_ fun _ => ?_
set_option maxHeartbeats 8000000 in
set_option maxRecDepth 100000 in
theorem ref05_Same.calls (k : Nat) (A0 : Option Addr) (c0 : Nat) (l0 : List (S49)) (A1 : Option Addr) (c1 : Nat) (l1 : List (S49)) (r : Bool) (w : World) (hr0 : Kd.C k49 w A0 l0.length l0) (hc0 : l0.length ≤ c0) (hr1 : Kd.C k49 w A1 l1.length l1) (hc1 : l1.length ≤ c1) (h : ref05_Same.f k l0 l1 = some r) :
  Calls Tryd.prog 12 #[.slice A0 l0.length c0, .slice A1 l1.length c1] w fun e w' => e = .returned (.bool r) ∧ Drawn0 w w' := by
 have HR0 := Aside0.mk hr0
 have HC0 := Aside0.mk hc0
 clear hr0 hc0
 have HR1 := Aside0.mk hr1
 have HC1 := Aside0.mk hc1
 clear hr1 hc1
 have H : (if (l0.length : Int) = (l1.length : Int) then (ref05_Same.l0 k l0 l1 0) else (some false)) = some r := h
 clear h
 by_cases c3 : (l0.length : Int) = (l1.length : Int)
 ·rw [if_pos c3] at H
  have c3b0 : ((l0.length : Int) == (l1.length : Int)) = true := beq_iff_eq.mpr c3
  have c3b1 : ((l0.length : Int) != (l1.length : Int)) = false := bne_eq_false_iff_eq.mpr c3
  have c3b2 : (l0.length == l1.length) = true := by first | simpa using c3 | (simp at c3 ⊢; omega)
  clear c3
  have H' := Aside0.mk H
  clear H
  go_enter Tryd.func12, Tryd.ntmps12
  go_wp2
  repeat (go_quiet (fail); try go_wp2)
  go_loopg [5] k (fun kq v5 w' => ∃ (x5_1 : Int), v5 = .int .i64 x5_1 ∧ Aside0 (ref05_Same.l0 kq l0 l1 x5_1 = some r) ∧ Aside0 (kq ≤ k) ∧ Drawn0 w w')
  case atStart => exact ⟨(0), (by first | rfl | (simp; done) | (simp [*]; done)), H', ⟨Nat.le_refl _⟩, by repeat (first | exact Drawn0.refl _ | apply Drawn0.step)⟩
  case round =>
   clear H'
   try clear c1
   try clear c3
   try clear c3b0
   try clear c3b1
   try clear c3b2
   obtain ⟨x5_1, rfl, HA, HK1, ⟨m1, rfl⟩⟩ := hrel
   cases gk with
   | zero => exact absurd HA.out (by simp [ref05_Same.l0])
   | succ k1 =>
    have H := HA.out
    clear HA
    simp only [ref05_Same.l0] at H
    by_cases c4 : x5_1 < (l0.length : Int)
    ·rw [if_pos c4] at H
     have c4b0 : decide (x5_1 < (l0.length : Int)) = true := decide_eq_true c4
     clear c4
     have HC5 := Aside0.mk H
     clear H
     go_upto_region 6 with (fail)
     repeat (go_quiet (fail); go_upto_region 6 with (fail))
     go_cut [43] (fun v43 wc => ∃ (kq : Nat) (x43_4 : Bool), v43 = .bool x43_4 ∧ Aside0 (ref05_Same.j1 kq l0 l1 x5_1 x43_4 = some r) ∧ Aside0 (kq ≤ k1) ∧ Drawn0 w wc)
     case first =>
      have H := HC5.out
      clear HC5
      by_cases c6 : 0 ≤ x5_1
      ·rw [if_pos c6] at H
       have c6b0 : decide (0 ≤ x5_1) = true := decide_eq_true c6
       clear c6
       (first | rw [c6b0] | (simp only [i64_w, i32_w]; rw [c6b0]) | skip)
       by_cases c7 : x5_1 < (l1.length : Int)
       ·rw [if_pos c7] at H
        have c7b0 : decide (x5_1 < (l1.length : Int)) = true := decide_eq_true c7
        clear c7
        by_cases c8 : ((rd_T49 l0 x5_1).f0) = ((rd_T49 l1 x5_1).f0)
        ·rw [if_pos c8] at H
         have c8b0 : (((rd_T49 l0 x5_1).f0) == ((rd_T49 l1 x5_1).f0)) = true := beq_iff_eq.mpr c8
         have c8b1 : (((rd_T49 l0 x5_1).f0) != ((rd_T49 l1 x5_1).f0)) = false := bne_eq_false_iff_eq.mpr c8
         clear c8
         have H' := Aside0.mk H
         clear H
         have p101 : 0 ≤ (x5_1 : Int) := RFn.od
         have q101 : x5_1 < (l0.length : Int) := RFn.od
         obtain ⟨ad101, A101_1, c101_1, e101, hx101_0, hx101_1, hl101_1, hi101_1⟩ := at_T49 HR0.out x5_1 p101 q101
         cases e101
         have HR101_1 := Aside0.mk hi101_1
         have HC101_1 := Aside0.mk hl101_1
         clear hi101_1 hl101_1
         replace p101 := eq_true p101
         replace q101 := eq_true q101
         have p102 : 0 ≤ (x5_1 : Int) := RFn.od
         have q102 : x5_1 < (l1.length : Int) := RFn.od
         obtain ⟨ad102, A102_1, c102_1, e102, hx102_0, hx102_1, hl102_1, hi102_1⟩ := at_T49 HR1.out x5_1 p102 q102
         cases e102
         have HR102_1 := Aside0.mk hi102_1
         have HC102_1 := Aside0.mk hl102_1
         clear hi102_1 hl102_1
         replace p102 := eq_true p102
         replace q102 := eq_true q102
         have p103 : 0 ≤ (x5_1 : Int) := RFn.od
         have q103 : x5_1 < (l0.length : Int) := RFn.od
         obtain ⟨ad103, A103_1, c103_1, e103, hx103_0, hx103_1, hl103_1, hi103_1⟩ := at_T49 HR0.out x5_1 p103 q103
         obtain rfl : ad101 = ad103 := (by injection e103)
         have HR103_1 := Aside0.mk hi103_1
         have HC103_1 := Aside0.mk hl103_1
         clear hi103_1 hl103_1
         replace p103 := eq_true p103
         replace q103 := eq_true q103
         have ea_ := Option.some.inj (hx101_1.symm.trans hx103_1)
         injection ea_ with ea_ en_ ec_
         subst ea_
         subst ec_
         clear en_
         have p104 : 0 ≤ (x5_1 : Int) := RFn.od
         have q104 : x5_1 < (l1.length : Int) := RFn.od
         obtain ⟨ad104, A104_1, c104_1, e104, hx104_0, hx104_1, hl104_1, hi104_1⟩ := at_T49 HR1.out x5_1 p104 q104
         obtain rfl : ad102 = ad104 := (by injection e104)
         have HR104_1 := Aside0.mk hi104_1
         have HC104_1 := Aside0.mk hl104_1
         clear hi104_1 hl104_1
         replace p104 := eq_true p104
         replace q104 := eq_true q104
         have ea_ := Option.some.inj (hx102_1.symm.trans hx104_1)
         injection ea_ with ea_ en_ ec_
         subst ea_
         subst ec_
         clear en_
         go_wp2
         repeat (go_quiet (fail); try go_wp2)
         first | go_meet | (simp only [c3b0, c8b0] at *; go_meet)
         case rel => exact ⟨_, (((((rd_T49 l0 x5_1).f1).length : Int) != (((rd_T49 l1 x5_1).f1).length : Int))), (by first | rfl | (simp; done) | (simp [*]; done)), H', ⟨by have := HK1.out; first | omega | exact Nat.le_refl _⟩, by repeat (first | exact Drawn0.refl _ | apply Drawn0.step)⟩
        ·rw [if_neg c8] at H
         have c8b0 : (((rd_T49 l0 x5_1).f0) == ((rd_T49 l1 x5_1).f0)) = false := beq_eq_false_iff_ne.mpr c8
         have c8b1 : (((rd_T49 l0 x5_1).f0) != ((rd_T49 l1 x5_1).f0)) = true := bne_iff_ne.mpr c8
         have H' := Aside0.mk H
         clear H
         have p101 : 0 ≤ (x5_1 : Int) := RFn.od
         have q101 : x5_1 < (l0.length : Int) := RFn.od
         obtain ⟨ad101, A101_1, c101_1, e101, hx101_0, hx101_1, hl101_1, hi101_1⟩ := at_T49 HR0.out x5_1 p101 q101
         cases e101
         have HR101_1 := Aside0.mk hi101_1
         have HC101_1 := Aside0.mk hl101_1
         clear hi101_1 hl101_1
         replace p101 := eq_true p101
         replace q101 := eq_true q101
         have p102 : 0 ≤ (x5_1 : Int) := RFn.od
         have q102 : x5_1 < (l1.length : Int) := RFn.od
         obtain ⟨ad102, A102_1, c102_1, e102, hx102_0, hx102_1, hl102_1, hi102_1⟩ := at_T49 HR1.out x5_1 p102 q102
         cases e102
         have HR102_1 := Aside0.mk hi102_1
         have HC102_1 := Aside0.mk hl102_1
         clear hi102_1 hl102_1
         replace p102 := eq_true p102
         replace q102 := eq_true q102
         go_wp2
         repeat (go_quiet (fail); try go_wp2)
         first | go_meet | (simp only [c3b0, c8b0] at *; go_meet)
         case rel => exact ⟨_, (true), (by first | rfl | (simp; done) | (simp [*]; done)), H', ⟨by have := HK1.out; first | omega | exact Nat.le_refl _⟩, by repeat (first | exact Drawn0.refl _ | apply Drawn0.step)⟩
       ·rw [if_neg c7] at H
        exact absurd H (by simp)
      ·rw [if_neg c6] at H
       exact absurd H (by simp)
     case rest =>
      clear HC5
      try clear c1
      try clear c3
      try clear c3b0
      try clear c3b1
      try clear c3b2
      try clear c4
      try clear c4b0
      try clear c6
      try clear c6b0
      try clear c7
      try clear c7b0
      try clear c8
      try clear c8b0
      try clear c8b1
      try clear hx101_0
      try clear hx101_1
      try clear hx102_0
      try clear hx102_1
      try clear hx103_0
      try clear hx103_1
      try clear hx104_0
      try clear hx104_1
      try clear p101
      try clear p102
      try clear p103
      try clear p104
      try clear q101
      try clear q102
      try clear q103
      try clear q104
      obtain ⟨kq, x43_4, rfl, HA, HJ4, ⟨mc4, rfl⟩⟩ := hcut
      cases kq with
      | zero => exact absurd HA.out (by simp [ref05_Same.j1])
      | succ kj4 =>
       have H := HA.out
       clear HA
       simp only [ref05_Same.j1] at H
       by_cases c9 : x43_4 = true
       ·subst c9
        have H1 : (some false) = some r := by rw [if_pos rfl] at H; exact H
        clear H
        have H := H1
        clear H1
        obtain rfl := Option.some.inj H
        go_wp2
        repeat (go_quiet (fail); try go_wp2)
        go_ret
        exact ⟨by first | rfl | (simp; done) | (simp [*]; done), by repeat (first | exact Drawn0.refl _ | apply Drawn0.step)⟩
       ·replace c9 := Bool.eq_false_iff.mpr c9
        subst c9
        have H1 : (ref05_Same.l1 kj4 l0 l1 x5_1 0) = some r := by rw [if_neg (show ¬ (false = true) by decide)] at H; exact H
        clear H
        have H := H1
        clear H1
        have H' := Aside0.mk H
        clear H
        go_wp2
        repeat (go_quiet (fail); try go_wp2)
        go_loopg [6] kj4 (fun kq v6 w' => ∃ (x6_3 : Int), v6 = .int .i64 x6_3 ∧ Aside0 (ref05_Same.l1 kq l0 l1 x5_1 x6_3 = some r) ∧ Aside0 (kq ≤ kj4) ∧ Drawn0 w w')
        case atStart => exact ⟨(0), (by first | rfl | (simp; done) | (simp [*]; done)), H', ⟨Nat.le_refl _⟩, by repeat (first | exact Drawn0.refl _ | apply Drawn0.step)⟩
        case round =>
         clear H'
         try clear c1
         try clear c3
         try clear c3b0
         try clear c3b1
         try clear c3b2
         try clear c4
         try clear c4b0
         try clear c6
         try clear c6b0
         try clear c7
         try clear c7b0
         try clear c8
         try clear c8b0
         try clear c8b1
         try clear c9
         try clear hx101_0
         try clear hx101_1
         try clear hx102_0
         try clear hx102_1
         try clear hx103_0
         try clear hx103_1
         try clear hx104_0
         try clear hx104_1
         try clear p101
         try clear p102
         try clear p103
         try clear p104
         try clear q101
         try clear q102
         try clear q103
         try clear q104
         obtain ⟨x6_3, rfl, HA, HK3, ⟨m3, rfl⟩⟩ := hrel
         cases gk with
         | zero => exact absurd HA.out (by simp [ref05_Same.l1])
         | succ k3 =>
          have H := HA.out
          clear HA
          simp only [ref05_Same.l1] at H
          by_cases c10 : 0 ≤ x5_1
          ·rw [if_pos c10] at H
           have c10b0 : decide (0 ≤ x5_1) = true := decide_eq_true c10
           clear c10
           by_cases c11 : x5_1 < (l0.length : Int)
           ·rw [if_pos c11] at H
            have c11b0 : decide (x5_1 < (l0.length : Int)) = true := decide_eq_true c11
            clear c11
            by_cases c12 : x6_3 < (((rd_T49 l0 x5_1).f1).length : Int)
            ·rw [if_pos c12] at H
             have c12b0 : decide (x6_3 < (((rd_T49 l0 x5_1).f1).length : Int)) = true := decide_eq_true c12
             clear c12
             by_cases c13 : 0 ≤ x6_3
             ·rw [if_pos c13] at H
              have c13b0 : decide (0 ≤ x6_3) = true := decide_eq_true c13
              clear c13
              by_cases c14 : x5_1 < (l1.length : Int)
              ·rw [if_pos c14] at H
               have c14b0 : decide (x5_1 < (l1.length : Int)) = true := decide_eq_true c14
               clear c14
               by_cases c15 : x6_3 < (((rd_T49 l1 x5_1).f1).length : Int)
               ·rw [if_pos c15] at H
                have c15b0 : decide (x6_3 < (((rd_T49 l1 x5_1).f1).length : Int)) = true := decide_eq_true c15
                clear c15
                by_cases c16 : (rdOf ByteArray.empty ((rd_T49 l0 x5_1).f1) x6_3).toList = (rdOf ByteArray.empty ((rd_T49 l1 x5_1).f1) x6_3).toList
                ·rw [if_pos c16] at H
                 have c16b0 : ((rdOf ByteArray.empty ((rd_T49 l0 x5_1).f1) x6_3).toList == (rdOf ByteArray.empty ((rd_T49 l1 x5_1).f1) x6_3).toList) = true := beq_iff_eq.mpr c16
                 have c16b1 : ((rdOf ByteArray.empty ((rd_T49 l0 x5_1).f1) x6_3).toList != (rdOf ByteArray.empty ((rd_T49 l1 x5_1).f1) x6_3).toList) = false := bne_eq_false_iff_eq.mpr c16
                 clear c16
                 have H' := Aside0.mk H
                 clear H
                 have p105 : 0 ≤ (x5_1 : Int) := RFn.od
                 have q105 : x5_1 < (l0.length : Int) := RFn.od
                 obtain ⟨ad105, A105_1, c105_1, e105, hx105_0, hx105_1, hl105_1, hi105_1⟩ := at_T49 HR0.out x5_1 p105 q105
                 cases e105
                 have HR105_1 := Aside0.mk hi105_1
                 have HC105_1 := Aside0.mk hl105_1
                 clear hi105_1 hl105_1
                 replace p105 := eq_true p105
                 replace q105 := eq_true q105
                 have p106 : 0 ≤ (x5_1 : Int) := RFn.od
                 have q106 : x5_1 < (l0.length : Int) := RFn.od
                 obtain ⟨ad106, A106_1, c106_1, e106, hx106_0, hx106_1, hl106_1, hi106_1⟩ := at_T49 HR0.out x5_1 p106 q106
                 obtain rfl : ad105 = ad106 := (by injection e106)
                 have HR106_1 := Aside0.mk hi106_1
                 have HC106_1 := Aside0.mk hl106_1
                 clear hi106_1 hl106_1
                 replace p106 := eq_true p106
                 replace q106 := eq_true q106
                 have ea_ := Option.some.inj (hx105_1.symm.trans hx106_1)
                 injection ea_ with ea_ en_ ec_
                 subst ea_
                 subst ec_
                 clear en_
                 have p107 : 0 ≤ (x6_3 : Int) := RFn.od
                 have q107 : x6_3 < (((rd_T49 l0 x5_1).f1).length : Int) := RFn.od
                 obtain ⟨ad107, e107, hx107_0⟩ := Kd.at_string HR106_1.out x6_3 p107 q107
                 cases e107
                 replace p107 := eq_true p107
                 replace q107 := eq_true q107
                 have p108 : 0 ≤ (x5_1 : Int) := RFn.od
                 have q108 : x5_1 < (l1.length : Int) := RFn.od
                 obtain ⟨ad108, A108_1, c108_1, e108, hx108_0, hx108_1, hl108_1, hi108_1⟩ := at_T49 HR1.out x5_1 p108 q108
                 cases e108
                 have HR108_1 := Aside0.mk hi108_1
                 have HC108_1 := Aside0.mk hl108_1
                 clear hi108_1 hl108_1
                 replace p108 := eq_true p108
                 replace q108 := eq_true q108
                 have p109 : 0 ≤ (x6_3 : Int) := RFn.od
                 have q109 : x6_3 < (((rd_T49 l1 x5_1).f1).length : Int) := RFn.od
                 obtain ⟨ad109, e109, hx109_0⟩ := Kd.at_string HR108_1.out x6_3 p109 q109
                 cases e109
                 replace p109 := eq_true p109
                 replace q109 := eq_true q109
                 go_wp2
                 repeat (go_quiet (fail); try go_wp2)
                 go_roundg k3
                 case measure => have := HK1.out; have := HJ4.out; have := HK3.out; omega
                 case rel => exact ⟨(wrap64 (x6_3 + 1)), (by first | rfl | (simp; done) | (simp [*]; done)), H', ⟨by have := HK1.out; have := HJ4.out; have := HK3.out; omega⟩, by repeat (first | exact Drawn0.refl _ | apply Drawn0.step)⟩
                ·rw [if_neg c16] at H
                 have c16b0 : ((rdOf ByteArray.empty ((rd_T49 l0 x5_1).f1) x6_3).toList == (rdOf ByteArray.empty ((rd_T49 l1 x5_1).f1) x6_3).toList) = false := beq_eq_false_iff_ne.mpr c16
                 have c16b1 : ((rdOf ByteArray.empty ((rd_T49 l0 x5_1).f1) x6_3).toList != (rdOf ByteArray.empty ((rd_T49 l1 x5_1).f1) x6_3).toList) = true := bne_iff_ne.mpr c16
                 obtain rfl := Option.some.inj H
                 have p105 : 0 ≤ (x5_1 : Int) := RFn.od
                 have q105 : x5_1 < (l0.length : Int) := RFn.od
                 obtain ⟨ad105, A105_1, c105_1, e105, hx105_0, hx105_1, hl105_1, hi105_1⟩ := at_T49 HR0.out x5_1 p105 q105
                 cases e105
                 have HR105_1 := Aside0.mk hi105_1
                 have HC105_1 := Aside0.mk hl105_1
                 clear hi105_1 hl105_1
                 replace p105 := eq_true p105
                 replace q105 := eq_true q105
                 have p106 : 0 ≤ (x5_1 : Int) := RFn.od
                 have q106 : x5_1 < (l0.length : Int) := RFn.od
                 obtain ⟨ad106, A106_1, c106_1, e106, hx106_0, hx106_1, hl106_1, hi106_1⟩ := at_T49 HR0.out x5_1 p106 q106
                 obtain rfl : ad105 = ad106 := (by injection e106)
                 have HR106_1 := Aside0.mk hi106_1
                 have HC106_1 := Aside0.mk hl106_1
                 clear hi106_1 hl106_1
                 replace p106 := eq_true p106
                 replace q106 := eq_true q106
                 have ea_ := Option.some.inj (hx105_1.symm.trans hx106_1)
                 injection ea_ with ea_ en_ ec_
                 subst ea_
                 subst ec_
                 clear en_
                 have p107 : 0 ≤ (x6_3 : Int) := RFn.od
                 have q107 : x6_3 < (((rd_T49 l0 x5_1).f1).length : Int) := RFn.od
                 obtain ⟨ad107, e107, hx107_0⟩ := Kd.at_string HR106_1.out x6_3 p107 q107
                 cases e107
                 replace p107 := eq_true p107
                 replace q107 := eq_true q107
                 have p108 : 0 ≤ (x5_1 : Int) := RFn.od
                 have q108 : x5_1 < (l1.length : Int) := RFn.od
                 obtain ⟨ad108, A108_1, c108_1, e108, hx108_0, hx108_1, hl108_1, hi108_1⟩ := at_T49 HR1.out x5_1 p108 q108
                 cases e108
                 have HR108_1 := Aside0.mk hi108_1
                 have HC108_1 := Aside0.mk hl108_1
                 clear hi108_1 hl108_1
                 replace p108 := eq_true p108
                 replace q108 := eq_true q108
                 have p109 : 0 ≤ (x6_3 : Int) := RFn.od
                 have q109 : x6_3 < (((rd_T49 l1 x5_1).f1).length : Int) := RFn.od
                 obtain ⟨ad109, e109, hx109_0⟩ := Kd.at_string HR108_1.out x6_3 p109 q109
                 cases e109
                 replace p109 := eq_true p109
                 replace q109 := eq_true q109
                 go_wp2
                 repeat (go_quiet (fail); try go_wp2)
                 go_ret
                 exact ⟨by first | rfl | (simp; done) | (simp [*]; done), by repeat (first | exact Drawn0.refl _ | apply Drawn0.step)⟩
               ·rw [if_neg c15] at H
                exact absurd H (by simp)
              ·rw [if_neg c14] at H
               exact absurd H (by simp)
             ·rw [if_neg c13] at H
              exact absurd H (by simp)
            ·rw [if_neg c12] at H
             have c12b0 : decide (x6_3 < (((rd_T49 l0 x5_1).f1).length : Int)) = false := decide_eq_false c12
             clear c12
             have H' := Aside0.mk H
             clear H
             have p105 : 0 ≤ (x5_1 : Int) := RFn.od
             have q105 : x5_1 < (l0.length : Int) := RFn.od
             obtain ⟨ad105, A105_1, c105_1, e105, hx105_0, hx105_1, hl105_1, hi105_1⟩ := at_T49 HR0.out x5_1 p105 q105
             cases e105
             have HR105_1 := Aside0.mk hi105_1
             have HC105_1 := Aside0.mk hl105_1
             clear hi105_1 hl105_1
             replace p105 := eq_true p105
             replace q105 := eq_true q105
             go_wp2
             repeat (go_quiet (fail); try go_wp2)
             go_roundg k3
             case measure => have := HK1.out; have := HJ4.out; have := HK3.out; omega
             case rel => exact ⟨(wrap64 (x5_1 + 1)), (by first | rfl | (simp; done) | (simp [*]; done)), H', ⟨by have := HK1.out; have := HJ4.out; have := HK3.out; omega⟩, by repeat (first | exact Drawn0.refl _ | apply Drawn0.step)⟩
           ·rw [if_neg c11] at H
            exact absurd H (by simp)
          ·rw [if_neg c10] at H
           exact absurd H (by simp)
    ·rw [if_neg c4] at H
     have c4b0 : decide (x5_1 < (l0.length : Int)) = false := decide_eq_false c4
     clear c4
     obtain rfl := Option.some.inj H
     go_wp2
     repeat (go_quiet (fail); try go_wp2)
     go_ret
     exact ⟨by first | rfl | (simp; done) | (simp [*]; done), by repeat (first | exact Drawn0.refl _ | apply Drawn0.step)⟩
 ·rw [if_neg c3] at H
  have c3b0 : ((l0.length : Int) == (l1.length : Int)) = false := beq_eq_false_iff_ne.mpr c3
  have c3b1 : ((l0.length : Int) != (l1.length : Int)) = true := bne_iff_ne.mpr c3
  have c3b2 : (l0.length == l1.length) = false := by first | simpa using c3 | (simp at c3 ⊢; omega)
  obtain rfl := Option.some.inj H
  go_enter Tryd.func12, Tryd.ntmps12
  go_wp2
  repeat (go_quiet (fail); try go_wp2)
  go_ret
  exact ⟨by first | rfl | (simp; done) | (simp [*]; done), by repeat (first | exact Drawn0.refl _ | apply Drawn0.step)⟩
/-! ### law05_Ours: function 13 -/
def law05_Ours.l0 : Nat → List (S49) → List (S42) → Int → Int → Option ((List (S49)))
 | 0, _, _, _, _ => none
 | k + 1, x3, x6, x7, x8 => if x8 < x7 then (if 0 ≤ x8 then (if x8 < (x6.length : Int) then (if x3.length < 4398046511104 then (law05_Ours.l0 k (x3 ++ [(⟨(rd_T42 x6 x8).f0, (rd_T42 x6 x8).f1⟩ : S49)]) x6 x7 (wrap64 (x8 + 1))) else (none)) else (none)) else (none)) else (some x3)
def law05_Ours.f (k : Nat) (l0 : List (S42)) : Option ((List (S49))) := law05_Ours.l0 k ([] : List (S49)) l0 (l0.length : Int) 0
theorem law05_Ours.mono_l : ∀ k, (∀ y0 y1 y2 y3, LeO (law05_Ours.l0 k y0 y1 y2 y3) (law05_Ours.l0 (k + 1) y0 y1 y2 y3))
 | 0 => fun _ _ _ _ r h => by simp [law05_Ours.l0] at h
 | k + 1 => by
  have ih0 := law05_Ours.mono_l k
  ·intro y0 y1 y2 y3
   unfold law05_Ours.l0
   repeat' with_reducible first | exact LeO.refl _ | apply ih0 | exact LeO.none _ | apply LeO.ite | refine LeO.bind ?_ fun _ => ?_
theorem law05_Ours.mono : ∀ a0 k, LeO (law05_Ours.f k a0) (law05_Ours.f (k + 1) a0) := by
 intro a0 k
 have ih0 := law05_Ours.mono_l k
 unfold law05_Ours.f
 repeat' with_reducible first | exact LeO.refl _ | apply ih0 | exact LeO.none _ | apply LeO.ite | refine LeO.bind ?_ fun _ => ?_
set_option maxHeartbeats 8000000 in
set_option maxRecDepth 100000 in
theorem law05_Ours.calls (k : Nat) (P0_ : Nat → Prop) (A0 : Option Addr) (c0 : Nat) (l0 : List (S42)) (r : List (S49)) (w : World) (hs0 : Kd.V k42 42 w w.heap.size (fun k_ => P0_ k_) (.slice A0 l0.length c0) l0) (h : law05_Ours.f k l0 = some r) :
  Calls Tryd.prog 13 #[.slice A0 l0.length c0] w fun e w' => ∃ v0_ : Value, e = .returned (v0_) ∧ Kd.N k49 49 w' w.heap.size (fun k_ => (P0_ k_ ∨ w.heap.size ≤ k_)) v0_ r ∧ Below w.heap.size w w' := by
 have hu42 := Tryd.underlying42
 have HO0 := Aside0.mk (show Kd.V k42 42 w w.heap.size (fun k_ => (P0_ k_ ∨ w.heap.size ≤ k_)) (.slice A0 l0.length c0) l0 from Kd.V_mono hs0 (fun k_ hk => .inl hk))
 have HB := Aside0.mk (Below.refl w.heap.size w)
 have H : (law05_Ours.l0 k ([] : List (S49)) l0 (l0.length : Int) 0) = some r := h
 clear h
 have H' := Aside0.mk H
 clear H
 go_enter Tryd.func13, Tryd.ntmps13
 go_wp2
 go_loopg [3, 8] k (fun kq v3 v8 w' => ∃ (x3_1 : List (S49)) (x8_1 : Int), v8 = .int .i64 x8_1 ∧ Aside0 (law05_Ours.l0 kq x3_1 l0 (l0.length : Int) x8_1 = some r) ∧ Aside0 (kq ≤ k) ∧ Aside0 (Kd.N k49 49 w' w.heap.size (fun k_ => (P0_ k_ ∨ w.heap.size ≤ k_)) v3 x3_1) ∧ Aside0 (Kd.V k42 42 w' w.heap.size (fun k_ => (P0_ k_ ∨ w.heap.size ≤ k_) ∧ some k_ ≠ (v3 : Value).ownBlock) (.slice A0 l0.length c0) l0) ∧ Aside0 (Below w.heap.size w w'))
 case atStart => exact ⟨(([] : List (S49))), (0), (by first | rfl | (simp; done) | (simp [*]; done)), H', ⟨Nat.le_refl _⟩, ⟨by first | exact Kd.S_nil _ _ _ _ _ | exact Kd.N_nil _ _ _ _ _ | exact Kd.V_nil _ _ _ _ _ | exact Kd.Q_nil _ _ _ _ _ | exact Kd.R_nil _ _ _ _ _⟩, ⟨by (with_reducible repeat (first | apply Kd.V_alloc | apply Kd.V_drewN | apply Kd.V_drew)); exact Kd.V_mono HO0.out (fun _ hk => by first | exact ⟨hk, (by simp [Value.ownBlock])⟩ | exact trivial)⟩, ⟨RFn.bel⟩⟩
 case round =>
  clear H'
  obtain ⟨x3_1, x8_1, rfl, HA, HK1, HO_3, HO_6, HB⟩ := hrel
  cases gk with
  | zero => exact absurd HA.out (by simp [law05_Ours.l0])
  | succ k1 =>
   have H := HA.out
   clear HA
   simp only [law05_Ours.l0] at H
   by_cases c2 : x8_1 < (l0.length : Int)
   ·rw [if_pos c2] at H
    have c2b0 : decide (x8_1 < (l0.length : Int)) = true := decide_eq_true c2
    clear c2
    by_cases c3 : 0 ≤ x8_1
    ·rw [if_pos c3] at H
     have c3b0 : decide (0 ≤ x8_1) = true := decide_eq_true c3
     clear c3
     by_cases c4 : x8_1 < (l0.length : Int)
     ·rw [if_pos c4] at H
      have c4b0 : decide (x8_1 < (l0.length : Int)) = true := decide_eq_true c4
      clear c4
      by_cases c5 : x3_1.length < 4398046511104
      ·rw [if_pos c5] at H
       have LMc5 := Aside0.mk c5
       clear c5
       obtain ⟨y112, hy112⟩ : ∃ y_ : List (S49), y_ = (x3_1 ++ [(⟨(rd_T42 l0 x8_1).f0, (rd_T42 l0 x8_1).f1⟩ : S49)]) := ⟨_, rfl⟩
       replace H : (law05_Ours.l0 k1 y112 l0 (l0.length : Int) (wrap64 (x8_1 + 1))) = some r := RFn.rp H hy112
       have Ny112 := Aside0.mk hy112
       clear hy112
       have H' := Aside0.mk H
       clear H
       have p110 : 0 ≤ (x8_1 : Int) := RFn.od
       have q110 : x8_1 < (l0.length : Int) := RFn.od
       obtain ⟨ad110, A110_1, c110_1, e110, hx110_0, hx110_1, hl110_1, hi110_1⟩ := at_T42 (Kd.V_reads' HO_6.out).2.2 x8_1 p110 q110
       cases e110
       obtain ⟨ce110, hce110, hMe110, hcc110⟩ := Kd.V_get HO_6.out z42 x8_1 p110 (by first | exact q110 | exact RFn.od | (have e_ := (Kd.V_reads' HO_6.out).1; omega))
       obtain ⟨ua110_1, uc110_1, rfl, ul110_1, ge110_1⟩ := k42_openF hMe110
       have hv110_1 := hcc110 1 _ rfl
       rw [add_field _ _ 1 (by omega)] at hv110_1
       replace hv110_1 := Option.some.inj (hv110_1.symm.trans hx110_1)
       injection hv110_1 with hva_ hvn_ hvc_
       rw [hva_] at ge110_1
       rw [hvc_] at ul110_1
       have HL110_1 := Aside0.mk (show Kd.V Kd.string 9 _ w.heap.size _ _ ((rd_T42 l0 x8_1).f1) from Kd.V_mk ul110_1 ge110_1)
       clear hva_ hvn_ hvc_ ge110_1 ul110_1
       clear hcc110 hce110
       have HR110_1 := Aside0.mk hi110_1
       have HC110_1 := Aside0.mk hl110_1
       clear hi110_1 hl110_1
       replace p110 := eq_true p110
       replace q110 := eq_true q110
       go_wp2_with (first | ((with_reducible refine gate_dst (N := 5) rfl ?_); refine box_event ?hg (N := 5) ?hd (cs := #[.int .i64 0, .slice none 0 0]) (t := 42) ?hr ?_; (case hd => rfl); (case hg => rfl); (case hr => first | (go_simp; done) | (go_simp; rfl)); intro gb111 hg w6 hbox hb; have n0_ := Aside0.mk (Kd.N_below (Kd.N_elderB (by (with_reducible repeat (first | apply Kd.N_alloc | apply Kd.N_drewN | apply Kd.N_drew)); exact HO_3.out) gb111 (Nat.le_of_eq hg.symm)) hb); have n1_ := Aside0.mk (Kd.V_below (Kd.V_elderB (by (with_reducible repeat (first | apply Kd.V_alloc | apply Kd.V_drewN | apply Kd.V_drew)); exact HO_6.out) gb111 (Nat.le_of_eq hg.symm)) hb); have n2_ := Aside0.mk (Kd.V_below (Kd.V_elderB (by (with_reducible repeat (first | apply Kd.V_alloc | apply Kd.V_drewN | apply Kd.V_drew)); exact HL110_1.out) gb111 (Nat.le_of_eq hg.symm)) hb); have n3_ := Aside0.mk (Kd.C_below (by repeat (first | (with_reducible exact HR110_1.out) | (with_reducible refine Kd.C_alloc ?_ _) | (with_reducible refine Kd.C_drewN ?_ _) | (with_reducible refine Kd.C_drew ?_) | exact HR110_1.out)) hb); have n4_ := Aside0.mk (below_step (RFn.bel) hb); have n5_ := Aside0.mk (hbox); have n6_ := Aside0.mk ((by rw [hg]; exact (below_size (RFn.bel)) : w.heap.size ≤ gb111)); have n7_ := Aside0.mk ((by rw [hg]; exact (below_size (RFn.bel)) : w.heap.size ≤ gb111)); clear HO_3; clear HO_6; clear HL110_1; clear HR110_1; clear HB; have HO_3 := n0_; have HO_6 := n1_; have HL110_1 := n2_; have HR110_1 := n3_; have HB := n4_; have BK111 := n5_; have GW111 := n6_; have GE111 := n7_; clear n0_ n1_ n2_ n3_ n4_ n5_ n6_ n7_; clear hb hbox hg; obtain ⟨hcz7_0, hcz7_1⟩ := RFn.bc2 BK111; obtain ⟨hfz7_0, hfz7_1⟩ := RFn.bf2 BK111) | ((with_reducible refine gate_store (t := 42) (p := 5) rfl ?_); refine store_event (t := 42) (p := 5) (v := ?vo_w8) (w1 := ((w6.setCell ⟨gb111, 0, none⟩ (.int .i64 ((rd_T42 l0 x8_1).f0))).setCell ⟨gb111, 1, none⟩ (.slice A110_1 ((rd_T42 l0 x8_1).f1).length c110_1))) ?hg ?ho ?hn ?hr ?_; (case ho => rfl); (case hg => rfl); (case hn => rfl); (case hr => first | (go_simp; done) | (go_simp; rfl)); intro w8 hw; have n0_ : Aside0 (Kd.N k49 49 w8 w.heap.size (fun k_ => (P0_ k_ ∨ w.heap.size ≤ k_) ∧ k_ ≠ gb111) u3 x3_1) := ⟨(by rw [hw]; exact (by (with_reducible repeat (first | apply Kd.N_alloc | apply Kd.N_drewN | apply Kd.N_drew)); exact Kd.N_mono (Kd.N_far (p := ⟨gb111, 1, none⟩) (Kd.N_far (p := ⟨gb111, 0, none⟩) (Kd.N_mono HO_3.out (fun k_ hk => (⟨hk, hk.2⟩ : _ ∧ k_ ≠ gb111))) (fun _ hk => hk.2) (.int .i64 ((rd_T42 l0 x8_1).f0))) (fun _ hk => hk.2) (.slice A110_1 ((rd_T42 l0 x8_1).f1).length c110_1)) (fun _ hk => by first | exact ⟨hk.1.1, hk.1.2⟩ | exact trivial)))⟩; have n1_ : Aside0 (Kd.V k42 42 w8 w.heap.size (fun k_ => (P0_ k_ ∨ w.heap.size ≤ k_) ∧ some k_ ≠ (u3 : Value).ownBlock ∧ k_ ≠ gb111) (.slice (some ad110) l0.length c0) l0) := ⟨(by rw [hw]; exact (by (with_reducible repeat (first | apply Kd.V_alloc | apply Kd.V_drewN | apply Kd.V_drew)); exact Kd.V_mono (Kd.V_far (p := ⟨gb111, 1, none⟩) (Kd.V_far (p := ⟨gb111, 0, none⟩) (Kd.V_mono HO_6.out (fun k_ hk => (⟨hk, hk.2⟩ : _ ∧ k_ ≠ gb111))) (fun _ hk => hk.2) (.int .i64 ((rd_T42 l0 x8_1).f0))) (fun _ hk => hk.2) (.slice A110_1 ((rd_T42 l0 x8_1).f1).length c110_1)) (fun _ hk => by first | exact ⟨hk.1.1.1, ⟨hk.1.1.2, hk.1.2⟩⟩ | exact trivial)))⟩; have n2_ : Aside0 (Kd.V Kd.string 9 w8 w.heap.size (fun k_ => (P0_ k_ ∨ w.heap.size ≤ k_) ∧ some k_ ≠ (u3 : Value).ownBlock ∧ k_ ≠ gb111) (.slice A110_1 ((rd_T42 l0 x8_1).f1).length c110_1) ((rd_T42 l0 x8_1).f1)) := ⟨(by rw [hw]; exact (by (with_reducible repeat (first | apply Kd.V_alloc | apply Kd.V_drewN | apply Kd.V_drew)); exact Kd.V_mono (Kd.V_far (p := ⟨gb111, 1, none⟩) (Kd.V_far (p := ⟨gb111, 0, none⟩) (Kd.V_mono HL110_1.out (fun k_ hk => (⟨hk, hk.2⟩ : _ ∧ k_ ≠ gb111))) (fun _ hk => hk.2) (.int .i64 ((rd_T42 l0 x8_1).f0))) (fun _ hk => hk.2) (.slice A110_1 ((rd_T42 l0 x8_1).f1).length c110_1)) (fun _ hk => by first | exact ⟨hk.1.1.1, ⟨hk.1.1.2, hk.1.2⟩⟩ | exact trivial)))⟩; have n3_ : Aside0 (w8.heap[gb111]? = some (.cells #[.int .i64 ((rd_T42 l0 x8_1).f0), .slice A110_1 ((rd_T42 l0 x8_1).f1).length c110_1] 42 (0, 0))) := ⟨(by rw [hw]; exact (by refine RFn.d3 ?_; refine blk_put (cs := #[.int .i64 ((rd_T42 l0 x8_1).f0), .slice none 0 0]) ?_ 1 _ rfl; refine RFn.d3 ?_; refine blk_put (cs := #[.int .i64 0, .slice none 0 0]) ?_ 0 _ rfl; refine RFn.d3 ?_; exact BK111.out))⟩; have n4_ : Aside0 (Below w.heap.size w w8) := ⟨(by rw [hw]; exact RFn.bels)⟩; clear hw; clear HO_3; clear HO_6; clear HL110_1; clear BK111; clear HB; have HO_3 := n0_; have HO_6 := n1_; have HL110_1 := n2_; have BK111 := n3_; have HB := n4_; clear n0_ n1_ n2_ n3_ n4_; obtain ⟨hcz9_0, hcz9_1⟩ := RFn.bc2 BK111; obtain ⟨hfz9_0, hfz9_1⟩ := RFn.bf2 BK111) | ((with_reducible refine gate_builtin (b := .append) (xs := #[.tmp 12, .tmp 14]) rfl ?_); at_builtin; refine Kd.N_append k49 (w0 := w) w.heap.size rfl (.tmp 12) (.tmp 14) 22 49 (.agg #[(.int .i64 0), (.slice none 0 0)]) 32 rfl Tryd.underlying22 info49 rfl (by decide) (by omega) u3 x3_1 (⟨(rd_T42 l0 x8_1).f0, (rd_T42 l0 x8_1).f1⟩ : S49) [.int .i64 ((rd_T42 l0 x8_1).f0), .slice A110_1 ((rd_T42 l0 x8_1).f1).length c110_1] (fun k_ => (P0_ k_ ∨ w.heap.size ≤ k_) ∧ k_ ≠ gb111) (fun k_ => ((fun k_ => (P0_ k_ ∨ w.heap.size ≤ k_) ∧ k_ ≠ gb111)) k_ ∧ some k_ ≠ (u3 : Value).ownBlock) rfl rfl ?aP (fun _ hk => hk) ?aF ?aO ?aB ?aS ?aL ?_; (case aP => exact (k49_mkF _ _ (⟨(rd_T42 l0 x8_1).f0, (rd_T42 l0 x8_1).f1⟩ : S49) (Kd.V_reads' (Kd.V_mono (ok' := (fun k_ => ((fun k_ => (P0_ k_ ∨ w.heap.size ≤ k_) ∧ k_ ≠ gb111)) k_ ∧ some k_ ≠ (u3 : Value).ownBlock)) (HL110_1.out) (fun k_ hk => ⟨⟨hk.1, hk.2.2⟩, hk.2.1⟩))).2.1 (Kd.V_F (Kd.V_mono (ok' := (fun k_ => ((fun k_ => (P0_ k_ ∨ w.heap.size ≤ k_) ∧ k_ ≠ gb111)) k_ ∧ some k_ ≠ (u3 : Value).ownBlock)) (HL110_1.out) (fun k_ hk => ⟨⟨hk.1, hk.2.2⟩, hk.2.1⟩))))); (case aB => exact RFn.bels); (case aF => exact (fun k_ hk => ⟨(.inr (Nat.le_trans (below_size RFn.bels) hk)), Kd.freshB (g := gb111) RFn.blk k_ hk⟩)); (case aO => exact (by (with_reducible repeat (first | apply Kd.N_alloc | apply Kd.N_drewN | apply Kd.N_drew)); exact HO_3.out)); (case aS => exact (below_size RFn.bels)); (case aL => have := LMc5.out; omega); intro v113 w10 ho hb hg hat; rw [← Ny112.out] at ho; have n0_ := Aside0.mk (Kd.V_afterv (ok := (fun k_ => (P0_ k_ ∨ w.heap.size ≤ k_) ∧ k_ ≠ gb111)) (by (with_reducible repeat (first | apply Kd.V_alloc | apply Kd.V_drewN | apply Kd.V_drew)); exact Kd.V_mono HO_6.out (fun _ hk => by first | exact ⟨⟨hk.1, hk.2.2⟩, hk.2.1⟩ | exact trivial)) hg hat); have n1_ := Aside0.mk (Kd.V_afterv (ok := (fun k_ => (P0_ k_ ∨ w.heap.size ≤ k_) ∧ k_ ≠ gb111)) (by (with_reducible repeat (first | apply Kd.V_alloc | apply Kd.V_drewN | apply Kd.V_drew)); exact Kd.V_mono HL110_1.out (fun _ hk => by first | exact ⟨⟨hk.1, hk.2.2⟩, hk.2.1⟩ | exact trivial)) hg hat); have n2_ := Aside0.mk (blk_grown (g := gb111) RFn.blk hg (Kd.N_ne HO_3.out BK111.out (by decide))); have n3_ := Aside0.mk (hb); have n4_ := Aside0.mk (ho); clear HO_6; clear HL110_1; clear BK111; clear HB; clear HO_3; have HO_6 := n0_; have HL110_1 := n1_; have BK111 := n2_; have HB := n3_; have HO114 := n4_; clear n0_ n1_ n2_ n3_ n4_; clear ho hb hg hat))
       go_roundg k1
       case measure => have := HK1.out; omega
       case rel => exact ⟨(y112), (wrap64 (x8_1 + 1)), (by first | rfl | (simp; done) | (simp [*]; done)), H', ⟨RFn.lk HK1⟩, ⟨by (with_reducible repeat (first | apply Kd.N_alloc | apply Kd.N_drewN | apply Kd.N_drew)); exact Kd.N_mono HO114.out (fun _ hk => by first | exact hk.1 | exact trivial)⟩, ⟨by (with_reducible repeat (first | apply Kd.V_alloc | apply Kd.V_drewN | apply Kd.V_drew)); exact Kd.V_mono HO_6.out (fun _ hk => by first | exact ⟨hk.1.1, hk.2⟩ | exact trivial)⟩, ⟨RFn.bels⟩⟩
      ·rw [if_neg c5] at H
       exact absurd H (by simp)
     ·rw [if_neg c4] at H
      exact absurd H (by simp)
    ·rw [if_neg c3] at H
     exact absurd H (by simp)
   ·rw [if_neg c2] at H
    have c2b0 : decide (x8_1 < (l0.length : Int)) = false := decide_eq_false c2
    clear c2
    obtain rfl := Option.some.inj H
    go_wp2
    go_ret
    exact ⟨_, by first | rfl | (simp [errW_none, errW_some] <;> rfl) | (simp [*, errW_none, errW_some] <;> rfl), by (with_reducible repeat (first | apply Kd.N_alloc | apply Kd.N_drewN | apply Kd.N_drew)); exact HO_3.out, RFn.bel⟩
/-! ### lex_Name: function 14 -/
def lex_Name.f (a0 : ByteArray) : Option Bool := some (Go.Proofs.YtffdhekmnoajiaaDoor.X.nameB a0)
theorem lex_Name.calls (a0 : ByteArray) (r : Bool) (w : World) (h : lex_Name.f a0 = some r) :
  Calls Tryd.prog 14 #[.string a0] w fun e w' => e = .returned (.bool r) ∧ Below w.heap.size w w' := by
 obtain rfl := Option.some.inj h
 exact Go.Proofs.YtffdhekmnoajiaaDoor.X.name_calls a0 w
/-! ### lex_Join: function 16 -/
def lex_Join.f (l0 : List S42) : Option ByteArray := Go.Proofs.YtffdhekmnoajiaaDoor.X.joinF l0
theorem lex_Join.calls (A0 : Option Addr) (c0 : Nat) (l0 : List S42) (r : ByteArray) (w : World) (hr0 : Kd.C k42 w A0 l0.length l0) (hc0 : l0.length ≤ c0) (h : lex_Join.f l0 = some r) :
  Calls Tryd.prog 16 #[.slice A0 l0.length c0] w fun e w' => e = .returned (.string r) ∧ Below w.heap.size w w' := Go.Proofs.YtffdhekmnoajiaaDoor.X.lex_join_calls A0 c0 l0 r w hr0 h
/-! ### slices_Index_string_string: function 35 -/
def slices_Index_string_string.l0 : Nat → List ByteArray → ByteArray → Int → Int → Option (Int)
 | 0, _, _, _, _ => none
 | k + 1, x0, x1, x7, x8 => if x8 < x7 then (if 0 ≤ x8 then (if x8 < (x0.length : Int) then (if x1.toList = (rdOf ByteArray.empty x0 x8).toList then (some x8) else (slices_Index_string_string.l0 k x0 x1 x7 (wrap64 (x8 + 1)))) else (none)) else (none)) else (some (-1))
def slices_Index_string_string.f (k : Nat) (l0 : List ByteArray) (a1 : ByteArray) : Option (Int) := slices_Index_string_string.l0 k l0 a1 (l0.length : Int) 0
theorem slices_Index_string_string.mono_l : ∀ k, (∀ y0 y1 y2 y3, LeO (slices_Index_string_string.l0 k y0 y1 y2 y3) (slices_Index_string_string.l0 (k + 1) y0 y1 y2 y3))
 | 0 => fun _ _ _ _ r h => by simp [slices_Index_string_string.l0] at h
 | k + 1 => by
  have ih0 := slices_Index_string_string.mono_l k
  ·intro y0 y1 y2 y3
   unfold slices_Index_string_string.l0
   repeat' with_reducible first | exact LeO.refl _ | apply ih0 | exact LeO.none _ | apply LeO.ite | refine LeO.bind ?_ fun _ => ?_
theorem slices_Index_string_string.mono : ∀ a0 a1 k, LeO (slices_Index_string_string.f k a0 a1) (slices_Index_string_string.f (k + 1) a0 a1) := by
 intro a0 a1 k
 have ih0 := slices_Index_string_string.mono_l k
 unfold slices_Index_string_string.f
 repeat' with_reducible first | exact LeO.refl _ | apply ih0 | exact LeO.none _ | apply LeO.ite | refine LeO.bind ?_ fun _ => ?_
set_option maxHeartbeats 8000000 in
set_option maxRecDepth 100000 in
theorem slices_Index_string_string.calls (k : Nat) (A0 : Option Addr) (c0 : Nat) (l0 : List ByteArray) (a1 : ByteArray) (r : Int) (w : World) (hr0 : Kd.C Kd.string w A0 l0.length l0) (hc0 : l0.length ≤ c0) (h : slices_Index_string_string.f k l0 a1 = some r) :
  Calls Tryd.prog 35 #[.slice A0 l0.length c0, .string a1] w fun e w' => e = .returned (.int .i64 r) ∧ Drawn0 w w' := by
 have HR0 := Aside0.mk hr0
 have HC0 := Aside0.mk hc0
 clear hr0 hc0
 have H : (slices_Index_string_string.l0 k l0 a1 (l0.length : Int) 0) = some r := h
 clear h
 have H' := Aside0.mk H
 clear H
 go_enter Tryd.func35, Tryd.ntmps35
 go_wp2
 go_loopg [8] k (fun kq v8 w' => ∃ (x8_1 : Int), v8 = .int .i64 x8_1 ∧ Aside0 (slices_Index_string_string.l0 kq l0 a1 (l0.length : Int) x8_1 = some r) ∧ Aside0 (kq ≤ k) ∧ Drawn0 w w')
 case atStart => exact ⟨(0), (by first | rfl | (simp; done) | (simp [*]; done)), H', ⟨Nat.le_refl _⟩, by repeat (first | exact Drawn0.refl _ | apply Drawn0.step)⟩
 case round =>
  clear H'
  obtain ⟨x8_1, rfl, HA, HK1, ⟨m1, rfl⟩⟩ := hrel
  cases gk with
  | zero => exact absurd HA.out (by simp [slices_Index_string_string.l0])
  | succ k1 =>
   have H := HA.out
   clear HA
   simp only [slices_Index_string_string.l0] at H
   by_cases c3 : x8_1 < (l0.length : Int)
   ·rw [if_pos c3] at H
    have c3b0 : decide (x8_1 < (l0.length : Int)) = true := decide_eq_true c3
    clear c3
    by_cases c4 : 0 ≤ x8_1
    ·rw [if_pos c4] at H
     have c4b0 : decide (0 ≤ x8_1) = true := decide_eq_true c4
     clear c4
     by_cases c5 : x8_1 < (l0.length : Int)
     ·rw [if_pos c5] at H
      have c5b0 : decide (x8_1 < (l0.length : Int)) = true := decide_eq_true c5
      clear c5
      by_cases c6 : a1.toList = (rdOf ByteArray.empty l0 x8_1).toList
      ·rw [if_pos c6] at H
       have c6b0 : (a1.toList == (rdOf ByteArray.empty l0 x8_1).toList) = true := beq_iff_eq.mpr c6
       have c6b1 : (a1.toList != (rdOf ByteArray.empty l0 x8_1).toList) = false := bne_eq_false_iff_eq.mpr c6
       clear c6
       obtain rfl := Option.some.inj H
       have p115 : 0 ≤ (x8_1 : Int) := RFn.od
       have q115 : x8_1 < (l0.length : Int) := RFn.od
       obtain ⟨ad115, e115, hx115_0⟩ := Kd.at_string HR0.out x8_1 p115 q115
       cases e115
       replace p115 := eq_true p115
       replace q115 := eq_true q115
       go_wp2
       go_ret
       exact ⟨by first | rfl | (simp; done) | (simp [*]; done), by repeat (first | exact Drawn0.refl _ | apply Drawn0.step)⟩
      ·rw [if_neg c6] at H
       have c6b0 : (a1.toList == (rdOf ByteArray.empty l0 x8_1).toList) = false := beq_eq_false_iff_ne.mpr c6
       have c6b1 : (a1.toList != (rdOf ByteArray.empty l0 x8_1).toList) = true := bne_iff_ne.mpr c6
       have H' := Aside0.mk H
       clear H
       have p115 : 0 ≤ (x8_1 : Int) := RFn.od
       have q115 : x8_1 < (l0.length : Int) := RFn.od
       obtain ⟨ad115, e115, hx115_0⟩ := Kd.at_string HR0.out x8_1 p115 q115
       cases e115
       replace p115 := eq_true p115
       replace q115 := eq_true q115
       go_wp2
       go_roundg k1
       case measure => have := HK1.out; omega
       case rel => exact ⟨(wrap64 (x8_1 + 1)), (by first | rfl | (simp; done) | (simp [*]; done)), H', ⟨RFn.lk HK1⟩, by repeat (first | exact Drawn0.refl _ | apply Drawn0.step)⟩
     ·rw [if_neg c5] at H
      exact absurd H (by simp)
    ·rw [if_neg c4] at H
     exact absurd H (by simp)
   ·rw [if_neg c3] at H
    have c3b0 : decide (x8_1 < (l0.length : Int)) = false := decide_eq_false c3
    clear c3
    obtain rfl := Option.some.inj H
    go_wp2
    go_ret
    exact ⟨by first | rfl | (simp; done) | (simp [*]; done), by repeat (first | exact Drawn0.refl _ | apply Drawn0.step)⟩
/-! ### lex_Pick: function 19 -/
def lex_Pick.f (k : Nat) (a0 : ByteArray) (l1 : List ByteArray) : Option (Int) := (slices_Index_string_string.f k l1 a0).bind fun t116 => (some t116)
theorem lex_Pick.mono : ∀ a0 a1 k, LeO (lex_Pick.f k a0 a1) (lex_Pick.f (k + 1) a0 a1) := by
 intro a0 a1 k
 unfold lex_Pick.f
 repeat' with_reducible first | exact LeO.refl _ | apply slices_Index_string_string.mono | exact LeO.none _ | apply LeO.ite | refine LeO.bind ?_ fun _ => ?_
set_option maxHeartbeats 8000000 in
set_option maxRecDepth 100000 in
theorem lex_Pick.calls (k : Nat) (a0 : ByteArray) (A1 : Option Addr) (c1 : Nat) (l1 : List ByteArray) (r : Int) (w : World) (hr1 : Kd.C Kd.string w A1 l1.length l1) (hc1 : l1.length ≤ c1) (h : lex_Pick.f k a0 l1 = some r) :
  Calls Tryd.prog 19 #[.string a0, .slice A1 l1.length c1] w fun e w' => e = .returned (.int .i64 r) ∧ Drawn0 w w' := by
 have HR1 := Aside0.mk hr1
 have HC1 := Aside0.mk hc1
 clear hr1 hc1
 have H : ((slices_Index_string_string.f k l1 a0).bind fun t116 => (some t116)) = some r := h
 clear h
 obtain ⟨t116, A3, H⟩ := RFn.bn H
 obtain rfl := Option.some.inj H
 go_enter Tryd.func19, Tryd.ntmps19
 go_wp2_with (first | ((with_reducible refine gate_callee (f := 35) rfl ?_); refine RFn.goesM (some 7) Tryd.func35 #[.slice A1 l1.length c1, .string a0] rfl ?_; (with_reducible refine (slices_Index_string_string.calls k _ _ l1 a0 t116 _ ?side1 ?side2 A3.out).mono ?_); (case side1 => exact RFn.mC HR1.out); (case side2 => exact HC1.out); rintro e w' ⟨rfl, ⟨nd, rfl⟩⟩; refine ⟨_, rfl, ?_⟩))
 go_ret
 exact ⟨by first | rfl | (simp; done) | (simp [*]; done), by repeat (first | exact Drawn0.refl _ | apply Drawn0.step)⟩
/-! ### law05_alive: function 8 -/
def law05_alive.j0 : Nat → List (S42) → Int → Int → Option (Bool)
 | 0, _, _, _ => none
 | k + 1, x1, x2, x4 => if x2 = 0 then ((law05_Ours.f k x1).bind fun t125 => ((ref05_Same.f k t125 (([(⟨1, (([(⟨#[97]⟩ : ByteArray), (⟨#[98]⟩ : ByteArray)] : List ByteArray))⟩ : S49), (⟨3, (([(⟨#[100]⟩ : ByteArray)] : List ByteArray))⟩ : S49)] : List (S49)))).bind fun t137 => (if t137 = true then (if x4 = 5 then ((lex_Name.f (⟨#[97, 98, 45, 49]⟩ : ByteArray)).bind fun t138 => (if t138 = true then ((lex_Name.f (⟨#[49, 97]⟩ : ByteArray)).bind fun t139 => (if t139 = true then (some false) else ((lex_Join.f x1).bind fun t140 => (if t140.toList = ([97, 32, 98, 10, 100, 10] : List UInt8) then ((lex_Pick.f k (⟨#[98]⟩ : ByteArray) (([(⟨#[97]⟩ : ByteArray), (⟨#[98]⟩ : ByteArray)] : List ByteArray))).bind fun t144 => (some (t144 == 1))) else (some false))))) else (some false))) else (some false)) else (some false)))) else (some false)
def law05_alive.f (k : Nat)  : Option (Bool) := (lex_Lines.f (⟨#[97, 32, 98, 32, 35, 32, 99, 10, 10, 32, 100]⟩ : ByteArray)).bind fun bt117 => ((lex_Lines.f (⟨#[0]⟩ : ByteArray)).bind fun bt121 => (law05_alive.j0 k bt117.1 bt117.2 bt121.2))
theorem law05_alive.mono_l : ∀ k, (∀ y0 y1 y2, LeO (law05_alive.j0 k y0 y1 y2) (law05_alive.j0 (k + 1) y0 y1 y2))
 | 0 => fun _ _ _ r h => by simp [law05_alive.j0] at h
 | k + 1 => by
  have ih0 := law05_alive.mono_l k
  ·intro y0 y1 y2
   unfold law05_alive.j0
   repeat' with_reducible first | exact LeO.refl _ | apply ih0 | apply law05_Ours.mono | apply lex_Pick.mono | apply ref05_Same.mono | exact LeO.none _ | apply LeO.ite | refine LeO.bind ?_ fun _ => ?_
theorem law05_alive.mono : ∀ k, LeO (law05_alive.f k ) (law05_alive.f (k + 1) ) := by
 intro  k
 have ih0 := law05_alive.mono_l k
 unfold law05_alive.f
 repeat' with_reducible first | exact LeO.refl _ | apply ih0 | apply law05_Ours.mono | apply lex_Pick.mono | apply ref05_Same.mono | exact LeO.none _ | apply LeO.ite | refine LeO.bind ?_ fun _ => ?_
set_option maxHeartbeats 8000000 in
set_option maxRecDepth 100000 in
theorem law05_alive.calls (k : Nat)  (r : Bool) (w : World) (h : law05_alive.f k  = some r) (hLd_ : Go.Proofs.YtffdhekmnoajiaaDoor.X.LaidW w) :
  Calls Tryd.prog 8 #[] w fun e w' => e = .returned (.bool r) ∧ Below w.heap.size w w' := by
 have hu49 := Tryd.underlying49
 have HB := Aside0.mk (Below.refl w.heap.size w)
 have H : ((lex_Lines.f (⟨#[97, 32, 98, 32, 35, 32, 99, 10, 10, 32, 100]⟩ : ByteArray)).bind fun bt117 => ((lex_Lines.f (⟨#[0]⟩ : ByteArray)).bind fun bt121 => (law05_alive.j0 k bt117.1 bt117.2 bt121.2))) = some r := h
 clear h
 obtain ⟨⟨t117, t118⟩, A1, H⟩ := RFn.bn H
 have HC2 := Aside0.mk H
 clear H
 go_enter Tryd.func8, Tryd.ntmps8
 go_upto_region 2 with (first | ((with_reducible refine gate_callee (f := 10) rfl ?_); refine RFn.goesM (some 6) Tryd.func10 #[.string (⟨#[97, 32, 98, 32, 35, 32, 99, 10, 10, 32, 100]⟩ : ByteArray)] rfl ?_; (with_reducible refine (lex_Lines.calls (⟨#[97, 32, 98, 32, 35, 32, 99, 10, 10, 32, 100]⟩ : ByteArray) t117 t118 _ A1.out (Go.Proofs.YtffdhekmnoajiaaDoor.X.LaidW.below hLd_ RFn.bel)).mono ?_); rintro e w3 ⟨v119, rfl, ho0, hb⟩; refine ⟨_, rfl, ?_⟩; have n0_ := Aside0.mk (Kd.N_lower (Kd.N_mono (ok' := fun k_ => True) (Kd.S_N (Kd.S_bound ho0)) (fun k_ hk_ => trivial)) (below_size (RFn.bel))); have n1_ := Aside0.mk (below_step (RFn.bel) hb); clear HB; have HO120 := n0_; have HB := n1_; clear n0_ n1_; (try clear hb); (try clear ho0)))
 (try simp only [Act.put, List.setIfInBounds_toArray, List.set_cons_zero, List.set_cons_succ])
 go_cut [4] (fun v4 wc => ∃ (kq : Nat) (x4_1 : Int), v4 = .int .i64 x4_1 ∧ Aside0 (law05_alive.j0 kq t117 t118 x4_1 = some r) ∧ Aside0 (kq ≤ k) ∧ Aside0 (Kd.N k42 42 wc w.heap.size (fun _ => True) v119 t117) ∧ Aside0 (Below w.heap.size w wc))
 case first =>
  have H := HC2.out
  clear HC2
  obtain ⟨⟨t121, t122⟩, A4, H⟩ := RFn.bn H
  have H' := Aside0.mk H
  clear H
  go_wp2_with (first | ((with_reducible refine gate_callee (f := 10) rfl ?_); refine RFn.goesM (some 10) Tryd.func10 #[.string (⟨#[0]⟩ : ByteArray)] rfl ?_; (with_reducible refine (lex_Lines.calls (⟨#[0]⟩ : ByteArray) t121 t122 _ A4.out (Go.Proofs.YtffdhekmnoajiaaDoor.X.LaidW.below hLd_ RFn.bel)).mono ?_); rintro e w5 ⟨v123, rfl, ho0, hb⟩; refine ⟨_, rfl, ?_⟩; have n0_ := Aside0.mk (Kd.N_elder' (by (with_reducible repeat (first | apply Kd.N_alloc | apply Kd.N_drewN | apply Kd.N_drew)); exact HO120.out) (Kd.S_base ho0) hb); have n1_ := Aside0.mk (Kd.N_lower (Kd.N_mono (ok' := fun k_ => some k_ ≠ (v119 : Value).ownBlock) (Kd.S_N (Kd.S_bound ho0)) (fun k_ hk_ => (Kd.fresh' (Kd.N_lt (by (with_reducible repeat (first | apply Kd.N_alloc | apply Kd.N_drewN | apply Kd.N_drew)); exact HO120.out)) k_ hk_.2.1))) (below_size (RFn.bel))); have n2_ := Aside0.mk (below_step (RFn.bel) hb); clear HO120; clear HB; have HO120 := n0_; have HO124 := n1_; have HB := n2_; clear n0_ n1_ n2_; (try clear hb); (try clear ho0)))
  go_meet
  case rel => exact ⟨_, (t122), (by first | rfl | (simp; done) | (simp [*]; done)), H', ⟨by first | omega | exact Nat.le_refl _⟩, ⟨by (with_reducible repeat (first | apply Kd.N_alloc | apply Kd.N_drewN | apply Kd.N_drew)); exact Kd.N_mono HO120.out (fun _ hk => by first | exact trivial | exact trivial)⟩, ⟨RFn.bel⟩⟩
 case rest =>
  clear HC2
  obtain ⟨kq, x4_1, rfl, HA, HJ1, HO_1, HB⟩ := hcut
  cases kq with
  | zero => exact absurd HA.out (by simp [law05_alive.j0])
  | succ kj1 =>
   have H := HA.out
   clear HA
   simp only [law05_alive.j0] at H
   by_cases c6 : t118 = 0
   ·rw [if_pos c6] at H
    have c6b0 : (t118 == 0) = true := beq_iff_eq.mpr c6
    have c6b1 : (t118 != 0) = false := bne_eq_false_iff_eq.mpr c6
    clear c6
    obtain ⟨t125, A7, H⟩ := RFn.bn H
    obtain ⟨y128, hy128⟩ : ∃ y_ : List ByteArray, y_ = (([(⟨#[97]⟩ : ByteArray), (⟨#[98]⟩ : ByteArray)] : List ByteArray)) := ⟨_, rfl⟩
    replace H : ((ref05_Same.f kj1 t125 (([(⟨1, y128⟩ : S49), (⟨3, (([(⟨#[100]⟩ : ByteArray)] : List ByteArray))⟩ : S49)] : List (S49)))).bind fun t137 => (if t137 = true then (if x4_1 = 5 then ((lex_Name.f (⟨#[97, 98, 45, 49]⟩ : ByteArray)).bind fun t138 => (if t138 = true then ((lex_Name.f (⟨#[49, 97]⟩ : ByteArray)).bind fun t139 => (if t139 = true then (some false) else ((lex_Join.f t117).bind fun t140 => (if t140.toList = ([97, 32, 98, 10, 100, 10] : List UInt8) then ((lex_Pick.f kj1 (⟨#[98]⟩ : ByteArray) (([(⟨#[97]⟩ : ByteArray), (⟨#[98]⟩ : ByteArray)] : List ByteArray))).bind fun t144 => (some (t144 == 1))) else (some false))))) else (some false))) else (some false)) else (some false))) = some r := RFn.rp H hy128
    have Ny128 := Aside0.mk hy128
    clear hy128
    obtain ⟨y131, hy131⟩ : ∃ y_ : List ByteArray, y_ = (([(⟨#[100]⟩ : ByteArray)] : List ByteArray)) := ⟨_, rfl⟩
    replace H : ((ref05_Same.f kj1 t125 (([(⟨1, y128⟩ : S49), (⟨3, y131⟩ : S49)] : List (S49)))).bind fun t137 => (if t137 = true then (if x4_1 = 5 then ((lex_Name.f (⟨#[97, 98, 45, 49]⟩ : ByteArray)).bind fun t138 => (if t138 = true then ((lex_Name.f (⟨#[49, 97]⟩ : ByteArray)).bind fun t139 => (if t139 = true then (some false) else ((lex_Join.f t117).bind fun t140 => (if t140.toList = ([97, 32, 98, 10, 100, 10] : List UInt8) then ((lex_Pick.f kj1 (⟨#[98]⟩ : ByteArray) (([(⟨#[97]⟩ : ByteArray), (⟨#[98]⟩ : ByteArray)] : List ByteArray))).bind fun t144 => (some (t144 == 1))) else (some false))))) else (some false))) else (some false)) else (some false))) = some r := RFn.rp H hy131
    have Ny131 := Aside0.mk hy131
    clear hy131
    obtain ⟨y134, hy134⟩ : ∃ y_ : List (S49), y_ = (([(⟨1, y128⟩ : S49), (⟨3, y131⟩ : S49)] : List (S49))) := ⟨_, rfl⟩
    replace H : ((ref05_Same.f kj1 t125 y134).bind fun t137 => (if t137 = true then (if x4_1 = 5 then ((lex_Name.f (⟨#[97, 98, 45, 49]⟩ : ByteArray)).bind fun t138 => (if t138 = true then ((lex_Name.f (⟨#[49, 97]⟩ : ByteArray)).bind fun t139 => (if t139 = true then (some false) else ((lex_Join.f t117).bind fun t140 => (if t140.toList = ([97, 32, 98, 10, 100, 10] : List UInt8) then ((lex_Pick.f kj1 (⟨#[98]⟩ : ByteArray) (([(⟨#[97]⟩ : ByteArray), (⟨#[98]⟩ : ByteArray)] : List ByteArray))).bind fun t144 => (some (t144 == 1))) else (some false))))) else (some false))) else (some false)) else (some false))) = some r := RFn.rp H hy134
    have Ny134 := Aside0.mk hy134
    clear hy134
    obtain ⟨t137, A8, H⟩ := RFn.bn H
    by_cases c9 : t137 = true
    ·subst c9
     have H1 : (if x4_1 = 5 then ((lex_Name.f (⟨#[97, 98, 45, 49]⟩ : ByteArray)).bind fun t138 => (if t138 = true then ((lex_Name.f (⟨#[49, 97]⟩ : ByteArray)).bind fun t139 => (if t139 = true then (some false) else ((lex_Join.f t117).bind fun t140 => (if t140.toList = ([97, 32, 98, 10, 100, 10] : List UInt8) then ((lex_Pick.f kj1 (⟨#[98]⟩ : ByteArray) (([(⟨#[97]⟩ : ByteArray), (⟨#[98]⟩ : ByteArray)] : List ByteArray))).bind fun t144 => (some (t144 == 1))) else (some false))))) else (some false))) else (some false)) = some r := by rw [if_pos rfl] at H; exact H
     clear H
     have H := H1
     clear H1
     by_cases c10 : x4_1 = 5
     ·rw [if_pos c10] at H
      have c10b0 : (x4_1 == 5) = true := beq_iff_eq.mpr c10
      have c10b1 : (x4_1 != 5) = false := bne_eq_false_iff_eq.mpr c10
      clear c10
      obtain ⟨t138, A11, H⟩ := RFn.bn H
      by_cases c12 : t138 = true
      ·subst c12
       have H1 : ((lex_Name.f (⟨#[49, 97]⟩ : ByteArray)).bind fun t139 => (if t139 = true then (some false) else ((lex_Join.f t117).bind fun t140 => (if t140.toList = ([97, 32, 98, 10, 100, 10] : List UInt8) then ((lex_Pick.f kj1 (⟨#[98]⟩ : ByteArray) (([(⟨#[97]⟩ : ByteArray), (⟨#[98]⟩ : ByteArray)] : List ByteArray))).bind fun t144 => (some (t144 == 1))) else (some false))))) = some r := by rw [if_pos rfl] at H; exact H
       clear H
       have H := H1
       clear H1
       obtain ⟨t139, A13, H⟩ := RFn.bn H
       by_cases c14 : t139 = true
       ·subst c14
        have H1 : (some false) = some r := by rw [if_pos rfl] at H; exact H
        clear H
        have H := H1
        clear H1
        obtain rfl := Option.some.inj H
        obtain ⟨Ao15, co15, eo15⟩ := Kd.N_slice HO_1.out
        subst eo15
        go_wp2_with (first | (go_at_call 13; (with_reducible refine (law05_Ours.calls kj1 (fun k_ => True) _ _ t117 t125 _ ?side1 A7.out).mono ?_); (case side1 => exact Kd.N_V (HO_1.out)); rintro e w16 ⟨v126, rfl, ho0, hb⟩; have n0_ := Aside0.mk (Kd.N_elder' (by (with_reducible repeat (first | apply Kd.N_alloc | apply Kd.N_drewN | apply Kd.N_drew)); exact HO_1.out) (Kd.N_base ho0) hb); have n1_ := Aside0.mk (Kd.N_lower (Kd.N_mono (ok' := fun k_ => True) ho0 (fun k_ hk_ => trivial)) (below_size (RFn.bel))); have n2_ := Aside0.mk (below_step (RFn.bel) hb); clear HO_1; clear HB; have HO_1 := n0_; have HO127 := n1_; have HB := n2_; clear n0_ n1_ n2_; (try clear hb); (try clear hk); (try clear ho0)) | ((with_reducible refine gate_dst (N := 18) rfl ?_); (try (refine gate_guard (by rfl) ?_; dsimp only)); refine Kd.R_lit Kd.string _ 9 ?hg (N := 18) ?hd (xs := ([(⟨#[97]⟩ : ByteArray), (⟨#[98]⟩ : ByteArray)] : List ByteArray)) (inner := [.string (⟨#[97]⟩ : ByteArray), .string (⟨#[98]⟩ : ByteArray)]) (ok := fun _ => True) (okp := fun _ => True) ?hr ?hp (fun _ hk => hk) trivial (Below.refl _ _) (Nat.le_refl _) (by simp) ?_; (case hd => rfl); (case hg => rfl); (case hr => first | (go_simp; done) | (go_simp; rfl)); (case hp => exact (Reps.one (show Kd.M Kd.string _ _ _ (⟨#[97]⟩ : ByteArray) [.string (⟨#[97]⟩ : ByteArray)] from rfl) (Reps.one (show Kd.M Kd.string _ _ _ (⟨#[98]⟩ : ByteArray) [.string (⟨#[98]⟩ : ByteArray)] from rfl) (Reps.none _ _)))); intro v129 w17 ho18 hb hg_ hnew_; clear hg_ hnew_; (first | rw [← Ny128.out] at ho18 | (simp only [Int.reduceToNat] at ho18; rw [← Ny128.out] at ho18)); have n0_ := Aside0.mk (Kd.N_elder' (by (with_reducible repeat (first | apply Kd.N_alloc | apply Kd.N_drewN | apply Kd.N_drew)); exact HO_1.out) (Kd.R_base ho18) hb); have n1_ := Aside0.mk (Kd.N_elder' (by (with_reducible repeat (first | apply Kd.N_alloc | apply Kd.N_drewN | apply Kd.N_drew)); exact HO127.out) (Kd.R_base ho18) hb); have n2_ := Aside0.mk (Kd.R_lower ho18 (below_size (RFn.bel))); have n3_ := Aside0.mk (below_step (RFn.bel) hb); clear HO_1; clear HO127; clear HB; have HO_1 := n0_; have HO127 := n1_; have HO130 := n2_; have HB := n3_; clear n0_ n1_ n2_ n3_; clear hb ho18; obtain ⟨Ao19, co19, eo19⟩ := Kd.R_slice HO130.out; subst eo19) | ((with_reducible refine gate_dst (N := 20) rfl ?_); (try (refine gate_guard (by rfl) ?_; dsimp only)); refine Kd.R_lit Kd.string _ 9 ?hg (N := 20) ?hd (xs := ([(⟨#[100]⟩ : ByteArray)] : List ByteArray)) (inner := [.string (⟨#[100]⟩ : ByteArray)]) (ok := fun _ => True) (okp := fun _ => True) ?hr ?hp (fun _ hk => hk) trivial (Below.refl _ _) (Nat.le_refl _) (by simp) ?_; (case hd => rfl); (case hg => rfl); (case hr => first | (go_simp; done) | (go_simp; rfl)); (case hp => exact (Reps.one (show Kd.M Kd.string _ _ _ (⟨#[100]⟩ : ByteArray) [.string (⟨#[100]⟩ : ByteArray)] from rfl) (Reps.none _ _))); intro v132 w20 ho21 hb hg_ hnew_; clear hg_ hnew_; (first | rw [← Ny131.out] at ho21 | (simp only [Int.reduceToNat] at ho21; rw [← Ny131.out] at ho21)); have n0_ := Aside0.mk (Kd.N_elder' (by (with_reducible repeat (first | apply Kd.N_alloc | apply Kd.N_drewN | apply Kd.N_drew)); exact HO_1.out) (Kd.R_base ho21) hb); have n1_ := Aside0.mk (Kd.N_elder' (by (with_reducible repeat (first | apply Kd.N_alloc | apply Kd.N_drewN | apply Kd.N_drew)); exact HO127.out) (Kd.R_base ho21) hb); have n2_ := Aside0.mk (Kd.R_elder' (RFn.mR HO130) (Kd.R_base ho21) hb); have n3_ := Aside0.mk (Kd.R_lower (Kd.R_new' ho21 (Kd.R_lt (RFn.mR HO130))) (below_size (RFn.bel))); have n4_ := Aside0.mk (below_step (RFn.bel) hb); clear HO_1; clear HO127; clear HO130; clear HB; have HO_1 := n0_; have HO127 := n1_; have HO130 := n2_; have HO133 := n3_; have HB := n4_; clear n0_ n1_ n2_ n3_ n4_; clear hb ho21; obtain ⟨Ao22, co22, eo22⟩ := Kd.R_slice HO133.out; subst eo22) | ((with_reducible refine gate_dst (N := 22) rfl ?_); (try (refine gate_guard (by rfl) ?_; dsimp only)); refine Kd.N_lit k49 _ 49 ?hg (N' := 22) ?hd (xs := ([(⟨1, y128⟩ : S49), (⟨3, y131⟩ : S49)] : List (S49))) (inner := [.int .i64 1, .slice Ao19 y128.length co19, .int .i64 3, .slice Ao22 y131.length co22]) (ok := (fun k_ => some k_ ≠ (.slice Ao15 t117.length co15 : Value).ownBlock ∧ some k_ ≠ (v126 : Value).ownBlock)) (okp := (fun k_ => some k_ ≠ (.slice Ao15 t117.length co15 : Value).ownBlock ∧ some k_ ≠ (v126 : Value).ownBlock)) ?hr ?hp (fun _ hk => hk) ((show ∀ k_, w20.heap.size ≤ k_ → (fun k_ => some k_ ≠ (.slice Ao15 t117.length co15 : Value).ownBlock ∧ some k_ ≠ (v126 : Value).ownBlock) k_ from fun k_ hk => ⟨Kd.fresh' (Kd.N_lt (by (with_reducible repeat (first | apply Kd.N_alloc | apply Kd.N_drewN | apply Kd.N_drew)); exact HO_1.out)) k_ hk, Kd.fresh' (Kd.N_lt (by (with_reducible repeat (first | apply Kd.N_alloc | apply Kd.N_drewN | apply Kd.N_drew)); exact HO127.out)) k_ hk⟩) _ (Nat.le_refl _)) (Below.refl _ _) (Nat.le_refl _) (by simp) ?_; (case hd => rfl); (case hg => rfl); (case hr => first | (go_simp; done) | (go_simp; rfl)); (case hp => exact (Reps.c2 (show Kd.FK k49 _ _ (⟨1, y128⟩ : S49) [.int .i64 1, .slice Ao19 y128.length co19] from (k49_mkF _ _ (⟨1, y128⟩ : S49) (Kd.R_reads' (Kd.R_mono (ok' := (fun k_ => some k_ ≠ (.slice Ao15 t117.length co15 : Value).ownBlock ∧ some k_ ≠ (v126 : Value).ownBlock)) (Kd.R_apart' (Kd.R_apart' (HO130.out) (Kd.N_typed HO_1.out) (by decide)) (Kd.N_typed HO127.out) (by decide)) (fun k_ hk => ⟨hk.1.2, hk.2⟩))).2.1 (Kd.R_F (Kd.R_mono (ok' := (fun k_ => some k_ ≠ (.slice Ao15 t117.length co15 : Value).ownBlock ∧ some k_ ≠ (v126 : Value).ownBlock)) (Kd.R_apart' (Kd.R_apart' (HO130.out) (Kd.N_typed HO_1.out) (by decide)) (Kd.N_typed HO127.out) (by decide)) (fun k_ hk => ⟨hk.1.2, hk.2⟩))))) (Reps.c2 (show Kd.FK k49 _ _ (⟨3, y131⟩ : S49) [.int .i64 3, .slice Ao22 y131.length co22] from (k49_mkF _ _ (⟨3, y131⟩ : S49) (Kd.R_reads' (Kd.R_mono (ok' := (fun k_ => some k_ ≠ (.slice Ao15 t117.length co15 : Value).ownBlock ∧ some k_ ≠ (v126 : Value).ownBlock)) (Kd.R_apart' (Kd.R_apart' (HO133.out) (Kd.N_typed HO_1.out) (by decide)) (Kd.N_typed HO127.out) (by decide)) (fun k_ hk => ⟨hk.1.2, hk.2⟩))).2.1 (Kd.R_F (Kd.R_mono (ok' := (fun k_ => some k_ ≠ (.slice Ao15 t117.length co15 : Value).ownBlock ∧ some k_ ≠ (v126 : Value).ownBlock)) (Kd.R_apart' (Kd.R_apart' (HO133.out) (Kd.N_typed HO_1.out) (by decide)) (Kd.N_typed HO127.out) (by decide)) (fun k_ hk => ⟨hk.1.2, hk.2⟩))))) (Reps.none _ _)))); intro v135 w23 ho24 hb hg_ hnew_; clear hg_ hnew_; (first | rw [← Ny134.out] at ho24 | (simp only [Int.reduceToNat] at ho24; rw [← Ny134.out] at ho24)); have n0_ := Aside0.mk (Kd.N_elder' (by (with_reducible repeat (first | apply Kd.N_alloc | apply Kd.N_drewN | apply Kd.N_drew)); exact HO_1.out) (Kd.N_base ho24) hb); have n1_ := Aside0.mk (Kd.N_elder' (by (with_reducible repeat (first | apply Kd.N_alloc | apply Kd.N_drewN | apply Kd.N_drew)); exact HO127.out) (Kd.N_base ho24) hb); have n2_ := Aside0.mk (Kd.N_lower ho24 (below_size (RFn.bel))); have n3_ := Aside0.mk (below_step (RFn.bel) hb); clear HO_1; clear HO127; clear HB; clear HO130; clear HO133; have HO_1 := n0_; have HO127 := n1_; have HO136 := n2_; have HB := n3_; clear n0_ n1_ n2_ n3_; clear hb ho24; obtain ⟨Ao25, co25, eo25⟩ := Kd.N_slice HO127.out; subst eo25; obtain ⟨Ao26, co26, eo26⟩ := Kd.N_slice HO136.out; subst eo26) | (go_at_call 12; (with_reducible refine (ref05_Same.calls kj1 _ _ t125 _ _ y134 true _ ?side1 ?side2 ?side3 ?side4 A8.out).mono ?_); (case side1 => exact RFn.mC (Kd.N_reads' HO127.out).2.2); (case side2 => exact (Kd.N_reads' HO127.out).2.1); (case side3 => exact RFn.mC (Kd.N_reads' HO136.out).2.2); (case side4 => exact (Kd.N_reads' HO136.out).2.1); rintro e w' ⟨rfl, ⟨nd, rfl⟩⟩) | (go_at_call 14; (with_reducible refine (lex_Name.calls (⟨#[97, 98, 45, 49]⟩ : ByteArray) true _ A11.out).mono ?_); rintro e w27 ⟨rfl, hb⟩; have n0_ := Aside0.mk (Kd.N_below (by (with_reducible repeat (first | apply Kd.N_alloc | apply Kd.N_drewN | apply Kd.N_drew)); exact HO_1.out) hb); have n1_ := Aside0.mk (Kd.N_below (by (with_reducible repeat (first | apply Kd.N_alloc | apply Kd.N_drewN | apply Kd.N_drew)); exact HO127.out) hb); have n2_ := Aside0.mk (Kd.N_below (by (with_reducible repeat (first | apply Kd.N_alloc | apply Kd.N_drewN | apply Kd.N_drew)); exact HO136.out) hb); have n3_ := Aside0.mk (below_step (RFn.bel) hb); clear HO_1; clear HO127; clear HO136; clear HB; have HO_1 := n0_; have HO127 := n1_; have HO136 := n2_; have HB := n3_; clear n0_ n1_ n2_ n3_; (try clear hb); (try clear hk)) | (go_at_call 14; (with_reducible refine (lex_Name.calls (⟨#[49, 97]⟩ : ByteArray) true _ A13.out).mono ?_); rintro e w28 ⟨rfl, hb⟩; have n0_ := Aside0.mk (Kd.N_below (by (with_reducible repeat (first | apply Kd.N_alloc | apply Kd.N_drewN | apply Kd.N_drew)); exact HO_1.out) hb); have n1_ := Aside0.mk (Kd.N_below (by (with_reducible repeat (first | apply Kd.N_alloc | apply Kd.N_drewN | apply Kd.N_drew)); exact HO127.out) hb); have n2_ := Aside0.mk (Kd.N_below (by (with_reducible repeat (first | apply Kd.N_alloc | apply Kd.N_drewN | apply Kd.N_drew)); exact HO136.out) hb); have n3_ := Aside0.mk (below_step (RFn.bel) hb); clear HO_1; clear HO127; clear HO136; clear HB; have HO_1 := n0_; have HO127 := n1_; have HO136 := n2_; have HB := n3_; clear n0_ n1_ n2_ n3_; (try clear hb); (try clear hk)))
        go_ret
        exact ⟨by first | rfl | (simp [errW_none, errW_some] <;> rfl) | (simp [*, errW_none, errW_some] <;> rfl), RFn.bel⟩
       ·replace c14 := Bool.eq_false_iff.mpr c14
        subst c14
        have H1 : ((lex_Join.f t117).bind fun t140 => (if t140.toList = ([97, 32, 98, 10, 100, 10] : List UInt8) then ((lex_Pick.f kj1 (⟨#[98]⟩ : ByteArray) (([(⟨#[97]⟩ : ByteArray), (⟨#[98]⟩ : ByteArray)] : List ByteArray))).bind fun t144 => (some (t144 == 1))) else (some false))) = some r := by rw [if_neg (show ¬ (false = true) by decide)] at H; exact H
        clear H
        have H := H1
        clear H1
        obtain ⟨t140, A29, H⟩ := RFn.bn H
        by_cases c30 : t140.toList = ([97, 32, 98, 10, 100, 10] : List UInt8)
        ·rw [if_pos c30] at H
         have c30b0 : (t140.toList == ([97, 32, 98, 10, 100, 10] : List UInt8)) = true := beq_iff_eq.mpr c30
         have c30b1 : (t140.toList != ([97, 32, 98, 10, 100, 10] : List UInt8)) = false := bne_eq_false_iff_eq.mpr c30
         clear c30
         obtain ⟨y141, hy141⟩ : ∃ y_ : List ByteArray, y_ = (([(⟨#[97]⟩ : ByteArray), (⟨#[98]⟩ : ByteArray)] : List ByteArray)) := ⟨_, rfl⟩
         replace H : ((lex_Pick.f kj1 (⟨#[98]⟩ : ByteArray) y141).bind fun t144 => (some (t144 == 1))) = some r := RFn.rp H hy141
         have Ny141 := Aside0.mk hy141
         clear hy141
         obtain ⟨t144, A31, H⟩ := RFn.bn H
         obtain rfl := Option.some.inj H
         obtain ⟨Ao32, co32, eo32⟩ := Kd.N_slice HO_1.out
         subst eo32
         go_wp2_with (first | (go_at_call 13; (with_reducible refine (law05_Ours.calls kj1 (fun k_ => True) _ _ t117 t125 _ ?side1 A7.out).mono ?_); (case side1 => exact Kd.N_V (HO_1.out)); rintro e w33 ⟨v126, rfl, ho0, hb⟩; have n0_ := Aside0.mk (Kd.N_elder' (by (with_reducible repeat (first | apply Kd.N_alloc | apply Kd.N_drewN | apply Kd.N_drew)); exact HO_1.out) (Kd.N_base ho0) hb); have n1_ := Aside0.mk (Kd.N_lower (Kd.N_mono (ok' := fun k_ => True) ho0 (fun k_ hk_ => trivial)) (below_size (RFn.bel))); have n2_ := Aside0.mk (below_step (RFn.bel) hb); clear HO_1; clear HB; have HO_1 := n0_; have HO127 := n1_; have HB := n2_; clear n0_ n1_ n2_; (try clear hb); (try clear hk); (try clear ho0)) | ((with_reducible refine gate_dst (N := 18) rfl ?_); (try (refine gate_guard (by rfl) ?_; dsimp only)); refine Kd.R_lit Kd.string _ 9 ?hg (N := 18) ?hd (xs := ([(⟨#[97]⟩ : ByteArray), (⟨#[98]⟩ : ByteArray)] : List ByteArray)) (inner := [.string (⟨#[97]⟩ : ByteArray), .string (⟨#[98]⟩ : ByteArray)]) (ok := fun _ => True) (okp := fun _ => True) ?hr ?hp (fun _ hk => hk) trivial (Below.refl _ _) (Nat.le_refl _) (by simp) ?_; (case hd => rfl); (case hg => rfl); (case hr => first | (go_simp; done) | (go_simp; rfl)); (case hp => exact (Reps.one (show Kd.M Kd.string _ _ _ (⟨#[97]⟩ : ByteArray) [.string (⟨#[97]⟩ : ByteArray)] from rfl) (Reps.one (show Kd.M Kd.string _ _ _ (⟨#[98]⟩ : ByteArray) [.string (⟨#[98]⟩ : ByteArray)] from rfl) (Reps.none _ _)))); intro v129 w34 ho35 hb hg_ hnew_; clear hg_ hnew_; (first | rw [← Ny128.out] at ho35 | (simp only [Int.reduceToNat] at ho35; rw [← Ny128.out] at ho35)); have n0_ := Aside0.mk (Kd.N_elder' (by (with_reducible repeat (first | apply Kd.N_alloc | apply Kd.N_drewN | apply Kd.N_drew)); exact HO_1.out) (Kd.R_base ho35) hb); have n1_ := Aside0.mk (Kd.N_elder' (by (with_reducible repeat (first | apply Kd.N_alloc | apply Kd.N_drewN | apply Kd.N_drew)); exact HO127.out) (Kd.R_base ho35) hb); have n2_ := Aside0.mk (Kd.R_lower ho35 (below_size (RFn.bel))); have n3_ := Aside0.mk (below_step (RFn.bel) hb); clear HO_1; clear HO127; clear HB; have HO_1 := n0_; have HO127 := n1_; have HO130 := n2_; have HB := n3_; clear n0_ n1_ n2_ n3_; clear hb ho35; obtain ⟨Ao36, co36, eo36⟩ := Kd.R_slice HO130.out; subst eo36) | ((with_reducible refine gate_dst (N := 20) rfl ?_); (try (refine gate_guard (by rfl) ?_; dsimp only)); refine Kd.R_lit Kd.string _ 9 ?hg (N := 20) ?hd (xs := ([(⟨#[100]⟩ : ByteArray)] : List ByteArray)) (inner := [.string (⟨#[100]⟩ : ByteArray)]) (ok := fun _ => True) (okp := fun _ => True) ?hr ?hp (fun _ hk => hk) trivial (Below.refl _ _) (Nat.le_refl _) (by simp) ?_; (case hd => rfl); (case hg => rfl); (case hr => first | (go_simp; done) | (go_simp; rfl)); (case hp => exact (Reps.one (show Kd.M Kd.string _ _ _ (⟨#[100]⟩ : ByteArray) [.string (⟨#[100]⟩ : ByteArray)] from rfl) (Reps.none _ _))); intro v132 w37 ho38 hb hg_ hnew_; clear hg_ hnew_; (first | rw [← Ny131.out] at ho38 | (simp only [Int.reduceToNat] at ho38; rw [← Ny131.out] at ho38)); have n0_ := Aside0.mk (Kd.N_elder' (by (with_reducible repeat (first | apply Kd.N_alloc | apply Kd.N_drewN | apply Kd.N_drew)); exact HO_1.out) (Kd.R_base ho38) hb); have n1_ := Aside0.mk (Kd.N_elder' (by (with_reducible repeat (first | apply Kd.N_alloc | apply Kd.N_drewN | apply Kd.N_drew)); exact HO127.out) (Kd.R_base ho38) hb); have n2_ := Aside0.mk (Kd.R_elder' (RFn.mR HO130) (Kd.R_base ho38) hb); have n3_ := Aside0.mk (Kd.R_lower (Kd.R_new' ho38 (Kd.R_lt (RFn.mR HO130))) (below_size (RFn.bel))); have n4_ := Aside0.mk (below_step (RFn.bel) hb); clear HO_1; clear HO127; clear HO130; clear HB; have HO_1 := n0_; have HO127 := n1_; have HO130 := n2_; have HO133 := n3_; have HB := n4_; clear n0_ n1_ n2_ n3_ n4_; clear hb ho38; obtain ⟨Ao39, co39, eo39⟩ := Kd.R_slice HO133.out; subst eo39) | ((with_reducible refine gate_dst (N := 22) rfl ?_); (try (refine gate_guard (by rfl) ?_; dsimp only)); refine Kd.N_lit k49 _ 49 ?hg (N' := 22) ?hd (xs := ([(⟨1, y128⟩ : S49), (⟨3, y131⟩ : S49)] : List (S49))) (inner := [.int .i64 1, .slice Ao36 y128.length co36, .int .i64 3, .slice Ao39 y131.length co39]) (ok := (fun k_ => some k_ ≠ (.slice Ao32 t117.length co32 : Value).ownBlock ∧ some k_ ≠ (v126 : Value).ownBlock)) (okp := (fun k_ => some k_ ≠ (.slice Ao32 t117.length co32 : Value).ownBlock ∧ some k_ ≠ (v126 : Value).ownBlock)) ?hr ?hp (fun _ hk => hk) ((show ∀ k_, w37.heap.size ≤ k_ → (fun k_ => some k_ ≠ (.slice Ao32 t117.length co32 : Value).ownBlock ∧ some k_ ≠ (v126 : Value).ownBlock) k_ from fun k_ hk => ⟨Kd.fresh' (Kd.N_lt (by (with_reducible repeat (first | apply Kd.N_alloc | apply Kd.N_drewN | apply Kd.N_drew)); exact HO_1.out)) k_ hk, Kd.fresh' (Kd.N_lt (by (with_reducible repeat (first | apply Kd.N_alloc | apply Kd.N_drewN | apply Kd.N_drew)); exact HO127.out)) k_ hk⟩) _ (Nat.le_refl _)) (Below.refl _ _) (Nat.le_refl _) (by simp) ?_; (case hd => rfl); (case hg => rfl); (case hr => first | (go_simp; done) | (go_simp; rfl)); (case hp => exact (Reps.c2 (show Kd.FK k49 _ _ (⟨1, y128⟩ : S49) [.int .i64 1, .slice Ao36 y128.length co36] from (k49_mkF _ _ (⟨1, y128⟩ : S49) (Kd.R_reads' (Kd.R_mono (ok' := (fun k_ => some k_ ≠ (.slice Ao32 t117.length co32 : Value).ownBlock ∧ some k_ ≠ (v126 : Value).ownBlock)) (Kd.R_apart' (Kd.R_apart' (HO130.out) (Kd.N_typed HO_1.out) (by decide)) (Kd.N_typed HO127.out) (by decide)) (fun k_ hk => ⟨hk.1.2, hk.2⟩))).2.1 (Kd.R_F (Kd.R_mono (ok' := (fun k_ => some k_ ≠ (.slice Ao32 t117.length co32 : Value).ownBlock ∧ some k_ ≠ (v126 : Value).ownBlock)) (Kd.R_apart' (Kd.R_apart' (HO130.out) (Kd.N_typed HO_1.out) (by decide)) (Kd.N_typed HO127.out) (by decide)) (fun k_ hk => ⟨hk.1.2, hk.2⟩))))) (Reps.c2 (show Kd.FK k49 _ _ (⟨3, y131⟩ : S49) [.int .i64 3, .slice Ao39 y131.length co39] from (k49_mkF _ _ (⟨3, y131⟩ : S49) (Kd.R_reads' (Kd.R_mono (ok' := (fun k_ => some k_ ≠ (.slice Ao32 t117.length co32 : Value).ownBlock ∧ some k_ ≠ (v126 : Value).ownBlock)) (Kd.R_apart' (Kd.R_apart' (HO133.out) (Kd.N_typed HO_1.out) (by decide)) (Kd.N_typed HO127.out) (by decide)) (fun k_ hk => ⟨hk.1.2, hk.2⟩))).2.1 (Kd.R_F (Kd.R_mono (ok' := (fun k_ => some k_ ≠ (.slice Ao32 t117.length co32 : Value).ownBlock ∧ some k_ ≠ (v126 : Value).ownBlock)) (Kd.R_apart' (Kd.R_apart' (HO133.out) (Kd.N_typed HO_1.out) (by decide)) (Kd.N_typed HO127.out) (by decide)) (fun k_ hk => ⟨hk.1.2, hk.2⟩))))) (Reps.none _ _)))); intro v135 w40 ho41 hb hg_ hnew_; clear hg_ hnew_; (first | rw [← Ny134.out] at ho41 | (simp only [Int.reduceToNat] at ho41; rw [← Ny134.out] at ho41)); have n0_ := Aside0.mk (Kd.N_elder' (by (with_reducible repeat (first | apply Kd.N_alloc | apply Kd.N_drewN | apply Kd.N_drew)); exact HO_1.out) (Kd.N_base ho41) hb); have n1_ := Aside0.mk (Kd.N_elder' (by (with_reducible repeat (first | apply Kd.N_alloc | apply Kd.N_drewN | apply Kd.N_drew)); exact HO127.out) (Kd.N_base ho41) hb); have n2_ := Aside0.mk (Kd.N_lower ho41 (below_size (RFn.bel))); have n3_ := Aside0.mk (below_step (RFn.bel) hb); clear HO_1; clear HO127; clear HB; clear HO130; clear HO133; have HO_1 := n0_; have HO127 := n1_; have HO136 := n2_; have HB := n3_; clear n0_ n1_ n2_ n3_; clear hb ho41; obtain ⟨Ao42, co42, eo42⟩ := Kd.N_slice HO127.out; subst eo42; obtain ⟨Ao43, co43, eo43⟩ := Kd.N_slice HO136.out; subst eo43) | (go_at_call 12; (with_reducible refine (ref05_Same.calls kj1 _ _ t125 _ _ y134 true _ ?side1 ?side2 ?side3 ?side4 A8.out).mono ?_); (case side1 => exact RFn.mC (Kd.N_reads' HO127.out).2.2); (case side2 => exact (Kd.N_reads' HO127.out).2.1); (case side3 => exact RFn.mC (Kd.N_reads' HO136.out).2.2); (case side4 => exact (Kd.N_reads' HO136.out).2.1); rintro e w' ⟨rfl, ⟨nd, rfl⟩⟩) | (go_at_call 14; (with_reducible refine (lex_Name.calls (⟨#[97, 98, 45, 49]⟩ : ByteArray) true _ A11.out).mono ?_); rintro e w44 ⟨rfl, hb⟩; have n0_ := Aside0.mk (Kd.N_below (by (with_reducible repeat (first | apply Kd.N_alloc | apply Kd.N_drewN | apply Kd.N_drew)); exact HO_1.out) hb); have n1_ := Aside0.mk (Kd.N_below (by (with_reducible repeat (first | apply Kd.N_alloc | apply Kd.N_drewN | apply Kd.N_drew)); exact HO127.out) hb); have n2_ := Aside0.mk (Kd.N_below (by (with_reducible repeat (first | apply Kd.N_alloc | apply Kd.N_drewN | apply Kd.N_drew)); exact HO136.out) hb); have n3_ := Aside0.mk (below_step (RFn.bel) hb); clear HO_1; clear HO127; clear HO136; clear HB; have HO_1 := n0_; have HO127 := n1_; have HO136 := n2_; have HB := n3_; clear n0_ n1_ n2_ n3_; (try clear hb); (try clear hk)) | (go_at_call 14; (with_reducible refine (lex_Name.calls (⟨#[49, 97]⟩ : ByteArray) false _ A13.out).mono ?_); rintro e w45 ⟨rfl, hb⟩; have n0_ := Aside0.mk (Kd.N_below (by (with_reducible repeat (first | apply Kd.N_alloc | apply Kd.N_drewN | apply Kd.N_drew)); exact HO_1.out) hb); have n1_ := Aside0.mk (Kd.N_below (by (with_reducible repeat (first | apply Kd.N_alloc | apply Kd.N_drewN | apply Kd.N_drew)); exact HO127.out) hb); have n2_ := Aside0.mk (Kd.N_below (by (with_reducible repeat (first | apply Kd.N_alloc | apply Kd.N_drewN | apply Kd.N_drew)); exact HO136.out) hb); have n3_ := Aside0.mk (below_step (RFn.bel) hb); clear HO_1; clear HO127; clear HO136; clear HB; have HO_1 := n0_; have HO127 := n1_; have HO136 := n2_; have HB := n3_; clear n0_ n1_ n2_ n3_; (try clear hb); (try clear hk)) | (go_at_call 16; (with_reducible refine (lex_Join.calls _ _ t117 t140 _ ?side1 ?side2 A29.out).mono ?_); (case side1 => exact RFn.mC (Kd.N_reads' HO_1.out).2.2); (case side2 => exact (Kd.N_reads' HO_1.out).2.1); rintro e w46 ⟨rfl, hb⟩; have n0_ := Aside0.mk (Kd.N_below (by (with_reducible repeat (first | apply Kd.N_alloc | apply Kd.N_drewN | apply Kd.N_drew)); exact HO_1.out) hb); have n1_ := Aside0.mk (Kd.N_below (by (with_reducible repeat (first | apply Kd.N_alloc | apply Kd.N_drewN | apply Kd.N_drew)); exact HO127.out) hb); have n2_ := Aside0.mk (Kd.N_below (by (with_reducible repeat (first | apply Kd.N_alloc | apply Kd.N_drewN | apply Kd.N_drew)); exact HO136.out) hb); have n3_ := Aside0.mk (below_step (RFn.bel) hb); clear HO_1; clear HO127; clear HO136; clear HB; have HO_1 := n0_; have HO127 := n1_; have HO136 := n2_; have HB := n3_; clear n0_ n1_ n2_ n3_; (try clear hb); (try clear hk)) | ((with_reducible refine gate_dst (N := 42) rfl ?_); (try (refine gate_guard (by rfl) ?_; dsimp only)); refine Kd.R_lit Kd.string _ 9 ?hg (N := 42) ?hd (xs := ([(⟨#[97]⟩ : ByteArray), (⟨#[98]⟩ : ByteArray)] : List ByteArray)) (inner := [.string (⟨#[97]⟩ : ByteArray), .string (⟨#[98]⟩ : ByteArray)]) (ok := fun _ => True) (okp := fun _ => True) ?hr ?hp (fun _ hk => hk) trivial (Below.refl _ _) (Nat.le_refl _) (by simp) ?_; (case hd => rfl); (case hg => rfl); (case hr => first | (go_simp; done) | (go_simp; rfl)); (case hp => exact (Reps.one (show Kd.M Kd.string _ _ _ (⟨#[97]⟩ : ByteArray) [.string (⟨#[97]⟩ : ByteArray)] from rfl) (Reps.one (show Kd.M Kd.string _ _ _ (⟨#[98]⟩ : ByteArray) [.string (⟨#[98]⟩ : ByteArray)] from rfl) (Reps.none _ _)))); intro v142 w47 ho48 hb hg_ hnew_; clear hg_ hnew_; (first | rw [← Ny141.out] at ho48 | (simp only [Int.reduceToNat] at ho48; rw [← Ny141.out] at ho48)); have n0_ := Aside0.mk (Kd.N_elder' (by (with_reducible repeat (first | apply Kd.N_alloc | apply Kd.N_drewN | apply Kd.N_drew)); exact HO_1.out) (Kd.R_base ho48) hb); have n1_ := Aside0.mk (Kd.N_elder' (by (with_reducible repeat (first | apply Kd.N_alloc | apply Kd.N_drewN | apply Kd.N_drew)); exact HO127.out) (Kd.R_base ho48) hb); have n2_ := Aside0.mk (Kd.N_elder' (by (with_reducible repeat (first | apply Kd.N_alloc | apply Kd.N_drewN | apply Kd.N_drew)); exact HO136.out) (Kd.R_base ho48) hb); have n3_ := Aside0.mk (Kd.R_lower ho48 (below_size (RFn.bel))); have n4_ := Aside0.mk (below_step (RFn.bel) hb); clear HO_1; clear HO127; clear HO136; clear HB; have HO_1 := n0_; have HO127 := n1_; have HO136 := n2_; have HO143 := n3_; have HB := n4_; clear n0_ n1_ n2_ n3_ n4_; clear hb ho48; obtain ⟨Ao49, co49, eo49⟩ := Kd.R_slice HO143.out; subst eo49) | (go_at_call 19; (with_reducible refine (lex_Pick.calls kj1 (⟨#[98]⟩ : ByteArray) _ _ y141 t144 _ ?side1 ?side2 A31.out).mono ?_); (case side1 => exact RFn.mC (Kd.R_reads' HO143.out).2.2); (case side2 => exact (Kd.R_reads' HO143.out).2.1); rintro e w' ⟨rfl, ⟨nd, rfl⟩⟩))
         go_ret
         exact ⟨by first | rfl | (simp [errW_none, errW_some] <;> rfl) | (simp [*, errW_none, errW_some] <;> rfl), RFn.bel⟩
        ·rw [if_neg c30] at H
         have c30b0 : (t140.toList == ([97, 32, 98, 10, 100, 10] : List UInt8)) = false := beq_eq_false_iff_ne.mpr c30
         have c30b1 : (t140.toList != ([97, 32, 98, 10, 100, 10] : List UInt8)) = true := bne_iff_ne.mpr c30
         obtain rfl := Option.some.inj H
         obtain ⟨Ao50, co50, eo50⟩ := Kd.N_slice HO_1.out
         subst eo50
         go_wp2_with (first | (go_at_call 13; (with_reducible refine (law05_Ours.calls kj1 (fun k_ => True) _ _ t117 t125 _ ?side1 A7.out).mono ?_); (case side1 => exact Kd.N_V (HO_1.out)); rintro e w51 ⟨v126, rfl, ho0, hb⟩; have n0_ := Aside0.mk (Kd.N_elder' (by (with_reducible repeat (first | apply Kd.N_alloc | apply Kd.N_drewN | apply Kd.N_drew)); exact HO_1.out) (Kd.N_base ho0) hb); have n1_ := Aside0.mk (Kd.N_lower (Kd.N_mono (ok' := fun k_ => True) ho0 (fun k_ hk_ => trivial)) (below_size (RFn.bel))); have n2_ := Aside0.mk (below_step (RFn.bel) hb); clear HO_1; clear HB; have HO_1 := n0_; have HO127 := n1_; have HB := n2_; clear n0_ n1_ n2_; (try clear hb); (try clear hk); (try clear ho0)) | ((with_reducible refine gate_dst (N := 18) rfl ?_); (try (refine gate_guard (by rfl) ?_; dsimp only)); refine Kd.R_lit Kd.string _ 9 ?hg (N := 18) ?hd (xs := ([(⟨#[97]⟩ : ByteArray), (⟨#[98]⟩ : ByteArray)] : List ByteArray)) (inner := [.string (⟨#[97]⟩ : ByteArray), .string (⟨#[98]⟩ : ByteArray)]) (ok := fun _ => True) (okp := fun _ => True) ?hr ?hp (fun _ hk => hk) trivial (Below.refl _ _) (Nat.le_refl _) (by simp) ?_; (case hd => rfl); (case hg => rfl); (case hr => first | (go_simp; done) | (go_simp; rfl)); (case hp => exact (Reps.one (show Kd.M Kd.string _ _ _ (⟨#[97]⟩ : ByteArray) [.string (⟨#[97]⟩ : ByteArray)] from rfl) (Reps.one (show Kd.M Kd.string _ _ _ (⟨#[98]⟩ : ByteArray) [.string (⟨#[98]⟩ : ByteArray)] from rfl) (Reps.none _ _)))); intro v129 w52 ho53 hb hg_ hnew_; clear hg_ hnew_; (first | rw [← Ny128.out] at ho53 | (simp only [Int.reduceToNat] at ho53; rw [← Ny128.out] at ho53)); have n0_ := Aside0.mk (Kd.N_elder' (by (with_reducible repeat (first | apply Kd.N_alloc | apply Kd.N_drewN | apply Kd.N_drew)); exact HO_1.out) (Kd.R_base ho53) hb); have n1_ := Aside0.mk (Kd.N_elder' (by (with_reducible repeat (first | apply Kd.N_alloc | apply Kd.N_drewN | apply Kd.N_drew)); exact HO127.out) (Kd.R_base ho53) hb); have n2_ := Aside0.mk (Kd.R_lower ho53 (below_size (RFn.bel))); have n3_ := Aside0.mk (below_step (RFn.bel) hb); clear HO_1; clear HO127; clear HB; have HO_1 := n0_; have HO127 := n1_; have HO130 := n2_; have HB := n3_; clear n0_ n1_ n2_ n3_; clear hb ho53; obtain ⟨Ao54, co54, eo54⟩ := Kd.R_slice HO130.out; subst eo54) | ((with_reducible refine gate_dst (N := 20) rfl ?_); (try (refine gate_guard (by rfl) ?_; dsimp only)); refine Kd.R_lit Kd.string _ 9 ?hg (N := 20) ?hd (xs := ([(⟨#[100]⟩ : ByteArray)] : List ByteArray)) (inner := [.string (⟨#[100]⟩ : ByteArray)]) (ok := fun _ => True) (okp := fun _ => True) ?hr ?hp (fun _ hk => hk) trivial (Below.refl _ _) (Nat.le_refl _) (by simp) ?_; (case hd => rfl); (case hg => rfl); (case hr => first | (go_simp; done) | (go_simp; rfl)); (case hp => exact (Reps.one (show Kd.M Kd.string _ _ _ (⟨#[100]⟩ : ByteArray) [.string (⟨#[100]⟩ : ByteArray)] from rfl) (Reps.none _ _))); intro v132 w55 ho56 hb hg_ hnew_; clear hg_ hnew_; (first | rw [← Ny131.out] at ho56 | (simp only [Int.reduceToNat] at ho56; rw [← Ny131.out] at ho56)); have n0_ := Aside0.mk (Kd.N_elder' (by (with_reducible repeat (first | apply Kd.N_alloc | apply Kd.N_drewN | apply Kd.N_drew)); exact HO_1.out) (Kd.R_base ho56) hb); have n1_ := Aside0.mk (Kd.N_elder' (by (with_reducible repeat (first | apply Kd.N_alloc | apply Kd.N_drewN | apply Kd.N_drew)); exact HO127.out) (Kd.R_base ho56) hb); have n2_ := Aside0.mk (Kd.R_elder' (RFn.mR HO130) (Kd.R_base ho56) hb); have n3_ := Aside0.mk (Kd.R_lower (Kd.R_new' ho56 (Kd.R_lt (RFn.mR HO130))) (below_size (RFn.bel))); have n4_ := Aside0.mk (below_step (RFn.bel) hb); clear HO_1; clear HO127; clear HO130; clear HB; have HO_1 := n0_; have HO127 := n1_; have HO130 := n2_; have HO133 := n3_; have HB := n4_; clear n0_ n1_ n2_ n3_ n4_; clear hb ho56; obtain ⟨Ao57, co57, eo57⟩ := Kd.R_slice HO133.out; subst eo57) | ((with_reducible refine gate_dst (N := 22) rfl ?_); (try (refine gate_guard (by rfl) ?_; dsimp only)); refine Kd.N_lit k49 _ 49 ?hg (N' := 22) ?hd (xs := ([(⟨1, y128⟩ : S49), (⟨3, y131⟩ : S49)] : List (S49))) (inner := [.int .i64 1, .slice Ao54 y128.length co54, .int .i64 3, .slice Ao57 y131.length co57]) (ok := (fun k_ => some k_ ≠ (.slice Ao50 t117.length co50 : Value).ownBlock ∧ some k_ ≠ (v126 : Value).ownBlock)) (okp := (fun k_ => some k_ ≠ (.slice Ao50 t117.length co50 : Value).ownBlock ∧ some k_ ≠ (v126 : Value).ownBlock)) ?hr ?hp (fun _ hk => hk) ((show ∀ k_, w55.heap.size ≤ k_ → (fun k_ => some k_ ≠ (.slice Ao50 t117.length co50 : Value).ownBlock ∧ some k_ ≠ (v126 : Value).ownBlock) k_ from fun k_ hk => ⟨Kd.fresh' (Kd.N_lt (by (with_reducible repeat (first | apply Kd.N_alloc | apply Kd.N_drewN | apply Kd.N_drew)); exact HO_1.out)) k_ hk, Kd.fresh' (Kd.N_lt (by (with_reducible repeat (first | apply Kd.N_alloc | apply Kd.N_drewN | apply Kd.N_drew)); exact HO127.out)) k_ hk⟩) _ (Nat.le_refl _)) (Below.refl _ _) (Nat.le_refl _) (by simp) ?_; (case hd => rfl); (case hg => rfl); (case hr => first | (go_simp; done) | (go_simp; rfl)); (case hp => exact (Reps.c2 (show Kd.FK k49 _ _ (⟨1, y128⟩ : S49) [.int .i64 1, .slice Ao54 y128.length co54] from (k49_mkF _ _ (⟨1, y128⟩ : S49) (Kd.R_reads' (Kd.R_mono (ok' := (fun k_ => some k_ ≠ (.slice Ao50 t117.length co50 : Value).ownBlock ∧ some k_ ≠ (v126 : Value).ownBlock)) (Kd.R_apart' (Kd.R_apart' (HO130.out) (Kd.N_typed HO_1.out) (by decide)) (Kd.N_typed HO127.out) (by decide)) (fun k_ hk => ⟨hk.1.2, hk.2⟩))).2.1 (Kd.R_F (Kd.R_mono (ok' := (fun k_ => some k_ ≠ (.slice Ao50 t117.length co50 : Value).ownBlock ∧ some k_ ≠ (v126 : Value).ownBlock)) (Kd.R_apart' (Kd.R_apart' (HO130.out) (Kd.N_typed HO_1.out) (by decide)) (Kd.N_typed HO127.out) (by decide)) (fun k_ hk => ⟨hk.1.2, hk.2⟩))))) (Reps.c2 (show Kd.FK k49 _ _ (⟨3, y131⟩ : S49) [.int .i64 3, .slice Ao57 y131.length co57] from (k49_mkF _ _ (⟨3, y131⟩ : S49) (Kd.R_reads' (Kd.R_mono (ok' := (fun k_ => some k_ ≠ (.slice Ao50 t117.length co50 : Value).ownBlock ∧ some k_ ≠ (v126 : Value).ownBlock)) (Kd.R_apart' (Kd.R_apart' (HO133.out) (Kd.N_typed HO_1.out) (by decide)) (Kd.N_typed HO127.out) (by decide)) (fun k_ hk => ⟨hk.1.2, hk.2⟩))).2.1 (Kd.R_F (Kd.R_mono (ok' := (fun k_ => some k_ ≠ (.slice Ao50 t117.length co50 : Value).ownBlock ∧ some k_ ≠ (v126 : Value).ownBlock)) (Kd.R_apart' (Kd.R_apart' (HO133.out) (Kd.N_typed HO_1.out) (by decide)) (Kd.N_typed HO127.out) (by decide)) (fun k_ hk => ⟨hk.1.2, hk.2⟩))))) (Reps.none _ _)))); intro v135 w58 ho59 hb hg_ hnew_; clear hg_ hnew_; (first | rw [← Ny134.out] at ho59 | (simp only [Int.reduceToNat] at ho59; rw [← Ny134.out] at ho59)); have n0_ := Aside0.mk (Kd.N_elder' (by (with_reducible repeat (first | apply Kd.N_alloc | apply Kd.N_drewN | apply Kd.N_drew)); exact HO_1.out) (Kd.N_base ho59) hb); have n1_ := Aside0.mk (Kd.N_elder' (by (with_reducible repeat (first | apply Kd.N_alloc | apply Kd.N_drewN | apply Kd.N_drew)); exact HO127.out) (Kd.N_base ho59) hb); have n2_ := Aside0.mk (Kd.N_lower ho59 (below_size (RFn.bel))); have n3_ := Aside0.mk (below_step (RFn.bel) hb); clear HO_1; clear HO127; clear HB; clear HO130; clear HO133; have HO_1 := n0_; have HO127 := n1_; have HO136 := n2_; have HB := n3_; clear n0_ n1_ n2_ n3_; clear hb ho59; obtain ⟨Ao60, co60, eo60⟩ := Kd.N_slice HO127.out; subst eo60; obtain ⟨Ao61, co61, eo61⟩ := Kd.N_slice HO136.out; subst eo61) | (go_at_call 12; (with_reducible refine (ref05_Same.calls kj1 _ _ t125 _ _ y134 true _ ?side1 ?side2 ?side3 ?side4 A8.out).mono ?_); (case side1 => exact RFn.mC (Kd.N_reads' HO127.out).2.2); (case side2 => exact (Kd.N_reads' HO127.out).2.1); (case side3 => exact RFn.mC (Kd.N_reads' HO136.out).2.2); (case side4 => exact (Kd.N_reads' HO136.out).2.1); rintro e w' ⟨rfl, ⟨nd, rfl⟩⟩) | (go_at_call 14; (with_reducible refine (lex_Name.calls (⟨#[97, 98, 45, 49]⟩ : ByteArray) true _ A11.out).mono ?_); rintro e w62 ⟨rfl, hb⟩; have n0_ := Aside0.mk (Kd.N_below (by (with_reducible repeat (first | apply Kd.N_alloc | apply Kd.N_drewN | apply Kd.N_drew)); exact HO_1.out) hb); have n1_ := Aside0.mk (Kd.N_below (by (with_reducible repeat (first | apply Kd.N_alloc | apply Kd.N_drewN | apply Kd.N_drew)); exact HO127.out) hb); have n2_ := Aside0.mk (Kd.N_below (by (with_reducible repeat (first | apply Kd.N_alloc | apply Kd.N_drewN | apply Kd.N_drew)); exact HO136.out) hb); have n3_ := Aside0.mk (below_step (RFn.bel) hb); clear HO_1; clear HO127; clear HO136; clear HB; have HO_1 := n0_; have HO127 := n1_; have HO136 := n2_; have HB := n3_; clear n0_ n1_ n2_ n3_; (try clear hb); (try clear hk)) | (go_at_call 14; (with_reducible refine (lex_Name.calls (⟨#[49, 97]⟩ : ByteArray) false _ A13.out).mono ?_); rintro e w63 ⟨rfl, hb⟩; have n0_ := Aside0.mk (Kd.N_below (by (with_reducible repeat (first | apply Kd.N_alloc | apply Kd.N_drewN | apply Kd.N_drew)); exact HO_1.out) hb); have n1_ := Aside0.mk (Kd.N_below (by (with_reducible repeat (first | apply Kd.N_alloc | apply Kd.N_drewN | apply Kd.N_drew)); exact HO127.out) hb); have n2_ := Aside0.mk (Kd.N_below (by (with_reducible repeat (first | apply Kd.N_alloc | apply Kd.N_drewN | apply Kd.N_drew)); exact HO136.out) hb); have n3_ := Aside0.mk (below_step (RFn.bel) hb); clear HO_1; clear HO127; clear HO136; clear HB; have HO_1 := n0_; have HO127 := n1_; have HO136 := n2_; have HB := n3_; clear n0_ n1_ n2_ n3_; (try clear hb); (try clear hk)) | (go_at_call 16; (with_reducible refine (lex_Join.calls _ _ t117 t140 _ ?side1 ?side2 A29.out).mono ?_); (case side1 => exact RFn.mC (Kd.N_reads' HO_1.out).2.2); (case side2 => exact (Kd.N_reads' HO_1.out).2.1); rintro e w64 ⟨rfl, hb⟩; have n0_ := Aside0.mk (Kd.N_below (by (with_reducible repeat (first | apply Kd.N_alloc | apply Kd.N_drewN | apply Kd.N_drew)); exact HO_1.out) hb); have n1_ := Aside0.mk (Kd.N_below (by (with_reducible repeat (first | apply Kd.N_alloc | apply Kd.N_drewN | apply Kd.N_drew)); exact HO127.out) hb); have n2_ := Aside0.mk (Kd.N_below (by (with_reducible repeat (first | apply Kd.N_alloc | apply Kd.N_drewN | apply Kd.N_drew)); exact HO136.out) hb); have n3_ := Aside0.mk (below_step (RFn.bel) hb); clear HO_1; clear HO127; clear HO136; clear HB; have HO_1 := n0_; have HO127 := n1_; have HO136 := n2_; have HB := n3_; clear n0_ n1_ n2_ n3_; (try clear hb); (try clear hk)))
         go_ret
         exact ⟨by first | rfl | (simp [errW_none, errW_some] <;> rfl) | (simp [*, errW_none, errW_some] <;> rfl), RFn.bel⟩
      ·replace c12 := Bool.eq_false_iff.mpr c12
       subst c12
       have H1 : (some false) = some r := by rw [if_neg (show ¬ (false = true) by decide)] at H; exact H
       clear H
       have H := H1
       clear H1
       obtain rfl := Option.some.inj H
       obtain ⟨Ao65, co65, eo65⟩ := Kd.N_slice HO_1.out
       subst eo65
       go_wp2_with (first | (go_at_call 13; (with_reducible refine (law05_Ours.calls kj1 (fun k_ => True) _ _ t117 t125 _ ?side1 A7.out).mono ?_); (case side1 => exact Kd.N_V (HO_1.out)); rintro e w66 ⟨v126, rfl, ho0, hb⟩; have n0_ := Aside0.mk (Kd.N_elder' (by (with_reducible repeat (first | apply Kd.N_alloc | apply Kd.N_drewN | apply Kd.N_drew)); exact HO_1.out) (Kd.N_base ho0) hb); have n1_ := Aside0.mk (Kd.N_lower (Kd.N_mono (ok' := fun k_ => True) ho0 (fun k_ hk_ => trivial)) (below_size (RFn.bel))); have n2_ := Aside0.mk (below_step (RFn.bel) hb); clear HO_1; clear HB; have HO_1 := n0_; have HO127 := n1_; have HB := n2_; clear n0_ n1_ n2_; (try clear hb); (try clear hk); (try clear ho0)) | ((with_reducible refine gate_dst (N := 18) rfl ?_); (try (refine gate_guard (by rfl) ?_; dsimp only)); refine Kd.R_lit Kd.string _ 9 ?hg (N := 18) ?hd (xs := ([(⟨#[97]⟩ : ByteArray), (⟨#[98]⟩ : ByteArray)] : List ByteArray)) (inner := [.string (⟨#[97]⟩ : ByteArray), .string (⟨#[98]⟩ : ByteArray)]) (ok := fun _ => True) (okp := fun _ => True) ?hr ?hp (fun _ hk => hk) trivial (Below.refl _ _) (Nat.le_refl _) (by simp) ?_; (case hd => rfl); (case hg => rfl); (case hr => first | (go_simp; done) | (go_simp; rfl)); (case hp => exact (Reps.one (show Kd.M Kd.string _ _ _ (⟨#[97]⟩ : ByteArray) [.string (⟨#[97]⟩ : ByteArray)] from rfl) (Reps.one (show Kd.M Kd.string _ _ _ (⟨#[98]⟩ : ByteArray) [.string (⟨#[98]⟩ : ByteArray)] from rfl) (Reps.none _ _)))); intro v129 w67 ho68 hb hg_ hnew_; clear hg_ hnew_; (first | rw [← Ny128.out] at ho68 | (simp only [Int.reduceToNat] at ho68; rw [← Ny128.out] at ho68)); have n0_ := Aside0.mk (Kd.N_elder' (by (with_reducible repeat (first | apply Kd.N_alloc | apply Kd.N_drewN | apply Kd.N_drew)); exact HO_1.out) (Kd.R_base ho68) hb); have n1_ := Aside0.mk (Kd.N_elder' (by (with_reducible repeat (first | apply Kd.N_alloc | apply Kd.N_drewN | apply Kd.N_drew)); exact HO127.out) (Kd.R_base ho68) hb); have n2_ := Aside0.mk (Kd.R_lower ho68 (below_size (RFn.bel))); have n3_ := Aside0.mk (below_step (RFn.bel) hb); clear HO_1; clear HO127; clear HB; have HO_1 := n0_; have HO127 := n1_; have HO130 := n2_; have HB := n3_; clear n0_ n1_ n2_ n3_; clear hb ho68; obtain ⟨Ao69, co69, eo69⟩ := Kd.R_slice HO130.out; subst eo69) | ((with_reducible refine gate_dst (N := 20) rfl ?_); (try (refine gate_guard (by rfl) ?_; dsimp only)); refine Kd.R_lit Kd.string _ 9 ?hg (N := 20) ?hd (xs := ([(⟨#[100]⟩ : ByteArray)] : List ByteArray)) (inner := [.string (⟨#[100]⟩ : ByteArray)]) (ok := fun _ => True) (okp := fun _ => True) ?hr ?hp (fun _ hk => hk) trivial (Below.refl _ _) (Nat.le_refl _) (by simp) ?_; (case hd => rfl); (case hg => rfl); (case hr => first | (go_simp; done) | (go_simp; rfl)); (case hp => exact (Reps.one (show Kd.M Kd.string _ _ _ (⟨#[100]⟩ : ByteArray) [.string (⟨#[100]⟩ : ByteArray)] from rfl) (Reps.none _ _))); intro v132 w70 ho71 hb hg_ hnew_; clear hg_ hnew_; (first | rw [← Ny131.out] at ho71 | (simp only [Int.reduceToNat] at ho71; rw [← Ny131.out] at ho71)); have n0_ := Aside0.mk (Kd.N_elder' (by (with_reducible repeat (first | apply Kd.N_alloc | apply Kd.N_drewN | apply Kd.N_drew)); exact HO_1.out) (Kd.R_base ho71) hb); have n1_ := Aside0.mk (Kd.N_elder' (by (with_reducible repeat (first | apply Kd.N_alloc | apply Kd.N_drewN | apply Kd.N_drew)); exact HO127.out) (Kd.R_base ho71) hb); have n2_ := Aside0.mk (Kd.R_elder' (RFn.mR HO130) (Kd.R_base ho71) hb); have n3_ := Aside0.mk (Kd.R_lower (Kd.R_new' ho71 (Kd.R_lt (RFn.mR HO130))) (below_size (RFn.bel))); have n4_ := Aside0.mk (below_step (RFn.bel) hb); clear HO_1; clear HO127; clear HO130; clear HB; have HO_1 := n0_; have HO127 := n1_; have HO130 := n2_; have HO133 := n3_; have HB := n4_; clear n0_ n1_ n2_ n3_ n4_; clear hb ho71; obtain ⟨Ao72, co72, eo72⟩ := Kd.R_slice HO133.out; subst eo72) | ((with_reducible refine gate_dst (N := 22) rfl ?_); (try (refine gate_guard (by rfl) ?_; dsimp only)); refine Kd.N_lit k49 _ 49 ?hg (N' := 22) ?hd (xs := ([(⟨1, y128⟩ : S49), (⟨3, y131⟩ : S49)] : List (S49))) (inner := [.int .i64 1, .slice Ao69 y128.length co69, .int .i64 3, .slice Ao72 y131.length co72]) (ok := (fun k_ => some k_ ≠ (.slice Ao65 t117.length co65 : Value).ownBlock ∧ some k_ ≠ (v126 : Value).ownBlock)) (okp := (fun k_ => some k_ ≠ (.slice Ao65 t117.length co65 : Value).ownBlock ∧ some k_ ≠ (v126 : Value).ownBlock)) ?hr ?hp (fun _ hk => hk) ((show ∀ k_, w70.heap.size ≤ k_ → (fun k_ => some k_ ≠ (.slice Ao65 t117.length co65 : Value).ownBlock ∧ some k_ ≠ (v126 : Value).ownBlock) k_ from fun k_ hk => ⟨Kd.fresh' (Kd.N_lt (by (with_reducible repeat (first | apply Kd.N_alloc | apply Kd.N_drewN | apply Kd.N_drew)); exact HO_1.out)) k_ hk, Kd.fresh' (Kd.N_lt (by (with_reducible repeat (first | apply Kd.N_alloc | apply Kd.N_drewN | apply Kd.N_drew)); exact HO127.out)) k_ hk⟩) _ (Nat.le_refl _)) (Below.refl _ _) (Nat.le_refl _) (by simp) ?_; (case hd => rfl); (case hg => rfl); (case hr => first | (go_simp; done) | (go_simp; rfl)); (case hp => exact (Reps.c2 (show Kd.FK k49 _ _ (⟨1, y128⟩ : S49) [.int .i64 1, .slice Ao69 y128.length co69] from (k49_mkF _ _ (⟨1, y128⟩ : S49) (Kd.R_reads' (Kd.R_mono (ok' := (fun k_ => some k_ ≠ (.slice Ao65 t117.length co65 : Value).ownBlock ∧ some k_ ≠ (v126 : Value).ownBlock)) (Kd.R_apart' (Kd.R_apart' (HO130.out) (Kd.N_typed HO_1.out) (by decide)) (Kd.N_typed HO127.out) (by decide)) (fun k_ hk => ⟨hk.1.2, hk.2⟩))).2.1 (Kd.R_F (Kd.R_mono (ok' := (fun k_ => some k_ ≠ (.slice Ao65 t117.length co65 : Value).ownBlock ∧ some k_ ≠ (v126 : Value).ownBlock)) (Kd.R_apart' (Kd.R_apart' (HO130.out) (Kd.N_typed HO_1.out) (by decide)) (Kd.N_typed HO127.out) (by decide)) (fun k_ hk => ⟨hk.1.2, hk.2⟩))))) (Reps.c2 (show Kd.FK k49 _ _ (⟨3, y131⟩ : S49) [.int .i64 3, .slice Ao72 y131.length co72] from (k49_mkF _ _ (⟨3, y131⟩ : S49) (Kd.R_reads' (Kd.R_mono (ok' := (fun k_ => some k_ ≠ (.slice Ao65 t117.length co65 : Value).ownBlock ∧ some k_ ≠ (v126 : Value).ownBlock)) (Kd.R_apart' (Kd.R_apart' (HO133.out) (Kd.N_typed HO_1.out) (by decide)) (Kd.N_typed HO127.out) (by decide)) (fun k_ hk => ⟨hk.1.2, hk.2⟩))).2.1 (Kd.R_F (Kd.R_mono (ok' := (fun k_ => some k_ ≠ (.slice Ao65 t117.length co65 : Value).ownBlock ∧ some k_ ≠ (v126 : Value).ownBlock)) (Kd.R_apart' (Kd.R_apart' (HO133.out) (Kd.N_typed HO_1.out) (by decide)) (Kd.N_typed HO127.out) (by decide)) (fun k_ hk => ⟨hk.1.2, hk.2⟩))))) (Reps.none _ _)))); intro v135 w73 ho74 hb hg_ hnew_; clear hg_ hnew_; (first | rw [← Ny134.out] at ho74 | (simp only [Int.reduceToNat] at ho74; rw [← Ny134.out] at ho74)); have n0_ := Aside0.mk (Kd.N_elder' (by (with_reducible repeat (first | apply Kd.N_alloc | apply Kd.N_drewN | apply Kd.N_drew)); exact HO_1.out) (Kd.N_base ho74) hb); have n1_ := Aside0.mk (Kd.N_elder' (by (with_reducible repeat (first | apply Kd.N_alloc | apply Kd.N_drewN | apply Kd.N_drew)); exact HO127.out) (Kd.N_base ho74) hb); have n2_ := Aside0.mk (Kd.N_lower ho74 (below_size (RFn.bel))); have n3_ := Aside0.mk (below_step (RFn.bel) hb); clear HO_1; clear HO127; clear HB; clear HO130; clear HO133; have HO_1 := n0_; have HO127 := n1_; have HO136 := n2_; have HB := n3_; clear n0_ n1_ n2_ n3_; clear hb ho74; obtain ⟨Ao75, co75, eo75⟩ := Kd.N_slice HO127.out; subst eo75; obtain ⟨Ao76, co76, eo76⟩ := Kd.N_slice HO136.out; subst eo76) | (go_at_call 12; (with_reducible refine (ref05_Same.calls kj1 _ _ t125 _ _ y134 true _ ?side1 ?side2 ?side3 ?side4 A8.out).mono ?_); (case side1 => exact RFn.mC (Kd.N_reads' HO127.out).2.2); (case side2 => exact (Kd.N_reads' HO127.out).2.1); (case side3 => exact RFn.mC (Kd.N_reads' HO136.out).2.2); (case side4 => exact (Kd.N_reads' HO136.out).2.1); rintro e w' ⟨rfl, ⟨nd, rfl⟩⟩) | (go_at_call 14; (with_reducible refine (lex_Name.calls (⟨#[97, 98, 45, 49]⟩ : ByteArray) false _ A11.out).mono ?_); rintro e w77 ⟨rfl, hb⟩; have n0_ := Aside0.mk (Kd.N_below (by (with_reducible repeat (first | apply Kd.N_alloc | apply Kd.N_drewN | apply Kd.N_drew)); exact HO_1.out) hb); have n1_ := Aside0.mk (Kd.N_below (by (with_reducible repeat (first | apply Kd.N_alloc | apply Kd.N_drewN | apply Kd.N_drew)); exact HO127.out) hb); have n2_ := Aside0.mk (Kd.N_below (by (with_reducible repeat (first | apply Kd.N_alloc | apply Kd.N_drewN | apply Kd.N_drew)); exact HO136.out) hb); have n3_ := Aside0.mk (below_step (RFn.bel) hb); clear HO_1; clear HO127; clear HO136; clear HB; have HO_1 := n0_; have HO127 := n1_; have HO136 := n2_; have HB := n3_; clear n0_ n1_ n2_ n3_; (try clear hb); (try clear hk)))
       go_ret
       exact ⟨by first | rfl | (simp [errW_none, errW_some] <;> rfl) | (simp [*, errW_none, errW_some] <;> rfl), RFn.bel⟩
     ·rw [if_neg c10] at H
      have c10b0 : (x4_1 == 5) = false := beq_eq_false_iff_ne.mpr c10
      have c10b1 : (x4_1 != 5) = true := bne_iff_ne.mpr c10
      obtain rfl := Option.some.inj H
      obtain ⟨Ao78, co78, eo78⟩ := Kd.N_slice HO_1.out
      subst eo78
      go_wp2_with (first | (go_at_call 13; (with_reducible refine (law05_Ours.calls kj1 (fun k_ => True) _ _ t117 t125 _ ?side1 A7.out).mono ?_); (case side1 => exact Kd.N_V (HO_1.out)); rintro e w79 ⟨v126, rfl, ho0, hb⟩; have n0_ := Aside0.mk (Kd.N_elder' (by (with_reducible repeat (first | apply Kd.N_alloc | apply Kd.N_drewN | apply Kd.N_drew)); exact HO_1.out) (Kd.N_base ho0) hb); have n1_ := Aside0.mk (Kd.N_lower (Kd.N_mono (ok' := fun k_ => True) ho0 (fun k_ hk_ => trivial)) (below_size (RFn.bel))); have n2_ := Aside0.mk (below_step (RFn.bel) hb); clear HO_1; clear HB; have HO_1 := n0_; have HO127 := n1_; have HB := n2_; clear n0_ n1_ n2_; (try clear hb); (try clear hk); (try clear ho0)) | ((with_reducible refine gate_dst (N := 18) rfl ?_); (try (refine gate_guard (by rfl) ?_; dsimp only)); refine Kd.R_lit Kd.string _ 9 ?hg (N := 18) ?hd (xs := ([(⟨#[97]⟩ : ByteArray), (⟨#[98]⟩ : ByteArray)] : List ByteArray)) (inner := [.string (⟨#[97]⟩ : ByteArray), .string (⟨#[98]⟩ : ByteArray)]) (ok := fun _ => True) (okp := fun _ => True) ?hr ?hp (fun _ hk => hk) trivial (Below.refl _ _) (Nat.le_refl _) (by simp) ?_; (case hd => rfl); (case hg => rfl); (case hr => first | (go_simp; done) | (go_simp; rfl)); (case hp => exact (Reps.one (show Kd.M Kd.string _ _ _ (⟨#[97]⟩ : ByteArray) [.string (⟨#[97]⟩ : ByteArray)] from rfl) (Reps.one (show Kd.M Kd.string _ _ _ (⟨#[98]⟩ : ByteArray) [.string (⟨#[98]⟩ : ByteArray)] from rfl) (Reps.none _ _)))); intro v129 w80 ho81 hb hg_ hnew_; clear hg_ hnew_; (first | rw [← Ny128.out] at ho81 | (simp only [Int.reduceToNat] at ho81; rw [← Ny128.out] at ho81)); have n0_ := Aside0.mk (Kd.N_elder' (by (with_reducible repeat (first | apply Kd.N_alloc | apply Kd.N_drewN | apply Kd.N_drew)); exact HO_1.out) (Kd.R_base ho81) hb); have n1_ := Aside0.mk (Kd.N_elder' (by (with_reducible repeat (first | apply Kd.N_alloc | apply Kd.N_drewN | apply Kd.N_drew)); exact HO127.out) (Kd.R_base ho81) hb); have n2_ := Aside0.mk (Kd.R_lower ho81 (below_size (RFn.bel))); have n3_ := Aside0.mk (below_step (RFn.bel) hb); clear HO_1; clear HO127; clear HB; have HO_1 := n0_; have HO127 := n1_; have HO130 := n2_; have HB := n3_; clear n0_ n1_ n2_ n3_; clear hb ho81; obtain ⟨Ao82, co82, eo82⟩ := Kd.R_slice HO130.out; subst eo82) | ((with_reducible refine gate_dst (N := 20) rfl ?_); (try (refine gate_guard (by rfl) ?_; dsimp only)); refine Kd.R_lit Kd.string _ 9 ?hg (N := 20) ?hd (xs := ([(⟨#[100]⟩ : ByteArray)] : List ByteArray)) (inner := [.string (⟨#[100]⟩ : ByteArray)]) (ok := fun _ => True) (okp := fun _ => True) ?hr ?hp (fun _ hk => hk) trivial (Below.refl _ _) (Nat.le_refl _) (by simp) ?_; (case hd => rfl); (case hg => rfl); (case hr => first | (go_simp; done) | (go_simp; rfl)); (case hp => exact (Reps.one (show Kd.M Kd.string _ _ _ (⟨#[100]⟩ : ByteArray) [.string (⟨#[100]⟩ : ByteArray)] from rfl) (Reps.none _ _))); intro v132 w83 ho84 hb hg_ hnew_; clear hg_ hnew_; (first | rw [← Ny131.out] at ho84 | (simp only [Int.reduceToNat] at ho84; rw [← Ny131.out] at ho84)); have n0_ := Aside0.mk (Kd.N_elder' (by (with_reducible repeat (first | apply Kd.N_alloc | apply Kd.N_drewN | apply Kd.N_drew)); exact HO_1.out) (Kd.R_base ho84) hb); have n1_ := Aside0.mk (Kd.N_elder' (by (with_reducible repeat (first | apply Kd.N_alloc | apply Kd.N_drewN | apply Kd.N_drew)); exact HO127.out) (Kd.R_base ho84) hb); have n2_ := Aside0.mk (Kd.R_elder' (RFn.mR HO130) (Kd.R_base ho84) hb); have n3_ := Aside0.mk (Kd.R_lower (Kd.R_new' ho84 (Kd.R_lt (RFn.mR HO130))) (below_size (RFn.bel))); have n4_ := Aside0.mk (below_step (RFn.bel) hb); clear HO_1; clear HO127; clear HO130; clear HB; have HO_1 := n0_; have HO127 := n1_; have HO130 := n2_; have HO133 := n3_; have HB := n4_; clear n0_ n1_ n2_ n3_ n4_; clear hb ho84; obtain ⟨Ao85, co85, eo85⟩ := Kd.R_slice HO133.out; subst eo85) | ((with_reducible refine gate_dst (N := 22) rfl ?_); (try (refine gate_guard (by rfl) ?_; dsimp only)); refine Kd.N_lit k49 _ 49 ?hg (N' := 22) ?hd (xs := ([(⟨1, y128⟩ : S49), (⟨3, y131⟩ : S49)] : List (S49))) (inner := [.int .i64 1, .slice Ao82 y128.length co82, .int .i64 3, .slice Ao85 y131.length co85]) (ok := (fun k_ => some k_ ≠ (.slice Ao78 t117.length co78 : Value).ownBlock ∧ some k_ ≠ (v126 : Value).ownBlock)) (okp := (fun k_ => some k_ ≠ (.slice Ao78 t117.length co78 : Value).ownBlock ∧ some k_ ≠ (v126 : Value).ownBlock)) ?hr ?hp (fun _ hk => hk) ((show ∀ k_, w83.heap.size ≤ k_ → (fun k_ => some k_ ≠ (.slice Ao78 t117.length co78 : Value).ownBlock ∧ some k_ ≠ (v126 : Value).ownBlock) k_ from fun k_ hk => ⟨Kd.fresh' (Kd.N_lt (by (with_reducible repeat (first | apply Kd.N_alloc | apply Kd.N_drewN | apply Kd.N_drew)); exact HO_1.out)) k_ hk, Kd.fresh' (Kd.N_lt (by (with_reducible repeat (first | apply Kd.N_alloc | apply Kd.N_drewN | apply Kd.N_drew)); exact HO127.out)) k_ hk⟩) _ (Nat.le_refl _)) (Below.refl _ _) (Nat.le_refl _) (by simp) ?_; (case hd => rfl); (case hg => rfl); (case hr => first | (go_simp; done) | (go_simp; rfl)); (case hp => exact (Reps.c2 (show Kd.FK k49 _ _ (⟨1, y128⟩ : S49) [.int .i64 1, .slice Ao82 y128.length co82] from (k49_mkF _ _ (⟨1, y128⟩ : S49) (Kd.R_reads' (Kd.R_mono (ok' := (fun k_ => some k_ ≠ (.slice Ao78 t117.length co78 : Value).ownBlock ∧ some k_ ≠ (v126 : Value).ownBlock)) (Kd.R_apart' (Kd.R_apart' (HO130.out) (Kd.N_typed HO_1.out) (by decide)) (Kd.N_typed HO127.out) (by decide)) (fun k_ hk => ⟨hk.1.2, hk.2⟩))).2.1 (Kd.R_F (Kd.R_mono (ok' := (fun k_ => some k_ ≠ (.slice Ao78 t117.length co78 : Value).ownBlock ∧ some k_ ≠ (v126 : Value).ownBlock)) (Kd.R_apart' (Kd.R_apart' (HO130.out) (Kd.N_typed HO_1.out) (by decide)) (Kd.N_typed HO127.out) (by decide)) (fun k_ hk => ⟨hk.1.2, hk.2⟩))))) (Reps.c2 (show Kd.FK k49 _ _ (⟨3, y131⟩ : S49) [.int .i64 3, .slice Ao85 y131.length co85] from (k49_mkF _ _ (⟨3, y131⟩ : S49) (Kd.R_reads' (Kd.R_mono (ok' := (fun k_ => some k_ ≠ (.slice Ao78 t117.length co78 : Value).ownBlock ∧ some k_ ≠ (v126 : Value).ownBlock)) (Kd.R_apart' (Kd.R_apart' (HO133.out) (Kd.N_typed HO_1.out) (by decide)) (Kd.N_typed HO127.out) (by decide)) (fun k_ hk => ⟨hk.1.2, hk.2⟩))).2.1 (Kd.R_F (Kd.R_mono (ok' := (fun k_ => some k_ ≠ (.slice Ao78 t117.length co78 : Value).ownBlock ∧ some k_ ≠ (v126 : Value).ownBlock)) (Kd.R_apart' (Kd.R_apart' (HO133.out) (Kd.N_typed HO_1.out) (by decide)) (Kd.N_typed HO127.out) (by decide)) (fun k_ hk => ⟨hk.1.2, hk.2⟩))))) (Reps.none _ _)))); intro v135 w86 ho87 hb hg_ hnew_; clear hg_ hnew_; (first | rw [← Ny134.out] at ho87 | (simp only [Int.reduceToNat] at ho87; rw [← Ny134.out] at ho87)); have n0_ := Aside0.mk (Kd.N_elder' (by (with_reducible repeat (first | apply Kd.N_alloc | apply Kd.N_drewN | apply Kd.N_drew)); exact HO_1.out) (Kd.N_base ho87) hb); have n1_ := Aside0.mk (Kd.N_elder' (by (with_reducible repeat (first | apply Kd.N_alloc | apply Kd.N_drewN | apply Kd.N_drew)); exact HO127.out) (Kd.N_base ho87) hb); have n2_ := Aside0.mk (Kd.N_lower ho87 (below_size (RFn.bel))); have n3_ := Aside0.mk (below_step (RFn.bel) hb); clear HO_1; clear HO127; clear HB; clear HO130; clear HO133; have HO_1 := n0_; have HO127 := n1_; have HO136 := n2_; have HB := n3_; clear n0_ n1_ n2_ n3_; clear hb ho87; obtain ⟨Ao88, co88, eo88⟩ := Kd.N_slice HO127.out; subst eo88; obtain ⟨Ao89, co89, eo89⟩ := Kd.N_slice HO136.out; subst eo89) | (go_at_call 12; (with_reducible refine (ref05_Same.calls kj1 _ _ t125 _ _ y134 true _ ?side1 ?side2 ?side3 ?side4 A8.out).mono ?_); (case side1 => exact RFn.mC (Kd.N_reads' HO127.out).2.2); (case side2 => exact (Kd.N_reads' HO127.out).2.1); (case side3 => exact RFn.mC (Kd.N_reads' HO136.out).2.2); (case side4 => exact (Kd.N_reads' HO136.out).2.1); rintro e w' ⟨rfl, ⟨nd, rfl⟩⟩))
      go_ret
      exact ⟨by first | rfl | (simp [errW_none, errW_some] <;> rfl) | (simp [*, errW_none, errW_some] <;> rfl), RFn.bel⟩
    ·replace c9 := Bool.eq_false_iff.mpr c9
     subst c9
     have H1 : (some false) = some r := by rw [if_neg (show ¬ (false = true) by decide)] at H; exact H
     clear H
     have H := H1
     clear H1
     obtain rfl := Option.some.inj H
     obtain ⟨Ao90, co90, eo90⟩ := Kd.N_slice HO_1.out
     subst eo90
     go_wp2_with (first | (go_at_call 13; (with_reducible refine (law05_Ours.calls kj1 (fun k_ => True) _ _ t117 t125 _ ?side1 A7.out).mono ?_); (case side1 => exact Kd.N_V (HO_1.out)); rintro e w91 ⟨v126, rfl, ho0, hb⟩; have n0_ := Aside0.mk (Kd.N_elder' (by (with_reducible repeat (first | apply Kd.N_alloc | apply Kd.N_drewN | apply Kd.N_drew)); exact HO_1.out) (Kd.N_base ho0) hb); have n1_ := Aside0.mk (Kd.N_lower (Kd.N_mono (ok' := fun k_ => True) ho0 (fun k_ hk_ => trivial)) (below_size (RFn.bel))); have n2_ := Aside0.mk (below_step (RFn.bel) hb); clear HO_1; clear HB; have HO_1 := n0_; have HO127 := n1_; have HB := n2_; clear n0_ n1_ n2_; (try clear hb); (try clear hk); (try clear ho0)) | ((with_reducible refine gate_dst (N := 18) rfl ?_); (try (refine gate_guard (by rfl) ?_; dsimp only)); refine Kd.R_lit Kd.string _ 9 ?hg (N := 18) ?hd (xs := ([(⟨#[97]⟩ : ByteArray), (⟨#[98]⟩ : ByteArray)] : List ByteArray)) (inner := [.string (⟨#[97]⟩ : ByteArray), .string (⟨#[98]⟩ : ByteArray)]) (ok := fun _ => True) (okp := fun _ => True) ?hr ?hp (fun _ hk => hk) trivial (Below.refl _ _) (Nat.le_refl _) (by simp) ?_; (case hd => rfl); (case hg => rfl); (case hr => first | (go_simp; done) | (go_simp; rfl)); (case hp => exact (Reps.one (show Kd.M Kd.string _ _ _ (⟨#[97]⟩ : ByteArray) [.string (⟨#[97]⟩ : ByteArray)] from rfl) (Reps.one (show Kd.M Kd.string _ _ _ (⟨#[98]⟩ : ByteArray) [.string (⟨#[98]⟩ : ByteArray)] from rfl) (Reps.none _ _)))); intro v129 w92 ho93 hb hg_ hnew_; clear hg_ hnew_; (first | rw [← Ny128.out] at ho93 | (simp only [Int.reduceToNat] at ho93; rw [← Ny128.out] at ho93)); have n0_ := Aside0.mk (Kd.N_elder' (by (with_reducible repeat (first | apply Kd.N_alloc | apply Kd.N_drewN | apply Kd.N_drew)); exact HO_1.out) (Kd.R_base ho93) hb); have n1_ := Aside0.mk (Kd.N_elder' (by (with_reducible repeat (first | apply Kd.N_alloc | apply Kd.N_drewN | apply Kd.N_drew)); exact HO127.out) (Kd.R_base ho93) hb); have n2_ := Aside0.mk (Kd.R_lower ho93 (below_size (RFn.bel))); have n3_ := Aside0.mk (below_step (RFn.bel) hb); clear HO_1; clear HO127; clear HB; have HO_1 := n0_; have HO127 := n1_; have HO130 := n2_; have HB := n3_; clear n0_ n1_ n2_ n3_; clear hb ho93; obtain ⟨Ao94, co94, eo94⟩ := Kd.R_slice HO130.out; subst eo94) | ((with_reducible refine gate_dst (N := 20) rfl ?_); (try (refine gate_guard (by rfl) ?_; dsimp only)); refine Kd.R_lit Kd.string _ 9 ?hg (N := 20) ?hd (xs := ([(⟨#[100]⟩ : ByteArray)] : List ByteArray)) (inner := [.string (⟨#[100]⟩ : ByteArray)]) (ok := fun _ => True) (okp := fun _ => True) ?hr ?hp (fun _ hk => hk) trivial (Below.refl _ _) (Nat.le_refl _) (by simp) ?_; (case hd => rfl); (case hg => rfl); (case hr => first | (go_simp; done) | (go_simp; rfl)); (case hp => exact (Reps.one (show Kd.M Kd.string _ _ _ (⟨#[100]⟩ : ByteArray) [.string (⟨#[100]⟩ : ByteArray)] from rfl) (Reps.none _ _))); intro v132 w95 ho96 hb hg_ hnew_; clear hg_ hnew_; (first | rw [← Ny131.out] at ho96 | (simp only [Int.reduceToNat] at ho96; rw [← Ny131.out] at ho96)); have n0_ := Aside0.mk (Kd.N_elder' (by (with_reducible repeat (first | apply Kd.N_alloc | apply Kd.N_drewN | apply Kd.N_drew)); exact HO_1.out) (Kd.R_base ho96) hb); have n1_ := Aside0.mk (Kd.N_elder' (by (with_reducible repeat (first | apply Kd.N_alloc | apply Kd.N_drewN | apply Kd.N_drew)); exact HO127.out) (Kd.R_base ho96) hb); have n2_ := Aside0.mk (Kd.R_elder' (RFn.mR HO130) (Kd.R_base ho96) hb); have n3_ := Aside0.mk (Kd.R_lower (Kd.R_new' ho96 (Kd.R_lt (RFn.mR HO130))) (below_size (RFn.bel))); have n4_ := Aside0.mk (below_step (RFn.bel) hb); clear HO_1; clear HO127; clear HO130; clear HB; have HO_1 := n0_; have HO127 := n1_; have HO130 := n2_; have HO133 := n3_; have HB := n4_; clear n0_ n1_ n2_ n3_ n4_; clear hb ho96; obtain ⟨Ao97, co97, eo97⟩ := Kd.R_slice HO133.out; subst eo97) | ((with_reducible refine gate_dst (N := 22) rfl ?_); (try (refine gate_guard (by rfl) ?_; dsimp only)); refine Kd.N_lit k49 _ 49 ?hg (N' := 22) ?hd (xs := ([(⟨1, y128⟩ : S49), (⟨3, y131⟩ : S49)] : List (S49))) (inner := [.int .i64 1, .slice Ao94 y128.length co94, .int .i64 3, .slice Ao97 y131.length co97]) (ok := (fun k_ => some k_ ≠ (.slice Ao90 t117.length co90 : Value).ownBlock ∧ some k_ ≠ (v126 : Value).ownBlock)) (okp := (fun k_ => some k_ ≠ (.slice Ao90 t117.length co90 : Value).ownBlock ∧ some k_ ≠ (v126 : Value).ownBlock)) ?hr ?hp (fun _ hk => hk) ((show ∀ k_, w95.heap.size ≤ k_ → (fun k_ => some k_ ≠ (.slice Ao90 t117.length co90 : Value).ownBlock ∧ some k_ ≠ (v126 : Value).ownBlock) k_ from fun k_ hk => ⟨Kd.fresh' (Kd.N_lt (by (with_reducible repeat (first | apply Kd.N_alloc | apply Kd.N_drewN | apply Kd.N_drew)); exact HO_1.out)) k_ hk, Kd.fresh' (Kd.N_lt (by (with_reducible repeat (first | apply Kd.N_alloc | apply Kd.N_drewN | apply Kd.N_drew)); exact HO127.out)) k_ hk⟩) _ (Nat.le_refl _)) (Below.refl _ _) (Nat.le_refl _) (by simp) ?_; (case hd => rfl); (case hg => rfl); (case hr => first | (go_simp; done) | (go_simp; rfl)); (case hp => exact (Reps.c2 (show Kd.FK k49 _ _ (⟨1, y128⟩ : S49) [.int .i64 1, .slice Ao94 y128.length co94] from (k49_mkF _ _ (⟨1, y128⟩ : S49) (Kd.R_reads' (Kd.R_mono (ok' := (fun k_ => some k_ ≠ (.slice Ao90 t117.length co90 : Value).ownBlock ∧ some k_ ≠ (v126 : Value).ownBlock)) (Kd.R_apart' (Kd.R_apart' (HO130.out) (Kd.N_typed HO_1.out) (by decide)) (Kd.N_typed HO127.out) (by decide)) (fun k_ hk => ⟨hk.1.2, hk.2⟩))).2.1 (Kd.R_F (Kd.R_mono (ok' := (fun k_ => some k_ ≠ (.slice Ao90 t117.length co90 : Value).ownBlock ∧ some k_ ≠ (v126 : Value).ownBlock)) (Kd.R_apart' (Kd.R_apart' (HO130.out) (Kd.N_typed HO_1.out) (by decide)) (Kd.N_typed HO127.out) (by decide)) (fun k_ hk => ⟨hk.1.2, hk.2⟩))))) (Reps.c2 (show Kd.FK k49 _ _ (⟨3, y131⟩ : S49) [.int .i64 3, .slice Ao97 y131.length co97] from (k49_mkF _ _ (⟨3, y131⟩ : S49) (Kd.R_reads' (Kd.R_mono (ok' := (fun k_ => some k_ ≠ (.slice Ao90 t117.length co90 : Value).ownBlock ∧ some k_ ≠ (v126 : Value).ownBlock)) (Kd.R_apart' (Kd.R_apart' (HO133.out) (Kd.N_typed HO_1.out) (by decide)) (Kd.N_typed HO127.out) (by decide)) (fun k_ hk => ⟨hk.1.2, hk.2⟩))).2.1 (Kd.R_F (Kd.R_mono (ok' := (fun k_ => some k_ ≠ (.slice Ao90 t117.length co90 : Value).ownBlock ∧ some k_ ≠ (v126 : Value).ownBlock)) (Kd.R_apart' (Kd.R_apart' (HO133.out) (Kd.N_typed HO_1.out) (by decide)) (Kd.N_typed HO127.out) (by decide)) (fun k_ hk => ⟨hk.1.2, hk.2⟩))))) (Reps.none _ _)))); intro v135 w98 ho99 hb hg_ hnew_; clear hg_ hnew_; (first | rw [← Ny134.out] at ho99 | (simp only [Int.reduceToNat] at ho99; rw [← Ny134.out] at ho99)); have n0_ := Aside0.mk (Kd.N_elder' (by (with_reducible repeat (first | apply Kd.N_alloc | apply Kd.N_drewN | apply Kd.N_drew)); exact HO_1.out) (Kd.N_base ho99) hb); have n1_ := Aside0.mk (Kd.N_elder' (by (with_reducible repeat (first | apply Kd.N_alloc | apply Kd.N_drewN | apply Kd.N_drew)); exact HO127.out) (Kd.N_base ho99) hb); have n2_ := Aside0.mk (Kd.N_lower ho99 (below_size (RFn.bel))); have n3_ := Aside0.mk (below_step (RFn.bel) hb); clear HO_1; clear HO127; clear HB; clear HO130; clear HO133; have HO_1 := n0_; have HO127 := n1_; have HO136 := n2_; have HB := n3_; clear n0_ n1_ n2_ n3_; clear hb ho99; obtain ⟨Ao100, co100, eo100⟩ := Kd.N_slice HO127.out; subst eo100; obtain ⟨Ao101, co101, eo101⟩ := Kd.N_slice HO136.out; subst eo101) | (go_at_call 12; (with_reducible refine (ref05_Same.calls kj1 _ _ t125 _ _ y134 false _ ?side1 ?side2 ?side3 ?side4 A8.out).mono ?_); (case side1 => exact RFn.mC (Kd.N_reads' HO127.out).2.2); (case side2 => exact (Kd.N_reads' HO127.out).2.1); (case side3 => exact RFn.mC (Kd.N_reads' HO136.out).2.2); (case side4 => exact (Kd.N_reads' HO136.out).2.1); rintro e w' ⟨rfl, ⟨nd, rfl⟩⟩))
     go_ret
     exact ⟨by first | rfl | (simp [errW_none, errW_some] <;> rfl) | (simp [*, errW_none, errW_some] <;> rfl), RFn.bel⟩
   ·rw [if_neg c6] at H
    have c6b0 : (t118 == 0) = false := beq_eq_false_iff_ne.mpr c6
    have c6b1 : (t118 != 0) = true := bne_iff_ne.mpr c6
    obtain rfl := Option.some.inj H
    go_wp2
    go_ret
    exact ⟨by first | rfl | (simp [errW_none, errW_some] <;> rfl) | (simp [*, errW_none, errW_some] <;> rfl), RFn.bel⟩
/-! ### law05_few: function 9 -/
mutual
def law05_few.l0 : Nat → List (S49) → List (S49) → Int → Int → Option (Bool)
 | 0, _, _, _, _ => none
 | k + 1, x0, x7, x8, x9 => if x9 < x8 then (if 0 ≤ x9 then (if x9 < (x7.length : Int) then (if (((rd_T49 x7 x9).f1).length : Int) > 60 then (some false) else (law05_few.l1 k x0 x7 x8 x9 ((rd_T49 x7 x9).f1) (((rd_T49 x7 x9).f1).length : Int) 0)) else (none)) else (none)) else (some (decide ((x0.length : Int) ≤ 60)))
def law05_few.l1 : Nat → List (S49) → List (S49) → Int → Int → List ByteArray → Int → Int → Option (Bool)
 | 0, _, _, _, _, _, _, _ => none
 | k + 1, x0, x7, x8, x9, x18, x19, x20 => if x20 < x19 then (if 0 ≤ x20 then (if x20 < (x18.length : Int) then (if ((rdOf ByteArray.empty x18 x20).size : Int) > 100 then (some false) else (law05_few.l1 k x0 x7 x8 x9 x18 x19 (wrap64 (x20 + 1)))) else (none)) else (none)) else (law05_few.l0 k x0 x7 x8 (wrap64 (x9 + 1)))
end
def law05_few.f (k : Nat) (l0 : List (S49)) : Option (Bool) := law05_few.l0 k l0 l0 (l0.length : Int) 0
theorem law05_few.mono_l : ∀ k, (∀ y0 y1 y2 y3, LeO (law05_few.l0 k y0 y1 y2 y3) (law05_few.l0 (k + 1) y0 y1 y2 y3)) ∧ (∀ y0 y1 y2 y3 y4 y5 y6, LeO (law05_few.l1 k y0 y1 y2 y3 y4 y5 y6) (law05_few.l1 (k + 1) y0 y1 y2 y3 y4 y5 y6))
 | 0 => ⟨fun _ _ _ _ r h => by simp [law05_few.l0] at h, fun _ _ _ _ _ _ _ r h => by simp [law05_few.l1] at h⟩
 | k + 1 => by
  obtain ⟨ih0, ih1⟩ := law05_few.mono_l k
  refine ⟨?_, ?_⟩
  ·intro y0 y1 y2 y3
   unfold law05_few.l0
   repeat' with_reducible first | exact LeO.refl _ | apply ih0 | apply ih1 | exact LeO.none _ | apply LeO.ite | refine LeO.bind ?_ fun _ => ?_
  ·intro y0 y1 y2 y3 y4 y5 y6
   unfold law05_few.l1
   repeat' with_reducible first | exact LeO.refl _ | apply ih0 | apply ih1 | exact LeO.none _ | apply LeO.ite | refine LeO.bind ?_ fun _ => ?_
theorem law05_few.mono : ∀ a0 k, LeO (law05_few.f k a0) (law05_few.f (k + 1) a0) := by
 intro a0 k
 obtain ⟨ih0, ih1⟩ := law05_few.mono_l k
 unfold law05_few.f
 repeat' with_reducible first | exact LeO.refl _ | apply ih0 | apply ih1 | exact LeO.none _ | apply LeO.ite | refine LeO.bind ?_ fun _ => ?_
set_option maxHeartbeats 8000000 in
set_option maxRecDepth 100000 in
theorem law05_few.calls (k : Nat) (A0 : Option Addr) (c0 : Nat) (l0 : List (S49)) (r : Bool) (w : World) (hr0 : Kd.C k49 w A0 l0.length l0) (hc0 : l0.length ≤ c0) (h : law05_few.f k l0 = some r) :
  Calls Tryd.prog 9 #[.slice A0 l0.length c0] w fun e w' => e = .returned (.bool r) ∧ Below w.heap.size w w' := by
 have hu49 := Tryd.underlying49
 have HR0 := Aside0.mk hr0
 have HC0 := Aside0.mk hc0
 clear hr0 hc0
 have HB := Aside0.mk (Below.refl w.heap.size w)
 have H : (law05_few.l0 k l0 l0 (l0.length : Int) 0) = some r := h
 clear h
 have H' := Aside0.mk H
 clear H
 go_enter Tryd.func9, Tryd.ntmps9
 go_wp2
 go_loopg [9] k (fun kq v9 w' => ∃ (x9_1 : Int), v9 = .int .i64 x9_1 ∧ Aside0 (law05_few.l0 kq l0 l0 (l0.length : Int) x9_1 = some r) ∧ Aside0 (kq ≤ k) ∧ Aside0 (Below w.heap.size w w'))
 case atStart => exact ⟨(0), (by first | rfl | (simp; done) | (simp [*]; done)), H', ⟨Nat.le_refl _⟩, ⟨RFn.bel⟩⟩
 case round =>
  clear H'
  obtain ⟨x9_1, rfl, HA, HK1, HB⟩ := hrel
  cases gk with
  | zero => exact absurd HA.out (by simp [law05_few.l0])
  | succ k1 =>
   have H := HA.out
   clear HA
   simp only [law05_few.l0] at H
   by_cases c2 : x9_1 < (l0.length : Int)
   ·rw [if_pos c2] at H
    have c2b0 : decide (x9_1 < (l0.length : Int)) = true := decide_eq_true c2
    clear c2
    by_cases c3 : 0 ≤ x9_1
    ·rw [if_pos c3] at H
     have c3b0 : decide (0 ≤ x9_1) = true := decide_eq_true c3
     clear c3
     by_cases c4 : x9_1 < (l0.length : Int)
     ·rw [if_pos c4] at H
      have c4b0 : decide (x9_1 < (l0.length : Int)) = true := decide_eq_true c4
      clear c4
      by_cases c5 : (((rd_T49 l0 x9_1).f1).length : Int) > 60
      ·rw [if_pos c5] at H
       have c5b0 : decide (60 < (((rd_T49 l0 x9_1).f1).length : Int)) = true := decide_eq_true c5
       have c5b1 : decide (60 < ((rd_T49 l0 x9_1).f1).length) = true := decide_eq_true (by omega)
       clear c5
       obtain rfl := Option.some.inj H
       have p145 : 0 ≤ (x9_1 : Int) := RFn.od
       have q145 : x9_1 < (l0.length : Int) := RFn.od
       obtain ⟨ad145, A145_1, c145_1, e145, hx145_0, hx145_1, hl145_1, hi145_1⟩ := at_T49 HR0.out x9_1 p145 q145
       cases e145
       replace hx145_0 := RFn.hb HB hx145_0
       replace hx145_1 := RFn.hb HB hx145_1
       have HR145_1 := Aside0.mk hi145_1
       have HC145_1 := Aside0.mk hl145_1
       clear hi145_1 hl145_1
       replace p145 := eq_true p145
       replace q145 := eq_true q145
       go_wp2_with (first | ((with_reducible refine gate_dst (N := 4) rfl ?_); refine box_event ?hg (N := 4) ?hd (cs := #[.int .i64 0, .slice none 0 0]) (t := 49) ?hr ?_; (case hd => rfl); (case hg => rfl); (case hr => first | (go_simp; done) | (go_simp; rfl)); intro gb146 hg w6 hbox hb; have n0_ := Aside0.mk (below_step (RFn.bel) hb); have n1_ := Aside0.mk (hbox); have n2_ := Aside0.mk ((by rw [hg]; exact (below_size (RFn.bel)) : w.heap.size ≤ gb146)); have n3_ := Aside0.mk ((by rw [hg]; exact (below_size (RFn.bel)) : w.heap.size ≤ gb146)); clear HB; have HB := n0_; have BK146 := n1_; have GW146 := n2_; have GE146 := n3_; clear n0_ n1_ n2_ n3_; clear hb hbox hg; obtain ⟨hcz7_0, hcz7_1⟩ := RFn.bc2 BK146; obtain ⟨hfz7_0, hfz7_1⟩ := RFn.bf2 BK146))
       go_ret
       exact ⟨by first | rfl | (simp [errW_none, errW_some] <;> rfl) | (simp [*, errW_none, errW_some] <;> rfl), RFn.bels⟩
      ·rw [if_neg c5] at H
       have c5b0 : decide (60 < (((rd_T49 l0 x9_1).f1).length : Int)) = false := decide_eq_false c5
       have c5b1 : decide (60 < ((rd_T49 l0 x9_1).f1).length) = false := decide_eq_false (by omega)
       clear c5
       have H' := Aside0.mk H
       clear H
       have p145 : 0 ≤ (x9_1 : Int) := RFn.od
       have q145 : x9_1 < (l0.length : Int) := RFn.od
       obtain ⟨ad145, A145_1, c145_1, e145, hx145_0, hx145_1, hl145_1, hi145_1⟩ := at_T49 HR0.out x9_1 p145 q145
       cases e145
       replace hx145_0 := RFn.hb HB hx145_0
       replace hx145_1 := RFn.hb HB hx145_1
       have HR145_1 := Aside0.mk hi145_1
       have HC145_1 := Aside0.mk hl145_1
       clear hi145_1 hl145_1
       replace p145 := eq_true p145
       replace q145 := eq_true q145
       go_wp2_with (first | ((with_reducible refine gate_dst (N := 4) rfl ?_); refine box_event ?hg (N := 4) ?hd (cs := #[.int .i64 0, .slice none 0 0]) (t := 49) ?hr ?_; (case hd => rfl); (case hg => rfl); (case hr => first | (go_simp; done) | (go_simp; rfl)); intro gb146 hg w8 hbox hb; have n0_ := Aside0.mk (below_step (RFn.bel) hb); have n1_ := Aside0.mk (hbox); have n2_ := Aside0.mk ((by rw [hg]; exact (below_size (RFn.bel)) : w.heap.size ≤ gb146)); have n3_ := Aside0.mk ((by rw [hg]; exact (below_size (RFn.bel)) : w.heap.size ≤ gb146)); clear HB; have HB := n0_; have BK146 := n1_; have GW146 := n2_; have GE146 := n3_; clear n0_ n1_ n2_ n3_; clear hb hbox hg; obtain ⟨hcz9_0, hcz9_1⟩ := RFn.bc2 BK146; obtain ⟨hfz9_0, hfz9_1⟩ := RFn.bf2 BK146))
       go_loopg [20] k1 (fun kq v20 w' => ∃ (x20_2 : Int), v20 = .int .i64 x20_2 ∧ Aside0 (law05_few.l1 kq l0 l0 (l0.length : Int) x9_1 ((rd_T49 l0 x9_1).f1) (((rd_T49 l0 x9_1).f1).length : Int) x20_2 = some r) ∧ Aside0 (kq ≤ k1) ∧ Aside0 (w'.heap[gb146]? = some (.cells #[.int .i64 ((rd_T49 l0 x9_1).f0), (.slice A145_1 ((rd_T49 l0 x9_1).f1).length c145_1)] 49 (0, 0))) ∧ Aside0 (Below w.heap.size w w'))
       case atStart => exact ⟨(0), (by first | rfl | (simp; done) | (simp [*]; done)), H', ⟨Nat.le_refl _⟩, ⟨by refine RFn.d3 ?_; refine blk_put (cs := #[.int .i64 ((rd_T49 l0 x9_1).f0), .slice none 0 0]) ?_ 1 _ rfl; refine RFn.d3 ?_; refine blk_put (cs := #[.int .i64 0, .slice none 0 0]) ?_ 0 _ rfl; refine RFn.d3 ?_; exact BK146.out⟩, ⟨RFn.bels⟩⟩
       case round =>
        clear H'
        try clear c2
        try clear c2b0
        try clear c3
        try clear c3b0
        try clear c4
        try clear c4b0
        try clear c5
        try clear c5b0
        try clear c5b1
        try clear hcz7_0
        try clear hcz7_1
        try clear hcz9_0
        try clear hcz9_1
        try clear hfz7_0
        try clear hfz7_1
        try clear hfz9_0
        try clear hfz9_1
        try clear hx145_0
        try clear hx145_1
        try clear p145
        try clear q145
        obtain ⟨x20_2, rfl, HA, HK2, BK146, HB⟩ := hrel
        cases gk with
        | zero => exact absurd HA.out (by simp [law05_few.l1])
        | succ k2 =>
         have H := HA.out
         clear HA
         simp only [law05_few.l1] at H
         by_cases c10 : x20_2 < (((rd_T49 l0 x9_1).f1).length : Int)
         ·rw [if_pos c10] at H
          have c10b0 : decide (x20_2 < (((rd_T49 l0 x9_1).f1).length : Int)) = true := decide_eq_true c10
          clear c10
          by_cases c11 : 0 ≤ x20_2
          ·rw [if_pos c11] at H
           have c11b0 : decide (0 ≤ x20_2) = true := decide_eq_true c11
           clear c11
           by_cases c12 : x20_2 < (((rd_T49 l0 x9_1).f1).length : Int)
           ·rw [if_pos c12] at H
            have c12b0 : decide (x20_2 < (((rd_T49 l0 x9_1).f1).length : Int)) = true := decide_eq_true c12
            clear c12
            by_cases c13 : ((rdOf ByteArray.empty ((rd_T49 l0 x9_1).f1) x20_2).size : Int) > 100
            ·rw [if_pos c13] at H
             have c13b0 : decide (100 < ((rdOf ByteArray.empty ((rd_T49 l0 x9_1).f1) x20_2).size : Int)) = true := decide_eq_true c13
             have c13b1 : decide (100 < (rdOf ByteArray.empty ((rd_T49 l0 x9_1).f1) x20_2).size) = true := decide_eq_true (by omega)
             clear c13
             obtain rfl := Option.some.inj H
             have p147 : 0 ≤ (x20_2 : Int) := RFn.od
             have q147 : x20_2 < (((rd_T49 l0 x9_1).f1).length : Int) := RFn.od
             obtain ⟨ad147, e147, hx147_0⟩ := Kd.at_string HR145_1.out x20_2 p147 q147
             cases e147
             replace hx147_0 := RFn.hb HB hx147_0
             replace p147 := eq_true p147
             replace q147 := eq_true q147
             go_wp2
             go_ret
             exact ⟨by first | rfl | (simp [errW_none, errW_some] <;> rfl) | (simp [*, errW_none, errW_some] <;> rfl), RFn.bels⟩
            ·rw [if_neg c13] at H
             have c13b0 : decide (100 < ((rdOf ByteArray.empty ((rd_T49 l0 x9_1).f1) x20_2).size : Int)) = false := decide_eq_false c13
             have c13b1 : decide (100 < (rdOf ByteArray.empty ((rd_T49 l0 x9_1).f1) x20_2).size) = false := decide_eq_false (by omega)
             clear c13
             have H' := Aside0.mk H
             clear H
             have p147 : 0 ≤ (x20_2 : Int) := RFn.od
             have q147 : x20_2 < (((rd_T49 l0 x9_1).f1).length : Int) := RFn.od
             obtain ⟨ad147, e147, hx147_0⟩ := Kd.at_string HR145_1.out x20_2 p147 q147
             cases e147
             replace hx147_0 := RFn.hb HB hx147_0
             replace p147 := eq_true p147
             replace q147 := eq_true q147
             go_wp2
             go_roundg k2
             case measure => have := HK1.out; have := HK2.out; omega
             case rel => exact ⟨(wrap64 (x20_2 + 1)), (by first | rfl | (simp; done) | (simp [*]; done)), H', ⟨by have := HK1.out; have := HK2.out; omega⟩, ⟨RFn.mB BK146⟩, ⟨RFn.bels⟩⟩
           ·rw [if_neg c12] at H
            exact absurd H (by simp)
          ·rw [if_neg c11] at H
           exact absurd H (by simp)
         ·rw [if_neg c10] at H
          have c10b0 : decide (x20_2 < (((rd_T49 l0 x9_1).f1).length : Int)) = false := decide_eq_false c10
          clear c10
          have H' := Aside0.mk H
          clear H
          go_wp2
          go_roundg k2
          case measure => have := HK1.out; have := HK2.out; omega
          case rel => exact ⟨(wrap64 (x9_1 + 1)), (by first | rfl | (simp; done) | (simp [*]; done)), H', ⟨by have := HK1.out; have := HK2.out; omega⟩, ⟨RFn.bels⟩⟩
     ·rw [if_neg c4] at H
      exact absurd H (by simp)
    ·rw [if_neg c3] at H
     exact absurd H (by simp)
   ·rw [if_neg c2] at H
    have c2b0 : decide (x9_1 < (l0.length : Int)) = false := decide_eq_false c2
    clear c2
    obtain rfl := Option.some.inj H
    go_wp2
    go_ret
    exact ⟨by first | rfl | (simp [errW_none, errW_some] <;> rfl) | (simp [*, errW_none, errW_some] <;> rfl), RFn.bel⟩
end Go.Proofs.YtffdhekmnoajiaaDoor.Q
