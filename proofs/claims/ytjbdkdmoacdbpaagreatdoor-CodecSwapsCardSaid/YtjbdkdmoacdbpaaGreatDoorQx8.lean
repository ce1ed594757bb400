/- printed by a program of this session (wip/tools/pr.sh): it is not a print of the kit -/
import Derived.Test.YtjbdkdmoacdbpaaGreatDoorQx0
import Derived.Test.YtjbdkdmoacdbpaaGreatDoorQx2
import Derived.Test.YtjbdkdmoacdbpaaGreatDoorQx7
namespace Go.Proofs.YtjbdkdmoacdbpaaGreatDoor.Q
open Go.RowKit Go.Proofs.YtjbdkdmoacdbpaaGreatDoorW.PrintWords Go.Proofs.YtjbdkdmoacdbpaaGreatDoorW.PrintLast Go.Proofs.YtjbdkdmoacdbpaaGreatDoorW.PrintMore
attribute [local go_sem] max2_int min2_int max_two min_two max_three min_three max_four min_four RFn.gtr_str   -- for this text's walks alone
set_option linter.unusedVariables false
set_option linter.unusedSimpArgs false
attribute [local go_sem high] eqA54
/-! ### ref01_form: function 45 -/
mutual
def ref01_form.j0 : Nat → ByteArray → Bool → Option (Bool)
 | 0, _, _ => none
 | k + 1, x0, x11 => if x11 = true then (if 1 ≤ (x0.size : Int) then (if ((x0.extract 1 x0.size).size : Int) > 0 then (if 0 < ((x0.extract 1 x0.size).size : Int) then (if (bt (x0.extract 1 x0.size) 0) = 48 then (some false) else (ref01_form.j1 k (x0.extract 1 x0.size))) else (none)) else (ref01_form.j1 k (x0.extract 1 x0.size))) else (none)) else (ref01_form.j1 k x0)
def ref01_form.j1 : Nat → ByteArray → Option (Bool)
 | 0, _ => none
 | k + 1, x0 => if (x0.size : Int) = 0 then (ref01_form.j2 k x0 true) else (if (x0.size : Int) > 1 then (if 0 < (x0.size : Int) then (ref01_form.j2 k x0 ((bt x0 0) == 48)) else (none)) else (ref01_form.j2 k x0 false))
def ref01_form.j2 : Nat → ByteArray → Bool → Option (Bool)
 | 0, _, _ => none
 | k + 1, x0, x34 => if x34 = true then (some false) else (ref01_form.l0 k x0 0)
def ref01_form.l0 : Nat → ByteArray → Int → Option (Bool)
 | 0, _, _ => none
 | k + 1, x0, x3 => if x3 < (x0.size : Int) then (if 0 ≤ x3 then (if (bt x0 x3) < 48 then (some false) else (if (bt x0 x3) > 57 then (some false) else (ref01_form.l0 k x0 (wrap64 (x3 + 1))))) else (none)) else (some true)
end
def ref01_form.f (k : Nat) (a0 : ByteArray) : Option (Bool) := if (a0.size : Int) > 0 then (if 0 < (a0.size : Int) then (ref01_form.j0 k a0 ((bt a0 0) == 45)) else (none)) else (ref01_form.j0 k a0 false)
theorem ref01_form.mono_l : ∀ k, (∀ y0 y1, LeO (ref01_form.j0 k y0 y1) (ref01_form.j0 (k + 1) y0 y1)) ∧ (∀ y0, LeO (ref01_form.j1 k y0) (ref01_form.j1 (k + 1) y0)) ∧ (∀ y0 y1, LeO (ref01_form.j2 k y0 y1) (ref01_form.j2 (k + 1) y0 y1)) ∧ (∀ y0 y1, LeO (ref01_form.l0 k y0 y1) (ref01_form.l0 (k + 1) y0 y1))
 | 0 => ⟨fun _ _ r h => by simp [ref01_form.j0] at h, fun _ r h => by simp [ref01_form.j1] at h, fun _ _ r h => by simp [ref01_form.j2] at h, fun _ _ r h => by simp [ref01_form.l0] at h⟩
 | k + 1 => by
  obtain ⟨ih0, ih1, ih2, ih3⟩ := ref01_form.mono_l k
  refine ⟨?_, ?_, ?_, ?_⟩
  ·intro y0 y1
   unfold ref01_form.j0
   repeat' with_reducible first | exact LeO.refl _ | apply ih0 | apply ih1 | apply ih2 | apply ih3 | exact LeO.none _ | apply LeO.ite | refine LeO.bind ?_ fun _ => ?_
  ·intro y0
   unfold ref01_form.j1
   repeat' with_reducible first | exact LeO.refl _ | apply ih0 | apply ih1 | apply ih2 | apply ih3 | exact LeO.none _ | apply LeO.ite | refine LeO.bind ?_ fun _ => ?_
  ·intro y0 y1
   unfold ref01_form.j2
   repeat' with_reducible first | exact LeO.refl _ | apply ih0 | apply ih1 | apply ih2 | apply ih3 | exact LeO.none _ | apply LeO.ite | refine LeO.bind ?_ fun _ => ?_
  ·intro y0 y1
   unfold ref01_form.l0
   repeat' with_reducible first | exact LeO.refl _ | apply ih0 | apply ih1 | apply ih2 | apply ih3 | exact LeO.none _ | apply LeO.ite | refine LeO.bind ?_ fun _ => ?_
theorem ref01_form.mono : ∀ a0 k, LeO (ref01_form.f k a0) (ref01_form.f (k + 1) a0) := by
 intro a0 k
 obtain ⟨ih0, ih1, ih2, ih3⟩ := ref01_form.mono_l k
 unfold ref01_form.f
 repeat' with_reducible first | exact LeO.refl _ | apply ih0 | apply ih1 | apply ih2 | apply ih3 | exact LeO.none _ | apply LeO.ite | refine LeO.bind ?_ fun _ => ?_
set_option maxHeartbeats 8000000 in
set_option maxRecDepth 100000 in
theorem ref01_form.calls (k : Nat) (a0 : ByteArray) (r : Bool) (w : World) (h : ref01_form.f k a0 = some r) :
  Calls Tryz.prog 45 #[.string a0] w fun e w' => e = .returned (.bool r) ∧ Drawn0 w w' := by
 have H : (if (a0.size : Int) > 0 then (if 0 < (a0.size : Int) then (ref01_form.j0 k a0 ((bt a0 0) == 45)) else (none)) else (ref01_form.j0 k a0 false)) = some r := h
 clear h
 have HC2 := Aside0.mk H
 clear H
 go_enter Tryz.func45, Tryz.ntmps45
 go_upto_region 1 with (fail)
 go_cut [11] (fun v11 wc => ∃ (kq : Nat) (x11_1 : Bool), v11 = .bool x11_1 ∧ Aside0 (ref01_form.j0 kq a0 x11_1 = some r) ∧ Aside0 (kq ≤ k) ∧ Drawn0 w wc)
 case first =>
  have H := HC2.out
  clear HC2
  by_cases c3 : (a0.size : Int) > 0
  ·rw [if_pos c3] at H
   have c3b0 : decide (0 < (a0.size : Int)) = true := decide_eq_true c3
   have c3b1 : decide (0 < a0.size) = true := decide_eq_true (by omega)
   clear c3
   (first | rw [c3b0] | (simp only [i64_w, i32_w]; rw [c3b0]) | skip)
   by_cases c4 : 0 < (a0.size : Int)
   ·rw [if_pos c4] at H
    have c4b0 : decide (0 < (a0.size : Int)) = true := decide_eq_true c4
    have c4b1 : decide (0 < a0.size) = true := decide_eq_true (by omega)
    clear c4
    have H' := Aside0.mk H
    clear H
    have p5 : 0 ≤ (0 : Int) := (by omega)
    have q5 : 0 < a0.size := (by have : (0 : Int) < (a0.size : Int) := RFn.od; omega)
    have hx5 : ∀ h : 0 < a0.size, ((a0[0]'h).toNat : Int) = bt a0 0 := bt_at a0 0
    clear p5
    have qi5 : (0 < (a0.size : Int)) = True := eq_true (RFn.od)
    replace q5 := eq_true q5
    go_wp2
    go_meet
    case rel => exact ⟨_, (((bt a0 0) == 45)), (by first | rfl | (simp; done) | (simp [*]; done)), H', ⟨by first | omega | exact Nat.le_refl _⟩, by repeat (first | exact Drawn0.refl _ | apply Drawn0.step)⟩
   ·rw [if_neg c4] at H
    exact absurd H (by simp)
  ·rw [if_neg c3] at H
   have c3b0 : decide (0 < (a0.size : Int)) = false := decide_eq_false c3
   have c3b1 : decide (0 < a0.size) = false := decide_eq_false (by omega)
   clear c3
   (first | rw [c3b0] | (simp only [i64_w, i32_w]; rw [c3b0]) | skip)
   have H' := Aside0.mk H
   clear H
   go_wp2
   go_meet
   case rel => exact ⟨_, (false), (by first | rfl | (simp; done) | (simp [*]; done)), H', ⟨by first | omega | exact Nat.le_refl _⟩, by repeat (first | exact Drawn0.refl _ | apply Drawn0.step)⟩
 case rest =>
  clear HC2
  try clear c3
  try clear c3b0
  try clear c3b1
  try clear c4
  try clear c4b0
  try clear c4b1
  try clear p5
  try clear q5
  try clear hx5
  try clear qi5
  try clear p5
  try clear q5
  obtain ⟨kq, x11_1, rfl, HA, HJ1, ⟨mc1, rfl⟩⟩ := hcut
  cases kq with
  | zero => exact absurd HA.out (by simp [ref01_form.j0])
  | succ kj1 =>
   have H := HA.out
   clear HA
   simp only [ref01_form.j0] at H
   have HC6 := Aside0.mk H
   clear H
   go_upto_if 11 with (fail)
   go_cut [0] (fun v0 wc => ∃ (kq : Nat) (x0_5 : ByteArray), v0 = .string x0_5 ∧ Aside0 (ref01_form.j1 kq x0_5 = some r) ∧ Aside0 (kq ≤ kj1) ∧ Drawn0 w wc)
   case first =>
    have H := HC6.out
    clear HC6
    by_cases c7 : x11_1 = true
    ·subst c7
     have H1 : (if 1 ≤ (a0.size : Int) then (if ((a0.extract 1 a0.size).size : Int) > 0 then (if 0 < ((a0.extract 1 a0.size).size : Int) then (if (bt (a0.extract 1 a0.size) 0) = 48 then (some false) else (ref01_form.j1 kj1 (a0.extract 1 a0.size))) else (none)) else (ref01_form.j1 kj1 (a0.extract 1 a0.size))) else (none)) = some r := by rw [if_pos rfl] at H; exact H
     clear H
     have H := H1
     clear H1
     by_cases c8 : 1 ≤ (a0.size : Int)
     ·rw [if_pos c8] at H
      have c8b0 := eq_true c8
      have c8b1 : decide (1 ≤ (a0.size : Int)) = true := decide_eq_true c8
      clear c8
      by_cases c9 : ((a0.extract 1 a0.size).size : Int) > 0
      ·rw [if_pos c9] at H
       have c9b0 : decide (0 < ((a0.extract 1 a0.size).size : Int)) = true := decide_eq_true c9
       (try (have c9b0x := c9b0; simp only [ByteArray.size_extract, Nat.min_self] at c9b0x))
       have c9b1 : decide (0 < (a0.extract 1 a0.size).size) = true := decide_eq_true (by omega)
       (try (have c9b1x := c9b1; simp only [ByteArray.size_extract, Nat.min_self] at c9b1x))
       clear c9
       (first | rw [c9b0] | (simp only [i64_w, i32_w]; rw [c9b0]) | skip)
       by_cases c10 : 0 < ((a0.extract 1 a0.size).size : Int)
       ·rw [if_pos c10] at H
        have c10b0 : decide (0 < ((a0.extract 1 a0.size).size : Int)) = true := decide_eq_true c10
        (try (have c10b0x := c10b0; simp only [ByteArray.size_extract, Nat.min_self] at c10b0x))
        have c10b1 : decide (0 < (a0.extract 1 a0.size).size) = true := decide_eq_true (by omega)
        (try (have c10b1x := c10b1; simp only [ByteArray.size_extract, Nat.min_self] at c10b1x))
        clear c10
        by_cases c12 : (bt (a0.extract 1 a0.size) 0) = 48
        ·rw [if_pos c12] at H
         have c12b0 : ((bt (a0.extract 1 a0.size) 0) == 48) = true := beq_iff_eq.mpr c12
         have c12b1 : ((bt (a0.extract 1 a0.size) 0) != 48) = false := bne_eq_false_iff_eq.mpr c12
         clear c12
         obtain rfl := Option.some.inj H
         have p11 : 0 ≤ (0 : Int) := (by omega)
         have q11 : 0 < (a0.extract 1 a0.size).size := (by have : (0 : Int) < ((a0.extract 1 a0.size).size : Int) := RFn.od; omega)
         have hx11 : ∀ h : 0 < (a0.extract 1 a0.size).size, (((a0.extract 1 a0.size)[0]'h).toNat : Int) = bt (a0.extract 1 a0.size) 0 := bt_at (a0.extract 1 a0.size) 0
         clear p11
         have qi11 : (0 < ((a0.extract 1 a0.size).size : Int)) = True := eq_true (RFn.od)
         replace q11 := eq_true q11
         (try (have q11x := q11; rw [ByteArray.size_extract, Nat.min_self] at q11x))
         go_wp2
         go_ret
         exact ⟨by first | rfl | (simp; done) | (simp [*]; done), by repeat (first | exact Drawn0.refl _ | apply Drawn0.step)⟩
        ·rw [if_neg c12] at H
         have c12b0 : ((bt (a0.extract 1 a0.size) 0) == 48) = false := beq_eq_false_iff_ne.mpr c12
         have c12b1 : ((bt (a0.extract 1 a0.size) 0) != 48) = true := bne_iff_ne.mpr c12
         have H' := Aside0.mk H
         clear H
         have p11 : 0 ≤ (0 : Int) := (by omega)
         have q11 : 0 < (a0.extract 1 a0.size).size := (by have : (0 : Int) < ((a0.extract 1 a0.size).size : Int) := RFn.od; omega)
         have hx11 : ∀ h : 0 < (a0.extract 1 a0.size).size, (((a0.extract 1 a0.size)[0]'h).toNat : Int) = bt (a0.extract 1 a0.size) 0 := bt_at (a0.extract 1 a0.size) 0
         clear p11
         have qi11 : (0 < ((a0.extract 1 a0.size).size : Int)) = True := eq_true (RFn.od)
         replace q11 := eq_true q11
         (try (have q11x := q11; rw [ByteArray.size_extract, Nat.min_self] at q11x))
         go_wp2
         first | go_meet | (simp only [c12b0] at *; go_meet)
         case rel => exact ⟨_, (a0.extract 1 a0.size), (by first | rfl | (simp; done) | (simp [*]; done)), H', ⟨by have := HJ1.out; first | omega | exact Nat.le_refl _⟩, by repeat (first | exact Drawn0.refl _ | apply Drawn0.step)⟩
       ·rw [if_neg c10] at H
        exact absurd H (by simp)
      ·rw [if_neg c9] at H
       have c9b0 : decide (0 < ((a0.extract 1 a0.size).size : Int)) = false := decide_eq_false c9
       (try (have c9b0x := c9b0; simp only [ByteArray.size_extract, Nat.min_self] at c9b0x))
       have c9b1 : decide (0 < (a0.extract 1 a0.size).size) = false := decide_eq_false (by omega)
       (try (have c9b1x := c9b1; simp only [ByteArray.size_extract, Nat.min_self] at c9b1x))
       clear c9
       (first | rw [c9b0] | (simp only [i64_w, i32_w]; rw [c9b0]) | skip)
       have H' := Aside0.mk H
       clear H
       go_wp2
       go_meet
       case rel => exact ⟨_, (a0.extract 1 a0.size), (by first | rfl | (simp; done) | (simp [*]; done)), H', ⟨by have := HJ1.out; first | omega | exact Nat.le_refl _⟩, by repeat (first | exact Drawn0.refl _ | apply Drawn0.step)⟩
     ·rw [if_neg c8] at H
      exact absurd H (by simp)
    ·replace c7 := Bool.eq_false_iff.mpr c7
     subst c7
     have H1 : (ref01_form.j1 kj1 a0) = some r := by rw [if_neg (show ¬ (false = true) by decide)] at H; exact H
     clear H
     have H := H1
     clear H1
     have H' := Aside0.mk H
     clear H
     go_wp2
     go_meet
     case rel => exact ⟨_, (a0), (by first | rfl | (simp; done) | (simp [*]; done)), H', ⟨by have := HJ1.out; first | omega | exact Nat.le_refl _⟩, by repeat (first | exact Drawn0.refl _ | apply Drawn0.step)⟩
   case rest =>
    clear HC6
    try clear c3
    try clear c3b0
    try clear c3b1
    try clear c4
    try clear c4b0
    try clear c4b1
    try clear p5
    try clear q5
    try clear hx5
    try clear qi5
    try clear c7
    try clear c8
    try clear c8b0
    try clear c8b1
    try clear c9
    try clear c9b0
    try clear c9b1
    try clear c10
    try clear c10b0
    try clear c10b1
    try clear p11
    try clear q11
    try clear hx11
    try clear qi11
    try clear c12
    try clear c12b0
    try clear c12b1
    try clear p11
    try clear p5
    try clear q11
    try clear q5
    obtain ⟨kq, x0_5, rfl, HA, HJ5, ⟨mc5, rfl⟩⟩ := hcut
    cases kq with
    | zero => exact absurd HA.out (by simp [ref01_form.j1])
    | succ kj5 =>
     have H := HA.out
     clear HA
     simp only [ref01_form.j1] at H
     have HC13 := Aside0.mk H
     clear H
     go_upto_region 5 with (fail)
     go_cut [34] (fun v34 wc => ∃ (kq : Nat) (x34_12 : Bool), v34 = .bool x34_12 ∧ Aside0 (ref01_form.j2 kq x0_5 x34_12 = some r) ∧ Aside0 (kq ≤ kj5) ∧ Drawn0 w wc)
     case first =>
      have H := HC13.out
      clear HC13
      by_cases c14 : (x0_5.size : Int) = 0
      ·rw [if_pos c14] at H
       have c14b0 : ((x0_5.size : Int) == 0) = true := beq_iff_eq.mpr c14
       have c14b1 : ((x0_5.size : Int) != 0) = false := bne_eq_false_iff_eq.mpr c14
       clear c14
       (first | rw [c14b0] | (simp only [i64_w, i32_w]; rw [c14b0]) | skip)
       have H' := Aside0.mk H
       clear H
       go_wp2
       first | go_meet | (simp only [c14b0] at *; go_meet)
       case rel => exact ⟨_, (true), (by first | rfl | (simp; done) | (simp [*]; done)), H', ⟨by have := HJ1.out; have := HJ5.out; first | omega | exact Nat.le_refl _⟩, by repeat (first | exact Drawn0.refl _ | apply Drawn0.step)⟩
      ·rw [if_neg c14] at H
       have c14b0 : ((x0_5.size : Int) == 0) = false := beq_eq_false_iff_ne.mpr c14
       have c14b1 : ((x0_5.size : Int) != 0) = true := bne_iff_ne.mpr c14
       (first | rw [c14b0] | (simp only [i64_w, i32_w]; rw [c14b0]) | skip)
       by_cases c15 : (x0_5.size : Int) > 1
       ·rw [if_pos c15] at H
        have c15b0 : decide (1 < (x0_5.size : Int)) = true := decide_eq_true c15
        have c15b1 : decide (1 < x0_5.size) = true := decide_eq_true (by omega)
        clear c15
        by_cases c16 : 0 < (x0_5.size : Int)
        ·rw [if_pos c16] at H
         have c16b0 : decide (0 < (x0_5.size : Int)) = true := decide_eq_true c16
         have c16b1 : decide (0 < x0_5.size) = true := decide_eq_true (by omega)
         clear c16
         have H' := Aside0.mk H
         clear H
         have p17 : 0 ≤ (0 : Int) := (by omega)
         have q17 : 0 < x0_5.size := (by have : (0 : Int) < (x0_5.size : Int) := RFn.od; omega)
         have hx17 : ∀ h : 0 < x0_5.size, ((x0_5[0]'h).toNat : Int) = bt x0_5 0 := bt_at x0_5 0
         clear p17
         have qi17 : (0 < (x0_5.size : Int)) = True := eq_true (RFn.od)
         replace q17 := eq_true q17
         go_wp2
         first | go_meet | (simp only [c14b0] at *; go_meet)
         case rel => exact ⟨_, (((bt x0_5 0) == 48)), (by first | rfl | (simp; done) | (simp [*]; done)), H', ⟨by have := HJ1.out; have := HJ5.out; first | omega | exact Nat.le_refl _⟩, by repeat (first | exact Drawn0.refl _ | apply Drawn0.step)⟩
        ·rw [if_neg c16] at H
         exact absurd H (by simp)
       ·rw [if_neg c15] at H
        have c15b0 : decide (1 < (x0_5.size : Int)) = false := decide_eq_false c15
        have c15b1 : decide (1 < x0_5.size) = false := decide_eq_false (by omega)
        clear c15
        have H' := Aside0.mk H
        clear H
        go_wp2
        first | go_meet | (simp only [c14b0] at *; go_meet)
        case rel => exact ⟨_, (false), (by first | rfl | (simp; done) | (simp [*]; done)), H', ⟨by have := HJ1.out; have := HJ5.out; first | omega | exact Nat.le_refl _⟩, by repeat (first | exact Drawn0.refl _ | apply Drawn0.step)⟩
     case rest =>
      clear HC13
      try clear c3
      try clear c3b0
      try clear c3b1
      try clear c4
      try clear c4b0
      try clear c4b1
      try clear p5
      try clear q5
      try clear hx5
      try clear qi5
      try clear c7
      try clear c8
      try clear c8b0
      try clear c8b1
      try clear c9
      try clear c9b0
      try clear c9b1
      try clear c10
      try clear c10b0
      try clear c10b1
      try clear p11
      try clear q11
      try clear hx11
      try clear qi11
      try clear c12
      try clear c12b0
      try clear c12b1
      try clear c14
      try clear c14b0
      try clear c14b1
      try clear c15
      try clear c15b0
      try clear c15b1
      try clear c16
      try clear c16b0
      try clear c16b1
      try clear p17
      try clear q17
      try clear hx17
      try clear qi17
      try clear p11
      try clear p17
      try clear p5
      try clear q11
      try clear q17
      try clear q5
      obtain ⟨kq, x34_12, rfl, HA, HJ12, ⟨mc12, rfl⟩⟩ := hcut
      cases kq with
      | zero => exact absurd HA.out (by simp [ref01_form.j2])
      | succ kj12 =>
       have H := HA.out
       clear HA
       simp only [ref01_form.j2] at H
       by_cases c18 : x34_12 = true
       ·subst c18
        have H1 : (some false) = some r := by rw [if_pos rfl] at H; exact H
        clear H
        have H := H1
        clear H1
        obtain rfl := Option.some.inj H
        go_wp2
        go_ret
        exact ⟨by first | rfl | (simp; done) | (simp [*]; done), by repeat (first | exact Drawn0.refl _ | apply Drawn0.step)⟩
       ·replace c18 := Bool.eq_false_iff.mpr c18
        subst c18
        have H1 : (ref01_form.l0 kj12 x0_5 0) = some r := by rw [if_neg (show ¬ (false = true) by decide)] at H; exact H
        clear H
        have H := H1
        clear H1
        have H' := Aside0.mk H
        clear H
        go_wp2
        go_loopg [3] kj12 (fun kq v3 w' => ∃ (x3_4 : Int), v3 = .int .i64 x3_4 ∧ Aside0 (ref01_form.l0 kq x0_5 x3_4 = some r) ∧ Aside0 (kq ≤ kj12) ∧ Drawn0 w w')
        case atStart => exact ⟨(0), (by first | rfl | (simp; done) | (simp [*]; done)), H', ⟨Nat.le_refl _⟩, by repeat (first | exact Drawn0.refl _ | apply Drawn0.step)⟩
        case round =>
         clear H'
         try clear c3
         try clear c3b0
         try clear c3b1
         try clear c4
         try clear c4b0
         try clear c4b1
         try clear p5
         try clear q5
         try clear hx5
         try clear qi5
         try clear c7
         try clear c8
         try clear c8b0
         try clear c8b1
         try clear c9
         try clear c9b0
         try clear c9b1
         try clear c10
         try clear c10b0
         try clear c10b1
         try clear p11
         try clear q11
         try clear hx11
         try clear qi11
         try clear c12
         try clear c12b0
         try clear c12b1
         try clear c14
         try clear c14b0
         try clear c14b1
         try clear c15
         try clear c15b0
         try clear c15b1
         try clear c16
         try clear c16b0
         try clear c16b1
         try clear p17
         try clear q17
         try clear hx17
         try clear qi17
         try clear c18
         try clear p11
         try clear p17
         try clear p5
         try clear q11
         try clear q17
         try clear q5
         obtain ⟨x3_4, rfl, HA, HK4, ⟨m4, rfl⟩⟩ := hrel
         cases gk with
         | zero => exact absurd HA.out (by simp [ref01_form.l0])
         | succ k4 =>
          have H := HA.out
          clear HA
          simp only [ref01_form.l0] at H
          by_cases c19 : x3_4 < (x0_5.size : Int)
          ·rw [if_pos c19] at H
           have c19b0 : decide (x3_4 < (x0_5.size : Int)) = true := decide_eq_true c19
           clear c19
           by_cases c20 : 0 ≤ x3_4
           ·rw [if_pos c20] at H
            have c20b0 : decide (0 ≤ x3_4) = true := decide_eq_true c20
            clear c20
            by_cases c22 : (bt x0_5 x3_4) < 48
            ·rw [if_pos c22] at H
             have c22b0 : decide ((bt x0_5 x3_4) < 48) = true := decide_eq_true c22
             clear c22
             obtain rfl := Option.some.inj H
             have p21 : 0 ≤ (x3_4 : Int) := RFn.od
             have q21 : x3_4 < (x0_5.size : Int) := RFn.od
             have hx21 := bt_at x0_5 x3_4
             replace p21 := eq_true p21
             replace q21 := eq_true q21
             go_wp2
             go_ret
             exact ⟨by first | rfl | (simp; done) | (simp [*]; done), by repeat (first | exact Drawn0.refl _ | apply Drawn0.step)⟩
            ·rw [if_neg c22] at H
             have c22b0 : decide ((bt x0_5 x3_4) < 48) = false := decide_eq_false c22
             clear c22
             by_cases c24 : (bt x0_5 x3_4) > 57
             ·rw [if_pos c24] at H
              have c24b0 : decide (57 < (bt x0_5 x3_4)) = true := decide_eq_true c24
              clear c24
              obtain rfl := Option.some.inj H
              have p21 : 0 ≤ (x3_4 : Int) := RFn.od
              have q21 : x3_4 < (x0_5.size : Int) := RFn.od
              have hx21 := bt_at x0_5 x3_4
              replace p21 := eq_true p21
              replace q21 := eq_true q21
              have p23 : 0 ≤ (x3_4 : Int) := RFn.od
              have q23 : x3_4 < (x0_5.size : Int) := RFn.od
              have hx23 := bt_at x0_5 x3_4
              replace p23 := eq_true p23
              replace q23 := eq_true q23
              go_wp2
              go_ret
              exact ⟨by first | rfl | (simp; done) | (simp [*]; done), by repeat (first | exact Drawn0.refl _ | apply Drawn0.step)⟩
             ·rw [if_neg c24] at H
              have c24b0 : decide (57 < (bt x0_5 x3_4)) = false := decide_eq_false c24
              clear c24
              have H' := Aside0.mk H
              clear H
              have p21 : 0 ≤ (x3_4 : Int) := RFn.od
              have q21 : x3_4 < (x0_5.size : Int) := RFn.od
              have hx21 := bt_at x0_5 x3_4
              replace p21 := eq_true p21
              replace q21 := eq_true q21
              have p23 : 0 ≤ (x3_4 : Int) := RFn.od
              have q23 : x3_4 < (x0_5.size : Int) := RFn.od
              have hx23 := bt_at x0_5 x3_4
              replace p23 := eq_true p23
              replace q23 := eq_true q23
              go_wp2
              go_roundg k4
              case measure => have := HJ1.out; have := HJ5.out; have := HJ12.out; have := HK4.out; omega
              case rel => exact ⟨(wrap64 (x3_4 + 1)), (by first | rfl | (simp; done) | (simp [*]; done)), H', ⟨by have := HJ1.out; have := HJ5.out; have := HJ12.out; have := HK4.out; omega⟩, by repeat (first | exact Drawn0.refl _ | apply Drawn0.step)⟩
           ·rw [if_neg c20] at H
            exact absurd H (by simp)
          ·rw [if_neg c19] at H
           have c19b0 : decide (x3_4 < (x0_5.size : Int)) = false := decide_eq_false c19
           clear c19
           obtain rfl := Option.some.inj H
           go_wp2
           go_ret
           exact ⟨by first | rfl | (simp; done) | (simp [*]; done), by repeat (first | exact Drawn0.refl _ | apply Drawn0.step)⟩
/-! ### ref01_Neg: function 46 -/
def ref01_Neg.f (a0 : Int) : Option (Int × Int) := if a0 = (-9223372036854775808) then (some (0, 2)) else (some (wrap64 (-a0), 0))
set_option maxHeartbeats 8000000 in
set_option maxRecDepth 100000 in
theorem ref01_Neg.calls (a0 : Int) (r1 : Int) (r2 : Int) (w : World) (h : ref01_Neg.f a0 = some (r1, r2)) :
  Calls Tryz.prog 46 #[.int .i64 a0] w fun e w' => e = .returned (.tuple #[.int .i64 r1, .int .i64 r2]) ∧ Drawn0 w w' := by
 have H : (if a0 = (-9223372036854775808) then (some (0, 2)) else (some (wrap64 (-a0), 0))) = some (r1, r2) := h
 clear h
 by_cases c2 : a0 = (-9223372036854775808)
 ·rw [if_pos c2] at H
  have c2b0 : (a0 == (-9223372036854775808)) = true := beq_iff_eq.mpr c2
  have c2b1 : (a0 != (-9223372036854775808)) = false := bne_eq_false_iff_eq.mpr c2
  clear c2
  simp only [Option.some.injEq, Prod.mk.injEq] at H
  obtain ⟨rfl, rfl⟩ := H
  go_enter Tryz.func46, Tryz.ntmps46
  go_wp2
  go_ret2
  exact ⟨by first | rfl | (simp; done) | (simp [*]; done), by repeat (first | exact Drawn0.refl _ | apply Drawn0.step)⟩
 ·rw [if_neg c2] at H
  have c2b0 : (a0 == (-9223372036854775808)) = false := beq_eq_false_iff_ne.mpr c2
  have c2b1 : (a0 != (-9223372036854775808)) = true := bne_iff_ne.mpr c2
  simp only [Option.some.injEq, Prod.mk.injEq] at H
  obtain ⟨rfl, rfl⟩ := H
  go_enter Tryz.func46, Tryz.ntmps46
  go_wp2
  go_ret2
  exact ⟨by first | rfl | (simp; done) | (simp [*]; done), by repeat (first | exact Drawn0.refl _ | apply Drawn0.step)⟩
/-! ### ref01_Parse: function 31 -/
mutual
def ref01_Parse.j0 : Nat → ByteArray → Bool → Option (Int × Int)
 | 0, _, _ => none
 | k + 1, x0, x4 => ref01_Parse.l0 k x0 x4 0 0
def ref01_Parse.l0 : Nat → ByteArray → Bool → Int → Int → Option (Int × Int)
 | 0, _, _, _, _ => none
 | k + 1, x0, x4, x5, x6 => if x6 < (x0.size : Int) then (if 0 ≤ x6 then (if x5 < (-922337203685477580) then (some (0, 2)) else (if (wrap64 (x5 * 10)) < ((-9223372036854775808) + (((bt x0 x6) - 48) % 256)) then (some (0, 2)) else (ref01_Parse.l0 k x0 x4 (wrap64 ((wrap64 (x5 * 10)) - (((bt x0 x6) - 48) % 256))) (wrap64 (x6 + 1))))) else (none)) else (if x4 = true then (some (x5, 0)) else ((ref01_Neg.f x5).bind fun bt166 => (some (bt166.1, bt166.2))))
end
def ref01_Parse.f (k : Nat) (a0 : ByteArray) : Option (Int × Int) := (ref01_form.f k a0).bind fun t165 => (if t165 = true then (if 0 < (a0.size : Int) then (if (bt a0 0) = 45 then (if 1 ≤ (a0.size : Int) then (ref01_Parse.j0 k (a0.extract 1 a0.size) ((bt a0 0) == 45)) else (none)) else (ref01_Parse.j0 k a0 ((bt a0 0) == 45))) else (none)) else (some (0, 5)))
theorem ref01_Parse.mono_l : ∀ k, (∀ y0 y1, LeO (ref01_Parse.j0 k y0 y1) (ref01_Parse.j0 (k + 1) y0 y1)) ∧ (∀ y0 y1 y2 y3, LeO (ref01_Parse.l0 k y0 y1 y2 y3) (ref01_Parse.l0 (k + 1) y0 y1 y2 y3))
 | 0 => ⟨fun _ _ r h => by simp [ref01_Parse.j0] at h, fun _ _ _ _ r h => by simp [ref01_Parse.l0] at h⟩
 | k + 1 => by
  obtain ⟨ih0, ih1⟩ := ref01_Parse.mono_l k
  refine ⟨?_, ?_⟩
  ·intro y0 y1
   unfold ref01_Parse.j0
   repeat' with_reducible first | exact LeO.refl _ | apply ih0 | apply ih1 | apply ref01_form.mono | exact LeO.none _ | apply LeO.ite | refine LeO.bind ?_ fun _ => ?_
  ·intro y0 y1 y2 y3
   unfold ref01_Parse.l0
   repeat' with_reducible first | exact LeO.refl _ | apply ih0 | apply ih1 | apply ref01_form.mono | exact LeO.none _ | apply LeO.ite | refine LeO.bind ?_ fun _ => ?_
theorem ref01_Parse.mono : ∀ a0 k, LeO (ref01_Parse.f k a0) (ref01_Parse.f (k + 1) a0) := by
 intro a0 k
 obtain ⟨ih0, ih1⟩ := ref01_Parse.mono_l k
 unfold ref01_Parse.f
 repeat' with_reducible first | exact LeO.refl _ | apply ih0 | apply ih1 | apply ref01_form.mono | exact LeO.none _ | apply LeO.ite | refine LeO.bind ?_ fun _ => ?_
set_option maxHeartbeats 8000000 in
set_option maxRecDepth 100000 in
theorem ref01_Parse.calls (k : Nat) (a0 : ByteArray) (r1 : Int) (r2 : Int) (w : World) (h : ref01_Parse.f k a0 = some (r1, r2)) :
  Calls Tryz.prog 31 #[.string a0] w fun e w' => e = .returned (.tuple #[.int .i64 r1, .int .i64 r2]) ∧ Drawn0 w w' := by
 have H : ((ref01_form.f k a0).bind fun t165 => (if t165 = true then (if 0 < (a0.size : Int) then (if (bt a0 0) = 45 then (if 1 ≤ (a0.size : Int) then (ref01_Parse.j0 k (a0.extract 1 a0.size) ((bt a0 0) == 45)) else (none)) else (ref01_Parse.j0 k a0 ((bt a0 0) == 45))) else (none)) else (some (0, 5)))) = some (r1, r2) := h
 clear h
 obtain ⟨t165, A2, H⟩ := RFn.bn H
 by_cases c3 : t165 = true
 ·subst c3
  have H1 : (if 0 < (a0.size : Int) then (if (bt a0 0) = 45 then (if 1 ≤ (a0.size : Int) then (ref01_Parse.j0 k (a0.extract 1 a0.size) ((bt a0 0) == 45)) else (none)) else (ref01_Parse.j0 k a0 ((bt a0 0) == 45))) else (none)) = some (r1, r2) := by rw [if_pos rfl] at H; exact H
  clear H
  have H := H1
  clear H1
  by_cases c4 : 0 < (a0.size : Int)
  ·rw [if_pos c4] at H
   have c4b0 : decide (0 < (a0.size : Int)) = true := decide_eq_true c4
   have c4b1 : decide (0 < a0.size) = true := decide_eq_true (by omega)
   clear c4
   have HC6 := Aside0.mk H
   clear H
   go_enter Tryz.func31, Tryz.ntmps31
   go_upto_if 14 with (first | ((with_reducible refine gate_callee (f := 45) rfl ?_); refine RFn.goesM (some 9) Tryz.func45 #[.string a0] rfl ?_; (with_reducible refine (ref01_form.calls k a0 true _ A2.out).mono ?_); rintro e w' ⟨rfl, ⟨nd, rfl⟩⟩; refine ⟨_, rfl, ?_⟩; have p5 : 0 ≤ (0 : Int) := (by omega); have q5 : 0 < a0.size := (by have : (0 : Int) < (a0.size : Int) := RFn.od; omega); have hx5 : ∀ h : 0 < a0.size, ((a0[0]'h).toNat : Int) = bt a0 0 := bt_at a0 0; clear p5; have qi5 : (0 < (a0.size : Int)) = True := eq_true (RFn.od); replace q5 := eq_true q5))
   (try simp only [Act.put, List.setIfInBounds_toArray, List.set_cons_zero, List.set_cons_succ])
   go_cut [0] (fun v0 wc => ∃ (kq : Nat) (x0_5 : ByteArray), v0 = .string x0_5 ∧ Aside0 (ref01_Parse.j0 kq x0_5 ((bt a0 0) == 45) = some (r1, r2)) ∧ Aside0 (kq ≤ k) ∧ Drawn0 w wc)
   case first =>
    have H := HC6.out
    clear HC6
    by_cases c7 : (bt a0 0) = 45
    ·rw [if_pos c7] at H
     have c7b0 : ((bt a0 0) == 45) = true := beq_iff_eq.mpr c7
     have c7b1 : ((bt a0 0) != 45) = false := bne_eq_false_iff_eq.mpr c7
     clear c7
     (first | rw [c7b0] | (simp only [i64_w, i32_w]; rw [c7b0]) | skip)
     by_cases c8 : 1 ≤ (a0.size : Int)
     ·rw [if_pos c8] at H
      have c8b0 := eq_true c8
      have c8b1 : decide (1 ≤ (a0.size : Int)) = true := decide_eq_true c8
      clear c8
      have H' := Aside0.mk H
      clear H
      go_wp2
      first | go_meet | (simp only [c7b0] at *; go_meet)
      case rel => exact ⟨_, (a0.extract 1 a0.size), (by first | rfl | (simp; done) | (simp [*]; done)), H', ⟨by first | omega | exact Nat.le_refl _⟩, by repeat (first | exact Drawn0.refl _ | apply Drawn0.step)⟩
     ·rw [if_neg c8] at H
      exact absurd H (by simp)
    ·rw [if_neg c7] at H
     have c7b0 : ((bt a0 0) == 45) = false := beq_eq_false_iff_ne.mpr c7
     have c7b1 : ((bt a0 0) != 45) = true := bne_iff_ne.mpr c7
     (first | rw [c7b0] | (simp only [i64_w, i32_w]; rw [c7b0]) | skip)
     have H' := Aside0.mk H
     clear H
     go_wp2
     first | go_meet | (simp only [c7b0] at *; go_meet)
     case rel => exact ⟨_, (a0), (by first | rfl | (simp; done) | (simp [*]; done)), H', ⟨by first | omega | exact Nat.le_refl _⟩, by repeat (first | exact Drawn0.refl _ | apply Drawn0.step)⟩
   case rest =>
    clear HC6
    try clear c3
    try clear c4
    try clear c4b0
    try clear c4b1
    try clear p5
    try clear q5
    try clear hx5
    try clear qi5
    try clear c7
    try clear c7b0
    try clear c7b1
    try clear c8
    try clear c8b0
    try clear c8b1
    try clear p5
    try clear q5
    obtain ⟨kq, x0_5, rfl, HA, HJ5, ⟨mc5, rfl⟩⟩ := hcut
    cases kq with
    | zero => exact absurd HA.out (by simp [ref01_Parse.j0])
    | succ kj5 =>
     have H := HA.out
     clear HA
     simp only [ref01_Parse.j0] at H
     have H' := Aside0.mk H
     clear H
     go_wp2
     go_loopg [5, 6] kj5 (fun kq v5 v6 w' => ∃ (x5_2 : Int) (x6_2 : Int), v5 = .int .i64 x5_2 ∧ v6 = .int .i64 x6_2 ∧ Aside0 (ref01_Parse.l0 kq x0_5 ((bt a0 0) == 45) x5_2 x6_2 = some (r1, r2)) ∧ Aside0 (kq ≤ kj5) ∧ Drawn0 w w')
     case atStart => exact ⟨(0), (0), (by first | rfl | (simp; done) | (simp [*]; done)), (by first | rfl | (simp; done) | (simp [*]; done)), H', ⟨Nat.le_refl _⟩, by repeat (first | exact Drawn0.refl _ | apply Drawn0.step)⟩
     case round =>
      clear H'
      try clear c3
      try clear c4
      try clear c4b0
      try clear c4b1
      try clear p5
      try clear q5
      try clear hx5
      try clear qi5
      try clear c7
      try clear c7b0
      try clear c7b1
      try clear c8
      try clear c8b0
      try clear c8b1
      try clear p5
      try clear q5
      obtain ⟨x5_2, x6_2, rfl, rfl, HA, HK2, ⟨m2, rfl⟩⟩ := hrel
      cases gk with
      | zero => exact absurd HA.out (by simp [ref01_Parse.l0])
      | succ k2 =>
       have H := HA.out
       clear HA
       simp only [ref01_Parse.l0] at H
       by_cases c9 : x6_2 < (x0_5.size : Int)
       ·rw [if_pos c9] at H
        have c9b0 : decide (x6_2 < (x0_5.size : Int)) = true := decide_eq_true c9
        clear c9
        by_cases c10 : 0 ≤ x6_2
        ·rw [if_pos c10] at H
         have c10b0 : decide (0 ≤ x6_2) = true := decide_eq_true c10
         clear c10
         by_cases c12 : x5_2 < (-922337203685477580)
         ·rw [if_pos c12] at H
          have c12b0 : decide (x5_2 < (-922337203685477580)) = true := decide_eq_true c12
          clear c12
          simp only [Option.some.injEq, Prod.mk.injEq] at H
          obtain ⟨rfl, rfl⟩ := H
          have p11 : 0 ≤ (x6_2 : Int) := RFn.od
          have q11 : x6_2 < (x0_5.size : Int) := RFn.od
          have hx11 := bt_at x0_5 x6_2
          replace p11 := eq_true p11
          replace q11 := eq_true q11
          go_wp2
          go_ret2
          exact ⟨by first | rfl | (simp; done) | (simp [*]; done), by repeat (first | exact Drawn0.refl _ | apply Drawn0.step)⟩
         ·rw [if_neg c12] at H
          have c12b0 : decide (x5_2 < (-922337203685477580)) = false := decide_eq_false c12
          clear c12
          by_cases c13 : (wrap64 (x5_2 * 10)) < ((-9223372036854775808) + (((bt x0_5 x6_2) - 48) % 256))
          ·rw [if_pos c13] at H
           have c13b0 : decide ((wrap64 (x5_2 * 10)) < ((-9223372036854775808) + (((bt x0_5 x6_2) - 48) % 256))) = true := decide_eq_true c13
           clear c13
           simp only [Option.some.injEq, Prod.mk.injEq] at H
           obtain ⟨rfl, rfl⟩ := H
           have p11 : 0 ≤ (x6_2 : Int) := RFn.od
           have q11 : x6_2 < (x0_5.size : Int) := RFn.od
           have hx11 := bt_at x0_5 x6_2
           replace p11 := eq_true p11
           replace q11 := eq_true q11
           go_wp2
           go_ret2
           exact ⟨by first | rfl | (simp; done) | (simp [*]; done), by repeat (first | exact Drawn0.refl _ | apply Drawn0.step)⟩
          ·rw [if_neg c13] at H
           have c13b0 : decide ((wrap64 (x5_2 * 10)) < ((-9223372036854775808) + (((bt x0_5 x6_2) - 48) % 256))) = false := decide_eq_false c13
           clear c13
           have H' := Aside0.mk H
           clear H
           have p11 : 0 ≤ (x6_2 : Int) := RFn.od
           have q11 : x6_2 < (x0_5.size : Int) := RFn.od
           have hx11 := bt_at x0_5 x6_2
           replace p11 := eq_true p11
           replace q11 := eq_true q11
           go_wp2
           go_roundg k2
           case measure => have := HJ5.out; have := HK2.out; omega
           case rel => exact ⟨(wrap64 ((wrap64 (x5_2 * 10)) - (((bt x0_5 x6_2) - 48) % 256))), (wrap64 (x6_2 + 1)), (by first | rfl | (simp; done) | (simp [*]; done)), (by first | rfl | (simp; done) | (simp [*]; done)), H', ⟨by have := HJ5.out; have := HK2.out; omega⟩, by repeat (first | exact Drawn0.refl _ | apply Drawn0.step)⟩
        ·rw [if_neg c10] at H
         exact absurd H (by simp)
       ·rw [if_neg c9] at H
        have c9b0 : decide (x6_2 < (x0_5.size : Int)) = false := decide_eq_false c9
        clear c9
        by_cases c14 : ((bt a0 0) == 45) = true
        ·rw [if_pos c14] at H
         have c14b0 : ((bt a0 0) == 45) = true := c14
         (try (have c14b1 : decide ((bt a0 0) = 45) = true := by simpa using c14))
         (try (have c14b2 : ((bt a0 0) == 45) = true := by simpa using c14))
         clear c14
         simp only [Option.some.injEq, Prod.mk.injEq] at H
         obtain ⟨rfl, rfl⟩ := H
         go_wp2
         go_ret2
         exact ⟨by first | rfl | (simp; done) | (simp [*]; done), by repeat (first | exact Drawn0.refl _ | apply Drawn0.step)⟩
        ·rw [if_neg c14] at H
         have c14b0 : ((bt a0 0) == 45) = false := by simpa using c14
         (try (have c14b1 : decide ((bt a0 0) = 45) = false := by simpa using c14))
         (try (have c14b2 : ((bt a0 0) == 45) = false := by simpa using c14))
         (try (have c14b3 : ¬ ((bt a0 0) = 45) := by simpa using c14))
         clear c14
         obtain ⟨⟨t166, t167⟩, A15, H⟩ := RFn.bn H
         simp only [Option.some.injEq, Prod.mk.injEq] at H
         obtain ⟨rfl, rfl⟩ := H
         go_wp2_with (first | ((with_reducible refine gate_callee (f := 46) rfl ?_); refine RFn.goesM (some 44) Tryz.func46 #[.int .i64 x5_2] rfl ?_; (with_reducible refine (ref01_Neg.calls x5_2 t166 t167 _ A15.out).mono ?_); rintro e w' ⟨rfl, ⟨nd, rfl⟩⟩; refine ⟨_, rfl, ?_⟩))
         go_ret2
         exact ⟨by first | rfl | (simp; done) | (simp [*]; done), by repeat (first | exact Drawn0.refl _ | apply Drawn0.step)⟩
  ·rw [if_neg c4] at H
   exact absurd H (by simp)
 ·replace c3 := Bool.eq_false_iff.mpr c3
  subst c3
  have H1 : (some (0, 5)) = some (r1, r2) := by rw [if_neg (show ¬ (false = true) by decide)] at H; exact H
  clear H
  have H := H1
  clear H1
  simp only [Option.some.injEq, Prod.mk.injEq] at H
  obtain ⟨rfl, rfl⟩ := H
  go_enter Tryz.func31, Tryz.ntmps31
  go_wp2_with (first | ((with_reducible refine gate_callee (f := 45) rfl ?_); refine RFn.goesM (some 9) Tryz.func45 #[.string a0] rfl ?_; (with_reducible refine (ref01_form.calls k a0 false _ A2.out).mono ?_); rintro e w' ⟨rfl, ⟨nd, rfl⟩⟩; refine ⟨_, rfl, ?_⟩))
  go_ret2
  exact ⟨by first | rfl | (simp; done) | (simp [*]; done), by repeat (first | exact Drawn0.refl _ | apply Drawn0.step)⟩
/-! ### ref10_Parse: function 14 -/
mutual
def ref10_Parse.l0 : Nat → ByteArray → List (S54) → Int → Bool → Int → Option ((List (S54)) × Int)
 | 0, _, _, _, _, _ => none
 | k + 1, x0, x4, x5, x6, x7 => if x7 < (x0.size : Int) then (if 0 ≤ x7 then (if (bt x0 x7) = 10 then (if 0 ≤ x5 then (if x5 ≤ x7 then (if x7 ≤ (x0.size : Int) then ((ref05_Words.f k (x0.extract (x5 : Int).toNat (x7 : Int).toNat)).bind fun t170 => (if x6 = true then (ref10_Parse.l0 k x0 x4 (wrap64 (x7 + 1)) false (wrap64 (x7 + 1))) else (if (t170.length : Int) = 6 then (if 0 < (t170.length : Int) then (if 1 < (t170.length : Int) then (if 2 < (t170.length : Int) then (if 3 < (t170.length : Int) then (if (rdOf ByteArray.empty t170 3).toList = ([45] : List UInt8) then (ref10_Parse.j1 k x0 x4 (wrap64 (x7 + 1)) x6 x7 t170 (rdOf ByteArray.empty t170 0) (rdOf ByteArray.empty t170 1) (rdOf ByteArray.empty t170 2) (⟨#[]⟩ : ByteArray) 0) else (ref10_Parse.j1 k x0 x4 (wrap64 (x7 + 1)) x6 x7 t170 (rdOf ByteArray.empty t170 0) (rdOf ByteArray.empty t170 1) (rdOf ByteArray.empty t170 2) (rdOf ByteArray.empty t170 3) 0)) else (none)) else (none)) else (none)) else (none)) else (some (([] : List (S54)), 5))))) else (none)) else (none)) else (none)) else (ref10_Parse.l0 k x0 x4 x5 x6 (wrap64 (x7 + 1)))) else (none)) else ((ref10_Print.f k x4).bind fun bt168 => (if bt168.2 = 0 then (if bt168.1.toList = x0.toList then (some (x4, 0)) else (some (([] : List (S54)), 5))) else (some (([] : List (S54)), 5))))
def ref10_Parse.j1 : Nat → ByteArray → List (S54) → Int → Bool → Int → List ByteArray → ByteArray → ByteArray → ByteArray → ByteArray → Int → Option ((List (S54)) × Int)
 | 0, _, _, _, _, _, _, _, _, _, _, _ => none
 | k + 1, x0, x4, x5, x6, x7, x8, x178000, x178001, x178002, x178003, x178004 => if 4 < (x8.length : Int) then ((ref01_Parse.f k (rdOf ByteArray.empty x8 4)).bind fun bt179 => (if 5 < (x8.length : Int) then ((ref01_Parse.f k (rdOf ByteArray.empty x8 5)).bind fun bt182 => (if bt179.2 = 0 then (if bt182.2 = 0 then (if bt179.1 < 0 then (some (([] : List (S54)), 5)) else (if bt179.1 > 4 then (some (([] : List (S54)), 5)) else (if x4.length < 1759218604441 then (ref10_Parse.l0 k x0 (x4 ++ [(⟨(⟨x178000, x178001, x178002, x178003, bt179.1⟩ : S52), bt182.1⟩ : S54)]) x5 x6 (wrap64 (x7 + 1))) else (none)))) else (some (([] : List (S54)), 5))) else (some (([] : List (S54)), 5)))) else (none))) else (none)
end
def ref10_Parse.f (k : Nat) (a0 : ByteArray) : Option ((List (S54)) × Int) := ref10_Parse.l0 k a0 ([] : List (S54)) 0 true 0
theorem ref10_Parse.mono_l : ∀ k, (∀ y0 y1 y2 y3 y4, LeO (ref10_Parse.l0 k y0 y1 y2 y3 y4) (ref10_Parse.l0 (k + 1) y0 y1 y2 y3 y4)) ∧ (∀ y0 y1 y2 y3 y4 y5 y6 y7 y8 y9 y10, LeO (ref10_Parse.j1 k y0 y1 y2 y3 y4 y5 y6 y7 y8 y9 y10) (ref10_Parse.j1 (k + 1) y0 y1 y2 y3 y4 y5 y6 y7 y8 y9 y10))
 | 0 => ⟨fun _ _ _ _ _ r h => by simp [ref10_Parse.l0] at h, fun _ _ _ _ _ _ _ _ _ _ _ r h => by simp [ref10_Parse.j1] at h⟩
 | k + 1 => by
  obtain ⟨ih0, ih1⟩ := ref10_Parse.mono_l k
  refine ⟨?_, ?_⟩
  ·intro y0 y1 y2 y3 y4
   unfold ref10_Parse.l0
   repeat' with_reducible first | exact LeO.refl _ | apply ih0 | apply ih1 | apply ref01_Parse.mono | apply ref05_Words.mono | apply ref10_Print.mono | exact LeO.none _ | apply LeO.ite | refine LeO.bind ?_ fun _ => ?_
  ·intro y0 y1 y2 y3 y4 y5 y6 y7 y8 y9 y10
   unfold ref10_Parse.j1
   repeat' with_reducible first | exact LeO.refl _ | apply ih0 | apply ih1 | apply ref01_Parse.mono | apply ref05_Words.mono | apply ref10_Print.mono | exact LeO.none _ | apply LeO.ite | refine LeO.bind ?_ fun _ => ?_
theorem ref10_Parse.mono : ∀ a0 k, LeO (ref10_Parse.f k a0) (ref10_Parse.f (k + 1) a0) := by
 intro a0 k
 obtain ⟨ih0, ih1⟩ := ref10_Parse.mono_l k
 unfold ref10_Parse.f
 repeat' with_reducible first | exact LeO.refl _ | apply ih0 | apply ih1 | apply ref01_Parse.mono | apply ref05_Words.mono | apply ref10_Print.mono | exact LeO.none _ | apply LeO.ite | refine LeO.bind ?_ fun _ => ?_
def ref10_Parse.T14 : Bool × List (List Nat × List Nat) := (true, [([], []), ([0], [0]), ([1], [1]), ([], []), ([3], [3]), ([4], [4]), ([], []), ([6], [6]), ([7], [7]), ([], []), ([9], [9]), ([10], [10]), ([2, 5, 8, 11], [2, 5, 8, 11]), ([], []), ([13, 12, 0, 1, 2, 3, 4, 5, 6, 7, 8, 9, 10, 11, 12, 13], [12, 13])])
def ref10_Parse.B14 : List Nat := [0, 1, 3, 0, 8, 24, 0, 64, 192, 0, 512, 1536, 4095, 0, 16383]
theorem ref10_Parse.tab14 : rtab .any (opsOf Tryz.f14 14) = ref10_Parse.T14 := by kernel_rfl
theorem ref10_Parse.bits14 : waitsOk ref10_Parse.T14.2 ref10_Parse.B14 = true := by kernel_rfl
set_option maxHeartbeats 8000000 in
set_option maxRecDepth 100000 in
theorem ref10_Parse.calls (k : Nat) (a0 : ByteArray) (r1 : List (S54)) (r2 : Int) (w : World) (h : ref10_Parse.f k a0 = some (r1, r2)) :
  Calls Tryz.prog 14 #[.string a0] w fun e w' => ∃ v0_ : Value, e = .returned (.tuple #[v0_, .int .i64 r2]) ∧ Kd.R k54 54 w' w.heap.size (fun _ => True) v0_ r1 ∧ Below w.heap.size w w' := by
 have hu52 := Tryz.underlying52
 have hu54 := Tryz.underlying54
 have HB := Aside0.mk (Below.refl w.heap.size w)
 have H : (ref10_Parse.l0 k a0 ([] : List (S54)) 0 true 0) = some (r1, r2) := h
 clear h
 have H' := Aside0.mk H
 clear H
 go_enter Tryz.func14, Tryz.ntmps14
 go_wp2
 go_loopg [4, 5, 6, 7] k (fun kq v4 v5 v6 v7 w' => ∃ (x4_1 : List (S54)) (x5_1 : Int) (x6_1 : Bool) (x7_1 : Int), v5 = .int .i64 x5_1 ∧ v6 = .bool x6_1 ∧ v7 = .int .i64 x7_1 ∧ Aside0 (ref10_Parse.l0 kq a0 x4_1 x5_1 x6_1 x7_1 = some (r1, r2)) ∧ Aside0 (kq ≤ k) ∧ Aside0 (Kd.R k54 54 w' w.heap.size (fun _ => True) v4 x4_1) ∧ Aside0 (Below w.heap.size w w'))
 case atStart => exact ⟨(([] : List (S54))), (0), (true), (0), (by first | rfl | (simp; done) | (simp [*]; done)), (by first | rfl | (simp; done) | (simp [*]; done)), (by first | rfl | (simp; done) | (simp [*]; done)), H', ⟨Nat.le_refl _⟩, ⟨RFn.kn⟩, ⟨RFn.bel⟩⟩
 case round =>
  clear H'
  obtain ⟨x4_1, x5_1, x6_1, x7_1, rfl, rfl, rfl, HA, HK1, HO_4, HB⟩ := hrel
  cases gk with
  | zero => exact absurd HA.out (by simp [ref10_Parse.l0])
  | succ k1 =>
   have H := HA.out
   clear HA
   simp only [ref10_Parse.l0] at H
   by_cases c2 : x7_1 < (a0.size : Int)
   ·rw [if_pos c2] at H
    have c2b0 : decide (x7_1 < (a0.size : Int)) = true := decide_eq_true c2
    clear c2
    by_cases c3 : 0 ≤ x7_1
    ·rw [if_pos c3] at H
     have c3b0 : decide (0 ≤ x7_1) = true := decide_eq_true c3
     clear c3
     by_cases c5 : (bt a0 x7_1) = 10
     ·rw [if_pos c5] at H
      have c5b0 : ((bt a0 x7_1) == 10) = true := beq_iff_eq.mpr c5
      have c5b1 : ((bt a0 x7_1) != 10) = false := bne_eq_false_iff_eq.mpr c5
      clear c5
      by_cases c6 : 0 ≤ x5_1
      ·rw [if_pos c6] at H
       have c6b0 := eq_true c6
       have c6b1 : decide (0 ≤ x5_1) = true := decide_eq_true c6
       clear c6
       by_cases c7 : x5_1 ≤ x7_1
       ·rw [if_pos c7] at H
        have c7b0 := eq_true c7
        have c7b1 : decide (x5_1 ≤ x7_1) = true := decide_eq_true c7
        clear c7
        by_cases c8 : x7_1 ≤ (a0.size : Int)
        ·rw [if_pos c8] at H
         have c8b0 := eq_true c8
         have c8b1 : decide (x7_1 ≤ (a0.size : Int)) = true := decide_eq_true c8
         clear c8
         obtain ⟨t170, A9, H⟩ := RFn.bn H
         by_cases c10 : x6_1 = true
         ·subst c10
          have H1 : (ref10_Parse.l0 k1 a0 x4_1 (wrap64 (x7_1 + 1)) false (wrap64 (x7_1 + 1))) = some (r1, r2) := by rw [if_pos rfl] at H; exact H
          clear H
          have H := H1
          clear H1
          have H' := Aside0.mk H
          clear H
          have p4 : 0 ≤ (x7_1 : Int) := RFn.od
          have q4 : x7_1 < (a0.size : Int) := RFn.od
          have hx4 := bt_at a0 x7_1
          replace p4 := eq_true p4
          replace q4 := eq_true q4
          go_wp2_with (first | ((with_reducible refine gate_callee (f := 30) rfl ?_); refine RFn.goesM (some 30) Tryz.func30 #[.string (a0.extract (x5_1 : Int).toNat (x7_1 : Int).toNat)] rfl ?_; (with_reducible refine (ref05_Words.calls k1 (a0.extract (x5_1 : Int).toNat (x7_1 : Int).toNat) t170 _ A9.out).mono ?_); rintro e w11 ⟨v171, rfl, ho0, hb⟩; refine ⟨_, rfl, ?_⟩; have n0_ := Aside0.mk (Kd.R_below (RFn.mR HO_4) hb); have n1_ := Aside0.mk (Kd.R_lower ho0 (below_size (RFn.bel))); have n2_ := Aside0.mk (below_step (RFn.bel) hb); clear HO_4; clear HB; have HO_4 := n0_; have HO172 := n1_; have HB := n2_; clear n0_ n1_ n2_; (try clear hb); (try clear ho0)))
          go_roundg k1
          case measure => have := HK1.out; omega
          case rel => exact ⟨(x4_1), (wrap64 (x7_1 + 1)), (false), (wrap64 (x7_1 + 1)), (by first | rfl | (simp; done) | (simp [*]; done)), (by first | rfl | (simp; done) | (simp [*]; done)), (by first | rfl | (simp; done) | (simp [*]; done)), H', ⟨RFn.lk HK1⟩, ⟨RFn.mR HO_4⟩, ⟨RFn.bel⟩⟩
         ·replace c10 := Bool.eq_false_iff.mpr c10
          subst c10
          have H1 : (if (t170.length : Int) = 6 then (if 0 < (t170.length : Int) then (if 1 < (t170.length : Int) then (if 2 < (t170.length : Int) then (if 3 < (t170.length : Int) then (if (rdOf ByteArray.empty t170 3).toList = ([45] : List UInt8) then (ref10_Parse.j1 k1 a0 x4_1 (wrap64 (x7_1 + 1)) false x7_1 t170 (rdOf ByteArray.empty t170 0) (rdOf ByteArray.empty t170 1) (rdOf ByteArray.empty t170 2) (⟨#[]⟩ : ByteArray) 0) else (ref10_Parse.j1 k1 a0 x4_1 (wrap64 (x7_1 + 1)) false x7_1 t170 (rdOf ByteArray.empty t170 0) (rdOf ByteArray.empty t170 1) (rdOf ByteArray.empty t170 2) (rdOf ByteArray.empty t170 3) 0)) else (none)) else (none)) else (none)) else (none)) else (some (([] : List (S54)), 5))) = some (r1, r2) := by rw [if_neg (show ¬ (false = true) by decide)] at H; exact H
          clear H
          have H := H1
          clear H1
          by_cases c12 : (t170.length : Int) = 6
          ·rw [if_pos c12] at H
           have c12b0 : ((t170.length : Int) == 6) = true := beq_iff_eq.mpr c12
           have c12b1 : ((t170.length : Int) != 6) = false := bne_eq_false_iff_eq.mpr c12
           clear c12
           by_cases c13 : 0 < (t170.length : Int)
           ·rw [if_pos c13] at H
            have c13b0 : decide (0 < (t170.length : Int)) = true := decide_eq_true c13
            have c13b1 : decide (0 < t170.length) = true := decide_eq_true (by omega)
            clear c13
            by_cases c14 : 1 < (t170.length : Int)
            ·rw [if_pos c14] at H
             have c14b0 : decide (1 < (t170.length : Int)) = true := decide_eq_true c14
             have c14b1 : decide (1 < t170.length) = true := decide_eq_true (by omega)
             clear c14
             by_cases c15 : 2 < (t170.length : Int)
             ·rw [if_pos c15] at H
              have c15b0 : decide (2 < (t170.length : Int)) = true := decide_eq_true c15
              have c15b1 : decide (2 < t170.length) = true := decide_eq_true (by omega)
              clear c15
              by_cases c16 : 3 < (t170.length : Int)
              ·rw [if_pos c16] at H
               have c16b0 : decide (3 < (t170.length : Int)) = true := decide_eq_true c16
               have c16b1 : decide (3 < t170.length) = true := decide_eq_true (by omega)
               clear c16
               have HC17 := Aside0.mk H
               clear H
               have p4 : 0 ≤ (x7_1 : Int) := RFn.od
               have q4 : x7_1 < (a0.size : Int) := RFn.od
               have hx4 := bt_at a0 x7_1
               replace p4 := eq_true p4
               replace q4 := eq_true q4
               try go_wp2_with (first | ((with_reducible refine gate_callee (f := 30) rfl ?_); refine RFn.goesM (some 30) Tryz.func30 #[.string (a0.extract (x5_1 : Int).toNat (x7_1 : Int).toNat)] rfl ?_; (with_reducible refine (ref05_Words.calls k1 (a0.extract (x5_1 : Int).toNat (x7_1 : Int).toNat) t170 _ A9.out).mono ?_); rintro e w18 ⟨v171, rfl, ho0, hb⟩; refine ⟨_, rfl, ?_⟩; have n0_ := Aside0.mk (Kd.R_below (RFn.mR HO_4) hb); have n1_ := Aside0.mk (Kd.R_lower ho0 (below_size (RFn.bel))); have n2_ := Aside0.mk (below_step (RFn.bel) hb); clear HO_4; clear HB; have HO_4 := n0_; have HO172 := n1_; have HB := n2_; clear n0_ n1_ n2_; (try clear hb); (try clear ho0); obtain ⟨Ao19, co19, eo19⟩ := Kd.R_slice HO172.out; subst eo19))
               have n0_ := Aside0.mk (Kd.R_drew HO_4.out)
               have n1_ := Aside0.mk (Kd.R_drew HO172.out)
               have n2_ := Aside0.mk (below_drew1 HB.out)
               clear HO_4
               clear HO172
               clear HB
               have HO_4 := n0_
               have HO172 := n1_
               have HB := n2_
               clear n0_ n1_ n2_
               have p173 : 0 ≤ (0 : Int) := (by omega)
               have q173 : 0 < (t170.length : Int) := RFn.od
               obtain ⟨ad173, e173, hx173_0⟩ := Kd.at_string (Kd.R_reads' HO172.out).2.2 0 p173 q173
               cases e173
               have qi173 : (0 < t170.length) = True := eq_true (by omega)
               (try rw [show ((0 : Int)).toNat = 0 from rfl] at hx173_0)
               (try rw [Addr.add_zero'] at hx173_0)
               replace p173 := eq_true p173
               replace q173 := eq_true q173
               have p174 : 0 ≤ (1 : Int) := (by omega)
               have q174 : 1 < (t170.length : Int) := RFn.od
               obtain ⟨ad174, e174, hx174_0⟩ := Kd.at_string (Kd.R_reads' HO172.out).2.2 1 p174 q174
               obtain rfl : ad173 = ad174 := (by injection e174)
               (try simp only [show (1 : Int).toNat = 1 from rfl, Nat.reduceMul, Nat.reduceEqDiff, Go.Addr.add, ↓reduceIte] at hx174_0)
               have qi174 : (1 < t170.length) = True := eq_true (by omega)
               (try rw [show ((1 : Int)).toNat = 1 from rfl] at hx174_0)
               replace p174 := eq_true p174
               replace q174 := eq_true q174
               have p175 : 0 ≤ (2 : Int) := (by omega)
               have q175 : 2 < (t170.length : Int) := RFn.od
               obtain ⟨ad175, e175, hx175_0⟩ := Kd.at_string (Kd.R_reads' HO172.out).2.2 2 p175 q175
               obtain rfl : ad173 = ad175 := (by injection e175)
               (try simp only [show (2 : Int).toNat = 2 from rfl, Nat.reduceMul, Nat.reduceEqDiff, Go.Addr.add, ↓reduceIte] at hx175_0)
               have qi175 : (2 < t170.length) = True := eq_true (by omega)
               (try rw [show ((2 : Int)).toNat = 2 from rfl] at hx175_0)
               replace p175 := eq_true p175
               replace q175 := eq_true q175
               have p176 : 0 ≤ (3 : Int) := (by omega)
               have q176 : 3 < (t170.length : Int) := RFn.od
               obtain ⟨ad176, e176, hx176_0⟩ := Kd.at_string (Kd.R_reads' HO172.out).2.2 3 p176 q176
               obtain rfl : ad173 = ad176 := (by injection e176)
               (try simp only [show (3 : Int).toNat = 3 from rfl, Nat.reduceMul, Nat.reduceEqDiff, Go.Addr.add, ↓reduceIte] at hx176_0)
               have qi176 : (3 < t170.length) = True := eq_true (by omega)
               (try rw [show ((3 : Int)).toNat = 3 from rfl] at hx176_0)
               replace p176 := eq_true p176
               replace q176 := eq_true q176
               refine start_ (n := 15) (S := fun w' => w'.cell? ad173 = some (.string (rdOf ByteArray.empty t170 0)) ∧ w'.cell? ⟨ad173.block, ad173.off + 1, none⟩ = some (.string (rdOf ByteArray.empty t170 1)) ∧ w'.cell? ⟨ad173.block, ad173.off + 2, none⟩ = some (.string (rdOf ByteArray.empty t170 2)) ∧ w'.cell? ⟨ad173.block, ad173.off + 3, none⟩ = some (.string (rdOf ByteArray.empty t170 3))) (ds := []) (bz 15 0) (by kernel_rfl) rfl rfl ⟨hx173_0, hx174_0, hx175_0, hx176_0⟩ (fun hHeld => ?_); refine with_tabW ref10_Parse.tab14 ref10_Parse.bits14 (fun HT_ HW_ => ?_)
               generalize w18.drew = w20 at HO_4 HO172 HB hx173_0 hx174_0 hx175_0 hx176_0 hHeld ⊢
               refine RFn.pA (i := 0) (N := some 37) (bz 15 1) HT_ ?_
               refine RFn.pA (i := 1) (N := some 38) (bz 15 3) HT_ ?_
               refine RFn.pA (i := 3) (N := some 40) (bz 15 11) HT_ ?_
               refine RFn.pA (i := 4) (N := some 41) (bz 15 27) HT_ ?_
               refine RFn.pA (i := 6) (N := some 43) (bz 15 91) HT_ ?_
               refine RFn.pA (i := 7) (N := some 44) (bz 15 219) HT_ ?_
               refine RFn.pA (i := 9) (N := some 46) (bz 15 731) HT_ ?_
               refine RFn.pA (i := 10) (N := some 47) (bz 15 1755) HT_ ?_
               refine RFn.tA (i := 2) (N := some 39) (bz 15 1759) rfl HT_ HW_ hHeld (by rintro w' ⟨s0, s1, s2, s3⟩; go_simp; with_reducible rfl) ?_
               refine RFn.tA (i := 5) (N := some 42) (bz 15 1791) rfl HT_ HW_ hHeld (by rintro w' ⟨s0, s1, s2, s3⟩; go_simp; with_reducible rfl) ?_
               refine RFn.tA (i := 8) (N := some 45) (bz 15 2047) rfl HT_ HW_ hHeld (by rintro w' ⟨s0, s1, s2, s3⟩; go_simp; with_reducible rfl) ?_
               refine RFn.tA (i := 11) (N := some 48) (bz 15 4095) rfl HT_ HW_ hHeld (by rintro w' ⟨s0, s1, s2, s3⟩; go_simp; with_reducible rfl) ?_
               refine RFn.pA (i := 12) (N := some 49) (bz 15 8191) HT_ ?_
               refine RFn.o1 (i := 13) (N := some 9) (bz 15 16383) HT_ fun K hK => ?_
               refine box_step ?hg (N := 9) ?hd (cs := #[.string (⟨#[]⟩ : ByteArray), .string (⟨#[]⟩ : ByteArray), .string (⟨#[]⟩ : ByteArray), .string (⟨#[]⟩ : ByteArray), .int .i64 0]) (t := 52) ?hr ?_; (case hd => rfl); (case hg => rfl); (case hr => first | (go_simp; done) | (go_simp; rfl))
               intro gb177 hg w21 hbox hb
               have hb_ := hb
               have n0_ := Aside0.mk (Kd.R_below (RFn.mR HO_4) hb)
               have n1_ := Aside0.mk (Kd.R_below (RFn.mR HO172) hb)
               have n2_ := Aside0.mk (below_step (RFn.bel) hb)
               have n3_ := Aside0.mk (hbox)
               have n4_ := Aside0.mk ((by rw [hg]; exact (below_size (RFn.bel)) : w.heap.size ≤ gb177))
               have n5_ := Aside0.mk ((by rw [hg]; exact (below_size (RFn.bel)) : w.heap.size ≤ gb177))
               clear HO_4
               clear HO172
               clear HB
               have HO_4 := n0_
               have HO172 := n1_
               have HB := n2_
               have BK177 := n3_
               have GW177 := n4_
               have GE177 := n5_
               clear n0_ n1_ n2_ n3_ n4_ n5_
               clear hb hbox hg
               refine hK.out _ _ (RFn.hs hb_ hHeld) (fun hHeld => ?_)
               clear hK K hb_
               refine RFn.nm (some 9) ?_
               refine RFn.o1 (i := 14) (N := none) (bz 15 32767) HT_ fun K hK => ?_
               have hs22 : w21.cell? ⟨gb177, 0, none⟩ = some (.string (⟨#[]⟩ : ByteArray)) := (blk_cell BK177.out 0).trans rfl
               have hfs22 := blk_frozen BK177.out 0
               have hs23 : w21.cell? ⟨gb177, 1, none⟩ = some (.string (⟨#[]⟩ : ByteArray)) := (blk_cell BK177.out 1).trans rfl
               have hfs23 := blk_frozen BK177.out 1
               have hs24 : w21.cell? ⟨gb177, 2, none⟩ = some (.string (⟨#[]⟩ : ByteArray)) := (blk_cell BK177.out 2).trans rfl
               have hfs24 := blk_frozen BK177.out 2
               have hs25 : w21.cell? ⟨gb177, 3, none⟩ = some (.string (⟨#[]⟩ : ByteArray)) := (blk_cell BK177.out 3).trans rfl
               have hfs25 := blk_frozen BK177.out 3
               have hs26 : w21.cell? ⟨gb177, 4, none⟩ = some (.int .i64 0) := (blk_cell BK177.out 4).trans rfl
               have hfs26 := blk_frozen BK177.out 4
               refine skip_ (w1 := ?_) (by rfl) rfl ?_ ?_
               rotate_left
               ·go_simp
                rfl
               refine hK.out _ _ ⟨((cell_far (p := ⟨gb177, _, none⟩) (by first | exact Kd.own_blk (Kd.R_ne HO172.out BK177.out (by decide)) | (rw [add_block]; exact Kd.own_blk (Kd.R_ne HO172.out BK177.out (by decide))) | (show (Addr.add _ _).block ≠ _; rw [add_block]; exact Kd.own_blk (Kd.R_ne HO172.out BK177.out (by decide))) | (dsimp only; exact Kd.own_blk (Kd.R_ne HO172.out BK177.out (by decide)))) _).trans (((cell_far (p := ⟨gb177, _, none⟩) (by first | exact Kd.own_blk (Kd.R_ne HO172.out BK177.out (by decide)) | (rw [add_block]; exact Kd.own_blk (Kd.R_ne HO172.out BK177.out (by decide))) | (show (Addr.add _ _).block ≠ _; rw [add_block]; exact Kd.own_blk (Kd.R_ne HO172.out BK177.out (by decide))) | (dsimp only; exact Kd.own_blk (Kd.R_ne HO172.out BK177.out (by decide)))) _).trans (((cell_far (p := ⟨gb177, _, none⟩) (by first | exact Kd.own_blk (Kd.R_ne HO172.out BK177.out (by decide)) | (rw [add_block]; exact Kd.own_blk (Kd.R_ne HO172.out BK177.out (by decide))) | (show (Addr.add _ _).block ≠ _; rw [add_block]; exact Kd.own_blk (Kd.R_ne HO172.out BK177.out (by decide))) | (dsimp only; exact Kd.own_blk (Kd.R_ne HO172.out BK177.out (by decide)))) _).trans (((cell_far (p := ⟨gb177, _, none⟩) (by first | exact Kd.own_blk (Kd.R_ne HO172.out BK177.out (by decide)) | (rw [add_block]; exact Kd.own_blk (Kd.R_ne HO172.out BK177.out (by decide))) | (show (Addr.add _ _).block ≠ _; rw [add_block]; exact Kd.own_blk (Kd.R_ne HO172.out BK177.out (by decide))) | (dsimp only; exact Kd.own_blk (Kd.R_ne HO172.out BK177.out (by decide)))) _).trans (((cell_far (p := ⟨gb177, _, none⟩) (by first | exact Kd.own_blk (Kd.R_ne HO172.out BK177.out (by decide)) | (rw [add_block]; exact Kd.own_blk (Kd.R_ne HO172.out BK177.out (by decide))) | (show (Addr.add _ _).block ≠ _; rw [add_block]; exact Kd.own_blk (Kd.R_ne HO172.out BK177.out (by decide))) | (dsimp only; exact Kd.own_blk (Kd.R_ne HO172.out BK177.out (by decide)))) _).trans (hHeld.1)))))))))), ((cell_far (p := ⟨gb177, _, none⟩) (by first | exact Kd.own_blk (Kd.R_ne HO172.out BK177.out (by decide)) | (rw [add_block]; exact Kd.own_blk (Kd.R_ne HO172.out BK177.out (by decide))) | (show (Addr.add _ _).block ≠ _; rw [add_block]; exact Kd.own_blk (Kd.R_ne HO172.out BK177.out (by decide))) | (dsimp only; exact Kd.own_blk (Kd.R_ne HO172.out BK177.out (by decide)))) _).trans (((cell_far (p := ⟨gb177, _, none⟩) (by first | exact Kd.own_blk (Kd.R_ne HO172.out BK177.out (by decide)) | (rw [add_block]; exact Kd.own_blk (Kd.R_ne HO172.out BK177.out (by decide))) | (show (Addr.add _ _).block ≠ _; rw [add_block]; exact Kd.own_blk (Kd.R_ne HO172.out BK177.out (by decide))) | (dsimp only; exact Kd.own_blk (Kd.R_ne HO172.out BK177.out (by decide)))) _).trans (((cell_far (p := ⟨gb177, _, none⟩) (by first | exact Kd.own_blk (Kd.R_ne HO172.out BK177.out (by decide)) | (rw [add_block]; exact Kd.own_blk (Kd.R_ne HO172.out BK177.out (by decide))) | (show (Addr.add _ _).block ≠ _; rw [add_block]; exact Kd.own_blk (Kd.R_ne HO172.out BK177.out (by decide))) | (dsimp only; exact Kd.own_blk (Kd.R_ne HO172.out BK177.out (by decide)))) _).trans (((cell_far (p := ⟨gb177, _, none⟩) (by first | exact Kd.own_blk (Kd.R_ne HO172.out BK177.out (by decide)) | (rw [add_block]; exact Kd.own_blk (Kd.R_ne HO172.out BK177.out (by decide))) | (show (Addr.add _ _).block ≠ _; rw [add_block]; exact Kd.own_blk (Kd.R_ne HO172.out BK177.out (by decide))) | (dsimp only; exact Kd.own_blk (Kd.R_ne HO172.out BK177.out (by decide)))) _).trans (((cell_far (p := ⟨gb177, _, none⟩) (by first | exact Kd.own_blk (Kd.R_ne HO172.out BK177.out (by decide)) | (rw [add_block]; exact Kd.own_blk (Kd.R_ne HO172.out BK177.out (by decide))) | (show (Addr.add _ _).block ≠ _; rw [add_block]; exact Kd.own_blk (Kd.R_ne HO172.out BK177.out (by decide))) | (dsimp only; exact Kd.own_blk (Kd.R_ne HO172.out BK177.out (by decide)))) _).trans (hHeld.2.1)))))))))), ((cell_far (p := ⟨gb177, _, none⟩) (by first | exact Kd.own_blk (Kd.R_ne HO172.out BK177.out (by decide)) | (rw [add_block]; exact Kd.own_blk (Kd.R_ne HO172.out BK177.out (by decide))) | (show (Addr.add _ _).block ≠ _; rw [add_block]; exact Kd.own_blk (Kd.R_ne HO172.out BK177.out (by decide))) | (dsimp only; exact Kd.own_blk (Kd.R_ne HO172.out BK177.out (by decide)))) _).trans (((cell_far (p := ⟨gb177, _, none⟩) (by first | exact Kd.own_blk (Kd.R_ne HO172.out BK177.out (by decide)) | (rw [add_block]; exact Kd.own_blk (Kd.R_ne HO172.out BK177.out (by decide))) | (show (Addr.add _ _).block ≠ _; rw [add_block]; exact Kd.own_blk (Kd.R_ne HO172.out BK177.out (by decide))) | (dsimp only; exact Kd.own_blk (Kd.R_ne HO172.out BK177.out (by decide)))) _).trans (((cell_far (p := ⟨gb177, _, none⟩) (by first | exact Kd.own_blk (Kd.R_ne HO172.out BK177.out (by decide)) | (rw [add_block]; exact Kd.own_blk (Kd.R_ne HO172.out BK177.out (by decide))) | (show (Addr.add _ _).block ≠ _; rw [add_block]; exact Kd.own_blk (Kd.R_ne HO172.out BK177.out (by decide))) | (dsimp only; exact Kd.own_blk (Kd.R_ne HO172.out BK177.out (by decide)))) _).trans (((cell_far (p := ⟨gb177, _, none⟩) (by first | exact Kd.own_blk (Kd.R_ne HO172.out BK177.out (by decide)) | (rw [add_block]; exact Kd.own_blk (Kd.R_ne HO172.out BK177.out (by decide))) | (show (Addr.add _ _).block ≠ _; rw [add_block]; exact Kd.own_blk (Kd.R_ne HO172.out BK177.out (by decide))) | (dsimp only; exact Kd.own_blk (Kd.R_ne HO172.out BK177.out (by decide)))) _).trans (((cell_far (p := ⟨gb177, _, none⟩) (by first | exact Kd.own_blk (Kd.R_ne HO172.out BK177.out (by decide)) | (rw [add_block]; exact Kd.own_blk (Kd.R_ne HO172.out BK177.out (by decide))) | (show (Addr.add _ _).block ≠ _; rw [add_block]; exact Kd.own_blk (Kd.R_ne HO172.out BK177.out (by decide))) | (dsimp only; exact Kd.own_blk (Kd.R_ne HO172.out BK177.out (by decide)))) _).trans (hHeld.2.2.1)))))))))), ((cell_far (p := ⟨gb177, _, none⟩) (by first | exact Kd.own_blk (Kd.R_ne HO172.out BK177.out (by decide)) | (rw [add_block]; exact Kd.own_blk (Kd.R_ne HO172.out BK177.out (by decide))) | (show (Addr.add _ _).block ≠ _; rw [add_block]; exact Kd.own_blk (Kd.R_ne HO172.out BK177.out (by decide))) | (dsimp only; exact Kd.own_blk (Kd.R_ne HO172.out BK177.out (by decide)))) _).trans (((cell_far (p := ⟨gb177, _, none⟩) (by first | exact Kd.own_blk (Kd.R_ne HO172.out BK177.out (by decide)) | (rw [add_block]; exact Kd.own_blk (Kd.R_ne HO172.out BK177.out (by decide))) | (show (Addr.add _ _).block ≠ _; rw [add_block]; exact Kd.own_blk (Kd.R_ne HO172.out BK177.out (by decide))) | (dsimp only; exact Kd.own_blk (Kd.R_ne HO172.out BK177.out (by decide)))) _).trans (((cell_far (p := ⟨gb177, _, none⟩) (by first | exact Kd.own_blk (Kd.R_ne HO172.out BK177.out (by decide)) | (rw [add_block]; exact Kd.own_blk (Kd.R_ne HO172.out BK177.out (by decide))) | (show (Addr.add _ _).block ≠ _; rw [add_block]; exact Kd.own_blk (Kd.R_ne HO172.out BK177.out (by decide))) | (dsimp only; exact Kd.own_blk (Kd.R_ne HO172.out BK177.out (by decide)))) _).trans (((cell_far (p := ⟨gb177, _, none⟩) (by first | exact Kd.own_blk (Kd.R_ne HO172.out BK177.out (by decide)) | (rw [add_block]; exact Kd.own_blk (Kd.R_ne HO172.out BK177.out (by decide))) | (show (Addr.add _ _).block ≠ _; rw [add_block]; exact Kd.own_blk (Kd.R_ne HO172.out BK177.out (by decide))) | (dsimp only; exact Kd.own_blk (Kd.R_ne HO172.out BK177.out (by decide)))) _).trans (((cell_far (p := ⟨gb177, _, none⟩) (by first | exact Kd.own_blk (Kd.R_ne HO172.out BK177.out (by decide)) | (rw [add_block]; exact Kd.own_blk (Kd.R_ne HO172.out BK177.out (by decide))) | (show (Addr.add _ _).block ≠ _; rw [add_block]; exact Kd.own_blk (Kd.R_ne HO172.out BK177.out (by decide))) | (dsimp only; exact Kd.own_blk (Kd.R_ne HO172.out BK177.out (by decide)))) _).trans (hHeld.2.2.2))))))))))⟩ (fun hHeld => ?_)
               clear hK K
               refine RFn.dn HT_ ?_
               obtain ⟨hcz27_0, hcz27_1, hcz27_2, hcz27_3, hcz27_4⟩ := RFn.bc5 BK177
               obtain ⟨hfz27_0, hfz27_1, hfz27_2, hfz27_3, hfz27_4⟩ := RFn.bf5 BK177
               go_upto_if 52 with (fail)
               go_cut [] (fun wc => ∃ (kq : Nat) (x178003_16 : ByteArray), Aside0 (ref10_Parse.j1 kq a0 x4_1 (wrap64 (x7_1 + 1)) false x7_1 t170 (rdOf ByteArray.empty t170 0) (rdOf ByteArray.empty t170 1) (rdOf ByteArray.empty t170 2) x178003_16 0 = some (r1, r2)) ∧ Aside0 (kq ≤ k1) ∧ Aside0 (Kd.R k54 54 wc w.heap.size (fun _ => True) u4 x4_1) ∧ Aside0 (Kd.R Kd.string 9 wc w.heap.size (fun _ => True) (.slice (some ad173) t170.length co19) t170) ∧ Aside0 (wc.heap[gb177]? = some (.cells #[.string (rdOf ByteArray.empty t170 0), .string (rdOf ByteArray.empty t170 1), .string (rdOf ByteArray.empty t170 2), .string x178003_16, .int .i64 0] 52 (0, 0))) ∧ Aside0 (Below w.heap.size w wc))
               case first =>
                have H := HC17.out
                clear HC17
                by_cases c28 : (rdOf ByteArray.empty t170 3).toList = ([45] : List UInt8)
                ·rw [if_pos c28] at H
                 have c28b0 : ((rdOf ByteArray.empty t170 3).toList == ([45] : List UInt8)) = true := beq_iff_eq.mpr c28
                 have c28b1 : ((rdOf ByteArray.empty t170 3).toList != ([45] : List UInt8)) = false := bne_eq_false_iff_eq.mpr c28
                 clear c28
                 (first | rw [c28b0] | (simp only [i64_w, i32_w]; rw [c28b0]) | skip)
                 have H' := Aside0.mk H
                 clear H
                 obtain ⟨hcz29_0, hcz29_1, hcz29_2, hcz29_3, hcz29_4⟩ := RFn.bc5 BK177
                 obtain ⟨hfz29_0, hfz29_1, hfz29_2, hfz29_3, hfz29_4⟩ := RFn.bf5 BK177
                 go_wp2
                 first | go_meet | (simp only [c5b0, c12b0] at *; go_meet)
                 case rel => exact ⟨_, ((⟨#[]⟩ : ByteArray)), H', ⟨by have := HK1.out; first | omega | exact Nat.le_refl _⟩, ⟨by (with_reducible repeat (first | apply Kd.R_alloc | apply Kd.R_drewN | apply Kd.R_drew)); exact Kd.R_mono (Kd.R_far (p := ⟨gb177, 3, none⟩) (Kd.R_far (p := ⟨gb177, 4, none⟩) (Kd.R_far (p := ⟨gb177, 3, none⟩) (Kd.R_far (p := ⟨gb177, 2, none⟩) (Kd.R_far (p := ⟨gb177, 1, none⟩) (Kd.R_far (p := ⟨gb177, 0, none⟩) (Kd.R_types HO_4.out BK177.out (by decide)) (fun _ hk => hk.2) (.string (rdOf ByteArray.empty t170 0))) (fun _ hk => hk.2) (.string (rdOf ByteArray.empty t170 1))) (fun _ hk => hk.2) (.string (rdOf ByteArray.empty t170 2))) (fun _ hk => hk.2) (.string (rdOf ByteArray.empty t170 3))) (fun _ hk => hk.2) (.int .i64 0)) (fun _ hk => hk.2) (.string (⟨#[]⟩ : ByteArray))) (fun _ hk => trivial)⟩, ⟨by (with_reducible repeat (first | apply Kd.R_alloc | apply Kd.R_drewN | apply Kd.R_drew)); exact Kd.R_mono (Kd.R_far (p := ⟨gb177, 3, none⟩) (Kd.R_far (p := ⟨gb177, 4, none⟩) (Kd.R_far (p := ⟨gb177, 3, none⟩) (Kd.R_far (p := ⟨gb177, 2, none⟩) (Kd.R_far (p := ⟨gb177, 1, none⟩) (Kd.R_far (p := ⟨gb177, 0, none⟩) (Kd.R_types HO172.out BK177.out (by decide)) (fun _ hk => hk.2) (.string (rdOf ByteArray.empty t170 0))) (fun _ hk => hk.2) (.string (rdOf ByteArray.empty t170 1))) (fun _ hk => hk.2) (.string (rdOf ByteArray.empty t170 2))) (fun _ hk => hk.2) (.string (rdOf ByteArray.empty t170 3))) (fun _ hk => hk.2) (.int .i64 0)) (fun _ hk => hk.2) (.string (⟨#[]⟩ : ByteArray))) (fun _ hk => trivial)⟩, ⟨by refine RFn.d3 ?_; refine blk_put (cs := #[.string (rdOf ByteArray.empty t170 0), .string (rdOf ByteArray.empty t170 1), .string (rdOf ByteArray.empty t170 2), .string (rdOf ByteArray.empty t170 3), .int .i64 0]) ?_ 3 _ rfl; refine RFn.d3 ?_; refine blk_put (cs := #[.string (rdOf ByteArray.empty t170 0), .string (rdOf ByteArray.empty t170 1), .string (rdOf ByteArray.empty t170 2), .string (rdOf ByteArray.empty t170 3), .int .i64 0]) ?_ 4 _ rfl; refine RFn.d3 ?_; refine blk_put (cs := #[.string (rdOf ByteArray.empty t170 0), .string (rdOf ByteArray.empty t170 1), .string (rdOf ByteArray.empty t170 2), .string (⟨#[]⟩ : ByteArray), .int .i64 0]) ?_ 3 _ rfl; refine RFn.d3 ?_; refine blk_put (cs := #[.string (rdOf ByteArray.empty t170 0), .string (rdOf ByteArray.empty t170 1), .string (⟨#[]⟩ : ByteArray), .string (⟨#[]⟩ : ByteArray), .int .i64 0]) ?_ 2 _ rfl; refine RFn.d3 ?_; refine blk_put (cs := #[.string (rdOf ByteArray.empty t170 0), .string (⟨#[]⟩ : ByteArray), .string (⟨#[]⟩ : ByteArray), .string (⟨#[]⟩ : ByteArray), .int .i64 0]) ?_ 1 _ rfl; refine RFn.d3 ?_; refine blk_put (cs := #[.string (⟨#[]⟩ : ByteArray), .string (⟨#[]⟩ : ByteArray), .string (⟨#[]⟩ : ByteArray), .string (⟨#[]⟩ : ByteArray), .int .i64 0]) ?_ 0 _ rfl; refine RFn.d3 ?_; exact BK177.out⟩, ⟨RFn.bels⟩⟩
                ·rw [if_neg c28] at H
                 have c28b0 : ((rdOf ByteArray.empty t170 3).toList == ([45] : List UInt8)) = false := beq_eq_false_iff_ne.mpr c28
                 have c28b1 : ((rdOf ByteArray.empty t170 3).toList != ([45] : List UInt8)) = true := bne_iff_ne.mpr c28
                 (first | rw [c28b0] | (simp only [i64_w, i32_w]; rw [c28b0]) | skip)
                 have H' := Aside0.mk H
                 clear H
                 go_wp2
                 first | go_meet | (simp only [c5b0, c12b0] at *; go_meet)
                 case rel => exact ⟨_, (rdOf ByteArray.empty t170 3), H', ⟨by have := HK1.out; first | omega | exact Nat.le_refl _⟩, ⟨by (with_reducible repeat (first | apply Kd.R_alloc | apply Kd.R_drewN | apply Kd.R_drew)); exact Kd.R_mono (Kd.R_far (p := ⟨gb177, 4, none⟩) (Kd.R_far (p := ⟨gb177, 3, none⟩) (Kd.R_far (p := ⟨gb177, 2, none⟩) (Kd.R_far (p := ⟨gb177, 1, none⟩) (Kd.R_far (p := ⟨gb177, 0, none⟩) (Kd.R_types HO_4.out BK177.out (by decide)) (fun _ hk => hk.2) (.string (rdOf ByteArray.empty t170 0))) (fun _ hk => hk.2) (.string (rdOf ByteArray.empty t170 1))) (fun _ hk => hk.2) (.string (rdOf ByteArray.empty t170 2))) (fun _ hk => hk.2) (.string (rdOf ByteArray.empty t170 3))) (fun _ hk => hk.2) (.int .i64 0)) (fun _ hk => trivial)⟩, ⟨by (with_reducible repeat (first | apply Kd.R_alloc | apply Kd.R_drewN | apply Kd.R_drew)); exact Kd.R_mono (Kd.R_far (p := ⟨gb177, 4, none⟩) (Kd.R_far (p := ⟨gb177, 3, none⟩) (Kd.R_far (p := ⟨gb177, 2, none⟩) (Kd.R_far (p := ⟨gb177, 1, none⟩) (Kd.R_far (p := ⟨gb177, 0, none⟩) (Kd.R_types HO172.out BK177.out (by decide)) (fun _ hk => hk.2) (.string (rdOf ByteArray.empty t170 0))) (fun _ hk => hk.2) (.string (rdOf ByteArray.empty t170 1))) (fun _ hk => hk.2) (.string (rdOf ByteArray.empty t170 2))) (fun _ hk => hk.2) (.string (rdOf ByteArray.empty t170 3))) (fun _ hk => hk.2) (.int .i64 0)) (fun _ hk => trivial)⟩, ⟨by refine RFn.d3 ?_; refine blk_put (cs := #[.string (rdOf ByteArray.empty t170 0), .string (rdOf ByteArray.empty t170 1), .string (rdOf ByteArray.empty t170 2), .string (rdOf ByteArray.empty t170 3), .int .i64 0]) ?_ 4 _ rfl; refine RFn.d3 ?_; refine blk_put (cs := #[.string (rdOf ByteArray.empty t170 0), .string (rdOf ByteArray.empty t170 1), .string (rdOf ByteArray.empty t170 2), .string (⟨#[]⟩ : ByteArray), .int .i64 0]) ?_ 3 _ rfl; refine RFn.d3 ?_; refine blk_put (cs := #[.string (rdOf ByteArray.empty t170 0), .string (rdOf ByteArray.empty t170 1), .string (⟨#[]⟩ : ByteArray), .string (⟨#[]⟩ : ByteArray), .int .i64 0]) ?_ 2 _ rfl; refine RFn.d3 ?_; refine blk_put (cs := #[.string (rdOf ByteArray.empty t170 0), .string (⟨#[]⟩ : ByteArray), .string (⟨#[]⟩ : ByteArray), .string (⟨#[]⟩ : ByteArray), .int .i64 0]) ?_ 1 _ rfl; refine RFn.d3 ?_; refine blk_put (cs := #[.string (⟨#[]⟩ : ByteArray), .string (⟨#[]⟩ : ByteArray), .string (⟨#[]⟩ : ByteArray), .string (⟨#[]⟩ : ByteArray), .int .i64 0]) ?_ 0 _ rfl; refine RFn.d3 ?_; exact BK177.out⟩, ⟨RFn.bels⟩⟩
               case rest =>
                clear HC17
                try clear c2
                try clear c2b0
                try clear c3
                try clear c3b0
                try clear p4
                try clear q4
                try clear hx4
                try clear c5
                try clear c5b0
                try clear c5b1
                try clear c6
                try clear c6b0
                try clear c6b1
                try clear c7
                try clear c7b0
                try clear c7b1
                try clear c8
                try clear c8b0
                try clear c8b1
                try clear c10
                try clear c12
                try clear c12b0
                try clear c12b1
                try clear c13
                try clear c13b0
                try clear c13b1
                try clear c14
                try clear c14b0
                try clear c14b1
                try clear c15
                try clear c15b0
                try clear c15b1
                try clear c16
                try clear c16b0
                try clear c16b1
                try clear c28
                try clear c28b0
                try clear c28b1
                try clear hcz27_0
                try clear hcz27_1
                try clear hcz27_2
                try clear hcz27_3
                try clear hcz27_4
                try clear hcz29_0
                try clear hcz29_1
                try clear hcz29_2
                try clear hcz29_3
                try clear hcz29_4
                try clear hfz27_0
                try clear hfz27_1
                try clear hfz27_2
                try clear hfz27_3
                try clear hfz27_4
                try clear hfz29_0
                try clear hfz29_1
                try clear hfz29_2
                try clear hfz29_3
                try clear hfz29_4
                try clear hx173_0
                try clear hx174_0
                try clear hx175_0
                try clear hx176_0
                try clear p173
                try clear p174
                try clear p175
                try clear p176
                try clear p4
                try clear q173
                try clear q174
                try clear q175
                try clear q176
                try clear q4
                obtain ⟨kq, x178003_16, HA, HJ16, HO_4, HO_8, BK177, HB⟩ := hcut
                cases kq with
                | zero => exact absurd HA.out (by simp [ref10_Parse.j1])
                | succ kj16 =>
                 have H := HA.out
                 clear HA
                 simp only [ref10_Parse.j1] at H
                 by_cases c30 : 4 < (t170.length : Int)
                 ·rw [if_pos c30] at H
                  have c30b0 : decide (4 < (t170.length : Int)) = true := decide_eq_true c30
                  have c30b1 : decide (4 < t170.length) = true := decide_eq_true (by omega)
                  clear c30
                  obtain ⟨⟨t179, t180⟩, A31, H⟩ := RFn.bn H
                  by_cases c32 : 5 < (t170.length : Int)
                  ·rw [if_pos c32] at H
                   have c32b0 : decide (5 < (t170.length : Int)) = true := decide_eq_true c32
                   have c32b1 : decide (5 < t170.length) = true := decide_eq_true (by omega)
                   clear c32
                   obtain ⟨⟨t182, t183⟩, A33, H⟩ := RFn.bn H
                   by_cases c34 : t180 = 0
                   ·rw [if_pos c34] at H
                    have c34b0 : (t180 == 0) = true := beq_iff_eq.mpr c34
                    have c34b1 : (t180 != 0) = false := bne_eq_false_iff_eq.mpr c34
                    clear c34
                    by_cases c35 : t183 = 0
                    ·rw [if_pos c35] at H
                     have c35b0 : (t183 == 0) = true := beq_iff_eq.mpr c35
                     have c35b1 : (t183 != 0) = false := bne_eq_false_iff_eq.mpr c35
                     clear c35
                     by_cases c36 : t179 < 0
                     ·rw [if_pos c36] at H
                      have c36b0 : decide (t179 < 0) = true := decide_eq_true c36
                      clear c36
                      simp only [Option.some.injEq, Prod.mk.injEq] at H
                      obtain ⟨rfl, rfl⟩ := H
                      have p178 : 0 ≤ (4 : Int) := (by omega)
                      have q178 : 4 < (t170.length : Int) := RFn.od
                      obtain ⟨ad178, e178, hx178_0⟩ := Kd.at_string (Kd.R_reads' HO_8.out).2.2 4 p178 q178
                      obtain rfl : ad173 = ad178 := (by injection e178)
                      (try simp only [show (4 : Int).toNat = 4 from rfl, Nat.reduceMul, Nat.reduceEqDiff, Go.Addr.add, ↓reduceIte] at hx178_0)
                      have qi178 : (4 < t170.length) = True := eq_true (by omega)
                      (try rw [show ((4 : Int)).toNat = 4 from rfl] at hx178_0)
                      replace p178 := eq_true p178
                      replace q178 := eq_true q178
                      go_wp2_with (first | ((with_reducible refine gate_callee (f := 31) rfl ?_); refine RFn.goesM (some 58) Tryz.func31 #[.string (rdOf ByteArray.empty t170 4)] rfl ?_; (with_reducible refine (ref01_Parse.calls kj16 (rdOf ByteArray.empty t170 4) t179 t180 _ A31.out).mono ?_); rintro e w' ⟨rfl, ⟨nd, rfl⟩⟩; refine ⟨_, rfl, ?_⟩; have p181 : 0 ≤ (5 : Int) := (by omega); have q181 : 5 < (t170.length : Int) := RFn.od; obtain ⟨ad181, e181, hx181_0⟩ := Kd.at_string (Kd.R_reads' HO_8.out).2.2 5 p181 q181; obtain rfl : ad173 = ad181 := (by injection e181); (try simp only [show (5 : Int).toNat = 5 from rfl, Nat.reduceMul, Nat.reduceEqDiff, Go.Addr.add, ↓reduceIte] at hx181_0); have qi181 : (5 < t170.length) = True := eq_true (by omega); (try rw [show ((5 : Int)).toNat = 5 from rfl] at hx181_0); replace p181 := eq_true p181; replace q181 := eq_true q181) | ((with_reducible refine gate_callee (f := 31) rfl ?_); refine RFn.goesM (some 65) Tryz.func31 #[.string (rdOf ByteArray.empty t170 5)] rfl ?_; (with_reducible refine (ref01_Parse.calls kj16 (rdOf ByteArray.empty t170 5) t182 t183 _ A33.out).mono ?_); rintro e w' ⟨rfl, ⟨nd, rfl⟩⟩; refine ⟨_, rfl, ?_⟩))
                      go_ret2
                      exact ⟨_, by first | rfl | (simp [errW_none, errW_some] <;> rfl) | (simp [*, errW_none, errW_some] <;> rfl), RFn.kn, RFn.bels⟩
                     ·rw [if_neg c36] at H
                      have c36b0 : decide (t179 < 0) = false := decide_eq_false c36
                      clear c36
                      by_cases c37 : t179 > 4
                      ·rw [if_pos c37] at H
                       have c37b0 : decide (4 < t179) = true := decide_eq_true c37
                       clear c37
                       simp only [Option.some.injEq, Prod.mk.injEq] at H
                       obtain ⟨rfl, rfl⟩ := H
                       have p178 : 0 ≤ (4 : Int) := (by omega)
                       have q178 : 4 < (t170.length : Int) := RFn.od
                       obtain ⟨ad178, e178, hx178_0⟩ := Kd.at_string (Kd.R_reads' HO_8.out).2.2 4 p178 q178
                       obtain rfl : ad173 = ad178 := (by injection e178)
                       (try simp only [show (4 : Int).toNat = 4 from rfl, Nat.reduceMul, Nat.reduceEqDiff, Go.Addr.add, ↓reduceIte] at hx178_0)
                       have qi178 : (4 < t170.length) = True := eq_true (by omega)
                       (try rw [show ((4 : Int)).toNat = 4 from rfl] at hx178_0)
                       replace p178 := eq_true p178
                       replace q178 := eq_true q178
                       go_wp2_with (first | ((with_reducible refine gate_callee (f := 31) rfl ?_); refine RFn.goesM (some 58) Tryz.func31 #[.string (rdOf ByteArray.empty t170 4)] rfl ?_; (with_reducible refine (ref01_Parse.calls kj16 (rdOf ByteArray.empty t170 4) t179 t180 _ A31.out).mono ?_); rintro e w' ⟨rfl, ⟨nd, rfl⟩⟩; refine ⟨_, rfl, ?_⟩; have p181 : 0 ≤ (5 : Int) := (by omega); have q181 : 5 < (t170.length : Int) := RFn.od; obtain ⟨ad181, e181, hx181_0⟩ := Kd.at_string (Kd.R_reads' HO_8.out).2.2 5 p181 q181; obtain rfl : ad173 = ad181 := (by injection e181); (try simp only [show (5 : Int).toNat = 5 from rfl, Nat.reduceMul, Nat.reduceEqDiff, Go.Addr.add, ↓reduceIte] at hx181_0); have qi181 : (5 < t170.length) = True := eq_true (by omega); (try rw [show ((5 : Int)).toNat = 5 from rfl] at hx181_0); replace p181 := eq_true p181; replace q181 := eq_true q181) | ((with_reducible refine gate_callee (f := 31) rfl ?_); refine RFn.goesM (some 65) Tryz.func31 #[.string (rdOf ByteArray.empty t170 5)] rfl ?_; (with_reducible refine (ref01_Parse.calls kj16 (rdOf ByteArray.empty t170 5) t182 t183 _ A33.out).mono ?_); rintro e w' ⟨rfl, ⟨nd, rfl⟩⟩; refine ⟨_, rfl, ?_⟩))
                       go_ret2
                       exact ⟨_, by first | rfl | (simp [errW_none, errW_some] <;> rfl) | (simp [*, errW_none, errW_some] <;> rfl), RFn.kn, RFn.bels⟩
                      ·rw [if_neg c37] at H
                       have c37b0 : decide (4 < t179) = false := decide_eq_false c37
                       clear c37
                       by_cases c38 : x4_1.length < 1759218604441
                       ·rw [if_pos c38] at H
                        have LMc38 := Aside0.mk c38
                        clear c38
                        obtain ⟨y184, hy184⟩ : ∃ y_ : List (S54), y_ = (x4_1 ++ [(⟨(⟨(rdOf ByteArray.empty t170 0), (rdOf ByteArray.empty t170 1), (rdOf ByteArray.empty t170 2), x178003_16, t179⟩ : S52), t182⟩ : S54)]) := ⟨_, rfl⟩
                        replace H : (ref10_Parse.l0 kj16 a0 y184 (wrap64 (x7_1 + 1)) false (wrap64 (x7_1 + 1))) = some (r1, r2) := RFn.rp H hy184
                        have Ny184 := Aside0.mk hy184
                        clear hy184
                        have H' := Aside0.mk H
                        clear H
                        have p178 : 0 ≤ (4 : Int) := (by omega)
                        have q178 : 4 < (t170.length : Int) := RFn.od
                        obtain ⟨ad178, e178, hx178_0⟩ := Kd.at_string (Kd.R_reads' HO_8.out).2.2 4 p178 q178
                        obtain rfl : ad173 = ad178 := (by injection e178)
                        (try simp only [show (4 : Int).toNat = 4 from rfl, Nat.reduceMul, Nat.reduceEqDiff, Go.Addr.add, ↓reduceIte] at hx178_0)
                        have qi178 : (4 < t170.length) = True := eq_true (by omega)
                        (try rw [show ((4 : Int)).toNat = 4 from rfl] at hx178_0)
                        replace p178 := eq_true p178
                        replace q178 := eq_true q178
                        go_wp2_with (first | ((with_reducible refine gate_callee (f := 31) rfl ?_); refine RFn.goesM (some 58) Tryz.func31 #[.string (rdOf ByteArray.empty t170 4)] rfl ?_; (with_reducible refine (ref01_Parse.calls kj16 (rdOf ByteArray.empty t170 4) t179 t180 _ A31.out).mono ?_); rintro e w' ⟨rfl, ⟨nd, rfl⟩⟩; refine ⟨_, rfl, ?_⟩; (try (rw [drewN_self wc]; generalize hq_ : World.drewN wc _ = wc; have n0_ : Aside0 (Kd.R k54 54 wc w.heap.size (fun _ => True) u4 x4_1) := ⟨by rw [← hq_]; exact (RFn.mR HO_4)⟩; have n1_ : Aside0 (Kd.R Kd.string 9 wc w.heap.size (fun _ => True) (.slice (some ad173) t170.length co19) t170) := ⟨by rw [← hq_]; exact (RFn.mR HO_8)⟩; have n2_ : Aside0 (wc.heap[gb177]? = some (.cells #[.string (rdOf ByteArray.empty t170 0), .string (rdOf ByteArray.empty t170 1), .string (rdOf ByteArray.empty t170 2), .string x178003_16, .int .i64 0] 52 (0, 0))) := ⟨by rw [← hq_]; exact (RFn.mB BK177)⟩; have n3_ : Aside0 (Below w.heap.size w wc) := ⟨by rw [← hq_]; exact RFn.bels⟩; clear HO_4 HO_8 BK177 HB hq_; have HO_4 := n0_; have HO_8 := n1_; have BK177 := n2_; have HB := n3_; clear n0_ n1_ n2_ n3_)); have p181 : 0 ≤ (5 : Int) := (by omega); have q181 : 5 < (t170.length : Int) := RFn.od; obtain ⟨ad181, e181, hx181_0⟩ := Kd.at_string (Kd.R_reads' HO_8.out).2.2 5 p181 q181; obtain rfl : ad173 = ad181 := (by injection e181); (try simp only [show (5 : Int).toNat = 5 from rfl, Nat.reduceMul, Nat.reduceEqDiff, Go.Addr.add, ↓reduceIte] at hx181_0); have qi181 : (5 < t170.length) = True := eq_true (by omega); (try rw [show ((5 : Int)).toNat = 5 from rfl] at hx181_0); replace p181 := eq_true p181; replace q181 := eq_true q181) | ((with_reducible refine gate_callee (f := 31) rfl ?_); refine RFn.goesM (some 65) Tryz.func31 #[.string (rdOf ByteArray.empty t170 5)] rfl ?_; (with_reducible refine (ref01_Parse.calls kj16 (rdOf ByteArray.empty t170 5) t182 t183 _ A33.out).mono ?_); rintro e w' ⟨rfl, ⟨nd, rfl⟩⟩; refine ⟨_, rfl, ?_⟩; (try (rw [drewN_self wc]; generalize hq_ : World.drewN wc _ = wc; have n0_ : Aside0 (Kd.R k54 54 wc w.heap.size (fun _ => True) u4 x4_1) := ⟨by rw [← hq_]; exact (RFn.mR HO_4)⟩; have n1_ : Aside0 (Kd.R Kd.string 9 wc w.heap.size (fun _ => True) (.slice (some ad173) t170.length co19) t170) := ⟨by rw [← hq_]; exact (RFn.mR HO_8)⟩; have n2_ : Aside0 (wc.heap[gb177]? = some (.cells #[.string (rdOf ByteArray.empty t170 0), .string (rdOf ByteArray.empty t170 1), .string (rdOf ByteArray.empty t170 2), .string x178003_16, .int .i64 0] 52 (0, 0))) := ⟨by rw [← hq_]; exact (RFn.mB BK177)⟩; have n3_ : Aside0 (Below w.heap.size w wc) := ⟨by rw [← hq_]; exact RFn.bels⟩; clear HO_4 HO_8 BK177 HB hq_; have HO_4 := n0_; have HO_8 := n1_; have BK177 := n2_; have HB := n3_; clear n0_ n1_ n2_ n3_)); obtain ⟨hcz39_0, hcz39_1, hcz39_2, hcz39_3, hcz39_4⟩ := RFn.bc5 BK177; obtain ⟨hfz39_0, hfz39_1, hfz39_2, hfz39_3, hfz39_4⟩ := RFn.bf5 BK177) | ((with_reducible refine gate_builtin (b := .append) (xs := #[.tmp 84, .tmp 88]) rfl ?_); at_builtin; refine Kd.R_append k54 (w0 := w) w.heap.size rfl (.tmp 84) (.tmp 88) 22 54 (.agg #[(.string ⟨#[]⟩), (.string ⟨#[]⟩), (.string ⟨#[]⟩), (.string ⟨#[]⟩), (.int .i64 0), (.int .i64 0)]) 80 rfl Tryz.underlying22 info54 rfl (by decide) (by omega) u4 x4_1 (⟨(⟨(rdOf ByteArray.empty t170 0), (rdOf ByteArray.empty t170 1), (rdOf ByteArray.empty t170 2), x178003_16, t179⟩ : S52), t182⟩ : S54) [.string (rdOf ByteArray.empty t170 0), .string (rdOf ByteArray.empty t170 1), .string (rdOf ByteArray.empty t170 2), .string x178003_16, .int .i64 t179, .int .i64 t182] (fun _ => True) (fun _ => False) rfl (by first | (go_simp; done) | (go_simp; rfl)) ?aP (fun _ hk => hk.elim) ?aF ?aO ?aB ?aS ?aL ?_; (case aP => exact k54_mkM _ _ _ (⟨(⟨(rdOf ByteArray.empty t170 0), (rdOf ByteArray.empty t170 1), (rdOf ByteArray.empty t170 2), x178003_16, t179⟩ : S52), t182⟩ : S54)); (case aB => exact RFn.bels); (case aF => exact (fun _ _ => trivial)); (case aO => exact (by (with_reducible repeat (first | apply Kd.R_alloc | apply Kd.R_drewN | apply Kd.R_drew)); exact Kd.R_mono (Kd.R_far (p := ⟨gb177, 4, none⟩) (Kd.R_types HO_4.out BK177.out (by decide)) (fun _ hk => hk.2) (.int .i64 t179)) (fun _ hk => trivial))); (case aS => exact (below_size RFn.bels)); (case aL => have := LMc38.out; omega); intro v185 w40 ho hb hg hat; rw [← Ny184.out] at ho; have n0_ := Aside0.mk (Kd.R_over' (by (with_reducible repeat (first | apply Kd.R_alloc | apply Kd.R_drewN | apply Kd.R_drew)); exact (Kd.R_mono (Kd.R_far (p := ⟨gb177, 4, none⟩) (Kd.R_types HO_8.out BK177.out (by decide)) (fun _ hk => hk.2) (.int .i64 t179)) (fun _ h_ => h_.1))) (Kd.R_typed (by (with_reducible repeat (first | apply Kd.R_alloc | apply Kd.R_drewN | apply Kd.R_drew)); exact (Kd.R_mono (Kd.R_far (p := ⟨gb177, 4, none⟩) (Kd.R_types HO_4.out BK177.out (by decide)) (fun _ hk => hk.2) (.int .i64 t179)) (fun _ h_ => h_.1)))) (by decide) hg); have n1_ := Aside0.mk (blk_grown (g := gb177) (o := .cells #[.string (rdOf ByteArray.empty t170 0), .string (rdOf ByteArray.empty t170 1), .string (rdOf ByteArray.empty t170 2), .string x178003_16, .int .i64 t179] 52 (0, 0)) (by refine RFn.d3 ?_; refine blk_put (cs := #[.string (rdOf ByteArray.empty t170 0), .string (rdOf ByteArray.empty t170 1), .string (rdOf ByteArray.empty t170 2), .string x178003_16, .int .i64 0]) ?_ 4 _ rfl; refine RFn.d3 ?_; exact BK177.out) hg (Kd.R_ne HO_4.out BK177.out (by decide))); have n2_ := Aside0.mk (hb); have n3_ := Aside0.mk (ho); clear HO_8; clear BK177; clear HB; clear HO_4; have HO_8 := n0_; have BK177 := n1_; have HB := n2_; have HO186 := n3_; clear n0_ n1_ n2_ n3_; clear ho hb hg hat))
                        go_roundg kj16
                        case measure => have := HK1.out; have := HJ16.out; omega
                        case rel => exact ⟨(y184), ((wrap64 (x7_1 + 1))), (false), (wrap64 (x7_1 + 1)), (by first | rfl | (simp; done) | (simp [*]; done)), (by first | rfl | (simp; done) | (simp [*]; done)), (by first | rfl | (simp; done) | (simp [*]; done)), H', ⟨by have := HK1.out; have := HJ16.out; omega⟩, ⟨RFn.mR HO186⟩, ⟨RFn.bels⟩⟩
                       ·rw [if_neg c38] at H
                        exact absurd H (by simp)
                    ·rw [if_neg c35] at H
                     have c35b0 : (t183 == 0) = false := beq_eq_false_iff_ne.mpr c35
                     have c35b1 : (t183 != 0) = true := bne_iff_ne.mpr c35
                     simp only [Option.some.injEq, Prod.mk.injEq] at H
                     obtain ⟨rfl, rfl⟩ := H
                     have p178 : 0 ≤ (4 : Int) := (by omega)
                     have q178 : 4 < (t170.length : Int) := RFn.od
                     obtain ⟨ad178, e178, hx178_0⟩ := Kd.at_string (Kd.R_reads' HO_8.out).2.2 4 p178 q178
                     obtain rfl : ad173 = ad178 := (by injection e178)
                     (try simp only [show (4 : Int).toNat = 4 from rfl, Nat.reduceMul, Nat.reduceEqDiff, Go.Addr.add, ↓reduceIte] at hx178_0)
                     have qi178 : (4 < t170.length) = True := eq_true (by omega)
                     (try rw [show ((4 : Int)).toNat = 4 from rfl] at hx178_0)
                     replace p178 := eq_true p178
                     replace q178 := eq_true q178
                     go_wp2_with (first | ((with_reducible refine gate_callee (f := 31) rfl ?_); refine RFn.goesM (some 58) Tryz.func31 #[.string (rdOf ByteArray.empty t170 4)] rfl ?_; (with_reducible refine (ref01_Parse.calls kj16 (rdOf ByteArray.empty t170 4) t179 t180 _ A31.out).mono ?_); rintro e w' ⟨rfl, ⟨nd, rfl⟩⟩; refine ⟨_, rfl, ?_⟩; have p181 : 0 ≤ (5 : Int) := (by omega); have q181 : 5 < (t170.length : Int) := RFn.od; obtain ⟨ad181, e181, hx181_0⟩ := Kd.at_string (Kd.R_reads' HO_8.out).2.2 5 p181 q181; obtain rfl : ad173 = ad181 := (by injection e181); (try simp only [show (5 : Int).toNat = 5 from rfl, Nat.reduceMul, Nat.reduceEqDiff, Go.Addr.add, ↓reduceIte] at hx181_0); have qi181 : (5 < t170.length) = True := eq_true (by omega); (try rw [show ((5 : Int)).toNat = 5 from rfl] at hx181_0); replace p181 := eq_true p181; replace q181 := eq_true q181) | ((with_reducible refine gate_callee (f := 31) rfl ?_); refine RFn.goesM (some 65) Tryz.func31 #[.string (rdOf ByteArray.empty t170 5)] rfl ?_; (with_reducible refine (ref01_Parse.calls kj16 (rdOf ByteArray.empty t170 5) t182 t183 _ A33.out).mono ?_); rintro e w' ⟨rfl, ⟨nd, rfl⟩⟩; refine ⟨_, rfl, ?_⟩))
                     go_ret2
                     exact ⟨_, by first | rfl | (simp [errW_none, errW_some] <;> rfl) | (simp [*, errW_none, errW_some] <;> rfl), RFn.kn, RFn.bels⟩
                   ·rw [if_neg c34] at H
                    have c34b0 : (t180 == 0) = false := beq_eq_false_iff_ne.mpr c34
                    have c34b1 : (t180 != 0) = true := bne_iff_ne.mpr c34
                    simp only [Option.some.injEq, Prod.mk.injEq] at H
                    obtain ⟨rfl, rfl⟩ := H
                    have p178 : 0 ≤ (4 : Int) := (by omega)
                    have q178 : 4 < (t170.length : Int) := RFn.od
                    obtain ⟨ad178, e178, hx178_0⟩ := Kd.at_string (Kd.R_reads' HO_8.out).2.2 4 p178 q178
                    obtain rfl : ad173 = ad178 := (by injection e178)
                    (try simp only [show (4 : Int).toNat = 4 from rfl, Nat.reduceMul, Nat.reduceEqDiff, Go.Addr.add, ↓reduceIte] at hx178_0)
                    have qi178 : (4 < t170.length) = True := eq_true (by omega)
                    (try rw [show ((4 : Int)).toNat = 4 from rfl] at hx178_0)
                    replace p178 := eq_true p178
                    replace q178 := eq_true q178
                    go_wp2_with (first | ((with_reducible refine gate_callee (f := 31) rfl ?_); refine RFn.goesM (some 58) Tryz.func31 #[.string (rdOf ByteArray.empty t170 4)] rfl ?_; (with_reducible refine (ref01_Parse.calls kj16 (rdOf ByteArray.empty t170 4) t179 t180 _ A31.out).mono ?_); rintro e w' ⟨rfl, ⟨nd, rfl⟩⟩; refine ⟨_, rfl, ?_⟩; have p181 : 0 ≤ (5 : Int) := (by omega); have q181 : 5 < (t170.length : Int) := RFn.od; obtain ⟨ad181, e181, hx181_0⟩ := Kd.at_string (Kd.R_reads' HO_8.out).2.2 5 p181 q181; obtain rfl : ad173 = ad181 := (by injection e181); (try simp only [show (5 : Int).toNat = 5 from rfl, Nat.reduceMul, Nat.reduceEqDiff, Go.Addr.add, ↓reduceIte] at hx181_0); have qi181 : (5 < t170.length) = True := eq_true (by omega); (try rw [show ((5 : Int)).toNat = 5 from rfl] at hx181_0); replace p181 := eq_true p181; replace q181 := eq_true q181) | ((with_reducible refine gate_callee (f := 31) rfl ?_); refine RFn.goesM (some 65) Tryz.func31 #[.string (rdOf ByteArray.empty t170 5)] rfl ?_; (with_reducible refine (ref01_Parse.calls kj16 (rdOf ByteArray.empty t170 5) t182 t183 _ A33.out).mono ?_); rintro e w' ⟨rfl, ⟨nd, rfl⟩⟩; refine ⟨_, rfl, ?_⟩))
                    go_ret2
                    exact ⟨_, by first | rfl | (simp [errW_none, errW_some] <;> rfl) | (simp [*, errW_none, errW_some] <;> rfl), RFn.kn, RFn.bels⟩
                  ·rw [if_neg c32] at H
                   exact absurd H (by simp)
                 ·rw [if_neg c30] at H
                  exact absurd H (by simp)
              ·rw [if_neg c16] at H
               exact absurd H (by simp)
             ·rw [if_neg c15] at H
              exact absurd H (by simp)
            ·rw [if_neg c14] at H
             exact absurd H (by simp)
           ·rw [if_neg c13] at H
            exact absurd H (by simp)
          ·rw [if_neg c12] at H
           have c12b0 : ((t170.length : Int) == 6) = false := beq_eq_false_iff_ne.mpr c12
           have c12b1 : ((t170.length : Int) != 6) = true := bne_iff_ne.mpr c12
           simp only [Option.some.injEq, Prod.mk.injEq] at H
           obtain ⟨rfl, rfl⟩ := H
           have p4 : 0 ≤ (x7_1 : Int) := RFn.od
           have q4 : x7_1 < (a0.size : Int) := RFn.od
           have hx4 := bt_at a0 x7_1
           replace p4 := eq_true p4
           replace q4 := eq_true q4
           go_wp2_with (first | ((with_reducible refine gate_callee (f := 30) rfl ?_); refine RFn.goesM (some 30) Tryz.func30 #[.string (a0.extract (x5_1 : Int).toNat (x7_1 : Int).toNat)] rfl ?_; (with_reducible refine (ref05_Words.calls k1 (a0.extract (x5_1 : Int).toNat (x7_1 : Int).toNat) t170 _ A9.out).mono ?_); rintro e w41 ⟨v171, rfl, ho0, hb⟩; refine ⟨_, rfl, ?_⟩; have n0_ := Aside0.mk (Kd.R_below (RFn.mR HO_4) hb); have n1_ := Aside0.mk (Kd.R_lower ho0 (below_size (RFn.bel))); have n2_ := Aside0.mk (below_step (RFn.bel) hb); clear HO_4; clear HB; have HO_4 := n0_; have HO172 := n1_; have HB := n2_; clear n0_ n1_ n2_; (try clear hb); (try clear ho0); obtain ⟨Ao42, co42, eo42⟩ := Kd.R_slice HO172.out; subst eo42))
           go_ret2
           exact ⟨_, by first | rfl | (simp [errW_none, errW_some] <;> rfl) | (simp [*, errW_none, errW_some] <;> rfl), RFn.kn, RFn.bel⟩
        ·rw [if_neg c8] at H
         exact absurd H (by simp)
       ·rw [if_neg c7] at H
        exact absurd H (by simp)
      ·rw [if_neg c6] at H
       exact absurd H (by simp)
     ·rw [if_neg c5] at H
      have c5b0 : ((bt a0 x7_1) == 10) = false := beq_eq_false_iff_ne.mpr c5
      have c5b1 : ((bt a0 x7_1) != 10) = true := bne_iff_ne.mpr c5
      have H' := Aside0.mk H
      clear H
      have p4 : 0 ≤ (x7_1 : Int) := RFn.od
      have q4 : x7_1 < (a0.size : Int) := RFn.od
      have hx4 := bt_at a0 x7_1
      replace p4 := eq_true p4
      replace q4 := eq_true q4
      go_wp2
      go_roundg k1
      case measure => have := HK1.out; omega
      case rel => exact ⟨(x4_1), (x5_1), (x6_1), (wrap64 (x7_1 + 1)), (by first | rfl | (simp; done) | (simp [*]; done)), (by first | rfl | (simp; done) | (simp [*]; done)), (by first | rfl | (simp; done) | (simp [*]; done)), H', ⟨RFn.lk HK1⟩, ⟨RFn.mR HO_4⟩, ⟨RFn.bel⟩⟩
    ·rw [if_neg c3] at H
     exact absurd H (by simp)
   ·rw [if_neg c2] at H
    have c2b0 : decide (x7_1 < (a0.size : Int)) = false := decide_eq_false c2
    clear c2
    obtain ⟨⟨t168, t169⟩, A43, H⟩ := RFn.bn H
    by_cases c44 : t169 = 0
    ·rw [if_pos c44] at H
     have c44b0 : (t169 == 0) = true := beq_iff_eq.mpr c44
     have c44b1 : (t169 != 0) = false := bne_eq_false_iff_eq.mpr c44
     clear c44
     by_cases c45 : t168.toList = a0.toList
     ·rw [if_pos c45] at H
      have c45b0 : (t168.toList == a0.toList) = true := beq_iff_eq.mpr c45
      have c45b1 : (t168.toList != a0.toList) = false := bne_eq_false_iff_eq.mpr c45
      clear c45
      simp only [Option.some.injEq, Prod.mk.injEq] at H
      obtain ⟨rfl, rfl⟩ := H
      obtain ⟨Ao46, co46, eo46⟩ := Kd.R_slice HO_4.out
      subst eo46
      go_wp2_with (first | ((with_reducible refine gate_callee (f := 12) rfl ?_); refine RFn.goesM (some 92) Tryz.func12 #[.slice Ao46 x4_1.length co46] rfl ?_; (with_reducible refine (ref10_Print.calls k1 _ _ x4_1 t168 t169 _ ?side1 ?side2 A43.out).mono ?_); (case side1 => exact RFn.mC (Kd.R_reads' HO_4.out).2.2); (case side2 => exact (Kd.R_reads' HO_4.out).2.1); rintro e w47 ⟨rfl, hb⟩; refine ⟨_, rfl, ?_⟩; have n0_ := Aside0.mk (Kd.R_below (RFn.mR HO_4) hb); have n1_ := Aside0.mk (below_step (RFn.bel) hb); clear HO_4; clear HB; have HO_4 := n0_; have HB := n1_; clear n0_ n1_; (try clear hb)))
      go_ret2
      exact ⟨_, by first | rfl | (simp [errW_none, errW_some] <;> rfl) | (simp [*, errW_none, errW_some] <;> rfl), RFn.mR HO_4, RFn.bel⟩
     ·rw [if_neg c45] at H
      have c45b0 : (t168.toList == a0.toList) = false := beq_eq_false_iff_ne.mpr c45
      have c45b1 : (t168.toList != a0.toList) = true := bne_iff_ne.mpr c45
      simp only [Option.some.injEq, Prod.mk.injEq] at H
      obtain ⟨rfl, rfl⟩ := H
      obtain ⟨Ao48, co48, eo48⟩ := Kd.R_slice HO_4.out
      subst eo48
      go_wp2_with (first | ((with_reducible refine gate_callee (f := 12) rfl ?_); refine RFn.goesM (some 92) Tryz.func12 #[.slice Ao48 x4_1.length co48] rfl ?_; (with_reducible refine (ref10_Print.calls k1 _ _ x4_1 t168 t169 _ ?side1 ?side2 A43.out).mono ?_); (case side1 => exact RFn.mC (Kd.R_reads' HO_4.out).2.2); (case side2 => exact (Kd.R_reads' HO_4.out).2.1); rintro e w49 ⟨rfl, hb⟩; refine ⟨_, rfl, ?_⟩; have n0_ := Aside0.mk (Kd.R_below (RFn.mR HO_4) hb); have n1_ := Aside0.mk (below_step (RFn.bel) hb); clear HO_4; clear HB; have HO_4 := n0_; have HB := n1_; clear n0_ n1_; (try clear hb)))
      go_ret2
      exact ⟨_, by first | rfl | (simp [errW_none, errW_some] <;> rfl) | (simp [*, errW_none, errW_some] <;> rfl), RFn.kn, RFn.bel⟩
    ·rw [if_neg c44] at H
     have c44b0 : (t169 == 0) = false := beq_eq_false_iff_ne.mpr c44
     have c44b1 : (t169 != 0) = true := bne_iff_ne.mpr c44
     simp only [Option.some.injEq, Prod.mk.injEq] at H
     obtain ⟨rfl, rfl⟩ := H
     obtain ⟨Ao50, co50, eo50⟩ := Kd.R_slice HO_4.out
     subst eo50
     go_wp2_with (first | ((with_reducible refine gate_callee (f := 12) rfl ?_); refine RFn.goesM (some 92) Tryz.func12 #[.slice Ao50 x4_1.length co50] rfl ?_; (with_reducible refine (ref10_Print.calls k1 _ _ x4_1 t168 t169 _ ?side1 ?side2 A43.out).mono ?_); (case side1 => exact RFn.mC (Kd.R_reads' HO_4.out).2.2); (case side2 => exact (Kd.R_reads' HO_4.out).2.1); rintro e w51 ⟨rfl, hb⟩; refine ⟨_, rfl, ?_⟩; have n0_ := Aside0.mk (Kd.R_below (RFn.mR HO_4) hb); have n1_ := Aside0.mk (below_step (RFn.bel) hb); clear HO_4; clear HB; have HO_4 := n0_; have HB := n1_; clear n0_ n1_; (try clear hb)))
     go_ret2
     exact ⟨_, by first | rfl | (simp [errW_none, errW_some] <;> rfl) | (simp [*, errW_none, errW_some] <;> rfl), RFn.kn, RFn.bel⟩
/-! ### ref09_Same: function 15 -/
def ref09_Same.l0 : Nat → List (S54) → List (S54) → Int → Option (Bool)
 | 0, _, _, _ => none
 | k + 1, x0, x1, x5 => if x5 < (x0.length : Int) then (if 0 ≤ x5 then (if x5 < (x1.length : Int) then (if ((!((((rd_T54 x0 x5).f0.f0).toList) == (((rd_T54 x1 x5).f0.f0).toList)) || (!((((rd_T54 x0 x5).f0.f1).toList) == (((rd_T54 x1 x5).f0.f1).toList)) || (!((((rd_T54 x0 x5).f0.f2).toList) == (((rd_T54 x1 x5).f0.f2).toList)) || (!((((rd_T54 x0 x5).f0.f3).toList) == (((rd_T54 x1 x5).f0.f3).toList)) || (!(((rd_T54 x0 x5).f0.f4) == ((rd_T54 x1 x5).f0.f4))))))) || (!(((rd_T54 x0 x5).f1) == ((rd_T54 x1 x5).f1)))) = true then (some false) else (ref09_Same.l0 k x0 x1 (wrap64 (x5 + 1)))) else (none)) else (none)) else (some true)
def ref09_Same.f (k : Nat) (l0 : List (S54)) (l1 : List (S54)) : Option (Bool) := if (l0.length : Int) = (l1.length : Int) then (ref09_Same.l0 k l0 l1 0) else (some false)
theorem ref09_Same.mono_l : ∀ k, (∀ y0 y1 y2, LeO (ref09_Same.l0 k y0 y1 y2) (ref09_Same.l0 (k + 1) y0 y1 y2))
 | 0 => fun _ _ _ r h => by simp [ref09_Same.l0] at h
 | k + 1 => by
  have ih0 := ref09_Same.mono_l k
  ·intro y0 y1 y2
   unfold ref09_Same.l0
   repeat' with_reducible first | exact LeO.refl _ | apply ih0 | exact LeO.none _ | apply LeO.ite | refine LeO.bind ?_ fun _ => ?_
theorem ref09_Same.mono : ∀ a0 a1 k, LeO (ref09_Same.f k a0 a1) (ref09_Same.f (k + 1) a0 a1) := by
 intro a0 a1 k
 have ih0 := ref09_Same.mono_l k
 unfold ref09_Same.f
 repeat' with_reducible first | exact LeO.refl _ | apply ih0 | exact LeO.none _ | apply LeO.ite | refine LeO.bind ?_ fun _ => ?_
set_option maxHeartbeats 8000000 in
set_option maxRecDepth 100000 in
theorem ref09_Same.calls (k : Nat) (A0 : Option Addr) (c0 : Nat) (l0 : List (S54)) (A1 : Option Addr) (c1 : Nat) (l1 : List (S54)) (r : Bool) (w : World) (hr0 : Kd.C k54 w A0 l0.length l0) (hc0 : l0.length ≤ c0) (hr1 : Kd.C k54 w A1 l1.length l1) (hc1 : l1.length ≤ c1) (h : ref09_Same.f k l0 l1 = some r) :
  Calls Tryz.prog 15 #[.slice A0 l0.length c0, .slice A1 l1.length c1] w fun e w' => e = .returned (.bool r) ∧ Drawn0 w w' := by
 have hu54 := Tryz.underlying54
 have HR0 := Aside0.mk hr0
 have HC0 := Aside0.mk hc0
 clear hr0 hc0
 have HR1 := Aside0.mk hr1
 have HC1 := Aside0.mk hc1
 clear hr1 hc1
 have H : (if (l0.length : Int) = (l1.length : Int) then (ref09_Same.l0 k l0 l1 0) else (some false)) = some r := h
 clear h
 by_cases c3 : (l0.length : Int) = (l1.length : Int)
 ·rw [if_pos c3] at H
  have c3b0 : ((l0.length : Int) == (l1.length : Int)) = true := beq_iff_eq.mpr c3
  have c3b1 : ((l0.length : Int) != (l1.length : Int)) = false := bne_eq_false_iff_eq.mpr c3
  have c3b2 : (l0.length == l1.length) = true := by first | simpa using c3 | (simp at c3 ⊢; omega)
  clear c3
  have H' := Aside0.mk H
  clear H
  go_enter Tryz.func15, Tryz.ntmps15
  go_wp2
  repeat (go_quiet (fail); try go_wp2)
  go_loopg [5] k (fun kq v5 w' => ∃ (x5_1 : Int), v5 = .int .i64 x5_1 ∧ Aside0 (ref09_Same.l0 kq l0 l1 x5_1 = some r) ∧ Aside0 (kq ≤ k) ∧ Drawn0 w w')
  case atStart => exact ⟨(0), (by first | rfl | (simp; done) | (simp [*]; done)), H', ⟨Nat.le_refl _⟩, by repeat (first | exact Drawn0.refl _ | apply Drawn0.step)⟩
  case round =>
   clear H'
   try clear c1
   try clear c3
   try clear c3b0
   try clear c3b1
   try clear c3b2
   obtain ⟨x5_1, rfl, HA, HK1, ⟨m1, rfl⟩⟩ := hrel
   cases gk with
   | zero => exact absurd HA.out (by simp [ref09_Same.l0])
   | succ k1 =>
    have H := HA.out
    clear HA
    simp only [ref09_Same.l0] at H
    by_cases c4 : x5_1 < (l0.length : Int)
    ·rw [if_pos c4] at H
     have c4b0 : decide (x5_1 < (l0.length : Int)) = true := decide_eq_true c4
     clear c4
     by_cases c5 : 0 ≤ x5_1
     ·rw [if_pos c5] at H
      have c5b0 : decide (0 ≤ x5_1) = true := decide_eq_true c5
      clear c5
      by_cases c6 : x5_1 < (l1.length : Int)
      ·rw [if_pos c6] at H
       have c6b0 : decide (x5_1 < (l1.length : Int)) = true := decide_eq_true c6
       clear c6
       by_cases c7 : ((!((((rd_T54 l0 x5_1).f0.f0).toList) == (((rd_T54 l1 x5_1).f0.f0).toList)) || (!((((rd_T54 l0 x5_1).f0.f1).toList) == (((rd_T54 l1 x5_1).f0.f1).toList)) || (!((((rd_T54 l0 x5_1).f0.f2).toList) == (((rd_T54 l1 x5_1).f0.f2).toList)) || (!((((rd_T54 l0 x5_1).f0.f3).toList) == (((rd_T54 l1 x5_1).f0.f3).toList)) || (!(((rd_T54 l0 x5_1).f0.f4) == ((rd_T54 l1 x5_1).f0.f4))))))) || (!(((rd_T54 l0 x5_1).f1) == ((rd_T54 l1 x5_1).f1)))) = true
       ·rw [if_pos c7] at H
        have c7b0 : ((!((((rd_T54 l0 x5_1).f0.f0).toList) == (((rd_T54 l1 x5_1).f0.f0).toList)) || (!((((rd_T54 l0 x5_1).f0.f1).toList) == (((rd_T54 l1 x5_1).f0.f1).toList)) || (!((((rd_T54 l0 x5_1).f0.f2).toList) == (((rd_T54 l1 x5_1).f0.f2).toList)) || (!((((rd_T54 l0 x5_1).f0.f3).toList) == (((rd_T54 l1 x5_1).f0.f3).toList)) || (!(((rd_T54 l0 x5_1).f0.f4) == ((rd_T54 l1 x5_1).f0.f4))))))) || (!(((rd_T54 l0 x5_1).f1) == ((rd_T54 l1 x5_1).f1)))) = true := c7
        clear c7
        obtain rfl := Option.some.inj H
        have p187 : 0 ≤ (x5_1 : Int) := RFn.od
        have q187 : x5_1 < (l0.length : Int) := RFn.od
        obtain ⟨ad187, e187, hx187_0, hx187_1, hx187_2, hx187_3, hx187_4, hx187_5⟩ := at_T54 HR0.out x5_1 p187 q187
        cases e187
        replace p187 := eq_true p187
        replace q187 := eq_true q187
        have p188 : 0 ≤ (x5_1 : Int) := RFn.od
        have q188 : x5_1 < (l1.length : Int) := RFn.od
        obtain ⟨ad188, e188, hx188_0, hx188_1, hx188_2, hx188_3, hx188_4, hx188_5⟩ := at_T54 HR1.out x5_1 p188 q188
        cases e188
        replace p188 := eq_true p188
        replace q188 := eq_true q188
        go_wp2
        repeat (go_quiet (fail); try go_wp2)
        go_ret
        exact ⟨by first | rfl | (simp; done) | (simp [*]; done), by repeat (first | exact Drawn0.refl _ | apply Drawn0.step)⟩
       ·rw [if_neg c7] at H
        have c7b0 : ((!((((rd_T54 l0 x5_1).f0.f0).toList) == (((rd_T54 l1 x5_1).f0.f0).toList)) || (!((((rd_T54 l0 x5_1).f0.f1).toList) == (((rd_T54 l1 x5_1).f0.f1).toList)) || (!((((rd_T54 l0 x5_1).f0.f2).toList) == (((rd_T54 l1 x5_1).f0.f2).toList)) || (!((((rd_T54 l0 x5_1).f0.f3).toList) == (((rd_T54 l1 x5_1).f0.f3).toList)) || (!(((rd_T54 l0 x5_1).f0.f4) == ((rd_T54 l1 x5_1).f0.f4))))))) || (!(((rd_T54 l0 x5_1).f1) == ((rd_T54 l1 x5_1).f1)))) = false := by simpa using c7
        clear c7
        have H' := Aside0.mk H
        clear H
        have p187 : 0 ≤ (x5_1 : Int) := RFn.od
        have q187 : x5_1 < (l0.length : Int) := RFn.od
        obtain ⟨ad187, e187, hx187_0, hx187_1, hx187_2, hx187_3, hx187_4, hx187_5⟩ := at_T54 HR0.out x5_1 p187 q187
        cases e187
        replace p187 := eq_true p187
        replace q187 := eq_true q187
        have p188 : 0 ≤ (x5_1 : Int) := RFn.od
        have q188 : x5_1 < (l1.length : Int) := RFn.od
        obtain ⟨ad188, e188, hx188_0, hx188_1, hx188_2, hx188_3, hx188_4, hx188_5⟩ := at_T54 HR1.out x5_1 p188 q188
        cases e188
        replace p188 := eq_true p188
        replace q188 := eq_true q188
        go_wp2
        repeat (go_quiet (fail); try go_wp2)
        go_roundg k1
        case measure => have := HK1.out; omega
        case rel => exact ⟨(wrap64 (x5_1 + 1)), (by first | rfl | (simp; done) | (simp [*]; done)), H', ⟨RFn.lk HK1⟩, by repeat (first | exact Drawn0.refl _ | apply Drawn0.step)⟩
      ·rw [if_neg c6] at H
       exact absurd H (by simp)
     ·rw [if_neg c5] at H
      exact absurd H (by simp)
    ·rw [if_neg c4] at H
     have c4b0 : decide (x5_1 < (l0.length : Int)) = false := decide_eq_false c4
     clear c4
     obtain rfl := Option.some.inj H
     go_wp2
     repeat (go_quiet (fail); try go_wp2)
     go_ret
     exact ⟨by first | rfl | (simp; done) | (simp [*]; done), by repeat (first | exact Drawn0.refl _ | apply Drawn0.step)⟩
 ·rw [if_neg c3] at H
  have c3b0 : ((l0.length : Int) == (l1.length : Int)) = false := beq_eq_false_iff_ne.mpr c3
  have c3b1 : ((l0.length : Int) != (l1.length : Int)) = true := bne_iff_ne.mpr c3
  have c3b2 : (l0.length == l1.length) = false := by first | simpa using c3 | (simp at c3 ⊢; omega)
  obtain rfl := Option.some.inj H
  go_enter Tryz.func15, Tryz.ntmps15
  go_wp2
  repeat (go_quiet (fail); try go_wp2)
  go_ret
  exact ⟨by first | rfl | (simp; done) | (simp [*]; done), by repeat (first | exact Drawn0.refl _ | apply Drawn0.step)⟩
/-! ### law09_Ours: function 16 -/
def law09_Ours.l0 : Nat → List (S54) → List (S50) → Int → Int → Option ((List (S54)))
 | 0, _, _, _, _ => none
 | k + 1, x3, x6, x7, x8 => if x8 < x7 then (if 0 ≤ x8 then (if x8 < (x6.length : Int) then (if x3.length < 1759218604441 then (law09_Ours.l0 k (x3 ++ [(⟨(⟨(rd_T50 x6 x8).f0.f0, (rd_T50 x6 x8).f0.f1, (rd_T50 x6 x8).f0.f2, (rd_T50 x6 x8).f0.f3, (rd_T50 x6 x8).f0.f4⟩ : S52), (rd_T50 x6 x8).f1⟩ : S54)]) x6 x7 (wrap64 (x8 + 1))) else (none)) else (none)) else (none)) else (some x3)
def law09_Ours.f (k : Nat) (l0 : List (S50)) : Option ((List (S54))) := law09_Ours.l0 k ([] : List (S54)) l0 (l0.length : Int) 0
theorem law09_Ours.mono_l : ∀ k, (∀ y0 y1 y2 y3, LeO (law09_Ours.l0 k y0 y1 y2 y3) (law09_Ours.l0 (k + 1) y0 y1 y2 y3))
 | 0 => fun _ _ _ _ r h => by simp [law09_Ours.l0] at h
 | k + 1 => by
  have ih0 := law09_Ours.mono_l k
  ·intro y0 y1 y2 y3
   unfold law09_Ours.l0
   repeat' with_reducible first | exact LeO.refl _ | apply ih0 | exact LeO.none _ | apply LeO.ite | refine LeO.bind ?_ fun _ => ?_
theorem law09_Ours.mono : ∀ a0 k, LeO (law09_Ours.f k a0) (law09_Ours.f (k + 1) a0) := by
 intro a0 k
 have ih0 := law09_Ours.mono_l k
 unfold law09_Ours.f
 repeat' with_reducible first | exact LeO.refl _ | apply ih0 | exact LeO.none _ | apply LeO.ite | refine LeO.bind ?_ fun _ => ?_
set_option maxHeartbeats 8000000 in
set_option maxRecDepth 100000 in
theorem law09_Ours.calls (k : Nat) (A0 : Option Addr) (c0 : Nat) (l0 : List (S50)) (r : List (S54)) (w : World) (hr0 : Kd.C k50 w A0 l0.length l0) (hc0 : l0.length ≤ c0) (h : law09_Ours.f k l0 = some r) :
  Calls Tryz.prog 16 #[.slice A0 l0.length c0] w fun e w' => ∃ v0_ : Value, e = .returned (v0_) ∧ Kd.R k54 54 w' w.heap.size (fun _ => True) v0_ r ∧ Below w.heap.size w w' := by
 have hu50 := Tryz.underlying50
 have hu48 := Tryz.underlying48
 have hu54 := Tryz.underlying54
 have HR0 := Aside0.mk hr0
 have HC0 := Aside0.mk hc0
 clear hr0 hc0
 have HB := Aside0.mk (Below.refl w.heap.size w)
 have H : (law09_Ours.l0 k ([] : List (S54)) l0 (l0.length : Int) 0) = some r := h
 clear h
 have H' := Aside0.mk H
 clear H
 go_enter Tryz.func16, Tryz.ntmps16
 go_wp2
 go_loopg [3, 8] k (fun kq v3 v8 w' => ∃ (x3_1 : List (S54)) (x8_1 : Int), v8 = .int .i64 x8_1 ∧ Aside0 (law09_Ours.l0 kq x3_1 l0 (l0.length : Int) x8_1 = some r) ∧ Aside0 (kq ≤ k) ∧ Aside0 (Kd.R k54 54 w' w.heap.size (fun _ => True) v3 x3_1) ∧ Aside0 (Below w.heap.size w w'))
 case atStart => exact ⟨(([] : List (S54))), (0), (by first | rfl | (simp; done) | (simp [*]; done)), H', ⟨Nat.le_refl _⟩, ⟨RFn.kn⟩, ⟨RFn.bel⟩⟩
 case round =>
  clear H'
  obtain ⟨x3_1, x8_1, rfl, HA, HK1, HO_3, HB⟩ := hrel
  cases gk with
  | zero => exact absurd HA.out (by simp [law09_Ours.l0])
  | succ k1 =>
   have H := HA.out
   clear HA
   simp only [law09_Ours.l0] at H
   by_cases c2 : x8_1 < (l0.length : Int)
   ·rw [if_pos c2] at H
    have c2b0 : decide (x8_1 < (l0.length : Int)) = true := decide_eq_true c2
    clear c2
    by_cases c3 : 0 ≤ x8_1
    ·rw [if_pos c3] at H
     have c3b0 : decide (0 ≤ x8_1) = true := decide_eq_true c3
     clear c3
     by_cases c4 : x8_1 < (l0.length : Int)
     ·rw [if_pos c4] at H
      have c4b0 : decide (x8_1 < (l0.length : Int)) = true := decide_eq_true c4
      clear c4
      by_cases c5 : x3_1.length < 1759218604441
      ·rw [if_pos c5] at H
       have LMc5 := Aside0.mk c5
       clear c5
       obtain ⟨y191, hy191⟩ : ∃ y_ : List (S54), y_ = (x3_1 ++ [(⟨(⟨(rd_T50 l0 x8_1).f0.f0, (rd_T50 l0 x8_1).f0.f1, (rd_T50 l0 x8_1).f0.f2, (rd_T50 l0 x8_1).f0.f3, (rd_T50 l0 x8_1).f0.f4⟩ : S52), (rd_T50 l0 x8_1).f1⟩ : S54)]) := ⟨_, rfl⟩
       replace H : (law09_Ours.l0 k1 y191 l0 (l0.length : Int) (wrap64 (x8_1 + 1))) = some r := RFn.rp H hy191
       have Ny191 := Aside0.mk hy191
       clear hy191
       have H' := Aside0.mk H
       clear H
       have p189 : 0 ≤ (x8_1 : Int) := RFn.od
       have q189 : x8_1 < (l0.length : Int) := RFn.od
       obtain ⟨ad189, e189, hx189_0, hx189_1, hx189_2, hx189_3, hx189_4, hx189_5⟩ := at_T50 HR0.out x8_1 p189 q189
       cases e189
       replace hx189_0 := RFn.hb HB hx189_0
       replace hx189_1 := RFn.hb HB hx189_1
       replace hx189_2 := RFn.hb HB hx189_2
       replace hx189_3 := RFn.hb HB hx189_3
       replace hx189_4 := RFn.hb HB hx189_4
       replace hx189_5 := RFn.hb HB hx189_5
       replace p189 := eq_true p189
       replace q189 := eq_true q189
       go_wp2_with (first | ((with_reducible refine gate_dst (N := 5) rfl ?_); refine box_event ?hg (N := 5) ?hd (cs := #[.string (⟨#[]⟩ : ByteArray), .string (⟨#[]⟩ : ByteArray), .string (⟨#[]⟩ : ByteArray), .string (⟨#[]⟩ : ByteArray), .int .i64 0, .int .i64 0]) (t := 50) ?hr ?_; (case hd => rfl); (case hg => rfl); (case hr => first | (go_simp; done) | (go_simp; rfl)); intro gb190 hg w6 hbox hb; have n0_ := Aside0.mk (Kd.R_below (RFn.mR HO_3) hb); have n1_ := Aside0.mk (below_step (RFn.bel) hb); have n2_ := Aside0.mk (hbox); have n3_ := Aside0.mk ((by rw [hg]; exact (below_size (RFn.bel)) : w.heap.size ≤ gb190)); have n4_ := Aside0.mk ((by rw [hg]; exact (below_size (RFn.bel)) : w.heap.size ≤ gb190)); clear HO_3; clear HB; have HO_3 := n0_; have HB := n1_; have BK190 := n2_; have GW190 := n3_; have GE190 := n4_; clear n0_ n1_ n2_ n3_ n4_; clear hb hbox hg; obtain ⟨hcz7_0, hcz7_1, hcz7_2, hcz7_3, hcz7_4, hcz7_5⟩ := RFn.bc6 BK190; obtain ⟨hfz7_0, hfz7_1, hfz7_2, hfz7_3, hfz7_4, hfz7_5⟩ := RFn.bf6 BK190) | ((with_reducible refine gate_builtin (b := .append) (xs := #[.tmp 12, .tmp 18]) rfl ?_); at_builtin; refine Kd.R_append k54 (w0 := w) w.heap.size rfl (.tmp 12) (.tmp 18) 22 54 (.agg #[(.string ⟨#[]⟩), (.string ⟨#[]⟩), (.string ⟨#[]⟩), (.string ⟨#[]⟩), (.int .i64 0), (.int .i64 0)]) 80 rfl Tryz.underlying22 info54 rfl (by decide) (by omega) u3 x3_1 (⟨(⟨(rd_T50 l0 x8_1).f0.f0, (rd_T50 l0 x8_1).f0.f1, (rd_T50 l0 x8_1).f0.f2, (rd_T50 l0 x8_1).f0.f3, (rd_T50 l0 x8_1).f0.f4⟩ : S52), (rd_T50 l0 x8_1).f1⟩ : S54) [.string ((rd_T50 l0 x8_1).f0.f0), .string ((rd_T50 l0 x8_1).f0.f1), .string ((rd_T50 l0 x8_1).f0.f2), .string ((rd_T50 l0 x8_1).f0.f3), .int .i64 ((rd_T50 l0 x8_1).f0.f4), .int .i64 ((rd_T50 l0 x8_1).f1)] (fun _ => True) (fun _ => False) rfl (by first | (go_simp; done) | (go_simp; rfl)) ?aP (fun _ hk => hk.elim) ?aF ?aO ?aB ?aS ?aL ?_; (case aP => exact k54_mkM _ _ _ (⟨(⟨(rd_T50 l0 x8_1).f0.f0, (rd_T50 l0 x8_1).f0.f1, (rd_T50 l0 x8_1).f0.f2, (rd_T50 l0 x8_1).f0.f3, (rd_T50 l0 x8_1).f0.f4⟩ : S52), (rd_T50 l0 x8_1).f1⟩ : S54)); (case aB => exact RFn.bels); (case aF => exact (fun _ _ => trivial)); (case aO => exact (by (with_reducible repeat (first | apply Kd.R_alloc | apply Kd.R_drewN | apply Kd.R_drew)); exact Kd.R_mono (Kd.R_far (p := ⟨gb190, 5, none⟩) (Kd.R_far (p := ⟨gb190, 4, none⟩) (Kd.R_far (p := ⟨gb190, 3, none⟩) (Kd.R_far (p := ⟨gb190, 2, none⟩) (Kd.R_far (p := ⟨gb190, 1, none⟩) (Kd.R_far (p := ⟨gb190, 0, none⟩) (Kd.R_types HO_3.out BK190.out (by decide)) (fun _ hk => hk.2) (.string ((rd_T50 l0 x8_1).f0.f0))) (fun _ hk => hk.2) (.string ((rd_T50 l0 x8_1).f0.f1))) (fun _ hk => hk.2) (.string ((rd_T50 l0 x8_1).f0.f2))) (fun _ hk => hk.2) (.string ((rd_T50 l0 x8_1).f0.f3))) (fun _ hk => hk.2) (.int .i64 ((rd_T50 l0 x8_1).f0.f4))) (fun _ hk => hk.2) (.int .i64 ((rd_T50 l0 x8_1).f1))) (fun _ hk => by first | exact trivial | exact trivial))); (case aS => exact (below_size RFn.bels)); (case aL => have := LMc5.out; omega); intro v192 w8 ho hb hg hat; rw [← Ny191.out] at ho; have n0_ := Aside0.mk (blk_grown (g := gb190) (o := .cells #[.string ((rd_T50 l0 x8_1).f0.f0), .string ((rd_T50 l0 x8_1).f0.f1), .string ((rd_T50 l0 x8_1).f0.f2), .string ((rd_T50 l0 x8_1).f0.f3), .int .i64 ((rd_T50 l0 x8_1).f0.f4), .int .i64 ((rd_T50 l0 x8_1).f1)] 50 (0, 0)) (by refine RFn.d3 ?_; refine blk_put (cs := #[.string ((rd_T50 l0 x8_1).f0.f0), .string ((rd_T50 l0 x8_1).f0.f1), .string ((rd_T50 l0 x8_1).f0.f2), .string ((rd_T50 l0 x8_1).f0.f3), .int .i64 ((rd_T50 l0 x8_1).f0.f4), .int .i64 0]) ?_ 5 _ rfl; refine RFn.d3 ?_; refine blk_put (cs := #[.string ((rd_T50 l0 x8_1).f0.f0), .string ((rd_T50 l0 x8_1).f0.f1), .string ((rd_T50 l0 x8_1).f0.f2), .string ((rd_T50 l0 x8_1).f0.f3), .int .i64 0, .int .i64 0]) ?_ 4 _ rfl; refine RFn.d3 ?_; refine blk_put (cs := #[.string ((rd_T50 l0 x8_1).f0.f0), .string ((rd_T50 l0 x8_1).f0.f1), .string ((rd_T50 l0 x8_1).f0.f2), .string (⟨#[]⟩ : ByteArray), .int .i64 0, .int .i64 0]) ?_ 3 _ rfl; refine RFn.d3 ?_; refine blk_put (cs := #[.string ((rd_T50 l0 x8_1).f0.f0), .string ((rd_T50 l0 x8_1).f0.f1), .string (⟨#[]⟩ : ByteArray), .string (⟨#[]⟩ : ByteArray), .int .i64 0, .int .i64 0]) ?_ 2 _ rfl; refine RFn.d3 ?_; refine blk_put (cs := #[.string ((rd_T50 l0 x8_1).f0.f0), .string (⟨#[]⟩ : ByteArray), .string (⟨#[]⟩ : ByteArray), .string (⟨#[]⟩ : ByteArray), .int .i64 0, .int .i64 0]) ?_ 1 _ rfl; refine RFn.d3 ?_; refine blk_put (cs := #[.string (⟨#[]⟩ : ByteArray), .string (⟨#[]⟩ : ByteArray), .string (⟨#[]⟩ : ByteArray), .string (⟨#[]⟩ : ByteArray), .int .i64 0, .int .i64 0]) ?_ 0 _ rfl; refine RFn.d3 ?_; exact BK190.out) hg (Kd.R_ne HO_3.out BK190.out (by decide))); have n1_ := Aside0.mk (hb); have n2_ := Aside0.mk (ho); clear BK190; clear HB; clear HO_3; have BK190 := n0_; have HB := n1_; have HO193 := n2_; clear n0_ n1_ n2_; clear ho hb hg hat))
       go_roundg k1
       case measure => have := HK1.out; omega
       case rel => exact ⟨(y191), (wrap64 (x8_1 + 1)), (by first | rfl | (simp; done) | (simp [*]; done)), H', ⟨RFn.lk HK1⟩, ⟨RFn.mR HO193⟩, ⟨RFn.bels⟩⟩
      ·rw [if_neg c5] at H
       exact absurd H (by simp)
     ·rw [if_neg c4] at H
      exact absurd H (by simp)
    ·rw [if_neg c3] at H
     exact absurd H (by simp)
   ·rw [if_neg c2] at H
    have c2b0 : decide (x8_1 < (l0.length : Int)) = false := decide_eq_false c2
    clear c2
    obtain rfl := Option.some.inj H
    go_wp2
    go_ret
    exact ⟨_, by first | rfl | (simp [errW_none, errW_some] <;> rfl) | (simp [*, errW_none, errW_some] <;> rfl), RFn.mR HO_3, RFn.bel⟩
end Go.Proofs.YtjbdkdmoacdbpaaGreatDoor.Q
