import Derived.Test.YtffdhekmnoajiaaDoorXPred
import Derived.Lib.Bytealg
/- lex.Name by hand: []byte(s), slices.ContainsFunc at a literal -/
set_option linter.unusedVariables false
set_option linter.unusedSimpArgs false
namespace Go.Proofs.YtffdhekmnoajiaaDoor.X
open Go Go.RowKit Go.Proofs.YtffdhekmnoajiaaDoorW.PrintWords Go.Proofs.YtffdhekmnoajiaaDoorW.PrintLast Go.Proofs.YtffdhekmnoajiaaDoorW.PrintMore Go.Proofs.YtffdhekmnoajiaaDoor Go.Proofs.YtffdhekmnoajiaaDoor.Q
def letterP (c : Int) : Bool := (decide (97 ≤ c) && decide (c ≤ 122)) || (decide (65 ≤ c) && decide (c ≤ 90))
def wrongP (c : Int) : Bool := !letterP c && (decide (c < 48) || decide (57 < c)) && (c != 46) && (c != 95) && (c != 45)
def oddP (c : Int) : Bool := (c != 9) && (c != 10) && (decide (c < 32) || decide (126 < c))
set_option maxHeartbeats 8000000 in
set_option maxRecDepth 100000 in
theorem letter_gives : GivesB 28 letterP := by
  intro x W h0 h1
  unfold letterP
  by_cases a : 97 ≤ x
  · have a1 : decide (97 ≤ x) = true := decide_eq_true a
    by_cases b : x ≤ 122
    · have b1 : decide (x ≤ 122) = true := decide_eq_true b
      simp only [a1, b1]
      clear a b
      go_enter Tryd.func28, Tryd.ntmps28
      go_wp2
      go_ret
      exact ⟨rfl, Drawn0.refl _⟩
    · have b1 : decide (x ≤ 122) = false := decide_eq_false b
      have d1 : decide (x ≤ 90) = false := decide_eq_false (by omega)
      have c1 : decide (65 ≤ x) = true := decide_eq_true (by omega)
      simp only [a1, b1, c1, d1]
      clear a b
      go_enter Tryd.func28, Tryd.ntmps28
      go_wp2
      go_ret
      exact ⟨rfl, Drawn0.refl _⟩
  · have a1 : decide (97 ≤ x) = false := decide_eq_false a
    by_cases c : 65 ≤ x
    · have c1 : decide (65 ≤ x) = true := decide_eq_true c
      obtain ⟨d, hd⟩ : ∃ d, decide (x ≤ 90) = d := ⟨_, rfl⟩
      simp only [a1, c1, hd]
      clear a c
      cases d <;>
      · go_enter Tryd.func28, Tryd.ntmps28
        go_wp2
        go_ret
        exact ⟨rfl, Drawn0.refl _⟩
    · have c1 : decide (65 ≤ x) = false := decide_eq_false c
      simp only [a1, c1]
      clear a c
      go_enter Tryd.func28, Tryd.ntmps28
      go_wp2
      go_ret
      exact ⟨rfl, Drawn0.refl _⟩
set_option maxHeartbeats 8000000 in
set_option maxRecDepth 100000 in
theorem wrong_gives : GivesB 29 wrongP := by
  intro x W h0 h1
  have HL := Aside0.mk (fun W => letter_gives x W h0 h1)
  unfold wrongP
  obtain ⟨l, hl⟩ : ∃ l, letterP x = l := ⟨_, rfl⟩
  obtain ⟨b1, h1'⟩ : ∃ b, decide (x < 48) = b := ⟨_, rfl⟩
  obtain ⟨b2, h2'⟩ : ∃ b, decide (57 < x) = b := ⟨_, rfl⟩
  obtain ⟨b3, h3'⟩ : ∃ b, (x != 46) = b := ⟨_, rfl⟩
  obtain ⟨b4, h4'⟩ : ∃ b, (x != 95) = b := ⟨_, rfl⟩
  obtain ⟨b5, h5'⟩ : ∃ b, (x != 45) = b := ⟨_, rfl⟩
  rw [hl] at HL
  simp only [hl, h1', h2', h3', h4', h5']
  clear hl
  cases l <;> cases b1 <;> cases b2 <;> cases b3 <;> cases b4 <;> cases b5 <;>
  · go_enter Tryd.func29, Tryd.ntmps29
    go_wp2_with (first | ((with_reducible refine gate_callee (f := 28) rfl ?_); refine RFn.goesM (some 4) Tryd.func28 #[.int .u8 x] rfl ?_; refine (HL.out _).mono ?_; rintro e w' ⟨rfl, ⟨nd, rfl⟩⟩; refine ⟨_, rfl, ?_⟩))
    go_ret
    exact ⟨rfl, by repeat (first | exact Drawn0.refl _ | apply Drawn0.step)⟩
def nameB (s : ByteArray) : Bool := decide (0 < s.size) && decide (s.size ≤ 12) && letterP (bt s 0) && !((bytesL s).any wrongP)
set_option maxHeartbeats 8000000 in
set_option maxRecDepth 100000 in
theorem name_calls (a0 : ByteArray) (w : World) : Calls Tryd.prog 14 #[.string a0] w fun e w' => e = .returned (.bool (nameB a0)) ∧ Below w.heap.size w w' := by
  have hbl := bt_range a0 0
  have HL := Aside0.mk (fun W => letter_gives (bt a0 0) W hbl.1 hbl.2)
  have hzero : (a0.toList = []) ↔ a0.size = 0 := by
    rw [Lib.toList_data, Array.toList_eq_nil_iff]
    exact ⟨fun h => by show a0.data.size = 0; rw [h]; rfl, fun h => Array.eq_empty_of_size_eq_zero h⟩
  unfold nameB
  by_cases c1 : a0.toList = []
  · have c1b : (a0.toList == ([] : List UInt8)) = true := beq_iff_eq.mpr c1
    have hz := hzero.1 c1
    have e : decide (0 < a0.size) = false := decide_eq_false (by omega)
    simp only [e, Bool.false_and]
    clear hzero hz e
    go_enter Tryd.func14, Tryd.ntmps14
    go_wp2
    go_ret
    exact ⟨rfl, Below.refl _ _⟩
  have c1b : (a0.toList == ([] : List UInt8)) = false := beq_eq_false_iff_ne.mpr c1
  have hz : 0 < a0.size := by
    rcases Nat.eq_zero_or_pos a0.size with h | h
    · exact absurd (hzero.2 h) c1
    · exact h
  have e1 : decide (0 < a0.size) = true := decide_eq_true hz
  by_cases c2 : 12 < a0.size
  · have c2b : decide (12 < (a0.size : Int)) = true := decide_eq_true (by omega)
    have c2c : decide (12 < a0.size) = true := decide_eq_true c2
    have e : decide (a0.size ≤ 12) = false := decide_eq_false (by omega)
    simp only [e, Bool.and_false, Bool.false_and]
    clear hzero hz e e1 c1 c2
    go_enter Tryd.func14, Tryd.ntmps14
    go_wp2
    go_ret
    exact ⟨rfl, Below.refl _ _⟩
  have c2b : decide (12 < (a0.size : Int)) = false := decide_eq_false (by omega)
  have c2c : decide (12 < a0.size) = false := decide_eq_false c2
  have e2 : decide (a0.size ≤ 12) = true := decide_eq_true (by omega)
  have hx6 : ∀ h : 0 < a0.size, ((a0[0]'h).toNat : Int) = bt a0 0 := bt_at a0 0
  have qi6 : (0 < (a0.size : Int)) = True := eq_true (by omega)
  have HC := Aside0.mk (fun (c : Nat) (W : World) => contains_bytes (g := 29) Tryd.func29 (by kernel_rfl) rfl wrong_gives c a0 W (by omega))
  have hsz : a0.size ≤ 12 := by omega
  have q6 := eq_true hz
  simp only [e1, e2, Bool.true_and]
  clear hzero e1 e2 c1 c2
  obtain ⟨l, hl⟩ : ∃ l, letterP (bt a0 0) = l := ⟨_, rfl⟩
  rw [hl] at HL
  rw [hl]
  clear hl
  cases l with
  | false =>
    simp only [Bool.false_and]
    clear hz
    go_enter Tryd.func14, Tryd.ntmps14
    go_wp2_with (first | (go_at_call 28; refine (HL.out _).mono ?_; rintro e w' ⟨rfl, ⟨nd, rfl⟩⟩))
    go_ret
    exact ⟨rfl, pw_below_drewN (Below.refl _ _) nd⟩
  | true =>
    simp only [Bool.true_and]
    clear hz
    have hcv : ∀ (w : World), (convert 9 43 (.string a0)).run Tryd.prog w = .ok (.slice (some ⟨w.heap.size, 0, none⟩) a0.size (grownCap w a0.size 0 5)) (Lib.bytesWorld w 5 a0) := fun w => Lib.run_convert_string_bytes w 9 43 5 a0 Tryd.underlying9 Tryd.underlying43 Tryd.underlying5
    go_enter Tryd.func14, Tryd.ntmps14
    go_wp2_with (first | (go_at_call 28; refine (HL.out _).mono ?_; rintro e w' ⟨rfl, ⟨nd, rfl⟩⟩) | ((with_reducible refine gate_callee (f := 21) rfl ?_); refine (RFn.goesM (some 20) Tryd.func21 _ rfl ((HC.out _ _).mono ?_)); rintro e w' ⟨rfl, ⟨nd2, rfl⟩⟩; refine ⟨_, rfl, ?_⟩) | (go_at_call 21; refine (HC.out _ (w.drewN nd)).mono ?_; rintro e w' ⟨rfl, ⟨nd2, rfl⟩⟩))
    go_ret
    exact ⟨rfl, pw_below_drewN (bytesWorld_below _ _ _ (pw_below_drewN (Below.refl _ _) nd) (Nat.le_refl _)) nd2⟩
end Go.Proofs.YtffdhekmnoajiaaDoor.X
