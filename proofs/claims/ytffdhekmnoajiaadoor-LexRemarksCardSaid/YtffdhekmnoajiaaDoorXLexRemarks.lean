import Derived.Test.YtffdhekmnoajiaaDoorQx1
import Derived.Test.YtffdhekmnoajiaaDoorXLexLines
import Derived.BigQuiet
import Derived.Deep.QuietTactic
import Derived.RegionTactic
/- LexRemarks' walk, by hand -/
set_option linter.unusedVariables false
set_option linter.unusedSimpArgs false
namespace Go.Proofs.YtffdhekmnoajiaaDoor.XR
open Go Go.RowKit Go.Proofs.YtffdhekmnoajiaaDoorW.PrintWords Go.Proofs.YtffdhekmnoajiaaDoorW.PrintLast Go.Proofs.YtffdhekmnoajiaaDoorW.PrintMore Go.Proofs.YtffdhekmnoajiaaDoor Go.Proofs.YtffdhekmnoajiaaDoor.Q Go.Proofs.YtffdhekmnoajiaaDoor.X
def badR (c : Int) : Bool := decide (c < 32) || decide (126 < c)
def badS (c : Int) : Bool := (c == 35) || decide (c < 32) || decide (126 < c)
/-- what the three texts' lines are to be -/
def Rest (k : Nat) (a0 a1 : ByteArray) : Prop := ∃ A B C a b, linesF a0 = some (A, 0) ∧ linesF (a0 ++ (⟨#[35]⟩ : ByteArray) ++ a1) = some (B, 0) ∧ linesF ((⟨#[35]⟩ : ByteArray) ++ a1 ++ (⟨#[10]⟩ : ByteArray) ++ a0) = some (C, 0) ∧ law05_Ours.f k A = some a ∧ law05_Ours.f k B = some b ∧ ref05_Same.f k a b = some true ∧ ((A = [] ∧ C = []) ∨ ∃ x A' y C', A = x :: A' ∧ C = y :: C' ∧ A'.length = C'.length ∧ x.f0 = 1 ∧ y.f0 = 2)
theorem take_ok {p : Int → Bool} {l : List Int} {i : Nat} (h : ∀ x ∈ l.take i, p x = false) {hi : i < l.length} (hx : p (l[i]) = false) : ∀ x ∈ l.take (i + 1), p x = false := by
  intro x hm
  rw [List.take_succ_eq_append_getElem hi] at hm
  rcases List.mem_append.1 hm with hm | hm
  · exact h x hm
  · rw [List.mem_singleton.1 hm]; exact hx
theorem any_ok {p : Int → Bool} {l : List Int} {i : Nat} (h : ∀ x ∈ l.take i, p x = false) (hi : l.length ≤ i) : l.any p = false := by
  rw [List.take_of_length_le hi] at h
  rw [List.any_eq_false]
  intro x hx
  rw [h x hx]; simp
theorem addr0 (b i : Nat) : (⟨b, 0, none⟩ : Addr).add i = ⟨b, i, none⟩ := by
  unfold Addr.add
  split <;> simp_all
theorem drewN_below {w v : World} {m : Nat} (h : Below w.heap.size w v) : Below w.heap.size w (v.drewN m) := pw_below_drewN h m
set_option maxHeartbeats 16000000 in
set_option maxRecDepth 100000 in
theorem remarks_walk {k : Nat} (ha : law05_alive.f k = some true) (a0 a1 : ByteArray) (hrest : a0.size ≤ 3000 → a1.size ≤ 100 → (bytesL a1).any badR = false → (bytesL a0).any badS = false → Rest k a0 a1) (w : World) (hL : LaidW w) :
    Calls Tryd.prog 7 #[.string a0, .string a1] w fun e w' => e = .returned (.bool true) ∧ Below w.heap.size w w' := by
  have HAL := Aside0.mk (fun W (h : LaidW W) => law05_alive.calls k true W ha h)
  have HLD := Aside0.mk hL
  have HREST := Aside0.mk hrest
  clear ha hL hrest
  by_cases c1 : 3000 < a0.size
  · have c1b : decide (3000 < (a0.size : Int)) = true := decide_eq_true (by omega)
    go_enter Tryd.func7, Tryd.ntmps7
    go_wp2_with (first | (go_at_call 8; refine (HAL.out _ HLD.out).mono ?_; rintro e w1 ⟨rfl, hb⟩; have HB := Aside0.mk hb; clear hb))
    go_ret
    exact ⟨rfl, HB.out⟩
  have c1b : decide (3000 < (a0.size : Int)) = false := decide_eq_false (by omega)
  by_cases c2 : 100 < a1.size
  · have c2b : decide (100 < (a1.size : Int)) = true := decide_eq_true (by omega)
    go_enter Tryd.func7, Tryd.ntmps7
    go_wp2_with (first | (go_at_call 8; refine (HAL.out _ HLD.out).mono ?_; rintro e w1 ⟨rfl, hb⟩; have HB := Aside0.mk hb; clear hb))
    go_ret
    exact ⟨rfl, HB.out⟩
  have c2b : decide (100 < (a1.size : Int)) = false := decide_eq_false (by omega)
  have hs0 : a0.size ≤ 3000 := by omega
  have hs1 : a1.size ≤ 100 := by omega
  clear c1 c2
  have hcv0 : ∀ (w : World), (convert 9 43 (.string a0)).run Tryd.prog w = .ok (.slice (some ⟨w.heap.size, 0, none⟩) a0.size (grownCap w a0.size 0 5)) (Lib.bytesWorld w 5 a0) := fun w => Lib.run_convert_string_bytes w 9 43 5 a0 Tryd.underlying9 Tryd.underlying43 Tryd.underlying5
  have hcv1 : ∀ (w : World), (convert 9 43 (.string a1)).run Tryd.prog w = .ok (.slice (some ⟨w.heap.size, 0, none⟩) a1.size (grownCap w a1.size 0 5)) (Lib.bytesWorld w 5 a1) := fun w => Lib.run_convert_string_bytes w 9 43 5 a1 Tryd.underlying9 Tryd.underlying43 Tryd.underlying5
  go_enter Tryd.func7, Tryd.ntmps7
  go_wp2_with (first | (go_at_call 8; refine (HAL.out _ HLD.out).mono ?_; rintro e w1 ⟨rfl, hb⟩; have HB := Aside0.mk hb; clear hb))
  go_loopg [28] (a1.size + 1) (fun kq v28 w' => ∃ (i m : Nat), v28 = .int .i64 (i : Int) ∧ i ≤ a1.size ∧ Aside0 (∀ x ∈ (bytesL a1).take i, badR x = false) ∧ Aside0 (kq + i = a1.size + 1) ∧ w' = (Lib.bytesWorld w1 5 a1).drewN m)
  case atStart => exact ⟨0, 0, rfl, Nat.zero_le _, ⟨fun x hx => by simp at hx⟩, ⟨rfl⟩, rfl⟩
  case round =>
    obtain ⟨i, m, rfl, hi, HT, HK, rfl⟩ := hrel
    by_cases c3 : i < a1.size
    · have hk := HK.out
      obtain ⟨k1, rfl⟩ : ∃ k1, gk = k1 + 1 := ⟨gk - 1, by omega⟩
      have c3b0 : decide ((i : Int) < (a1.size : Int)) = true := decide_eq_true (by omega)
      have c4b0 : decide (0 ≤ (i : Int)) = true := decide_eq_true (by omega)
      obtain ⟨ad101, e101, hx101_0⟩ := Kd.at_int (bytes_C w1 5 a1 (by omega)) (i : Int) (by omega) (by rw [len_bytesL]; omega)
      cases e101
      have c3' : i < (bytesL a1).length := by rw [len_bytesL]; exact c3
      have hx : rd (bytesL a1) (i : Int) = (bytesL a1)[i] := by unfold rd; rw [Int.toNat_natCast, List.getD_eq_getElem?_getD, List.getElem?_eq_getElem c3']; rfl
      rw [hx, Int.toNat_natCast, addr0] at hx101_0
      have p101 : (0 ≤ (i : Int)) = True := eq_true (by omega)
      have q101 : ((i : Int) < (a1.size : Int)) = True := eq_true (by omega)
      have hw1 : wrap64 ((i : Int) + 1) = ((i + 1 : Nat) : Int) := by unfold wrap64; omega
      have hb : badR ((bytesL a1)[i]) = (decide ((bytesL a1)[i] < 32) || decide (126 < (bytesL a1)[i])) := rfl
      have HT2 := Aside0.mk (fun h => take_ok (hi := c3') HT.out h)
      have HBW := Aside0.mk (bytesWorld_below w1 5 a1 HB.out (below_size HB.out))
      obtain ⟨x, hxx⟩ : ∃ x, (bytesL a1)[i] = x := ⟨_, rfl⟩
      rw [hxx] at hx101_0 hb HT2
      obtain ⟨b1, e1⟩ : ∃ b, decide (x < 32) = b := ⟨_, rfl⟩
      obtain ⟨b2, e2⟩ : ∃ b, decide (126 < x) = b := ⟨_, rfl⟩
      rw [e1, e2] at hb
      clear hx hxx c3' HT hk
      cases b1 with
      | true =>
        clear hb
        go_wp2
        go_ret
        exact ⟨rfl, by repeat (first | exact HBW.out | apply pw_below_drewN | apply below_drew1)⟩
      | false =>
        cases b2 with
        | true =>
          clear hb
          go_wp2
          go_ret
          exact ⟨rfl, by repeat (first | exact HBW.out | apply pw_below_drewN | apply below_drew1)⟩
        | false =>
          have HT3 := Aside0.mk (HT2.out hb)
          clear hb
          go_wp2
          go_roundg k1
          case measure => omega
          case rel => exact ⟨i + 1, _, by first | rfl | rw [hw1] | simp, by omega, HT3, ⟨by have := HK.out; omega⟩, rfl⟩
    · have c3b0 : decide ((i : Int) < (a1.size : Int)) = false := decide_eq_false (by omega)
      have HA1 := Aside0.mk (any_ok HT.out (by rw [len_bytesL]; omega))
      have HBW := Aside0.mk (pw_below_drewN (bytesWorld_below w1 5 a1 HB.out (below_size HB.out)) m)
      clear hi HT HK
      obtain ⟨W2, hW2⟩ : ∃ W2, (Lib.bytesWorld w1 5 a1).drewN m = W2 := ⟨_, rfl⟩
      rw [hW2] at HBW ⊢
      clear hW2
      have HB2 := HBW
      clear HBW HB
      go_wp2
      go_wp2
      go_loopg [42] (a0.size + 1) (fun kq v42 w' => ∃ (i m : Nat), v42 = .int .i64 (i : Int) ∧ i ≤ a0.size ∧ Aside0 (∀ x ∈ (bytesL a0).take i, badS x = false) ∧ Aside0 (kq + i = a0.size + 1) ∧ w' = (Lib.bytesWorld W2 5 a0).drewN m)
      case atStart => exact ⟨0, 0, rfl, Nat.zero_le _, ⟨fun x hx => by simp at hx⟩, ⟨rfl⟩, rfl⟩
      case round =>
        obtain ⟨i, m, rfl, hi, HU, HK, rfl⟩ := hrel
        by_cases c5 : i < a0.size
        · have hk := HK.out
          obtain ⟨k1, rfl⟩ : ∃ k1, gk = k1 + 1 := ⟨gk - 1, by omega⟩
          have c5b0 : decide ((i : Int) < (a0.size : Int)) = true := decide_eq_true (by omega)
          have c6b0 : decide (0 ≤ (i : Int)) = true := decide_eq_true (by omega)
          obtain ⟨ad101, e101, hx101_0⟩ := Kd.at_int (bytes_C W2 5 a0 (by omega)) (i : Int) (by omega) (by rw [len_bytesL]; omega)
          cases e101
          have c5' : i < (bytesL a0).length := by rw [len_bytesL]; exact c5
          have hx : rd (bytesL a0) (i : Int) = (bytesL a0)[i] := by unfold rd; rw [Int.toNat_natCast, List.getD_eq_getElem?_getD, List.getElem?_eq_getElem c5']; rfl
          rw [hx, Int.toNat_natCast, addr0] at hx101_0
          have p101 : (0 ≤ (i : Int)) = True := eq_true (by omega)
          have q101 : ((i : Int) < (a0.size : Int)) = True := eq_true (by omega)
          have hw1 : wrap64 ((i : Int) + 1) = ((i + 1 : Nat) : Int) := by unfold wrap64; omega
          have hb : badS ((bytesL a0)[i]) = ((((bytesL a0)[i]) == 35) || decide ((bytesL a0)[i] < 32) || decide (126 < (bytesL a0)[i])) := rfl
          have HU2 := Aside0.mk (fun h => take_ok (hi := c5') HU.out h)
          have HBW := Aside0.mk (bytesWorld_below W2 5 a0 HB2.out (below_size HB2.out))
          obtain ⟨x, hxx⟩ : ∃ x, (bytesL a0)[i] = x := ⟨_, rfl⟩
          rw [hxx] at hx101_0 hb HU2
          obtain ⟨b0, f0⟩ : ∃ b, (x == 35) = b := ⟨_, rfl⟩
          obtain ⟨b1, f1⟩ : ∃ b, decide (x < 32) = b := ⟨_, rfl⟩
          obtain ⟨b2, f2⟩ : ∃ b, decide (126 < x) = b := ⟨_, rfl⟩
          rw [f0, f1, f2] at hb
          clear hx hxx c5' HU hk
          cases b0 with
          | true =>
            clear hb
            go_wp2
            go_ret
            exact ⟨rfl, by repeat (first | exact HBW.out | apply pw_below_drewN | apply below_drew1)⟩
          | false =>
            cases b1 with
            | true =>
              clear hb
              go_wp2
              go_ret
              exact ⟨rfl, by repeat (first | exact HBW.out | apply pw_below_drewN | apply below_dreW2)⟩
            | false =>
              cases b2 with
              | true =>
                clear hb
                go_wp2
                go_ret
                exact ⟨rfl, by repeat (first | exact HBW.out | apply pw_below_drewN | apply below_dreW2)⟩
              | false =>
                have HU3 := Aside0.mk (HU2.out hb)
                clear hb
                go_wp2
                go_roundg k1
                case measure => omega
                case rel => exact ⟨i + 1, _, by first | rfl | rw [hW3] | simp, by omega, HU3, ⟨by have := HK.out; omega⟩, rfl⟩
        · have c5b0 : decide ((i : Int) < (a0.size : Int)) = false := decide_eq_false (by omega)
          have HA0 := Aside0.mk (any_ok HU.out (by rw [len_bytesL]; omega))
          have HBW := Aside0.mk (pw_below_drewN (bytesWorld_below W2 5 a0 HB2.out (below_size HB2.out)) m)
          clear hi HU HK
          obtain ⟨W3, hW3⟩ : ∃ W3, (Lib.bytesWorld W2 5 a0).drewN m = W3 := ⟨_, rfl⟩
          rw [hW3] at HBW ⊢
          clear hW3
          obtain ⟨A, B, C, a, b, hA, hB, hC, hOa, hOb, hSa, hsh⟩ := HREST.out hs0 hs1 HA1.out HA0.out
          have HLA := Aside0.mk (fun W (h : LaidW W) => lex_lines_calls a0 _ _ W hA h)
          have HLB := Aside0.mk (fun W (h : LaidW W) => lex_lines_calls (a0 ++ (⟨#[35]⟩ : ByteArray) ++ a1) _ _ W hB h)
          have HLC := Aside0.mk (fun W (h : LaidW W) => lex_lines_calls ((⟨#[35]⟩ : ByteArray) ++ a1 ++ (⟨#[10]⟩ : ByteArray) ++ a0) _ _ W hC h)
          have HOA := Aside0.mk hOa
          have HOB := Aside0.mk hOb
          have HSA := Aside0.mk hSa
          have HSH := Aside0.mk hsh
          clear hA hB hC hOa hOb hSa hsh HREST HA1 HA0 hcv0 hcv1 HAL
          go_upto_region 18 with (first | (go_at_call 10; refine (HLA.out _ (HLD.out.below HBW.out)).mono ?_; rintro e w3 ⟨v3, rfl, hS, hb⟩; have HB3 := Aside0.mk (HBW.out.trans (hb.mono HBW.out.size)); have HS := Aside0.mk hS; clear hb hS HBW))
          go_upto_region 19 with (first | (go_at_call 10; refine (HLB.out _ (HLD.out.below HB3.out)).mono ?_; rintro e w4 ⟨v4, rfl, hS4, hb⟩; have HB4 := Aside0.mk (HB3.out.trans (hb.mono HB3.out.size)); have HS3 := Aside0.mk (Kd.S_below HS.out hb); have HS4 := Aside0.mk hS4; clear hb hS4 HB3 HS))
          go_upto_region 20 with (first | (go_at_call 10; refine (HLC.out _ (HLD.out.below HB4.out)).mono ?_; rintro e w5 ⟨v5, rfl, hS5, hb⟩; have HB5 := Aside0.mk (HB4.out.trans (hb.mono HB4.out.size)); have HN3 := Aside0.mk (Kd.S_N (Kd.S_below HS3.out hb)); have HN4 := Aside0.mk (Kd.S_N (Kd.S_below HS4.out hb)); have HN5 := Aside0.mk (Kd.S_N hS5); clear hb hS5 HB4 HS3 HS4))
          obtain ⟨A3, q3, rfl⟩ := Kd.N_slice HN3.out
          obtain ⟨A4, q4, rfl⟩ := Kd.N_slice HN4.out
          obtain ⟨A5, q5, rfl⟩ := Kd.N_slice HN5.out
          have hlen : (C.length : Int) = (A.length : Int) := by
            rcases HSH.out with ⟨rfl, rfl⟩ | ⟨x, A', y, C', rfl, rfl, hl, _⟩
            · rfl
            · simp only [List.length_cons, hl]
          have hne : ((C.length : Int) != (A.length : Int)) = false := by rw [hlen]; exact bne_self_eq_false _
          go_upto_region 22 with (first | (go_at_call 13; refine (law05_Ours.calls k (fun _ => True) _ _ A a _ (Kd.N_V HN3.out) HOA.out).mono ?_; rintro e w6 ⟨v6, rfl, hN6, hb⟩; have HB6 := Aside0.mk (HB5.out.trans (hb.mono HB5.out.size)); have HN34 := Aside0.mk (Kd.N_below HN3.out hb); have HN44 := Aside0.mk (Kd.N_below HN4.out hb); have HN54 := Aside0.mk (Kd.N_below HN5.out hb); have HN6 := Aside0.mk hN6; clear hb hN6 HN4 HN5 HB5 HN3) | (go_at_call 13; refine (law05_Ours.calls k (fun _ => True) _ _ B b _ (Kd.N_V HN44.out) HOB.out).mono ?_; rintro e w7 ⟨v7, rfl, hN7, hb⟩; have HB7 := Aside0.mk (HB6.out.trans (hb.mono HB6.out.size)); have HN35 := Aside0.mk (Kd.N_below HN34.out hb); have HN55 := Aside0.mk (Kd.N_below HN54.out hb); have HN66 := Aside0.mk (Kd.N_below HN6.out hb); have HN7 := Aside0.mk hN7; clear hb hN7 HN44 HN54 HB6 HN34 HN6; obtain ⟨A6, q6, rfl⟩ := Kd.N_slice HN66.out; obtain ⟨A7, q7, rfl⟩ := Kd.N_slice HN7.out) | (go_at_call 12; refine (ref05_Same.calls k _ _ a _ _ b true _ (Kd.N_reads' HN66.out).2.2 (Kd.N_reads' HN66.out).2.1 (Kd.N_reads' HN7.out).2.2 (Kd.N_reads' HN7.out).2.1 HSA.out).mono ?_; rintro e w8 ⟨rfl, ⟨nd, rfl⟩⟩))
          rcases HSH.out with ⟨rfl, rfl⟩ | ⟨x, A', y, C', rfl, rfl, hl, hx, hy⟩
          · simp only [List.length_nil]
            go_wp2
            go_ret
            exact ⟨rfl, by repeat (first | exact HB7.out | apply pw_below_drewN | apply below_drew1)⟩
          · obtain ⟨ad3, A31, c31, rfl, y30, _, _, _⟩ := at_T42 (Kd.N_reads' HN35.out).2.2 0 (by omega) (by simp only [List.length_cons]; omega)
            obtain ⟨ad5, A51, c51, rfl, y50, _, _, _⟩ := at_T42 (Kd.N_reads' HN55.out).2.2 0 (by omega) (by simp only [List.length_cons]; omega)
            have z3 : w7.cell? ad3 = some (.int .i64 1) := by
              have e : (rd_T42 (x :: A') 0).f0 = 1 := hx
              rw [e] at y30
              simpa only [Int.toNat_zero, Nat.zero_mul, Addr.add_zero'] using y30
            have z5 : w7.cell? ad5 = some (.int .i64 2) := by
              have e : (rd_T42 (y :: C') 0).f0 = 2 := hy
              rw [e] at y50
              simpa only [Int.toNat_zero, Nat.zero_mul, Addr.add_zero'] using y50
            clear y30 y50
            have hl0 : (((A'.length : Int) + 1) == 0) = false := beq_eq_false_iff_ne.mpr (by omega)
            have hl1 : (0 < (A'.length : Int) + 1) = True := eq_true (by omega)
            have hl2 : (0 < (C'.length : Int) + 1) = True := eq_true (by omega)
            simp only [List.length_cons]
            go_wp2
            go_ret
            exact ⟨rfl, by repeat (first | exact HB7.out | apply pw_below_drewN | apply below_drew1)⟩
end Go.Proofs.YtffdhekmnoajiaaDoor.XR
