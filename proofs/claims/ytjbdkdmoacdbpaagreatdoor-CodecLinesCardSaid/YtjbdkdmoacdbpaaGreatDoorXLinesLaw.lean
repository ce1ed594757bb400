import Derived.Test.YtjbdkdmoacdbpaaGreatDoorQx3
import Derived.Test.YtjbdkdmoacdbpaaGreatDoorQx4
import Derived.Test.YtjbdkdmoacdbpaaGreatDoorQx5
import Derived.Test.YtjbdkdmoacdbpaaGreatDoorGZ
import Derived.Test.YtjbdkdmoacdbpaaGreatDoorGX
/- CodecLines' walk, by hand -/
set_option linter.unusedVariables false
set_option linter.unusedSimpArgs false
namespace Go.Proofs.YtjbdkdmoacdbpaaGreatDoor.XLi
open Go Go.RowKit Go.Proofs.YtjbdkdmoacdbpaaGreatDoorW.PrintWords Go.Proofs.YtjbdkdmoacdbpaaGreatDoorW.PrintLast Go.Proofs.YtjbdkdmoacdbpaaGreatDoorW.PrintMore Go.Proofs.YtjbdkdmoacdbpaaGreatDoor Go.Proofs.YtjbdkdmoacdbpaaGreatDoor.Q Go.Proofs.YtjbdkdmoacdbpaaGreatDoor.X
def cnt (s : ByteArray) : Nat := (bytesL s).count 10
/-- what the texts are to be -/
def Rest (k : Nat) (l0 : List S54) : Prop := ∃ A s e, law09_Theirs.f k l0 = some A ∧ codec_Print.f A = some (s, e) ∧ s.size ≤ 1000000 ∧ ((s = ⟨#[]⟩ ∧ e = 1) ∨ (e = 0 ∧ cnt s = l0.length + 1 ∧ ((l0 = [] ∧ s = ⟨#[99, 117, 98, 101, 32, 48, 10]⟩) ∨ (l0 ≠ [] ∧ ∃ B t, law09_Theirs.f k (l0.take (l0.length - 1)) = some B ∧ codec_Print.f B = some (t, 0) ∧ t.size < s.size))))
theorem take_cnt {l : List Int} {i : Nat} (hi : i < l.length) : (l.take (i + 1)).count 10 = (l.take i).count 10 + if l[i] == 10 then 1 else 0 := by
  rw [List.take_succ_eq_append_getElem hi, List.count_append, List.count_singleton]
theorem take_le (l : List Int) (i : Nat) : (l.take i).count 10 ≤ l.length := Nat.le_trans List.count_le_length (by rw [List.length_take]; omega)
theorem addr0 (b i : Nat) : (⟨b, 0, none⟩ : Addr).add i = ⟨b, i, none⟩ := by
  unfold Addr.add
  split <;> simp_all
set_option maxHeartbeats 16000000 in
set_option maxRecDepth 100000 in
theorem lines_many {k : Nat} (ha : law10_alive.f = some true) (A0 : Option Addr) (c0 : Nat) (l0 : List S54) (hf : law09_Few.f k l0 = some false) (w : World) (hr0 : Kd.C k54 w A0 l0.length l0) (hc0 : l0.length ≤ c0) (hL : LaidW w) :
    Calls Tryz.prog 6 #[.slice A0 l0.length c0] w fun e w' => e = .returned (.bool true) ∧ Below w.heap.size w w' := by
  have HAL := Aside0.mk (fun W (h : LaidW W) => law10_alive.calls true W ha h)
  have HLD := Aside0.mk hL
  have HR0 := Aside0.mk hr0
  have HF := Aside0.mk hf
  clear ha hL hr0 hf
  go_enter Tryz.func6, Tryz.ntmps6
  go_wp2_with (first | (go_at_call 8; refine (HAL.out _ HLD.out).mono ?_; rintro e w1 ⟨rfl, hb⟩; have HB := Aside0.mk hb; clear hb) | (go_at_call 9; refine (law09_Few.calls k A0 c0 l0 false _ (Kd.C_below HR0.out HB.out) hc0 HF.out).mono ?_; rintro e w2 ⟨rfl, hb⟩; have HB2 := Aside0.mk (below_step HB.out hb); clear hb))
  go_ret
  exact ⟨rfl, HB2.out⟩
set_option maxHeartbeats 16000000 in
set_option maxRecDepth 100000 in
theorem lines_bad {k : Nat} (ha : law10_alive.f = some true) (A0 : Option Addr) (c0 : Nat) (l0 : List S54) (hn : l0.length ≤ 1000) (hf : law09_Few.f k l0 = some true) (A : List S50) (ht : law09_Theirs.f k l0 = some A) (s : ByteArray) (hs : s = ⟨#[]⟩) (hp : codec_Print.f A = some (s, 1)) (w : World) (hr0 : Kd.C k54 w A0 l0.length l0) (hc0 : l0.length ≤ c0) (hL : LaidW w) :
    Calls Tryz.prog 6 #[.slice A0 l0.length c0] w fun e w' => e = .returned (.bool true) ∧ Below w.heap.size w w' := by
  have HAL := Aside0.mk (fun W (h : LaidW W) => law10_alive.calls true W ha h)
  have HLD := Aside0.mk hL
  have HR0 := Aside0.mk hr0
  have HF := Aside0.mk hf
  have HT := Aside0.mk ht
  have HP := Aside0.mk hp
  have hne : (s.toList == ([] : List UInt8)) = true := by rw [beq_iff_eq, hs, Lib.toList_data]
  clear ha hL hr0 hf ht hp hs
  go_enter Tryz.func6, Tryz.ntmps6
  go_wp2_with (first | (go_at_call 8; refine (HAL.out _ HLD.out).mono ?_; rintro e w1 ⟨rfl, hb⟩; have HB := Aside0.mk hb; clear hb) | (go_at_call 9; refine (law09_Few.calls k A0 c0 l0 true _ (Kd.C_below HR0.out HB.out) hc0 HF.out).mono ?_; rintro e w2 ⟨rfl, hb⟩; have HB2 := Aside0.mk (below_step HB.out hb); clear hb) | (go_at_call 11; refine (law09_Theirs.calls k A0 c0 l0 A _ (Kd.C_below HR0.out HB2.out) hc0 HT.out).mono ?_; rintro e w3 ⟨v3, rfl, hR, hb⟩; obtain ⟨Av, cv, rfl⟩ := Kd.R_slice hR; have HR3 := Aside0.mk (Kd.R_reads' hR); have HB3 := Aside0.mk (below_step HB2.out hb); clear hb hR) | (go_at_call 10; refine (codec_Print.calls Av cv A s 1 _ HR3.out.2.2 HR3.out.2.1 HP.out (HLD.out.below HB3.out)).mono ?_; rintro e w4 ⟨rfl, hb⟩; have HB4 := Aside0.mk (below_step HB3.out hb); clear hb))
  go_ret
  exact ⟨rfl, HB4.out⟩
set_option maxHeartbeats 16000000 in
set_option maxRecDepth 100000 in
theorem lines_none {k : Nat} (ha : law10_alive.f = some true) (A0 : Option Addr) (c0 : Nat) (l0 : List S54) (hn : l0.length ≤ 1000) (hf : law09_Few.f k l0 = some true) (A : List S50) (ht : law09_Theirs.f k l0 = some A) (s : ByteArray) (hz : s.size ≤ 1000000) (hp : codec_Print.f A = some (s, 0)) (hc : cnt s = l0.length + 1) (h0 : l0.length = 0) (hs : s = ⟨#[99, 117, 98, 101, 32, 48, 10]⟩) (w : World) (hr0 : Kd.C k54 w A0 l0.length l0) (hc0 : l0.length ≤ c0) (hL : LaidW w) :
    Calls Tryz.prog 6 #[.slice A0 l0.length c0] w fun e w' => e = .returned (.bool true) ∧ Below w.heap.size w w' := by
  have HAL := Aside0.mk (fun W (h : LaidW W) => law10_alive.calls true W ha h)
  have HLD := Aside0.mk hL
  have HR0 := Aside0.mk hr0
  have HF := Aside0.mk hf
  have HT := Aside0.mk ht
  have HP := Aside0.mk hp
  have HC := Aside0.mk hc
  have hne : (s.toList == ([99, 117, 98, 101, 32, 48, 10] : List UInt8)) = true := by rw [beq_iff_eq, hs, Lib.toList_data]
  have HZ := Aside0.mk h0
  have hcv : ∀ (w : World), (convert 9 45 (.string s)).run Tryz.prog w = .ok (.slice (some ⟨w.heap.size, 0, none⟩) s.size (grownCap w s.size 0 5)) (Lib.bytesWorld w 5 s) := fun w => Lib.run_convert_string_bytes w 9 45 5 s Tryz.underlying9 Tryz.underlying45 Tryz.underlying5
  clear ha hL hr0 hf ht hp hs hc h0
  go_enter Tryz.func6, Tryz.ntmps6
  go_wp2_with (first | (go_at_call 8; refine (HAL.out _ HLD.out).mono ?_; rintro e w1 ⟨rfl, hb⟩; have HB := Aside0.mk hb; clear hb) | (go_at_call 9; refine (law09_Few.calls k A0 c0 l0 true _ (Kd.C_below HR0.out HB.out) hc0 HF.out).mono ?_; rintro e w2 ⟨rfl, hb⟩; have HB2 := Aside0.mk (below_step HB.out hb); clear hb) | (go_at_call 11; refine (law09_Theirs.calls k A0 c0 l0 A _ (Kd.C_below HR0.out HB2.out) hc0 HT.out).mono ?_; rintro e w3 ⟨v3, rfl, hR, hb⟩; obtain ⟨Av, cv, rfl⟩ := Kd.R_slice hR; have HR3 := Aside0.mk (Kd.R_reads' hR); have HB3 := Aside0.mk (below_step HB2.out hb); clear hb hR) | (go_at_call 10; refine (codec_Print.calls Av cv A s 0 _ HR3.out.2.2 HR3.out.2.1 HP.out (HLD.out.below HB3.out)).mono ?_; rintro e w4 ⟨rfl, hb⟩; have HB4 := Aside0.mk (below_step HB3.out hb); clear hb))
  go_loopg [5, 32] (s.size + 1) (fun kq v5 v32 w' => ∃ (i m : Nat), v32 = .int .i64 (i : Int) ∧ v5 = .int .i64 ((((bytesL s).take i).count 10 : Nat) : Int) ∧ i ≤ s.size ∧ Aside0 (kq + i = s.size + 1) ∧ w' = (Lib.bytesWorld w4 5 s).drewN m)
  case atStart => exact ⟨0, 0, rfl, rfl, Nat.zero_le _, ⟨rfl⟩, rfl⟩
  case round =>
    obtain ⟨i, m, rfl, rfl, hi, HK, rfl⟩ := hrel
    by_cases c3 : i < s.size
    · have hk := HK.out
      obtain ⟨k1, rfl⟩ : ∃ k1, gk = k1 + 1 := ⟨gk - 1, by omega⟩
      have c3b0 : decide ((i : Int) < (s.size : Int)) = true := decide_eq_true (by omega)
      have c4b0 : decide (0 ≤ (i : Int)) = true := decide_eq_true (by omega)
      obtain ⟨ad101, e101, hx101_0⟩ := Kd.at_int (bytes_C w4 5 s (by omega)) (i : Int) (by omega) (by rw [len_bytesL]; omega)
      cases e101
      have c3' : i < (bytesL s).length := by rw [len_bytesL]; exact c3
      have hx : rd (bytesL s) (i : Int) = (bytesL s)[i] := by unfold rd; rw [Int.toNat_natCast, List.getD_eq_getElem?_getD, List.getElem?_eq_getElem c3']; rfl
      rw [hx, Int.toNat_natCast, addr0] at hx101_0
      have p101 : (0 ≤ (i : Int)) = True := eq_true (by omega)
      have q101 : ((i : Int) < (s.size : Int)) = True := eq_true (by omega)
      have hw1 : wrap64 ((i : Int) + 1) = ((i + 1 : Nat) : Int) := by unfold wrap64; omega
      have hcn := take_cnt c3'
      have hcl := take_le (bytesL s) i
      rw [len_bytesL] at hcl
      obtain ⟨n0, hn0⟩ : ∃ n0, ((bytesL s).take i).count 10 = n0 := ⟨_, rfl⟩
      have hw2 : wrap64 ((n0 : Int) + 1) = ((n0 + 1 : Nat) : Int) := by unfold wrap64; omega
      rw [hn0] at hcn ⊢
      obtain ⟨x, hxx⟩ : ∃ x, (bytesL s)[i] = x := ⟨_, rfl⟩
      rw [hxx] at hx101_0 hcn
      obtain ⟨b1, e1⟩ : ∃ b, (x == 10) = b := ⟨_, rfl⟩
      rw [e1] at hcn
      have HCN := Aside0.mk hcn
      clear hx hxx c3' hk hcn hcl hn0
      cases b1 with
      | true =>
        go_wp2
        go_roundg k1
        case measure => omega
        case rel => exact ⟨i + 1, _, by first | rfl | rw [hw1] | simp, by rw [HCN.out]; first | rfl | (rw [hw2]; rfl) | simp, by omega, ⟨by have := HK.out; omega⟩, rfl⟩
      | false =>
        go_wp2
        go_roundg k1
        case measure => omega
        case rel => exact ⟨i + 1, _, by first | rfl | rw [hw1] | simp, by rw [HCN.out]; first | rfl | simp, by omega, ⟨by have := HK.out; omega⟩, rfl⟩
    · have c3b0 : decide ((i : Int) < (s.size : Int)) = false := decide_eq_false (by omega)
      have hcn : ((bytesL s).take i).count 10 = l0.length + 1 := by rw [List.take_of_length_le (by rw [len_bytesL]; omega)]; exact HC.out
      rw [hcn]
      have HBW := Aside0.mk (pw_below_drewN (bytesWorld_below w4 5 s HB4.out (below_size HB4.out)) m)
      clear hi HK hcn
      obtain ⟨W2, hW2⟩ : ∃ W2, (Lib.bytesWorld w4 5 s).drewN m = W2 := ⟨_, rfl⟩
      rw [hW2] at HBW ⊢
      clear hW2
      have hwl : wrap64 ((l0.length : Int) + 1) = (l0.length : Int) + 1 := by unfold wrap64; omega
      have hz0 := HZ.out
      rw [hz0]
      go_wp2
      go_ret
      exact ⟨rfl, HBW.out⟩
set_option maxHeartbeats 16000000 in
set_option maxRecDepth 100000 in
theorem lines_some {k : Nat} (ha : law10_alive.f = some true) (A0 : Option Addr) (c0 : Nat) (l0 : List S54) (hn : l0.length ≤ 1000) (hf : law09_Few.f k l0 = some true) (A : List S50) (ht : law09_Theirs.f k l0 = some A) (s : ByteArray) (hz : s.size ≤ 1000000) (hp : codec_Print.f A = some (s, 0)) (hc : cnt s = l0.length + 1) (h0 : l0.length ≠ 0) (B : List S50) (ht2 : law09_Theirs.f k (l0.take (l0.length - 1)) = some B) (t : ByteArray) (hp2 : codec_Print.f B = some (t, 0)) (hlt : t.size < s.size) (w : World) (hr0 : Kd.C k54 w A0 l0.length l0) (hc0 : l0.length ≤ c0) (hL : LaidW w) :
    Calls Tryz.prog 6 #[.slice A0 l0.length c0] w fun e w' => e = .returned (.bool true) ∧ Below w.heap.size w w' := by
  have HAL := Aside0.mk (fun W (h : LaidW W) => law10_alive.calls true W ha h)
  have HLD := Aside0.mk hL
  have HR0 := Aside0.mk hr0
  have HF := Aside0.mk hf
  have HT := Aside0.mk ht
  have HP := Aside0.mk hp
  have HC := Aside0.mk hc
  have HT2 := Aside0.mk ht2
  have HP2 := Aside0.mk hp2
  have HLT := Aside0.mk hlt
  have HZ := Aside0.mk h0
  have hcv : ∀ (w : World), (convert 9 45 (.string s)).run Tryz.prog w = .ok (.slice (some ⟨w.heap.size, 0, none⟩) s.size (grownCap w s.size 0 5)) (Lib.bytesWorld w 5 s) := fun w => Lib.run_convert_string_bytes w 9 45 5 s Tryz.underlying9 Tryz.underlying45 Tryz.underlying5
  clear ha hL hr0 hf ht hp hc ht2 hp2 hlt h0
  go_enter Tryz.func6, Tryz.ntmps6
  go_wp2_with (first | (go_at_call 8; refine (HAL.out _ HLD.out).mono ?_; rintro e w1 ⟨rfl, hb⟩; have HB := Aside0.mk hb; clear hb) | (go_at_call 9; refine (law09_Few.calls k A0 c0 l0 true _ (Kd.C_below HR0.out HB.out) hc0 HF.out).mono ?_; rintro e w2 ⟨rfl, hb⟩; have HB2 := Aside0.mk (below_step HB.out hb); clear hb) | (go_at_call 11; refine (law09_Theirs.calls k A0 c0 l0 A _ (Kd.C_below HR0.out HB2.out) hc0 HT.out).mono ?_; rintro e w3 ⟨v3, rfl, hR, hb⟩; obtain ⟨Av, cv, rfl⟩ := Kd.R_slice hR; have HR3 := Aside0.mk (Kd.R_reads' hR); have HB3 := Aside0.mk (below_step HB2.out hb); clear hb hR) | (go_at_call 10; refine (codec_Print.calls Av cv A s 0 _ HR3.out.2.2 HR3.out.2.1 HP.out (HLD.out.below HB3.out)).mono ?_; rintro e w4 ⟨rfl, hb⟩; have HB4 := Aside0.mk (below_step HB3.out hb); clear hb))
  go_loopg [5, 32] (s.size + 1) (fun kq v5 v32 w' => ∃ (i m : Nat), v32 = .int .i64 (i : Int) ∧ v5 = .int .i64 ((((bytesL s).take i).count 10 : Nat) : Int) ∧ i ≤ s.size ∧ Aside0 (kq + i = s.size + 1) ∧ w' = (Lib.bytesWorld w4 5 s).drewN m)
  case atStart => exact ⟨0, 0, rfl, rfl, Nat.zero_le _, ⟨rfl⟩, rfl⟩
  case round =>
    obtain ⟨i, m, rfl, rfl, hi, HK, rfl⟩ := hrel
    by_cases c3 : i < s.size
    · have hk := HK.out
      obtain ⟨k1, rfl⟩ : ∃ k1, gk = k1 + 1 := ⟨gk - 1, by omega⟩
      have c3b0 : decide ((i : Int) < (s.size : Int)) = true := decide_eq_true (by omega)
      have c4b0 : decide (0 ≤ (i : Int)) = true := decide_eq_true (by omega)
      obtain ⟨ad101, e101, hx101_0⟩ := Kd.at_int (bytes_C w4 5 s (by omega)) (i : Int) (by omega) (by rw [len_bytesL]; omega)
      cases e101
      have c3' : i < (bytesL s).length := by rw [len_bytesL]; exact c3
      have hx : rd (bytesL s) (i : Int) = (bytesL s)[i] := by unfold rd; rw [Int.toNat_natCast, List.getD_eq_getElem?_getD, List.getElem?_eq_getElem c3']; rfl
      rw [hx, Int.toNat_natCast, addr0] at hx101_0
      have p101 : (0 ≤ (i : Int)) = True := eq_true (by omega)
      have q101 : ((i : Int) < (s.size : Int)) = True := eq_true (by omega)
      have hw1 : wrap64 ((i : Int) + 1) = ((i + 1 : Nat) : Int) := by unfold wrap64; omega
      have hcn := take_cnt c3'
      have hcl := take_le (bytesL s) i
      rw [len_bytesL] at hcl
      obtain ⟨n0, hn0⟩ : ∃ n0, ((bytesL s).take i).count 10 = n0 := ⟨_, rfl⟩
      have hw2 : wrap64 ((n0 : Int) + 1) = ((n0 + 1 : Nat) : Int) := by unfold wrap64; omega
      rw [hn0] at hcn ⊢
      obtain ⟨x, hxx⟩ : ∃ x, (bytesL s)[i] = x := ⟨_, rfl⟩
      rw [hxx] at hx101_0 hcn
      obtain ⟨b1, e1⟩ : ∃ b, (x == 10) = b := ⟨_, rfl⟩
      rw [e1] at hcn
      have HCN := Aside0.mk hcn
      clear hx hxx c3' hk hcn hcl hn0
      cases b1 with
      | true =>
        go_wp2
        go_roundg k1
        case measure => omega
        case rel => exact ⟨i + 1, _, by first | rfl | rw [hw1] | simp, by rw [HCN.out]; first | rfl | (rw [hw2]; rfl) | simp, by omega, ⟨by have := HK.out; omega⟩, rfl⟩
      | false =>
        go_wp2
        go_roundg k1
        case measure => omega
        case rel => exact ⟨i + 1, _, by first | rfl | rw [hw1] | simp, by rw [HCN.out]; first | rfl | simp, by omega, ⟨by have := HK.out; omega⟩, rfl⟩
    · have c3b0 : decide ((i : Int) < (s.size : Int)) = false := decide_eq_false (by omega)
      have hcn : ((bytesL s).take i).count 10 = l0.length + 1 := by rw [List.take_of_length_le (by rw [len_bytesL]; omega)]; exact HC.out
      rw [hcn]
      have HBW := Aside0.mk (pw_below_drewN (bytesWorld_below w4 5 s HB4.out (below_size HB4.out)) m)
      clear hi HK hcn
      obtain ⟨W2, hW2⟩ : ∃ W2, (Lib.bytesWorld w4 5 s).drewN m = W2 := ⟨_, rfl⟩
      rw [hW2] at HBW ⊢
      clear hW2
      have hwl : wrap64 ((l0.length : Int) + 1) = (l0.length : Int) + 1 := by unfold wrap64; omega
      have hz0 : ((l0.length : Int) == 0) = false := beq_eq_false_iff_ne.mpr (by have := HZ.out; omega)
      have hw3 : wrap64 ((l0.length : Int) - 1) = ((l0.length - 1 : Nat) : Int) := by have := HZ.out; unfold wrap64; omega
      have p7 : (0 ≤ ((l0.length - 1 : Nat) : Int)) = True := eq_true (by omega)
      have q7 : (((l0.length - 1 : Nat) : Int) ≤ (c0 : Int)) = True := eq_true (by omega)
      have hsl : (1 ≤ (l0.length : Int) ∧ (l0.length : Int) - 1 ≤ (c0 : Int)) = True := eq_true (by have := HZ.out; omega)
      have hlt2 : decide ((t.size : Int) < (s.size : Int)) = true := decide_eq_true (by have := HLT.out; omega)
      have hlt3 : decide (t.size < s.size) = true := decide_eq_true HLT.out
      have hlt4 : (t.size < s.size) = True := eq_true HLT.out
      obtain ⟨l1, hl1⟩ : ∃ l1, l0.take (l0.length - 1) = l1 := ⟨_, rfl⟩
      have hll : l0.length - 1 = l1.length := by rw [← hl1, List.length_take]; omega
      have hC1 := Kd.C_take (Kd.C_below HR0.out HBW.out) (m := l0.length - 1) (by omega)
      have ht2 := HT2.out
      rw [hl1] at hC1 ht2
      have HC1 := Aside0.mk hC1
      have HT3 := Aside0.mk ht2
      have HLL := Aside0.mk hll
      clear hl1 hll hC1 ht2 HT2
      go_wp2_with (first
        | (go_at_call 11; rw [HLL.out]; refine (law09_Theirs.calls k A0 c0 l1 B _ HC1.out (by have := HLL.out; omega) HT3.out).mono ?_; rintro e w5 ⟨v5, rfl, hR, hb⟩; obtain ⟨Aw, cw, rfl⟩ := Kd.R_slice hR; have HR5 := Aside0.mk (Kd.R_reads' hR); have HB5 := Aside0.mk (below_step HBW.out hb); clear hb hR)
        | (go_at_call 10; refine (codec_Print.calls Aw cw B t 0 _ HR5.out.2.2 HR5.out.2.1 HP2.out (HLD.out.below HB5.out)).mono ?_; rintro e w6 ⟨rfl, hb⟩; have HB6 := Aside0.mk (below_step HB5.out hb); clear hb))
      go_ret
      exact ⟨rfl, HB6.out⟩
theorem lines_walk {k : Nat} (ha : law10_alive.f = some true) (A0 : Option Addr) (c0 : Nat) (l0 : List S54) (b : Bool) (hf : law09_Few.f k l0 = some b) (hn : b = true → l0.length ≤ 150) (hr : b = true → Rest k l0) (w : World) (hr0 : Kd.C k54 w A0 l0.length l0) (hc0 : l0.length ≤ c0) (hL : LaidW w) :
    Calls Tryz.prog 6 #[.slice A0 l0.length c0] w fun e w' => e = .returned (.bool true) ∧ Below w.heap.size w w' := by
  cases b with
  | false => exact lines_many ha A0 c0 l0 hf w hr0 hc0 hL
  | true =>
    have hn := hn rfl
    obtain ⟨A, s, e, ht, hp, hz, ⟨hs, rfl⟩ | ⟨rfl, hc, ⟨h0, hs⟩ | ⟨h0, B, t, ht2, hp2, hlt⟩⟩⟩ := hr rfl
    · exact lines_bad ha A0 c0 l0 (by omega) hf A ht s hs hp w hr0 hc0 hL
    · exact lines_none ha A0 c0 l0 (by omega) hf A ht s hz hp hc (by rw [h0]; rfl) hs w hr0 hc0 hL
    · exact lines_some ha A0 c0 l0 (by omega) hf A ht s hz hp hc (fun h => h0 (List.length_eq_zero_iff.1 h)) B ht2 t hp2 hlt w hr0 hc0 hL
end Go.Proofs.YtjbdkdmoacdbpaaGreatDoor.XLi
