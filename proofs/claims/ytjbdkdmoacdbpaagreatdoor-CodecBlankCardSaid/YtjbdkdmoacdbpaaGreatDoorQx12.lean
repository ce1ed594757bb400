/- printed by a program of this session (wip/tools/pr.sh): it is not a print of the kit -/
import Derived.Test.YtjbdkdmoacdbpaaGreatDoorXLayCompare
import Derived.Test.YtjbdkdmoacdbpaaGreatDoorQx0
import Derived.Test.YtjbdkdmoacdbpaaGreatDoorQx3
import Derived.Test.YtjbdkdmoacdbpaaGreatDoorQx4
import Derived.Test.YtjbdkdmoacdbpaaGreatDoorQx5
namespace Go.Proofs.YtjbdkdmoacdbpaaGreatDoor.Q
open Go.RowKit Go.Proofs.YtjbdkdmoacdbpaaGreatDoorW.PrintWords Go.Proofs.YtjbdkdmoacdbpaaGreatDoorW.PrintLast Go.Proofs.YtjbdkdmoacdbpaaGreatDoorW.PrintMore
attribute [local go_sem] max2_int min2_int max_two min_two max_three min_three max_four min_four RFn.gtr_str   -- for this text's walks alone
set_option linter.unusedVariables false
set_option linter.unusedSimpArgs false
/-! ### law10_CodecBlank: function 5 -/
def law10_CodecBlank.f (k : Nat) (l0 : List (S54)) (a1 : Int) (a2 : Int) : Option (Bool) := (law10_alive.f).bind fun t262 => (if t262 = true then ((law09_Few.f k l0).bind fun t263 => (if t263 = true then ((law09_Theirs.f k l0).bind fun t264 => ((codec_Print.f t264).bind fun bt267 => (if bt267.2 = 0 then (if (wrap64 ((bt267.1.size : Int) + 1)) = 0 then (none) else ((some (([(⟨#[32]⟩ : ByteArray), (⟨#[10]⟩ : ByteArray), (⟨#[9]⟩ : ByteArray), (⟨#[35]⟩ : ByteArray)] : List ByteArray) : List ByteArray)).bind fun y269 => (if 0 ≤ (Int.tmod a2 4) then (if (Int.tmod a2 4) < (y269.length : Int) then (if 0 ≤ (Int.tmod (wrap64 (a1)) (wrap64 ((bt267.1.size : Int) + 1))) then (if (Int.tmod (wrap64 (a1)) (wrap64 ((bt267.1.size : Int) + 1))) ≤ (bt267.1.size : Int) then (if (bt267.1.extract 0 ((Int.tmod (wrap64 (a1)) (wrap64 ((bt267.1.size : Int) + 1))) : Int).toNat).size + (rdOf ByteArray.empty y269 (Int.tmod a2 4)).size ≤ 9223372036854775807 then (if ((bt267.1.extract 0 ((Int.tmod (wrap64 (a1)) (wrap64 ((bt267.1.size : Int) + 1))) : Int).toNat) ++ (rdOf ByteArray.empty y269 (Int.tmod a2 4))).size + (bt267.1.extract ((Int.tmod (wrap64 (a1)) (wrap64 ((bt267.1.size : Int) + 1))) : Int).toNat bt267.1.size).size ≤ 9223372036854775807 then ((codec_Parse.f (((bt267.1.extract 0 ((Int.tmod (wrap64 (a1)) (wrap64 ((bt267.1.size : Int) + 1))) : Int).toNat) ++ (rdOf ByteArray.empty y269 (Int.tmod a2 4))) ++ (bt267.1.extract ((Int.tmod (wrap64 (a1)) (wrap64 ((bt267.1.size : Int) + 1))) : Int).toNat bt267.1.size))).bind fun bt273 => (if bt267.1.size + 12 ≤ 9223372036854775807 then ((codec_Parse.f (bt267.1 ++ (⟨#[69, 32, 97, 32, 102, 32, 45, 32, 48, 32, 48, 10]⟩ : ByteArray))).bind fun bt277 => (if bt273.2 = 5 then (some (bt277.2 == 5)) else (some false))) else (none))) else (none)) else (none)) else (none)) else (none)) else (none)) else (none)))) else (some (bt267.1.toList == ([] : List UInt8)))))) else (some true))) else (some false))
theorem law10_CodecBlank.mono : ∀ a0 a1 a2 k, LeO (law10_CodecBlank.f k a0 a1 a2) (law10_CodecBlank.f (k + 1) a0 a1 a2) := by
 intro a0 a1 a2 k
 unfold law10_CodecBlank.f
 repeat' with_reducible first | exact LeO.refl _ | apply law09_Few.mono | apply law09_Theirs.mono | exact LeO.none _ | apply LeO.ite | refine LeO.bind ?_ fun _ => ?_
def law10_CodecBlank.T10 : Bool × List (List Nat × List Nat) := (true, [([], []), ([], []), ([0, 1], [0, 1]), ([], []), ([2, 3], [2, 3]), ([], []), ([], []), ([5, 6], [5, 6]), ([4, 7], [4, 7]), ([8], [8]), ([9], [9]), ([10], [10]), ([10], [10]), ([11, 9, 0, 1, 2, 3, 4, 5, 6, 7, 8, 9, 10, 11], [11]), ([12, 13, 0, 1, 2, 3, 4, 5, 6, 7, 8, 9, 10, 11, 12, 13], [12])])
def law10_CodecBlank.B10 : List Nat := [0, 0, 3, 0, 15, 0, 0, 96, 255, 511, 1023, 2047, 2047, 4095, 16383]
theorem law10_CodecBlank.tab10 : rtab .any (opsOf Tryz.f5 10) = law10_CodecBlank.T10 := by kernel_rfl
theorem law10_CodecBlank.bits10 : waitsOk law10_CodecBlank.T10.2 law10_CodecBlank.B10 = true := by kernel_rfl
set_option maxHeartbeats 8000000 in
set_option maxRecDepth 100000 in
theorem law10_CodecBlank.calls (k : Nat) (A0 : Option Addr) (c0 : Nat) (l0 : List (S54)) (a1 : Int) (a2 : Int) (r : Bool) (w : World) (hr0 : Kd.C k54 w A0 l0.length l0) (hc0 : l0.length ≤ c0) (h : law10_CodecBlank.f k l0 a1 a2 = some r) (hLd_ : Go.Proofs.YtjbdkdmoacdbpaaGreatDoor.X.LaidW w) :
  Calls Tryz.prog 5 #[.slice A0 l0.length c0, .int .u16 a1, .int .u8 a2] w fun e w' => e = .returned (.bool r) ∧ Below w.heap.size w w' := by
 have HR0 := Aside0.mk hr0
 have HC0 := Aside0.mk hc0
 clear hr0 hc0
 have HB := Aside0.mk (Below.refl w.heap.size w)
 have H : ((law10_alive.f).bind fun t262 => (if t262 = true then ((law09_Few.f k l0).bind fun t263 => (if t263 = true then ((law09_Theirs.f k l0).bind fun t264 => ((codec_Print.f t264).bind fun bt267 => (if bt267.2 = 0 then (if (wrap64 ((bt267.1.size : Int) + 1)) = 0 then (none) else ((some (([(⟨#[32]⟩ : ByteArray), (⟨#[10]⟩ : ByteArray), (⟨#[9]⟩ : ByteArray), (⟨#[35]⟩ : ByteArray)] : List ByteArray) : List ByteArray)).bind fun y269 => (if 0 ≤ (Int.tmod a2 4) then (if (Int.tmod a2 4) < (y269.length : Int) then (if 0 ≤ (Int.tmod (wrap64 (a1)) (wrap64 ((bt267.1.size : Int) + 1))) then (if (Int.tmod (wrap64 (a1)) (wrap64 ((bt267.1.size : Int) + 1))) ≤ (bt267.1.size : Int) then (if (bt267.1.extract 0 ((Int.tmod (wrap64 (a1)) (wrap64 ((bt267.1.size : Int) + 1))) : Int).toNat).size + (rdOf ByteArray.empty y269 (Int.tmod a2 4)).size ≤ 9223372036854775807 then (if ((bt267.1.extract 0 ((Int.tmod (wrap64 (a1)) (wrap64 ((bt267.1.size : Int) + 1))) : Int).toNat) ++ (rdOf ByteArray.empty y269 (Int.tmod a2 4))).size + (bt267.1.extract ((Int.tmod (wrap64 (a1)) (wrap64 ((bt267.1.size : Int) + 1))) : Int).toNat bt267.1.size).size ≤ 9223372036854775807 then ((codec_Parse.f (((bt267.1.extract 0 ((Int.tmod (wrap64 (a1)) (wrap64 ((bt267.1.size : Int) + 1))) : Int).toNat) ++ (rdOf ByteArray.empty y269 (Int.tmod a2 4))) ++ (bt267.1.extract ((Int.tmod (wrap64 (a1)) (wrap64 ((bt267.1.size : Int) + 1))) : Int).toNat bt267.1.size))).bind fun bt273 => (if bt267.1.size + 12 ≤ 9223372036854775807 then ((codec_Parse.f (bt267.1 ++ (⟨#[69, 32, 97, 32, 102, 32, 45, 32, 48, 32, 48, 10]⟩ : ByteArray))).bind fun bt277 => (if bt273.2 = 5 then (some (bt277.2 == 5)) else (some false))) else (none))) else (none)) else (none)) else (none)) else (none)) else (none)) else (none)))) else (some (bt267.1.toList == ([] : List UInt8)))))) else (some true))) else (some false))) = some r := h
 clear h
 obtain ⟨t262, A4, H⟩ := RFn.bn H
 by_cases c5 : t262 = true
 ·subst c5
  have H1 : ((law09_Few.f k l0).bind fun t263 => (if t263 = true then ((law09_Theirs.f k l0).bind fun t264 => ((codec_Print.f t264).bind fun bt267 => (if bt267.2 = 0 then (if (wrap64 ((bt267.1.size : Int) + 1)) = 0 then (none) else ((some (([(⟨#[32]⟩ : ByteArray), (⟨#[10]⟩ : ByteArray), (⟨#[9]⟩ : ByteArray), (⟨#[35]⟩ : ByteArray)] : List ByteArray) : List ByteArray)).bind fun y269 => (if 0 ≤ (Int.tmod a2 4) then (if (Int.tmod a2 4) < (y269.length : Int) then (if 0 ≤ (Int.tmod (wrap64 (a1)) (wrap64 ((bt267.1.size : Int) + 1))) then (if (Int.tmod (wrap64 (a1)) (wrap64 ((bt267.1.size : Int) + 1))) ≤ (bt267.1.size : Int) then (if (bt267.1.extract 0 ((Int.tmod (wrap64 (a1)) (wrap64 ((bt267.1.size : Int) + 1))) : Int).toNat).size + (rdOf ByteArray.empty y269 (Int.tmod a2 4)).size ≤ 9223372036854775807 then (if ((bt267.1.extract 0 ((Int.tmod (wrap64 (a1)) (wrap64 ((bt267.1.size : Int) + 1))) : Int).toNat) ++ (rdOf ByteArray.empty y269 (Int.tmod a2 4))).size + (bt267.1.extract ((Int.tmod (wrap64 (a1)) (wrap64 ((bt267.1.size : Int) + 1))) : Int).toNat bt267.1.size).size ≤ 9223372036854775807 then ((codec_Parse.f (((bt267.1.extract 0 ((Int.tmod (wrap64 (a1)) (wrap64 ((bt267.1.size : Int) + 1))) : Int).toNat) ++ (rdOf ByteArray.empty y269 (Int.tmod a2 4))) ++ (bt267.1.extract ((Int.tmod (wrap64 (a1)) (wrap64 ((bt267.1.size : Int) + 1))) : Int).toNat bt267.1.size))).bind fun bt273 => (if bt267.1.size + 12 ≤ 9223372036854775807 then ((codec_Parse.f (bt267.1 ++ (⟨#[69, 32, 97, 32, 102, 32, 45, 32, 48, 32, 48, 10]⟩ : ByteArray))).bind fun bt277 => (if bt273.2 = 5 then (some (bt277.2 == 5)) else (some false))) else (none))) else (none)) else (none)) else (none)) else (none)) else (none)) else (none)))) else (some (bt267.1.toList == ([] : List UInt8)))))) else (some true))) = some r := by rw [if_pos rfl] at H; exact H
  clear H
  have H := H1
  clear H1
  obtain ⟨t263, A6, H⟩ := RFn.bn H
  by_cases c7 : t263 = true
  ·subst c7
   have H1 : ((law09_Theirs.f k l0).bind fun t264 => ((codec_Print.f t264).bind fun bt267 => (if bt267.2 = 0 then (if (wrap64 ((bt267.1.size : Int) + 1)) = 0 then (none) else ((some (([(⟨#[32]⟩ : ByteArray), (⟨#[10]⟩ : ByteArray), (⟨#[9]⟩ : ByteArray), (⟨#[35]⟩ : ByteArray)] : List ByteArray) : List ByteArray)).bind fun y269 => (if 0 ≤ (Int.tmod a2 4) then (if (Int.tmod a2 4) < (y269.length : Int) then (if 0 ≤ (Int.tmod (wrap64 (a1)) (wrap64 ((bt267.1.size : Int) + 1))) then (if (Int.tmod (wrap64 (a1)) (wrap64 ((bt267.1.size : Int) + 1))) ≤ (bt267.1.size : Int) then (if (bt267.1.extract 0 ((Int.tmod (wrap64 (a1)) (wrap64 ((bt267.1.size : Int) + 1))) : Int).toNat).size + (rdOf ByteArray.empty y269 (Int.tmod a2 4)).size ≤ 9223372036854775807 then (if ((bt267.1.extract 0 ((Int.tmod (wrap64 (a1)) (wrap64 ((bt267.1.size : Int) + 1))) : Int).toNat) ++ (rdOf ByteArray.empty y269 (Int.tmod a2 4))).size + (bt267.1.extract ((Int.tmod (wrap64 (a1)) (wrap64 ((bt267.1.size : Int) + 1))) : Int).toNat bt267.1.size).size ≤ 9223372036854775807 then ((codec_Parse.f (((bt267.1.extract 0 ((Int.tmod (wrap64 (a1)) (wrap64 ((bt267.1.size : Int) + 1))) : Int).toNat) ++ (rdOf ByteArray.empty y269 (Int.tmod a2 4))) ++ (bt267.1.extract ((Int.tmod (wrap64 (a1)) (wrap64 ((bt267.1.size : Int) + 1))) : Int).toNat bt267.1.size))).bind fun bt273 => (if bt267.1.size + 12 ≤ 9223372036854775807 then ((codec_Parse.f (bt267.1 ++ (⟨#[69, 32, 97, 32, 102, 32, 45, 32, 48, 32, 48, 10]⟩ : ByteArray))).bind fun bt277 => (if bt273.2 = 5 then (some (bt277.2 == 5)) else (some false))) else (none))) else (none)) else (none)) else (none)) else (none)) else (none)) else (none)))) else (some (bt267.1.toList == ([] : List UInt8)))))) = some r := by rw [if_pos rfl] at H; exact H
   clear H
   have H := H1
   clear H1
   obtain ⟨t264, A8, H⟩ := RFn.bn H
   obtain ⟨⟨t267, t268⟩, A9, H⟩ := RFn.bn H
   by_cases c10 : t268 = 0
   ·rw [if_pos c10] at H
    have c10b0 : (t268 == 0) = true := beq_iff_eq.mpr c10
    have c10b1 : (t268 != 0) = false := bne_eq_false_iff_eq.mpr c10
    clear c10
    by_cases c11 : (wrap64 ((t267.size : Int) + 1)) = 0
    ·rw [if_pos c11] at H
     exact absurd H (by simp)
    ·rw [if_neg c11] at H
     have c11b0 : ((wrap64 ((t267.size : Int) + 1)) == 0) = false := beq_eq_false_iff_ne.mpr c11
     have c11b1 : ((wrap64 ((t267.size : Int) + 1)) != 0) = true := bne_iff_ne.mpr c11
     obtain ⟨y269, hy269⟩ : ∃ y_ : List ByteArray, y_ = (([(⟨#[32]⟩ : ByteArray), (⟨#[10]⟩ : ByteArray), (⟨#[9]⟩ : ByteArray), (⟨#[35]⟩ : ByteArray)] : List ByteArray)) := ⟨_, rfl⟩
     replace H : (if 0 ≤ (Int.tmod a2 4) then (if (Int.tmod a2 4) < (y269.length : Int) then (if 0 ≤ (Int.tmod (wrap64 (a1)) (wrap64 ((t267.size : Int) + 1))) then (if (Int.tmod (wrap64 (a1)) (wrap64 ((t267.size : Int) + 1))) ≤ (t267.size : Int) then (if (t267.extract 0 ((Int.tmod (wrap64 (a1)) (wrap64 ((t267.size : Int) + 1))) : Int).toNat).size + (rdOf ByteArray.empty y269 (Int.tmod a2 4)).size ≤ 9223372036854775807 then (if ((t267.extract 0 ((Int.tmod (wrap64 (a1)) (wrap64 ((t267.size : Int) + 1))) : Int).toNat) ++ (rdOf ByteArray.empty y269 (Int.tmod a2 4))).size + (t267.extract ((Int.tmod (wrap64 (a1)) (wrap64 ((t267.size : Int) + 1))) : Int).toNat t267.size).size ≤ 9223372036854775807 then ((codec_Parse.f (((t267.extract 0 ((Int.tmod (wrap64 (a1)) (wrap64 ((t267.size : Int) + 1))) : Int).toNat) ++ (rdOf ByteArray.empty y269 (Int.tmod a2 4))) ++ (t267.extract ((Int.tmod (wrap64 (a1)) (wrap64 ((t267.size : Int) + 1))) : Int).toNat t267.size))).bind fun bt273 => (if t267.size + 12 ≤ 9223372036854775807 then ((codec_Parse.f (t267 ++ (⟨#[69, 32, 97, 32, 102, 32, 45, 32, 48, 32, 48, 10]⟩ : ByteArray))).bind fun bt277 => (if bt273.2 = 5 then (some (bt277.2 == 5)) else (some false))) else (none))) else (none)) else (none)) else (none)) else (none)) else (none)) else (none)) = some r := RFn.rp H hy269
     have Ny269 := Aside0.mk hy269
     clear hy269
     obtain ⟨ji12, hji12⟩ : ∃ j_ : Int, (Int.tmod a2 4) = j_ := ⟨_, rfl⟩
     replace H : (if 0 ≤ (ji12) then (if (ji12) < (y269.length : Int) then (if 0 ≤ (Int.tmod (wrap64 (a1)) (wrap64 ((t267.size : Int) + 1))) then (if (Int.tmod (wrap64 (a1)) (wrap64 ((t267.size : Int) + 1))) ≤ (t267.size : Int) then (if (t267.extract 0 ((Int.tmod (wrap64 (a1)) (wrap64 ((t267.size : Int) + 1))) : Int).toNat).size + (rdOf ByteArray.empty y269 (ji12)).size ≤ 9223372036854775807 then (if ((t267.extract 0 ((Int.tmod (wrap64 (a1)) (wrap64 ((t267.size : Int) + 1))) : Int).toNat) ++ (rdOf ByteArray.empty y269 (ji12))).size + (t267.extract ((Int.tmod (wrap64 (a1)) (wrap64 ((t267.size : Int) + 1))) : Int).toNat t267.size).size ≤ 9223372036854775807 then ((codec_Parse.f (((t267.extract 0 ((Int.tmod (wrap64 (a1)) (wrap64 ((t267.size : Int) + 1))) : Int).toNat) ++ (rdOf ByteArray.empty y269 (ji12))) ++ (t267.extract ((Int.tmod (wrap64 (a1)) (wrap64 ((t267.size : Int) + 1))) : Int).toNat t267.size))).bind fun bt273 => (if t267.size + 12 ≤ 9223372036854775807 then ((codec_Parse.f (t267 ++ (⟨#[69, 32, 97, 32, 102, 32, 45, 32, 48, 32, 48, 10]⟩ : ByteArray))).bind fun bt277 => (if bt273.2 = 5 then (some (bt277.2 == 5)) else (some false))) else (none))) else (none)) else (none)) else (none)) else (none)) else (none)) else (none)) = some r := by first | (rw [hji12] at H; exact H) | (simp only [hji12] at H ⊢; exact H)
     (try rw [hji12] at A4)
     (try rw [hji12] at A6)
     (try rw [hji12] at A8)
     (try rw [hji12] at A9)
     by_cases c13 : 0 ≤ (ji12)
     ·rw [if_pos c13] at H
      have c13b0 : decide (0 ≤ (ji12)) = true := decide_eq_true c13
      clear c13
      by_cases c14 : (ji12) < (y269.length : Int)
      ·rw [if_pos c14] at H
       have c14b0 : decide ((ji12) < (y269.length : Int)) = true := decide_eq_true c14
       clear c14
       obtain ⟨ji15, hji15⟩ : ∃ j_ : Int, (Int.tmod (wrap64 (a1)) (wrap64 ((t267.size : Int) + 1))) = j_ := ⟨_, rfl⟩
       replace H : (if 0 ≤ (ji15) then (if (ji15) ≤ (t267.size : Int) then (if (t267.extract 0 ((ji15) : Int).toNat).size + (rdOf ByteArray.empty y269 (ji12)).size ≤ 9223372036854775807 then (if ((t267.extract 0 ((ji15) : Int).toNat) ++ (rdOf ByteArray.empty y269 (ji12))).size + (t267.extract ((ji15) : Int).toNat t267.size).size ≤ 9223372036854775807 then ((codec_Parse.f (((t267.extract 0 ((ji15) : Int).toNat) ++ (rdOf ByteArray.empty y269 (ji12))) ++ (t267.extract ((ji15) : Int).toNat t267.size))).bind fun bt273 => (if t267.size + 12 ≤ 9223372036854775807 then ((codec_Parse.f (t267 ++ (⟨#[69, 32, 97, 32, 102, 32, 45, 32, 48, 32, 48, 10]⟩ : ByteArray))).bind fun bt277 => (if bt273.2 = 5 then (some (bt277.2 == 5)) else (some false))) else (none))) else (none)) else (none)) else (none)) else (none)) = some r := by first | (rw [hji15] at H; exact H) | (simp only [hji15] at H ⊢; exact H)
       (try rw [hji15] at A4)
       (try rw [hji15] at A6)
       (try rw [hji15] at A8)
       (try rw [hji15] at A9)
       by_cases c16 : 0 ≤ (ji15)
       ·rw [if_pos c16] at H
        have c16b0 := eq_true c16
        have c16b1 : decide (0 ≤ (ji15)) = true := decide_eq_true c16
        clear c16
        by_cases c17 : (ji15) ≤ (t267.size : Int)
        ·rw [if_pos c17] at H
         have c17b0 := eq_true c17
         have c17b1 : decide ((ji15) ≤ (t267.size : Int)) = true := decide_eq_true c17
         clear c17
         by_cases c18 : (t267.extract 0 ((ji15) : Int).toNat).size + (rdOf ByteArray.empty y269 (ji12)).size ≤ 9223372036854775807
         ·rw [if_pos c18] at H
          have c18b0 := eq_true c18
          have c18b1 : decide ((t267.extract 0 ((ji15) : Int).toNat).size + (rdOf ByteArray.empty y269 (ji12)).size ≤ 9223372036854775807) = true := decide_eq_true c18
          try have c18b2 : (9223372036854775807 < (t267.extract 0 ((ji15) : Int).toNat).size + (rdOf ByteArray.empty y269 (ji12)).size) = False := eq_false (Nat.not_lt.2 c18)
          have c19b0 := eq_true (RFn.od : 0 ≤ (ji15))
          have c20b0 := eq_true (RFn.od : (ji15) ≤ (t267.size : Int))
          by_cases c21 : ((t267.extract 0 ((ji15) : Int).toNat) ++ (rdOf ByteArray.empty y269 (ji12))).size + (t267.extract ((ji15) : Int).toNat t267.size).size ≤ 9223372036854775807
          ·rw [if_pos c21] at H
           have c21b0 := eq_true c21
           have c21b1 : decide (((t267.extract 0 ((ji15) : Int).toNat) ++ (rdOf ByteArray.empty y269 (ji12))).size + (t267.extract ((ji15) : Int).toNat t267.size).size ≤ 9223372036854775807) = true := decide_eq_true c21
           (try (have c21b1x := c21b1; simp only [ByteArray.size_append] at c21b1x))
           try have c21b2 : (9223372036854775807 < ((t267.extract 0 ((ji15) : Int).toNat) ++ (rdOf ByteArray.empty y269 (ji12))).size + (t267.extract ((ji15) : Int).toNat t267.size).size) = False := eq_false (Nat.not_lt.2 c21)
           (try (have c21b2x := c21b2; simp only [ByteArray.size_append] at c21b2x))
           obtain ⟨⟨t273, t274⟩, A22, H⟩ := RFn.bn H
           by_cases c23 : t267.size + 12 ≤ 9223372036854775807
           ·rw [if_pos c23] at H
            have c23b0 := eq_true c23
            have c23b1 : decide (t267.size + 12 ≤ 9223372036854775807) = true := decide_eq_true c23
            try have c23b2 : (9223372036854775807 < t267.size + 12) = False := eq_false (Nat.not_lt.2 c23)
            obtain ⟨⟨t277, t278⟩, A24, H⟩ := RFn.bn H
            by_cases c25 : t274 = 5
            ·rw [if_pos c25] at H
             have c25b0 : (t274 == 5) = true := beq_iff_eq.mpr c25
             have c25b1 : (t274 != 5) = false := bne_eq_false_iff_eq.mpr c25
             clear c25
             obtain rfl := Option.some.inj H
             try have hji15w : Int.tmod (wrap64 (a1)) ((t267.size : Int) + 1) = ji15 := by rw [← hji15]; congr 1; have := of_decide_eq_true c23b1; unfold wrap64; omega
             try have c18w : (9223372036854775807 < ji15.toNat + (rdOf ByteArray.empty y269 (ji12)).size) = False := by have h1 := of_decide_eq_true c17b1; have h2 := of_decide_eq_true c18b1; rw [ByteArray.size_extract] at h2; exact eq_false (by omega)
             try have c21w : (9223372036854775807 < ji15.toNat + (rdOf ByteArray.empty y269 (ji12)).size + (t267.size - ji15.toNat)) = False := by have h1 := of_decide_eq_true c17b1; have h2 := of_decide_eq_true c21b1; rw [ByteArray.size_append, ByteArray.size_extract, ByteArray.size_extract] at h2; exact eq_false (by omega)
             go_enter Tryz.func5, Tryz.ntmps5
             try go_wp2_with (first | ((with_reducible refine gate_callee (f := 8) rfl ?_); refine RFn.goesM (some 15) Tryz.func8 #[] rfl ?_; (with_reducible refine (law10_alive.calls  true _ A4.out (Go.Proofs.YtjbdkdmoacdbpaaGreatDoor.X.LaidW.below hLd_ RFn.bel)).mono ?_); rintro e w26 ⟨rfl, hb⟩; refine ⟨_, rfl, ?_⟩; have n0_ := Aside0.mk (below_step (RFn.bel) hb); clear HB; have HB := n0_; clear n0_; (try clear hb); (try clear hk)) | ((with_reducible refine gate_callee (f := 9) rfl ?_); refine RFn.goesM (some 18) Tryz.func9 #[.slice A0 l0.length c0] rfl ?_; (with_reducible refine (law09_Few.calls k _ _ l0 true _ ?side1 ?side2 A6.out).mono ?_); (case side1 => exact RFn.mC (Kd.C_below HR0.out HB.out)); (case side2 => exact HC0.out); rintro e w27 ⟨rfl, hb⟩; refine ⟨_, rfl, ?_⟩; have n0_ := Aside0.mk (below_step (RFn.bel) hb); clear HB; have HB := n0_; clear n0_; (try clear hb); (try clear hk)) | ((with_reducible refine gate_callee (f := 11) rfl ?_); refine RFn.goesM (some 22) Tryz.func11 #[.slice A0 l0.length c0] rfl ?_; (with_reducible refine (law09_Theirs.calls k _ _ l0 t264 _ ?side1 ?side2 A8.out).mono ?_); (case side1 => exact RFn.mC (Kd.C_below HR0.out HB.out)); (case side2 => exact HC0.out); rintro e w28 ⟨v265, rfl, ho0, hb⟩; refine ⟨_, rfl, ?_⟩; have n0_ := Aside0.mk (Kd.R_lower ho0 (below_size (RFn.bel))); have n1_ := Aside0.mk (below_step (RFn.bel) hb); clear HB; have HO266 := n0_; have HB := n1_; clear n0_ n1_; (try clear hb); (try clear hk); (try clear ho0); obtain ⟨Ao29, co29, eo29⟩ := Kd.R_slice HO266.out; subst eo29) | ((with_reducible refine gate_callee (f := 10) rfl ?_); refine RFn.goesM (some 23) Tryz.func10 #[.slice Ao29 t264.length co29] rfl ?_; (with_reducible refine (codec_Print.calls _ _ t264 t267 t268 _ ?side1 ?side2 A9.out (Go.Proofs.YtjbdkdmoacdbpaaGreatDoor.X.LaidW.below hLd_ RFn.bel)).mono ?_); (case side1 => exact RFn.mC (Kd.R_reads' HO266.out).2.2); (case side2 => exact (Kd.R_reads' HO266.out).2.1); rintro e w30 ⟨rfl, hb⟩; refine ⟨_, rfl, ?_⟩; have n0_ := Aside0.mk (Kd.R_below (RFn.mR HO266) hb); have n1_ := Aside0.mk (below_step (RFn.bel) hb); clear HO266; clear HB; have HO266 := n0_; have HB := n1_; clear n0_ n1_; (try clear hb); (try clear hk)) | ((with_reducible refine gate_dst (N := 36) rfl ?_); refine Kd.R_lit Kd.string _ 9 ?hg (N := 36) ?hd (xs := ([(⟨#[32]⟩ : ByteArray), (⟨#[10]⟩ : ByteArray), (⟨#[9]⟩ : ByteArray), (⟨#[35]⟩ : ByteArray)] : List ByteArray)) (inner := [.string (⟨#[32]⟩ : ByteArray), .string (⟨#[10]⟩ : ByteArray), .string (⟨#[9]⟩ : ByteArray), .string (⟨#[35]⟩ : ByteArray)]) (ok := fun _ => True) (okp := fun _ => True) ?hr ?hp (fun _ hk => hk) trivial (Below.refl _ _) (Nat.le_refl _) (by simp) ?_; (case hd => rfl); (case hg => rfl); (case hr => first | (go_simp; done) | (go_simp; rfl)); (case hp => exact (Reps.one (show Kd.M Kd.string _ _ _ (⟨#[32]⟩ : ByteArray) [.string (⟨#[32]⟩ : ByteArray)] from rfl) (Reps.one (show Kd.M Kd.string _ _ _ (⟨#[10]⟩ : ByteArray) [.string (⟨#[10]⟩ : ByteArray)] from rfl) (Reps.one (show Kd.M Kd.string _ _ _ (⟨#[9]⟩ : ByteArray) [.string (⟨#[9]⟩ : ByteArray)] from rfl) (Reps.one (show Kd.M Kd.string _ _ _ (⟨#[35]⟩ : ByteArray) [.string (⟨#[35]⟩ : ByteArray)] from rfl) (Reps.none _ _)))))); intro v270 w31 ho32 hb hg_ hnew_; clear hg_ hnew_; (first | rw [← Ny269.out] at ho32 | (simp only [Int.reduceToNat] at ho32; rw [← Ny269.out] at ho32)); have n0_ := Aside0.mk (Kd.R_below (RFn.mR HO266) hb); have n1_ := Aside0.mk (Kd.R_lower ho32 (below_size (RFn.bel))); have n2_ := Aside0.mk (below_step (RFn.bel) hb); clear HO266; clear HB; have HO266 := n0_; have HO271 := n1_; have HB := n2_; clear n0_ n1_ n2_; clear hb ho32; obtain ⟨Ao33, co33, eo33⟩ := Kd.R_slice HO271.out; subst eo33; have p272 : 0 ≤ ((ji12) : Int) := RFn.od; have q272 : (ji12) < (y269.length : Int) := RFn.od; obtain ⟨ad272, e272, hx272_0⟩ := Kd.at_string (Kd.R_reads' HO271.out).2.2 (ji12) p272 q272; cases e272; replace p272 := eq_true p272; replace q272 := eq_true q272))
             have n0_ := Aside0.mk (Kd.R_drew HO266.out)
             have n1_ := Aside0.mk (Kd.R_drew HO271.out)
             have n2_ := Aside0.mk (below_drew1 HB.out)
             clear HO266
             clear HO271
             clear HB
             have HO266 := n0_
             have HO271 := n1_
             have HB := n2_
             clear n0_ n1_ n2_
             refine start_ (n := 15) (S := fun w' => True) (ds := []) (bz 15 0) (by kernel_rfl) rfl rfl trivial (fun hHeld => ?_); refine with_tabW law10_CodecBlank.tab10 law10_CodecBlank.bits10 (fun HT_ HW_ => ?_)
             generalize w31.drew = w34 at HO266 HO271 HB hHeld ⊢
             refine RFn.pA (i := 0) (N := some 42) (bz 15 1) HT_ ?_
             refine RFn.pA (i := 1) (N := some 43) (bz 15 3) HT_ ?_
             refine RFn.pA (i := 2) (N := some 44) (bz 15 7) HT_ ?_
             refine RFn.pA (i := 3) (N := some 45) (bz 15 15) HT_ ?_
             refine RFn.pA (i := 4) (N := some 46) (bz 15 31) HT_ ?_
             refine RFn.pA (i := 5) (N := some 47) (bz 15 63) HT_ ?_
             refine RFn.pA (i := 6) (N := some 48) (bz 15 127) HT_ ?_
             refine RFn.pA (i := 7) (N := some 49) (bz 15 255) HT_ ?_
             refine RFn.pA (i := 8) (N := some 50) (bz 15 511) HT_ ?_
             refine RFn.o1 (i := 9) (N := some 51) (bz 15 1023) HT_ fun K hK => ?_
             refine goes_ Tryz.func13 (by kernel_rfl) rfl #[.string (((t267.extract 0 ((ji15) : Int).toNat) ++ (rdOf ByteArray.empty y269 (ji12))) ++ (t267.extract ((ji15) : Int).toNat t267.size))] (by rfl) rfl rfl (by (try simp only [List.map_toArray, List.map_cons, List.map_nil]); first | done | (simp only [hji12, hji15]; rfl) | rfl | (simp only [List.length_drop, List.length_take]; rfl)) ?_
             with_reducible refine (codec_Parse.calls (((t267.extract 0 ((ji15) : Int).toNat) ++ (rdOf ByteArray.empty y269 (ji12))) ++ (t267.extract ((ji15) : Int).toNat t267.size)) t273 t274 _ A22.out (Go.Proofs.YtjbdkdmoacdbpaaGreatDoor.X.LaidW.below hLd_ RFn.bel)).mono ?_
             rintro e w35 ⟨v275, rfl, ho0, hb⟩
             refine ⟨_, rfl, ?_⟩
             have n0_ := Aside0.mk (Kd.R_elder' (RFn.mR HO266) (Kd.R_base ho0) hb)
             have n1_ := Aside0.mk (Kd.R_below (RFn.mR HO271) hb)
             have n2_ := Aside0.mk (Kd.R_lower (Kd.R_new' ho0 (Kd.R_lt (RFn.mR HO266))) (below_size (RFn.bel)))
             have n3_ := Aside0.mk (below_step (RFn.bel) hb)
             clear HO266
             clear HO271
             clear HB
             have HO266 := n0_
             have HO271 := n1_
             have HO276 := n2_
             have HB := n3_
             clear n0_ n1_ n2_ n3_
             (try clear hb)
             (try clear hk)
             (try clear ho0)
             refine hK.out _ _ trivial (fun hHeld => ?_)
             clear hK K
             refine RFn.nm (some 51) ?_
             refine RFn.pA (i := 10) (N := some 41) (bz 15 2047) HT_ ?_
             refine RFn.pA (i := 11) (N := some 52) (bz 15 4095) HT_ ?_
             refine RFn.pA (i := 12) (N := some 53) (bz 15 8191) HT_ ?_
             refine RFn.pA (i := 13) (N := some 11) (bz 15 16383) HT_ ?_
             refine RFn.pA (i := 14) (N := some 12) (bz 15 32767) HT_ ?_
             refine RFn.dn HT_ ?_
             try go_wp2_with (first | ((with_reducible refine gate_callee (f := 13) rfl ?_); refine RFn.goesM (some 57) Tryz.func13 #[.string (t267 ++ (⟨#[69, 32, 97, 32, 102, 32, 45, 32, 48, 32, 48, 10]⟩ : ByteArray))] rfl ?_; (with_reducible refine (codec_Parse.calls (t267 ++ (⟨#[69, 32, 97, 32, 102, 32, 45, 32, 48, 32, 48, 10]⟩ : ByteArray)) t277 t278 _ A24.out (Go.Proofs.YtjbdkdmoacdbpaaGreatDoor.X.LaidW.below hLd_ RFn.bel)).mono ?_); rintro e w36 ⟨v279, rfl, ho0, hb⟩; refine ⟨_, rfl, ?_⟩; have n0_ := Aside0.mk (Kd.R_elder' (RFn.mR HO266) (Kd.R_base ho0) hb); have n1_ := Aside0.mk (Kd.R_below (RFn.mR HO271) hb); have n2_ := Aside0.mk (Kd.R_elder' (RFn.mR HO276) (Kd.R_base ho0) hb); have n3_ := Aside0.mk (Kd.R_lower (Kd.R_new' (Kd.R_new' ho0 (Kd.R_lt (RFn.mR HO266))) (Kd.R_lt (RFn.mR HO276))) (below_size (RFn.bel))); have n4_ := Aside0.mk (below_step (RFn.bel) hb); clear HO266; clear HO271; clear HO276; clear HB; have HO266 := n0_; have HO271 := n1_; have HO276 := n2_; have HO280 := n3_; have HB := n4_; clear n0_ n1_ n2_ n3_ n4_; (try clear hb); (try clear ho0)))
             go_ret
             exact ⟨by first | rfl | (simp [errW_none, errW_some] <;> rfl) | (simp only [← hji12, ← hji15]; first | rfl | (simp [errW_none, errW_some] <;> rfl)) | (simp [*, errW_none, errW_some] <;> rfl), RFn.bel⟩
            ·rw [if_neg c25] at H
             have c25b0 : (t274 == 5) = false := beq_eq_false_iff_ne.mpr c25
             have c25b1 : (t274 != 5) = true := bne_iff_ne.mpr c25
             obtain rfl := Option.some.inj H
             try have hji15w : Int.tmod (wrap64 (a1)) ((t267.size : Int) + 1) = ji15 := by rw [← hji15]; congr 1; have := of_decide_eq_true c23b1; unfold wrap64; omega
             try have c18w : (9223372036854775807 < ji15.toNat + (rdOf ByteArray.empty y269 (ji12)).size) = False := by have h1 := of_decide_eq_true c17b1; have h2 := of_decide_eq_true c18b1; rw [ByteArray.size_extract] at h2; exact eq_false (by omega)
             try have c21w : (9223372036854775807 < ji15.toNat + (rdOf ByteArray.empty y269 (ji12)).size + (t267.size - ji15.toNat)) = False := by have h1 := of_decide_eq_true c17b1; have h2 := of_decide_eq_true c21b1; rw [ByteArray.size_append, ByteArray.size_extract, ByteArray.size_extract] at h2; exact eq_false (by omega)
             go_enter Tryz.func5, Tryz.ntmps5
             try go_wp2_with (first | ((with_reducible refine gate_callee (f := 8) rfl ?_); refine RFn.goesM (some 15) Tryz.func8 #[] rfl ?_; (with_reducible refine (law10_alive.calls  true _ A4.out (Go.Proofs.YtjbdkdmoacdbpaaGreatDoor.X.LaidW.below hLd_ RFn.bel)).mono ?_); rintro e w37 ⟨rfl, hb⟩; refine ⟨_, rfl, ?_⟩; have n0_ := Aside0.mk (below_step (RFn.bel) hb); clear HB; have HB := n0_; clear n0_; (try clear hb); (try clear hk)) | ((with_reducible refine gate_callee (f := 9) rfl ?_); refine RFn.goesM (some 18) Tryz.func9 #[.slice A0 l0.length c0] rfl ?_; (with_reducible refine (law09_Few.calls k _ _ l0 true _ ?side1 ?side2 A6.out).mono ?_); (case side1 => exact RFn.mC (Kd.C_below HR0.out HB.out)); (case side2 => exact HC0.out); rintro e w38 ⟨rfl, hb⟩; refine ⟨_, rfl, ?_⟩; have n0_ := Aside0.mk (below_step (RFn.bel) hb); clear HB; have HB := n0_; clear n0_; (try clear hb); (try clear hk)) | ((with_reducible refine gate_callee (f := 11) rfl ?_); refine RFn.goesM (some 22) Tryz.func11 #[.slice A0 l0.length c0] rfl ?_; (with_reducible refine (law09_Theirs.calls k _ _ l0 t264 _ ?side1 ?side2 A8.out).mono ?_); (case side1 => exact RFn.mC (Kd.C_below HR0.out HB.out)); (case side2 => exact HC0.out); rintro e w39 ⟨v265, rfl, ho0, hb⟩; refine ⟨_, rfl, ?_⟩; have n0_ := Aside0.mk (Kd.R_lower ho0 (below_size (RFn.bel))); have n1_ := Aside0.mk (below_step (RFn.bel) hb); clear HB; have HO266 := n0_; have HB := n1_; clear n0_ n1_; (try clear hb); (try clear hk); (try clear ho0); obtain ⟨Ao40, co40, eo40⟩ := Kd.R_slice HO266.out; subst eo40) | ((with_reducible refine gate_callee (f := 10) rfl ?_); refine RFn.goesM (some 23) Tryz.func10 #[.slice Ao40 t264.length co40] rfl ?_; (with_reducible refine (codec_Print.calls _ _ t264 t267 t268 _ ?side1 ?side2 A9.out (Go.Proofs.YtjbdkdmoacdbpaaGreatDoor.X.LaidW.below hLd_ RFn.bel)).mono ?_); (case side1 => exact RFn.mC (Kd.R_reads' HO266.out).2.2); (case side2 => exact (Kd.R_reads' HO266.out).2.1); rintro e w41 ⟨rfl, hb⟩; refine ⟨_, rfl, ?_⟩; have n0_ := Aside0.mk (Kd.R_below (RFn.mR HO266) hb); have n1_ := Aside0.mk (below_step (RFn.bel) hb); clear HO266; clear HB; have HO266 := n0_; have HB := n1_; clear n0_ n1_; (try clear hb); (try clear hk)) | ((with_reducible refine gate_dst (N := 36) rfl ?_); refine Kd.R_lit Kd.string _ 9 ?hg (N := 36) ?hd (xs := ([(⟨#[32]⟩ : ByteArray), (⟨#[10]⟩ : ByteArray), (⟨#[9]⟩ : ByteArray), (⟨#[35]⟩ : ByteArray)] : List ByteArray)) (inner := [.string (⟨#[32]⟩ : ByteArray), .string (⟨#[10]⟩ : ByteArray), .string (⟨#[9]⟩ : ByteArray), .string (⟨#[35]⟩ : ByteArray)]) (ok := fun _ => True) (okp := fun _ => True) ?hr ?hp (fun _ hk => hk) trivial (Below.refl _ _) (Nat.le_refl _) (by simp) ?_; (case hd => rfl); (case hg => rfl); (case hr => first | (go_simp; done) | (go_simp; rfl)); (case hp => exact (Reps.one (show Kd.M Kd.string _ _ _ (⟨#[32]⟩ : ByteArray) [.string (⟨#[32]⟩ : ByteArray)] from rfl) (Reps.one (show Kd.M Kd.string _ _ _ (⟨#[10]⟩ : ByteArray) [.string (⟨#[10]⟩ : ByteArray)] from rfl) (Reps.one (show Kd.M Kd.string _ _ _ (⟨#[9]⟩ : ByteArray) [.string (⟨#[9]⟩ : ByteArray)] from rfl) (Reps.one (show Kd.M Kd.string _ _ _ (⟨#[35]⟩ : ByteArray) [.string (⟨#[35]⟩ : ByteArray)] from rfl) (Reps.none _ _)))))); intro v270 w42 ho43 hb hg_ hnew_; clear hg_ hnew_; (first | rw [← Ny269.out] at ho43 | (simp only [Int.reduceToNat] at ho43; rw [← Ny269.out] at ho43)); have n0_ := Aside0.mk (Kd.R_below (RFn.mR HO266) hb); have n1_ := Aside0.mk (Kd.R_lower ho43 (below_size (RFn.bel))); have n2_ := Aside0.mk (below_step (RFn.bel) hb); clear HO266; clear HB; have HO266 := n0_; have HO271 := n1_; have HB := n2_; clear n0_ n1_ n2_; clear hb ho43; obtain ⟨Ao44, co44, eo44⟩ := Kd.R_slice HO271.out; subst eo44; have p272 : 0 ≤ ((ji12) : Int) := RFn.od; have q272 : (ji12) < (y269.length : Int) := RFn.od; obtain ⟨ad272, e272, hx272_0⟩ := Kd.at_string (Kd.R_reads' HO271.out).2.2 (ji12) p272 q272; cases e272; replace p272 := eq_true p272; replace q272 := eq_true q272))
             have n0_ := Aside0.mk (Kd.R_drew HO266.out)
             have n1_ := Aside0.mk (Kd.R_drew HO271.out)
             have n2_ := Aside0.mk (below_drew1 HB.out)
             clear HO266
             clear HO271
             clear HB
             have HO266 := n0_
             have HO271 := n1_
             have HB := n2_
             clear n0_ n1_ n2_
             refine start_ (n := 15) (S := fun w' => True) (ds := []) (bz 15 0) (by kernel_rfl) rfl rfl trivial (fun hHeld => ?_); refine with_tabW law10_CodecBlank.tab10 law10_CodecBlank.bits10 (fun HT_ HW_ => ?_)
             generalize w42.drew = w45 at HO266 HO271 HB hHeld ⊢
             refine RFn.pA (i := 0) (N := some 42) (bz 15 1) HT_ ?_
             refine RFn.pA (i := 1) (N := some 43) (bz 15 3) HT_ ?_
             refine RFn.pA (i := 2) (N := some 44) (bz 15 7) HT_ ?_
             refine RFn.pA (i := 3) (N := some 45) (bz 15 15) HT_ ?_
             refine RFn.pA (i := 4) (N := some 46) (bz 15 31) HT_ ?_
             refine RFn.pA (i := 5) (N := some 47) (bz 15 63) HT_ ?_
             refine RFn.pA (i := 6) (N := some 48) (bz 15 127) HT_ ?_
             refine RFn.pA (i := 7) (N := some 49) (bz 15 255) HT_ ?_
             refine RFn.pA (i := 8) (N := some 50) (bz 15 511) HT_ ?_
             refine RFn.o1 (i := 9) (N := some 51) (bz 15 1023) HT_ fun K hK => ?_
             refine goes_ Tryz.func13 (by kernel_rfl) rfl #[.string (((t267.extract 0 ((ji15) : Int).toNat) ++ (rdOf ByteArray.empty y269 (ji12))) ++ (t267.extract ((ji15) : Int).toNat t267.size))] (by rfl) rfl rfl (by (try simp only [List.map_toArray, List.map_cons, List.map_nil]); first | done | (simp only [hji12, hji15]; rfl) | rfl | (simp only [List.length_drop, List.length_take]; rfl)) ?_
             with_reducible refine (codec_Parse.calls (((t267.extract 0 ((ji15) : Int).toNat) ++ (rdOf ByteArray.empty y269 (ji12))) ++ (t267.extract ((ji15) : Int).toNat t267.size)) t273 t274 _ A22.out (Go.Proofs.YtjbdkdmoacdbpaaGreatDoor.X.LaidW.below hLd_ RFn.bel)).mono ?_
             rintro e w46 ⟨v275, rfl, ho0, hb⟩
             refine ⟨_, rfl, ?_⟩
             have n0_ := Aside0.mk (Kd.R_elder' (RFn.mR HO266) (Kd.R_base ho0) hb)
             have n1_ := Aside0.mk (Kd.R_below (RFn.mR HO271) hb)
             have n2_ := Aside0.mk (Kd.R_lower (Kd.R_new' ho0 (Kd.R_lt (RFn.mR HO266))) (below_size (RFn.bel)))
             have n3_ := Aside0.mk (below_step (RFn.bel) hb)
             clear HO266
             clear HO271
             clear HB
             have HO266 := n0_
             have HO271 := n1_
             have HO276 := n2_
             have HB := n3_
             clear n0_ n1_ n2_ n3_
             (try clear hb)
             (try clear hk)
             (try clear ho0)
             refine hK.out _ _ trivial (fun hHeld => ?_)
             clear hK K
             refine RFn.nm (some 51) ?_
             refine RFn.pA (i := 10) (N := some 41) (bz 15 2047) HT_ ?_
             refine RFn.pA (i := 11) (N := some 52) (bz 15 4095) HT_ ?_
             refine RFn.pA (i := 12) (N := some 53) (bz 15 8191) HT_ ?_
             refine RFn.pA (i := 13) (N := some 11) (bz 15 16383) HT_ ?_
             refine RFn.pA (i := 14) (N := some 12) (bz 15 32767) HT_ ?_
             refine RFn.dn HT_ ?_
             try go_wp2_with (first | ((with_reducible refine gate_callee (f := 13) rfl ?_); refine RFn.goesM (some 57) Tryz.func13 #[.string (t267 ++ (⟨#[69, 32, 97, 32, 102, 32, 45, 32, 48, 32, 48, 10]⟩ : ByteArray))] rfl ?_; (with_reducible refine (codec_Parse.calls (t267 ++ (⟨#[69, 32, 97, 32, 102, 32, 45, 32, 48, 32, 48, 10]⟩ : ByteArray)) t277 t278 _ A24.out (Go.Proofs.YtjbdkdmoacdbpaaGreatDoor.X.LaidW.below hLd_ RFn.bel)).mono ?_); rintro e w47 ⟨v279, rfl, ho0, hb⟩; refine ⟨_, rfl, ?_⟩; have n0_ := Aside0.mk (Kd.R_elder' (RFn.mR HO266) (Kd.R_base ho0) hb); have n1_ := Aside0.mk (Kd.R_below (RFn.mR HO271) hb); have n2_ := Aside0.mk (Kd.R_elder' (RFn.mR HO276) (Kd.R_base ho0) hb); have n3_ := Aside0.mk (Kd.R_lower (Kd.R_new' (Kd.R_new' ho0 (Kd.R_lt (RFn.mR HO266))) (Kd.R_lt (RFn.mR HO276))) (below_size (RFn.bel))); have n4_ := Aside0.mk (below_step (RFn.bel) hb); clear HO266; clear HO271; clear HO276; clear HB; have HO266 := n0_; have HO271 := n1_; have HO276 := n2_; have HO280 := n3_; have HB := n4_; clear n0_ n1_ n2_ n3_ n4_; (try clear hb); (try clear ho0)))
             go_ret
             exact ⟨by first | rfl | (simp [errW_none, errW_some] <;> rfl) | (simp only [← hji12, ← hji15]; first | rfl | (simp [errW_none, errW_some] <;> rfl)) | (simp [*, errW_none, errW_some] <;> rfl), RFn.bel⟩
           ·rw [if_neg c23] at H
            exact absurd H (by simp)
          ·rw [if_neg c21] at H
           exact absurd H (by simp)
         ·rw [if_neg c18] at H
          exact absurd H (by simp)
        ·rw [if_neg c17] at H
         exact absurd H (by simp)
       ·rw [if_neg c16] at H
        exact absurd H (by simp)
      ·rw [if_neg c14] at H
       exact absurd H (by simp)
     ·rw [if_neg c13] at H
      exact absurd H (by simp)
   ·rw [if_neg c10] at H
    have c10b0 : (t268 == 0) = false := beq_eq_false_iff_ne.mpr c10
    have c10b1 : (t268 != 0) = true := bne_iff_ne.mpr c10
    obtain rfl := Option.some.inj H
    try have hji15w : Int.tmod (wrap64 (a1)) ((t267.size : Int) + 1) = ji15 := by rw [← hji15]; congr 1; have := of_decide_eq_true c23b1; unfold wrap64; omega
    try have c18w : (9223372036854775807 < ji15.toNat + (rdOf ByteArray.empty y269 (ji12)).size) = False := by have h1 := of_decide_eq_true c17b1; have h2 := of_decide_eq_true c18b1; rw [ByteArray.size_extract] at h2; exact eq_false (by omega)
    try have c21w : (9223372036854775807 < ji15.toNat + (rdOf ByteArray.empty y269 (ji12)).size + (t267.size - ji15.toNat)) = False := by have h1 := of_decide_eq_true c17b1; have h2 := of_decide_eq_true c21b1; rw [ByteArray.size_append, ByteArray.size_extract, ByteArray.size_extract] at h2; exact eq_false (by omega)
    go_enter Tryz.func5, Tryz.ntmps5
    go_wp2_with (first | ((with_reducible refine gate_callee (f := 8) rfl ?_); refine RFn.goesM (some 15) Tryz.func8 #[] rfl ?_; (with_reducible refine (law10_alive.calls  true _ A4.out (Go.Proofs.YtjbdkdmoacdbpaaGreatDoor.X.LaidW.below hLd_ RFn.bel)).mono ?_); rintro e w48 ⟨rfl, hb⟩; refine ⟨_, rfl, ?_⟩; have n0_ := Aside0.mk (below_step (RFn.bel) hb); clear HB; have HB := n0_; clear n0_; (try clear hb)) | ((with_reducible refine gate_callee (f := 9) rfl ?_); refine RFn.goesM (some 18) Tryz.func9 #[.slice A0 l0.length c0] rfl ?_; (with_reducible refine (law09_Few.calls k _ _ l0 true _ ?side1 ?side2 A6.out).mono ?_); (case side1 => exact RFn.mC (Kd.C_below HR0.out HB.out)); (case side2 => exact HC0.out); rintro e w49 ⟨rfl, hb⟩; refine ⟨_, rfl, ?_⟩; have n0_ := Aside0.mk (below_step (RFn.bel) hb); clear HB; have HB := n0_; clear n0_; (try clear hb)) | ((with_reducible refine gate_callee (f := 11) rfl ?_); refine RFn.goesM (some 22) Tryz.func11 #[.slice A0 l0.length c0] rfl ?_; (with_reducible refine (law09_Theirs.calls k _ _ l0 t264 _ ?side1 ?side2 A8.out).mono ?_); (case side1 => exact RFn.mC (Kd.C_below HR0.out HB.out)); (case side2 => exact HC0.out); rintro e w50 ⟨v265, rfl, ho0, hb⟩; refine ⟨_, rfl, ?_⟩; have n0_ := Aside0.mk (Kd.R_lower ho0 (below_size (RFn.bel))); have n1_ := Aside0.mk (below_step (RFn.bel) hb); clear HB; have HO266 := n0_; have HB := n1_; clear n0_ n1_; (try clear hb); (try clear ho0); obtain ⟨Ao51, co51, eo51⟩ := Kd.R_slice HO266.out; subst eo51) | ((with_reducible refine gate_callee (f := 10) rfl ?_); refine RFn.goesM (some 23) Tryz.func10 #[.slice Ao51 t264.length co51] rfl ?_; (with_reducible refine (codec_Print.calls _ _ t264 t267 t268 _ ?side1 ?side2 A9.out (Go.Proofs.YtjbdkdmoacdbpaaGreatDoor.X.LaidW.below hLd_ RFn.bel)).mono ?_); (case side1 => exact RFn.mC (Kd.R_reads' HO266.out).2.2); (case side2 => exact (Kd.R_reads' HO266.out).2.1); rintro e w52 ⟨rfl, hb⟩; refine ⟨_, rfl, ?_⟩; have n0_ := Aside0.mk (Kd.R_below (RFn.mR HO266) hb); have n1_ := Aside0.mk (below_step (RFn.bel) hb); clear HO266; clear HB; have HO266 := n0_; have HB := n1_; clear n0_ n1_; (try clear hb)))
    go_ret
    exact ⟨by first | rfl | (simp [errW_none, errW_some] <;> rfl) | (simp [*, errW_none, errW_some] <;> rfl), RFn.bel⟩
  ·replace c7 := Bool.eq_false_iff.mpr c7
   subst c7
   have H1 : (some true) = some r := by rw [if_neg (show ¬ (false = true) by decide)] at H; exact H
   clear H
   have H := H1
   clear H1
   obtain rfl := Option.some.inj H
   try have hji15w : Int.tmod (wrap64 (a1)) ((t267.size : Int) + 1) = ji15 := by rw [← hji15]; congr 1; have := of_decide_eq_true c23b1; unfold wrap64; omega
   try have c18w : (9223372036854775807 < ji15.toNat + (rdOf ByteArray.empty y269 (ji12)).size) = False := by have h1 := of_decide_eq_true c17b1; have h2 := of_decide_eq_true c18b1; rw [ByteArray.size_extract] at h2; exact eq_false (by omega)
   try have c21w : (9223372036854775807 < ji15.toNat + (rdOf ByteArray.empty y269 (ji12)).size + (t267.size - ji15.toNat)) = False := by have h1 := of_decide_eq_true c17b1; have h2 := of_decide_eq_true c21b1; rw [ByteArray.size_append, ByteArray.size_extract, ByteArray.size_extract] at h2; exact eq_false (by omega)
   go_enter Tryz.func5, Tryz.ntmps5
   go_wp2_with (first | ((with_reducible refine gate_callee (f := 8) rfl ?_); refine RFn.goesM (some 15) Tryz.func8 #[] rfl ?_; (with_reducible refine (law10_alive.calls  true _ A4.out (Go.Proofs.YtjbdkdmoacdbpaaGreatDoor.X.LaidW.below hLd_ RFn.bel)).mono ?_); rintro e w53 ⟨rfl, hb⟩; refine ⟨_, rfl, ?_⟩; have n0_ := Aside0.mk (below_step (RFn.bel) hb); clear HB; have HB := n0_; clear n0_; (try clear hb)) | ((with_reducible refine gate_callee (f := 9) rfl ?_); refine RFn.goesM (some 18) Tryz.func9 #[.slice A0 l0.length c0] rfl ?_; (with_reducible refine (law09_Few.calls k _ _ l0 false _ ?side1 ?side2 A6.out).mono ?_); (case side1 => exact RFn.mC (Kd.C_below HR0.out HB.out)); (case side2 => exact HC0.out); rintro e w54 ⟨rfl, hb⟩; refine ⟨_, rfl, ?_⟩; have n0_ := Aside0.mk (below_step (RFn.bel) hb); clear HB; have HB := n0_; clear n0_; (try clear hb)))
   go_ret
   exact ⟨by first | rfl | (simp [errW_none, errW_some] <;> rfl) | (simp [*, errW_none, errW_some] <;> rfl), RFn.bel⟩
 ·replace c5 := Bool.eq_false_iff.mpr c5
  subst c5
  have H1 : (some false) = some r := by rw [if_neg (show ¬ (false = true) by decide)] at H; exact H
  clear H
  have H := H1
  clear H1
  obtain rfl := Option.some.inj H
  try have hji15w : Int.tmod (wrap64 (a1)) ((t267.size : Int) + 1) = ji15 := by rw [← hji15]; congr 1; have := of_decide_eq_true c23b1; unfold wrap64; omega
  try have c18w : (9223372036854775807 < ji15.toNat + (rdOf ByteArray.empty y269 (ji12)).size) = False := by have h1 := of_decide_eq_true c17b1; have h2 := of_decide_eq_true c18b1; rw [ByteArray.size_extract] at h2; exact eq_false (by omega)
  try have c21w : (9223372036854775807 < ji15.toNat + (rdOf ByteArray.empty y269 (ji12)).size + (t267.size - ji15.toNat)) = False := by have h1 := of_decide_eq_true c17b1; have h2 := of_decide_eq_true c21b1; rw [ByteArray.size_append, ByteArray.size_extract, ByteArray.size_extract] at h2; exact eq_false (by omega)
  go_enter Tryz.func5, Tryz.ntmps5
  go_wp2_with (first | ((with_reducible refine gate_callee (f := 8) rfl ?_); refine RFn.goesM (some 15) Tryz.func8 #[] rfl ?_; (with_reducible refine (law10_alive.calls  false _ A4.out (Go.Proofs.YtjbdkdmoacdbpaaGreatDoor.X.LaidW.below hLd_ RFn.bel)).mono ?_); rintro e w55 ⟨rfl, hb⟩; refine ⟨_, rfl, ?_⟩; have n0_ := Aside0.mk (below_step (RFn.bel) hb); clear HB; have HB := n0_; clear n0_; (try clear hb)))
  go_ret
  exact ⟨by first | rfl | (simp [errW_none, errW_some] <;> rfl) | (simp [*, errW_none, errW_some] <;> rfl), RFn.bel⟩
/-- THE ONE PURE STATEMENT of law10_CodecBlank: ours. -/
def law10_CodecBlank.Pure : Prop := ∀ (l0 : List (S54)) (a1 : Int) (a2 : Int), l0.length ≤ 9223372036854775807 → (∀ x ∈ l0, g54 x) → (Lit.int .u16 a1).wf = true → (Lit.int .u8 a2).wf = true → ∃ k, law10_CodecBlank.f k l0 a1 a2 = some true
end Go.Proofs.YtjbdkdmoacdbpaaGreatDoor.Q
