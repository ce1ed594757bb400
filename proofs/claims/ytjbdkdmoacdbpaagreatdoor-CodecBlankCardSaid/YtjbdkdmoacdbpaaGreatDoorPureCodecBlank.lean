/- Proved: for any cube of facts, any place and any of a blank, an end of a line, a tab and a mark: the cube's text with that byte more is no cube's, nor is it with one line more of an amount of nothing. No condition but what Go itself can hold. -/
import Derived.Test.YtjbdkdmoacdbpaaGreatDoorQx12
import Derived.Test.YtjbdkdmoacdbpaaGreatDoorGC
set_option linter.unusedVariables false
set_option linter.unusedSimpArgs false
namespace Go.Proofs.YtjbdkdmoacdbpaaGreatDoor.Pure
open Go Go.RowKit Go.Proofs.YtjbdkdmoacdbpaaGreatDoor.Q Go.Proofs.YtjbdkdmoacdbpaaGreatDoor.M Go.Proofs.YtjbdkdmoacdbpaaGreatDoorW.PrintWords Go.Proofs.YtjbdkdmoacdbpaaGreatDoorW.PrintLast Go.Proofs.YtjbdkdmoacdbpaaGreatDoor.XC
theorem parse_no {s : List UInt8} (hs : s.length ≤ 20000) (h : ∀ l, M.Good l → textTx l ≠ s) : codec_Parse.f (bs s) = some ([], 5) := parse_bad hs h
theorem CodecBlank : law10_CodecBlank.Pure := by
  intro l0 a1 a2 hl0 hg0 wa1 wa2
  refine Ev.rounds (g := fun k => law10_CodecBlank.f k l0 a1 a2) ?_
  unfold law10_CodecBlank.f
  rw [alive_f]
  simp only [Option.bind_some, if_true]
  obtain ⟨b, h1, h2⟩ := few_is hl0 hg0
  refine Ev.bind h1 ?_
  cases b with
  | false => simp only [Bool.false_eq_true, if_false]; exact Ev.now _
  | true =>
  simp only [if_true]
  have f0 := h2 rfl
  refine Ev.bind (theirs_f (l := l0) (by have := f0.len; omega)) ?_
  rw [print_is f0.small]
  simp only [Option.bind_some]
  by_cases g0 : goodC (l0.map tf) (rightS (l0.map tf)) = true
  case neg =>
    rw [if_neg g0]
    simp only [if_neg (show ¬ ((1 : Int) = 0) by decide), bs_toList, beq_self_eq_true]
    exact Ev.now _
  have G0 : M.Good (l0.map tf) := ⟨g0, f0.i64⟩
  rw [if_pos g0]
  simp only [if_true]
  obtain ⟨s, hs⟩ : ∃ s, textTx (l0.map tf) = s := ⟨_, rfl⟩
  have hlen : s.length ≤ 15000 := by rw [← hs]; exact good_len G0 (by rw [List.length_map]; exact f0.len)
  rw [hs, bs_size]
  have hb1 : 0 ≤ a1 ∧ a1 ≤ 65535 := wf_u16 wa1
  have hb2 : 0 ≤ a2 ∧ a2 ≤ 255 := wf_u8 wa2
  have e1 : wrap64 ((s.length : Int) + 1) = (s.length : Int) + 1 := by unfold wrap64; omega
  have e2 : wrap64 a1 = a1 := by unfold wrap64; omega
  rw [e1, e2, if_neg (by omega)]
  obtain ⟨j, hj⟩ : ∃ j : Nat, Int.tmod a2 4 = j := ⟨(Int.tmod a2 4).toNat, by have := Int.tmod_nonneg 4 hb2.1; omega⟩
  have hj4 : j < 4 := by have := Int.tmod_lt_of_pos a2 (show (0 : Int) < 4 by decide); omega
  obtain ⟨k, hk⟩ : ∃ k : Nat, Int.tmod a1 ((s.length : Int) + 1) = k := ⟨(Int.tmod a1 ((s.length : Int) + 1)).toNat, by have := Int.tmod_nonneg ((s.length : Int) + 1) hb1.1; omega⟩
  have hks : k ≤ s.length := by have := Int.tmod_lt_of_pos a1 (show (0 : Int) < (s.length : Int) + 1 by omega); omega
  obtain ⟨c, hc, hcb⟩ : ∃ c : UInt8, rdOf ByteArray.empty ([(⟨#[32]⟩ : ByteArray), (⟨#[10]⟩ : ByteArray), (⟨#[9]⟩ : ByteArray), (⟨#[35]⟩ : ByteArray)] : List ByteArray) (j : Int) = bs [c] ∧ (c = 32 ∨ c = 10 ∨ c = 9 ∨ c = 35) := by
    match j, hj4 with
    | 0, _ => exact ⟨32, rfl, by simp⟩
    | 1, _ => exact ⟨10, rfl, by simp⟩
    | 2, _ => exact ⟨9, rfl, by simp⟩
    | 3, _ => exact ⟨35, rfl, by simp⟩
  rw [hj, hk]
  simp only [Option.bind_some, List.length_cons, List.length_nil]
  rw [if_pos (by omega), if_pos (by omega), if_pos (by omega), if_pos (by omega), hc, Int.toNat_natCast]
  have x1 : (bs s).extract 0 k = bs (s.take k) := by rw [bs_extract]; simp
  have x2 : (bs s).extract k s.length = bs (s.drop k) := by rw [bs_extract]; congr 1; rw [List.take_of_length_le (by rw [List.length_drop]; omega)]
  rw [x1, x2, bs_append, bs_append]
  have hA : codec_Parse.f (bs (s.take k ++ [c] ++ s.drop k)) = some ([], 5) := parse_no (by simp; omega) (by rw [← hs]; exact byte_none G0 k hcb)
  have hB : codec_Parse.f (bs s ++ (⟨#[69, 32, 97, 32, 102, 32, 45, 32, 48, 32, 48, 10]⟩ : ByteArray)) = some ([], 5) := by
    rw [show (⟨#[69, 32, 97, 32, 102, 32, 45, 32, 48, 32, 48, 10]⟩ : ByteArray) = bs [69, 32, 97, 32, 102, 32, 45, 32, 48, 32, 48, 10] from rfl, bs_append]
    exact parse_no (by simp; omega) (by rw [← hs]; exact more_none G0 (by decide))
  simp only [bs_size, hA, hB, Option.bind_some]
  rw [if_pos (by simp; omega), if_pos (by simp; omega), if_pos (by omega)]
  exact Ev.now _
end Go.Proofs.YtjbdkdmoacdbpaaGreatDoor.Pure
