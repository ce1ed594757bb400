/- Proved: for any cube of facts: its text has a line for each fact and one more, or there is none; a longer cube has a longer text. No condition but what Go itself can hold. -/
import Derived.Test.YtjbdkdmoacdbpaaGreatDoorQx30
import Derived.Test.YtjbdkdmoacdbpaaGreatDoorGC
set_option linter.unusedVariables false
set_option linter.unusedSimpArgs false
namespace Go.Proofs.YtjbdkdmoacdbpaaGreatDoor.Pure
open Go Go.RowKit Go.Proofs.YtjbdkdmoacdbpaaGreatDoor.Q Go.Proofs.YtjbdkdmoacdbpaaGreatDoor.M Go.Proofs.YtjbdkdmoacdbpaaGreatDoorW.PrintWords Go.Proofs.YtjbdkdmoacdbpaaGreatDoorW.PrintLast Go.Proofs.YtjbdkdmoacdbpaaGreatDoor.XC Go.Proofs.YtjbdkdmoacdbpaaGreatDoor.X
theorem cnt_bytes (l : List UInt8) : XLi.cnt (bs l) = l.count 10 := by
  show ((l.map fun b => ((b.toNat : Nat) : Int)).count 10) = _
  induction l with
  | nil => rfl
  | cons c l ih =>
    rw [List.map_cons, List.count_cons, List.count_cons, ih]
    congr 1
    have : (((c.toNat : Nat) : Int) == 10) = (c == 10) := by
      rw [Bool.eq_iff_iff, beq_iff_eq, beq_iff_eq]
      exact ⟨fun h => UInt8.toNat.inj (by have : c.toNat = 10 := by omega
                                          rw [this]; rfl), fun h => by rw [h]; rfl⟩
    rw [this]
theorem itoa3 : ∀ n, n ≤ 150 → (Lib.itoa ((n : Nat) : Int)).length ≤ 3 := by decide +kernel
theorem right_take {l : List FF} (h : rightS l = true) (m : Nat) : rightS (l.take m) = true := by
  unfold rightS at h ⊢
  rw [Bool.and_eq_true, decide_eq_true_eq, rc_none] at h ⊢
  obtain ⟨⟨h1, h2⟩, h3⟩ := h
  refine ⟨⟨fun x hx => h1 x (List.mem_of_mem_take hx), ?_⟩, by rw [List.length_take]; omega⟩
  rw [List.map_take]
  exact List.Pairwise.sublist (List.take_sublist _ _) h2
theorem good_take {l : List FF} (h : M.Good l) (m : Nat) : M.Good (l.take m) := by
  refine ⟨?_, fun x hx => h.2 x (List.mem_of_mem_take hx)⟩
  unfold goodC
  rw [right_take h.right, Bool.true_and, List.all_eq_true]
  exact fun x hx => h.key x (List.mem_of_mem_take hx)
theorem line_six (x : FF) : 6 ≤ (lineTx x).length := by
  rw [line_ws]
  unfold wsL
  simp only [List.length_append, List.length_cons, List.length_nil]
  omega
theorem text_less {l : List FF} (h0 : l ≠ []) (hl : l.length ≤ 150) : (textTx (l.take (l.length - 1))).length < (textTx l).length := by
  obtain ⟨P, x, rfl⟩ : ∃ P x, l = P ++ [x] := ⟨l.dropLast, l.getLast h0, (List.dropLast_concat_getLast h0).symm⟩
  have e : (P ++ [x]).take ((P ++ [x]).length - 1) = P := by simp
  rw [e]
  have hb : bodyTx (P ++ [x]) = bodyTx P ++ lineTx x := by unfold bodyTx; simp
  have h6 := line_six x
  have h1 := head_len (P ++ [x]).length
  have h2 : (headTx P.length).length ≤ 9 := by
    have := itoa3 P.length (by rw [List.length_append] at hl; omega)
    unfold headTx; simp; omega
  unfold textTx
  rw [hb]
  obtain ⟨n, hn⟩ : ∃ n, (P ++ [x]).length = n := ⟨_, rfl⟩
  rw [hn] at h1 ⊢
  simp only [List.length_append]
  omega
theorem CodecLines : law10_CodecLines.Pure := by
  intro l0 hl0 hg0
  obtain ⟨b, ⟨K1, h1⟩, h2⟩ := few_is hl0 hg0
  cases b with
  | false =>
    refine ⟨K1, ?_⟩
    unfold law10_CodecLines.f
    rw [if_pos ⟨alive_f, false, h1 K1 (Nat.le_refl _), fun h => by cases h⟩]
  | true =>
    have f0 := h2 rfl
    obtain ⟨K2, t1⟩ := theirs_f (l := l0) (by have := f0.len; omega)
    obtain ⟨K3, t2⟩ := theirs_f (l := l0.take (l0.length - 1)) (by rw [List.length_take]; have := f0.len; omega)
    refine ⟨K1 + K2 + K3, ?_⟩
    unfold law10_CodecLines.f
    rw [if_pos]
    refine ⟨alive_f, true, h1 _ (by omega), fun _ => ⟨f0.len, ?_⟩⟩
    have hp := print_is f0.small
    by_cases g0 : goodC (l0.map tf) (rightS (l0.map tf)) = true
    case neg =>
      rw [if_neg g0] at hp
      exact ⟨_, _, _, t1 _ (by omega), hp, by rw [bs_size]; simp, .inl ⟨rfl, rfl⟩⟩
    have G0 : M.Good (l0.map tf) := ⟨g0, f0.i64⟩
    rw [if_pos g0] at hp
    have hlen := good_len G0 (by rw [List.length_map]; exact f0.len)
    refine ⟨_, _, _, t1 _ (by omega), hp, by rw [bs_size]; omega, .inr ⟨rfl, by rw [cnt_bytes, text_10 G0.key, List.length_map], ?_⟩⟩
    by_cases h0 : l0 = []
    · subst h0
      exact .inl ⟨rfl, by decide +kernel⟩
    · have hG := good_take G0 (l0.length - 1)
      rw [← List.map_take] at hG
      have hS : Small ((l0.take (l0.length - 1)).map tf) := (FewA.mk (l := l0.take (l0.length - 1)) (by rw [List.length_take]; have := f0.len; omega) (fun x hx => f0.sz x (List.mem_of_mem_take hx)) (fun x hx => f0.ints x (List.mem_of_mem_take hx))).small
      have hp2 := print_is hS
      rw [if_pos hG.1] at hp2
      refine .inr ⟨h0, _, _, t2 _ (by omega), hp2, ?_⟩
      have := text_less (l := l0.map tf) (by simpa using h0) (by rw [List.length_map]; exact f0.len)
      rw [List.length_map, ← List.map_take] at this
      rw [bs_size, bs_size]; exact this
end Go.Proofs.YtjbdkdmoacdbpaaGreatDoor.Pure
