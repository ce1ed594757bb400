/- LexRemarks: what stands behind a mark counts nothing, and lines without it are as they are. Condition: none beyond the law's own. -/
import Derived.Test.YtffdhekmnoajiaaDoorQx7
import Derived.Test.YtffdhekmnoajiaaDoorCAlive05
set_option linter.unusedVariables false
set_option linter.unusedSimpArgs false
namespace Go.Proofs.YtffdhekmnoajiaaDoor.Pure
open Go.RowKit Go.Proofs.YtffdhekmnoajiaaDoorW.PrintWords Go.Proofs.YtffdhekmnoajiaaDoorW.PrintLast Go.Proofs.YtffdhekmnoajiaaDoorW.PrintMore Go.Proofs.YtffdhekmnoajiaaDoor.Q Go.Proofs.YtffdhekmnoajiaaDoor.X Go.Proofs.YtffdhekmnoajiaaDoor.M Go.Proofs.YtffdhekmnoajiaaDoor.XR
theorem any_bs {p : Int → Bool} {s : List UInt8} (h : (bytesL (bs s)).any p = false) : ∀ c ∈ s, p c.toNat = false := by
  intro c hc
  rw [bytesL_bs, List.any_map, List.any_eq_false] at h
  have := h c hc
  simpa using this
theorem okR {c : UInt8} (h : badR c.toNat = false) : oddM c = false ∧ c ≠ 10 := by
  unfold badR at h
  simp only [Bool.or_eq_false_iff, decide_eq_false_iff_not] at h
  have n10 : c ≠ 10 := fun e => by have : c.toNat = 10 := by rw [e]; rfl
                                   omega
  refine ⟨?_, n10⟩
  unfold oddM
  have e1 : decide (c.toNat < 32) = false := decide_eq_false (by omega)
  have e2 : decide (126 < c.toNat) = false := decide_eq_false (by omega)
  rw [e1, e2]; simp
theorem okS {c : UInt8} (h : badS c.toNat = false) : oddM c = false ∧ c ≠ 10 ∧ c ≠ 35 := by
  unfold badS at h
  simp only [Bool.or_eq_false_iff, decide_eq_false_iff_not, beq_eq_false_iff_ne] at h
  have := okR (c := c) (by unfold badR; simp only [Bool.or_eq_false_iff, decide_eq_false_iff_not]; exact ⟨h.1.2, h.2⟩)
  exact ⟨this.1, this.2, fun e => by have : c.toNat = 35 := by rw [e]; rfl
                                     omega⟩
theorem odd_none {s : List UInt8} (h : ∀ c ∈ s, oddM c = false) : s.any oddM = false := by
  rw [List.any_eq_false]; intro c hc; rw [h c hc]; simp
theorem text_one {s t : List UInt8} (hs : t.length ≤ 20000) (ho : ∀ c ∈ t, oddM c = false) {ps : List (List UInt8)} (hl : linesM t = ps) : linesT t = (outM 1 ps, 0) := by
  unfold linesT
  rw [if_neg (by omega), odd_none ho, if_neg (by simp)]
  show (outM 1 (linesM t), _) = _
  rw [hl]
theorem LexRemarks : law05_LexRemarks.Pure := by
  intro a0 a1 _ _
  obtain ⟨s, rfl⟩ := bs_eta a0
  obtain ⟨r, rfl⟩ := bs_eta a1
  obtain ⟨K1, h1⟩ := alive_f
  have hlen : ((outM 1 [s]).map s42).length ≤ 1 := by
    rw [List.length_map]; simp only [outM]; split <;> simp
  obtain ⟨K2, h2⟩ := ours_f (l := (outM 1 [s]).map s42) (by omega)
  have hw : ∀ x ∈ ((outM 1 [s]).map s42).map t49, x.f1.length ≤ s.length + 1 := by
    intro x hx
    obtain ⟨y, hy, rfl⟩ := List.mem_map.1 hx
    obtain ⟨z, hz, rfl⟩ := List.mem_map.1 hy
    simp only [outM] at hz
    split at hz
    · cases hz
    · obtain rfl : z = (1, wordsM s) := by simpa using hz
      show ((wordsM s).map bs).length ≤ _
      rw [List.length_map]
      have h1 := wordsC_len (cutM s) []
      have h2 := (List.takeWhile_prefix (l := s) (fun c => c != 35)).length_le
      unfold wordsM
      unfold cutM at h1 ⊢
      omega
  by_cases c : s.length ≤ 3000
  · obtain ⟨K3, h3⟩ := same_f (l := ((outM 1 [s]).map s42).map t49) (by rw [List.length_map]; omega) (fun x hx => by have := hw x hx; omega)
    refine ⟨K1 + K2 + K3, ?_⟩
    unfold law05_LexRemarks.f
    rw [if_pos]
    refine ⟨h1 _ (by omega), fun hs hr hbr hbs => ?_⟩
    rw [bs_size] at hs hr
    have hR : ∀ c ∈ r, oddM c = false ∧ c ≠ 10 := fun c hc => okR (any_bs hbr c hc)
    have hS : ∀ c ∈ s, oddM c = false ∧ c ≠ 10 ∧ c ≠ 35 := fun c hc => okS (any_bs hbs c hc)
    have m10 : 10 ∉ s := fun hm => (hS 10 hm).2.1 rfl
    have m35 : 35 ∉ s := fun hm => (hS 35 hm).2.2 rfl
    have r10 : 10 ∉ r := fun hm => (hR 10 hm).2 rfl
    have ws : cutM s = s := takeWhile_none m35
    have e1 : linesT s = (outM 1 [s], 0) := text_one (s := s) (by omega) (fun c hc => (hS c hc).1) (linesM_plain m10)
    have e2 : linesT (s ++ 35 :: r) = (outM 1 [s ++ 35 :: r], 0) := by
      refine text_one (s := s) (by simp; omega) (fun c hc => ?_) (linesM_plain ?_)
      · rcases List.mem_append.1 hc with hc | hc
        · exact (hS c hc).1
        · rcases List.mem_cons.1 hc with rfl | hc
          · decide
          · exact (hR c hc).1
      · intro hm
        rcases List.mem_append.1 hm with hm | hm
        · exact m10 hm
        · rcases List.mem_cons.1 hm with hm | hm
          · exact absurd hm (by decide)
          · exact r10 hm
    have w2 : wordsM (s ++ 35 :: r) = wordsM s := by
      unfold wordsM
      rw [ws, show cutM (s ++ 35 :: r) = s from takeWhile_at m35]
    have o2 : outM 1 [s ++ 35 :: r] = outM 1 [s] := by simp only [outM, w2]
    have e3 : linesT (35 :: r ++ 10 :: s) = (outM 1 [35 :: r, s], 0) := by
      refine text_one (s := s) (by simp; omega) (fun c hc => ?_) ?_
      · rcases List.mem_append.1 hc with hc | hc
        · rcases List.mem_cons.1 hc with rfl | hc
          · decide
          · exact (hR c hc).1
        · rcases List.mem_cons.1 hc with rfl | hc
          · decide
          · exact (hS c hc).1
      · rw [linesM_cut (fun hm => by
          rcases List.mem_cons.1 hm with hm | hm
          · exact absurd hm (by decide)
          · exact r10 hm), linesM_plain m10]
    have w3 : wordsM (35 :: r) = [] := by
      unfold wordsM
      rw [show cutM (35 :: r) = [] from takeWhile_at (p := []) (by simp)]
      rfl
    have o3 : outM 1 [35 :: r, s] = outM 2 [s] := by rw [outM, if_pos w3]; rfl
    have f1 := linesF_bs s
    have f2 := linesF_bs (s ++ 35 :: r)
    have f3 := linesF_bs (35 :: r ++ 10 :: s)
    rw [e1] at f1
    rw [e2, o2] at f2
    rw [e3, o3] at f3
    refine ⟨(outM 1 [s]).map s42, (outM 1 [s]).map s42, (outM 2 [s]).map s42, ((outM 1 [s]).map s42).map t49, ((outM 1 [s]).map s42).map t49, f1, ?_, ?_, h2 _ (by omega), h2 _ (by omega), h3 _ (by omega), ?_⟩
    · rw [show (⟨#[35]⟩ : ByteArray) = bs [35] from rfl, bs_append, bs_append, List.append_assoc]
      exact f2
    · rw [show (⟨#[35]⟩ : ByteArray) = bs [35] from rfl, show (⟨#[10]⟩ : ByteArray) = bs [10] from rfl, bs_append, bs_append, bs_append, List.append_assoc]
      exact f3
    · by_cases hw : wordsM s = []
      · left
        simp only [outM, if_pos hw]
        exact ⟨rfl, rfl⟩
      · right
        refine ⟨s42 (1, wordsM s), [], s42 (2, wordsM s), [], ?_, ?_, rfl, rfl, rfl⟩
        · simp only [outM, if_neg hw]; rfl
        · simp only [outM, if_neg hw]; rfl
  · refine ⟨K1, ?_⟩
    unfold law05_LexRemarks.f
    rw [if_pos ⟨h1 _ (Nat.le_refl _), fun hs => by rw [bs_size] at hs; omega⟩]
end Go.Proofs.YtffdhekmnoajiaaDoor.Pure
