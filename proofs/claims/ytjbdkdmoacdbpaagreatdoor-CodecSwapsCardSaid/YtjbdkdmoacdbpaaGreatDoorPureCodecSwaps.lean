/- Proved: for any cube of facts and any two of its facts: its text with the lines of these two exchanged is no cube's, and exchanged once more it is that cube's. No condition but what Go itself can hold. -/
import Derived.Test.YtjbdkdmoacdbpaaGreatDoorQx14
import Derived.Test.YtjbdkdmoacdbpaaGreatDoorQx13
import Derived.Test.YtjbdkdmoacdbpaaGreatDoorGC
set_option linter.unusedVariables false
set_option linter.unusedSimpArgs false
namespace Go.Proofs.YtjbdkdmoacdbpaaGreatDoor.Pure
open Go Go.RowKit Go.Proofs.YtjbdkdmoacdbpaaGreatDoor.Q Go.Proofs.YtjbdkdmoacdbpaaGreatDoor.M Go.Proofs.YtjbdkdmoacdbpaaGreatDoorW.PrintWords Go.Proofs.YtjbdkdmoacdbpaaGreatDoorW.PrintLast Go.Proofs.YtjbdkdmoacdbpaaGreatDoor.XC Go.Proofs.YtjbdkdmoacdbpaaGreatDoor.X
/-- a fact that may be printed alone -/
def Alone (x : FF) : Prop := keyOk x.f0 = true ∧ x.f1 ≠ 0 ∧ I64 x.f1
theorem alone_good {x : FF} (h : Alone x) : M.Good [x] := by
  refine ⟨?_, fun y hy => by obtain rfl : y = x := by simpa using hy
                             exact h.2.2⟩
  unfold goodC rightS rc rc
  simp [h.1, h.2.1]
theorem alone_small {x : FF} (h : Alone x) : Small [x] := by
  obtain ⟨h3, h0, h1, h2, h4, h5⟩ := key_ok h.1
  refine small_of (by simp) fun y hy => ?_
  obtain rfl : y = x := by simpa using hy
  have a := (name_ok h0).2.1
  have b := (name_ok h1).2.1
  have c := (name_ok h2).2.1
  have d : y.f0.f3.size ≤ 12 := by rcases h3 with h3 | h3
                                   · omega
                                   · exact (name_ok h3).2.1
  exact ⟨by omega, by omega, by omega, by omega, by unfold I64; omega, h.2.2⟩
theorem head1 : headTx 1 = [99, 117, 98, 101, 32, 49, 10] := by decide +kernel
theorem text1 (x : FF) : textTx [x] = headTx 1 ++ lineTx x := by unfold textTx bodyTx; simp
theorem body_l (T : List FF) : ∀ (P L : List FF) (i : Nat), L = P ++ T → P.length = i → L.length ≤ 1000 → (∀ x ∈ L, Alone x) → (bodyTx L).length ≤ 1000000 → Ev (fun k => law10_body.l0 k (bs (bodyTx P)) L (L.length : Int) (i : Int)) (bs (bodyTx L)) := by
  induction T with
  | nil =>
    intro P L i hL hi hl ha hb
    have e : P = L := by rw [hL]; simp
    subst e
    refine Ev.step (f := fun _ => some _) (fun k => ?_) (Ev.now _)
    rw [law10_body.l0.eq_2, if_neg (by omega)]
  | cons x T ih =>
    intro P L i hL hi hl ha hb
    have hlen : L.length = P.length + 1 + T.length := by rw [hL]; simp; omega
    have hih := ih (P ++ [x]) L (i + 1) (by rw [hL]; simp) (by simp; omega) hl ha hb
    have hx : Alone x := ha x (by rw [hL]; simp)
    have hp := print_is (alone_small hx)
    rw [if_pos (alone_good hx).1, text1, head1] at hp
    have hbp : bodyTx (P ++ [x]) = bodyTx P ++ lineTx x := by unfold bodyTx; simp
    have hple : (bodyTx P).length + (lineTx x).length ≤ 1000000 := by
      have : bodyTx L = bodyTx (P ++ [x]) ++ bodyTx T := by unfold bodyTx; rw [hL]; simp
      rw [this, hbp, List.length_append, List.length_append] at hb; omega
    have h1 : 1 ≤ (lineTx x).length := by rw [line_ws]; simp
    rw [hbp] at hih
    refine Ev.step (fun k => ?_) hih
    rw [law10_body.l0.eq_2, if_pos (by omega), if_pos (by omega), if_pos (by omega), rd_at hL hi]
    rw [show ([(⟨(⟨x.f0.f0, x.f0.f1, x.f0.f2, x.f0.f3, x.f0.f4⟩ : S48), x.f1⟩ : S50)] : List FF) = [x] from rfl, hp]
    simp only [Option.bind_some]
    rw [bs_size, if_pos (by simp; omega), if_pos (by simp; omega), bs_extract]
    have ed : (([99, 117, 98, 101, 32, 49, 10] ++ lineTx x : List UInt8).drop 7).take (([99, 117, 98, 101, 32, 49, 10] ++ lineTx x : List UInt8).length - 7) = lineTx x := by simp
    rw [ed]
    rw [bs_size, bs_size, if_pos (by omega), bs_append, w_one i (by omega)]
theorem body_f {L : List FF} (hl : L.length ≤ 1000) (ha : ∀ x ∈ L, Alone x) (hb : (bodyTx L).length ≤ 1000000) : Ev (fun k => law10_body.f k L) (bs (bodyTx L)) := body_l L [] L 0 rfl rfl hl ha hb
theorem good_alone {l : List FF} (h : M.Good l) : ∀ x ∈ l, Alone x := fun x hx => by
  have := h.right
  unfold rightS at this
  rw [Bool.and_eq_true, rc_none] at this
  exact ⟨h.key x hx, this.1.1 x hx, h.2 x hx⟩
theorem good_sk {l : List FF} (h : M.Good l) : SK (l.map (·.f0)) := by
  have := h.right
  unfold rightS at this
  rw [Bool.and_eq_true, rc_none] at this
  exact this.1.2
theorem good_lt {l : List FF} (h : M.Good l) {i k : Nat} (hik : i < k) (hk : k < l.length) : cmpK (l[i]'(by omega)).f0 l[k].f0 < 0 := by
  have := List.pairwise_iff_getElem.1 (good_sk h) i k (by rw [List.length_map]; omega) (by rw [List.length_map]; omega) hik
  simpa using this
def swp (l : List FF) (i k : Nat) (hi : i < l.length) (hk : k < l.length) : List FF := (l.set i l[k]).set k l[i]
theorem swp_len {l : List FF} {i k : Nat} {hi : i < l.length} {hk : k < l.length} : (swp l i k hi hk).length = l.length := by unfold swp; simp
theorem swp_at {l : List FF} {i k j : Nat} {hi : i < l.length} {hk : k < l.length} (hj : j < (swp l i k hi hk).length) : (swp l i k hi hk)[j] = if k = j then l[i] else if i = j then l[k] else l[j]'(by rw [swp_len] at hj; exact hj) := by
  simp only [swp, List.getElem_set]
theorem swp_mem {l : List FF} {i k : Nat} {hi : i < l.length} {hk : k < l.length} : ∀ x ∈ swp l i k hi hk, x ∈ l := by
  intro x hx
  unfold swp at hx
  rcases List.mem_or_eq_of_mem_set hx with hx | rfl
  · rcases List.mem_or_eq_of_mem_set hx with hx | rfl
    · exact hx
    · exact List.getElem_mem _
  · exact List.getElem_mem _
theorem swp_swp {l : List FF} {i k : Nat} (hi : i < l.length) (hk : k < l.length) (hne : i ≠ k) : swp (swp l i k hi hk) i k (by rw [swp_len]; exact hi) (by rw [swp_len]; exact hk) = l := by
  refine List.ext_getElem (by rw [swp_len, swp_len]) fun j h1 h2 => ?_
  rw [swp_at, swp_at, swp_at]
  by_cases c : k = j
  · subst c; rw [if_pos rfl, if_neg (fun e => hne e.symm), if_pos rfl]
  · rw [if_neg c]
    by_cases d : i = j
    · subst d; rw [if_pos rfl, if_pos rfl]
    · rw [if_neg d, swp_at, if_neg c, if_neg d]
theorem swp_not {l : List FF} (h : M.Good l) {i k : Nat} (hi : i < l.length) (hk : k < l.length) (hne : i ≠ k) : ¬ M.Good (swp l i k hi hk) := by
  intro hg
  have asym : ∀ {a b : S48}, cmpK a b < 0 → cmpK b a < 0 → False := fun h1 h2 => cmpK_irrefl (cmpK_lt_trans h1 h2)
  rcases Nat.lt_or_gt_of_ne hne with c | c
  · have h1 := good_lt h c hk
    have h2 := good_lt hg c (by rw [swp_len]; exact hk)
    rw [swp_at, swp_at, if_neg (fun e => hne e.symm), if_pos rfl, if_pos rfl] at h2
    exact asym h1 h2
  · have h1 := good_lt h c hi
    have h2 := good_lt hg c (by rw [swp_len]; exact hi)
    rw [swp_at, swp_at, if_pos rfl, if_neg (fun e => hne e.symm), if_pos rfl] at h2
    exact asym h1 h2
theorem swp_len_body (l : List FF) {i k : Nat} (hi : i < l.length) (hk : k < l.length) (hl : l.length ≤ 150) (ha : ∀ x ∈ l, Alone x) : (bodyTx (swp l i k hi hk)).length ≤ 14550 := by
  have := body_len (l := swp l i k hi hk) (m := 97) fun x hx => by
    have hx := ha x (swp_mem x hx)
    obtain ⟨h3, h0, h1, h2, h4, h5⟩ := key_ok hx.1
    have := line_len x (by unfold I64; omega) hx.2.2
    have a := (name_ok h0).2.1
    have b := (name_ok h1).2.1
    have c := (name_ok h2).2.1
    have d : x.f0.f3.size ≤ 12 := by rcases h3 with h3 | h3
                                     · omega
                                     · exact (name_ok h3).2.1
    omega
  rw [swp_len] at this
  have : l.length * 97 ≤ 150 * 97 := Nat.mul_le_mul_right _ hl
  omega
/-- a text of facts that may each be printed alone, but are no cube, is no cube's -/
theorem alone_none {D : List FF} (ha : ∀ x ∈ D, Alone x) (hn : ¬ M.Good D) : ∀ l, M.Good l → textTx l ≠ textTx D := by
  intro l hl e
  have h1 := good_read hl
  rw [e, lines_text (fun x hx => (ha x hx).1), readAll_text (fun x hx => ⟨(ha x hx).1, (ha x hx).2.2⟩)] at h1
  obtain rfl := Option.some.inj h1
  exact hn hl
theorem CodecSwaps : law10_CodecSwaps.Pure := by
  intro l0 a1 a2 hl0 hg0 wa1 wa2
  refine Ev.rounds (g := fun k => law10_CodecSwaps.f k l0 a1 a2) ?_
  have yes : ∀ {x y}, Ev (fun k => law10_CodecSwaps.j0 k l0 x y true) true := fun {x y} => Ev.step (f := fun _ => some true) (fun k => by rw [law10_CodecSwaps.j0.eq_2, if_pos rfl]) (Ev.now _)
  have yes1 : ∀ {s x y}, Ev (fun k => law10_CodecSwaps.j1 k l0 s x y true) true := fun {s x y} => Ev.step (f := fun _ => some true) (fun k => by rw [law10_CodecSwaps.j1.eq_2, if_pos rfl]) (Ev.now _)
  unfold law10_CodecSwaps.f
  rw [alive_f]
  simp only [Option.bind_some, if_true]
  obtain ⟨b, h1, h2⟩ := few_is hl0 hg0
  refine Ev.bind h1 ?_
  cases b with
  | false => simp only [Bool.false_eq_true, if_false]; exact yes
  | true =>
  simp only [if_true]
  by_cases h2l : (l0.length : Int) < 2
  · rw [decide_eq_true h2l]; exact yes
  rw [decide_eq_false h2l]
  have f0 := h2 rfl
  have hlm : (l0.map tf).length = l0.length := List.length_map ..
  have hl150 := f0.len
  have t0 := theirs_f (l := l0) (by omega)
  have hb1 : 0 ≤ a1 ∧ a1 ≤ 255 := wf_u8 wa1
  have hb2 : 0 ≤ a2 ∧ a2 ≤ 255 := wf_u8 wa2
  have e1 : wrap64 a1 = a1 := by unfold wrap64; omega
  have e2 : wrap64 a2 = a2 := by unfold wrap64; omega
  obtain ⟨i, hi⟩ : ∃ i : Nat, Int.tmod a1 (l0.length : Int) = i := ⟨(Int.tmod a1 (l0.length : Int)).toNat, by have := Int.tmod_nonneg (l0.length : Int) hb1.1; omega⟩
  have hil : i < l0.length := by have := Int.tmod_lt_of_pos a1 (show (0 : Int) < (l0.length : Int) by omega); omega
  obtain ⟨k, hk⟩ : ∃ k : Nat, Int.tmod a2 (l0.length : Int) = k := ⟨(Int.tmod a2 (l0.length : Int)).toNat, by have := Int.tmod_nonneg (l0.length : Int) hb2.1; omega⟩
  have hkl : k < l0.length := by have := Int.tmod_lt_of_pos a2 (show (0 : Int) < (l0.length : Int) by omega); omega
  refine Ev.step (fun k => by rw [law10_CodecSwaps.j0.eq_2, if_neg (by simp)]) ?_
  refine Ev.bind t0 ?_
  rw [print_is f0.small]
  simp only [Option.bind_some]
  simp only [if_neg (show ¬ (l0.length : Int) = 0 by omega), e1, e2, hi, hk]
  obtain ⟨A, hA⟩ : ∃ A, l0.map tf = A := ⟨_, rfl⟩
  rw [hA] at hlm t0 ⊢
  by_cases g0 : goodC A (rightS A) = true
  case neg =>
    rw [if_neg g0]
    simp only [if_neg (show ¬ ((1 : Int) = 0) by decide)]
    exact yes1
  have G0 : M.Good A := ⟨g0, by rw [← hA]; exact f0.i64⟩
  rw [if_pos g0]
  simp only [if_true]
  by_cases hik : i = k
  · rw [show ((i : Int) == (k : Int)) = true by rw [beq_iff_eq, hik]]; exact yes1
  rw [show ((i : Int) == (k : Int)) = false by rw [beq_eq_false_iff_ne]; omega]
  have hiA : i < A.length := by omega
  have hkA : k < A.length := by omega
  have aA := good_alone G0
  have hlen := good_len G0 (by omega)
  have hbA : (bodyTx A).length ≤ (textTx A).length := by unfold textTx; rw [List.length_append]; omega
  obtain ⟨D, hD⟩ : ∃ D, swp A i k hiA hkA = D := ⟨_, rfl⟩
  have aD : ∀ x ∈ D, Alone x := fun x hx => aA x (by rw [← hD] at hx; exact swp_mem x hx)
  have hDl : D.length = A.length := by rw [← hD, swp_len]
  have hbD : (bodyTx D).length ≤ 14550 := by rw [← hD]; exact swp_len_body A hiA hkA (by omega) aA
  have rdA : ∀ (L : List FF) (j : Nat) (h : j < L.length), rd_T50 L (j : Int) = L[j] := fun L j h => by unfold rd_T50; rw [Int.toNat_natCast, List.getD_eq_getElem?_getD, List.getElem?_eq_getElem h]; rfl
  have bA := body_f (by omega) aA (by omega)
  have bD := body_f (L := D) (by omega) aD (by omega)
  have pD := parse_bad (s := textTx D) (by unfold textTx headTx; have := len_itoa (n := (D.length : Int)) (by unfold I64; omega); simp; omega) (alone_none aD (by rw [← hD]; exact swp_not G0 hiA hkA hik))
  have pA := parse_good G0 (by omega)
  have hh : wrap64 (((bs (textTx A)).size : Int) - ((bs (bodyTx A)).size : Int)) = (((headTx A.length).length : Nat) : Int) := by
    rw [bs_size, bs_size]
    have : (textTx A).length = (headTx A.length).length + (bodyTx A).length := by unfold textTx; rw [List.length_append]
    unfold wrap64; omega
  have hx : (bs (textTx A)).extract 0 (headTx A.length).length = bs (headTx A.length) := by
    rw [bs_extract]; unfold textTx; simp
  have hhl : (headTx A.length).length ≤ (textTx A).length := by unfold textTx; rw [List.length_append]; omega
  refine Ev.step (fun k => by rw [law10_CodecSwaps.j1.eq_2, if_neg (by simp)]) ?_
  refine Ev.bind t0 (Ev.bind bA ?_)
  simp only [hh]
  simp (disch := omega) only [if_pos, bs_size, Int.toNat_natCast, rdA A i hiA, rdA A k hkA, hx]
  have e3 : (A.set i (⟨(⟨A[k].f0.f0, A[k].f0.f1, A[k].f0.f2, A[k].f0.f3, A[k].f0.f4⟩ : S48), A[k].f1⟩ : S50)).set k (⟨(⟨A[i].f0.f0, A[i].f0.f1, A[i].f0.f2, A[i].f0.f3, A[i].f0.f4⟩ : S48), A[i].f1⟩ : S50) = D := hD
  simp only [e3, Option.bind_some]
  refine Ev.bind bD ?_
  have hiD : i < D.length := by omega
  have hkD : k < D.length := by omega
  simp only [rdA D i hiD, rdA D k hkD]
  have e4 : (D.set i (⟨(⟨D[k].f0.f0, D[k].f0.f1, D[k].f0.f2, D[k].f0.f3, D[k].f0.f4⟩ : S48), D[k].f1⟩ : S50)).set k (⟨(⟨D[i].f0.f0, D[i].f0.f1, D[i].f0.f2, D[i].f0.f3, D[i].f0.f4⟩ : S48), D[i].f1⟩ : S50) = A := by
    subst hD
    exact swp_swp hiA hkA hik
  have tD : headTx A.length ++ bodyTx D = textTx D := by unfold textTx; rw [hDl]
  simp (disch := omega) only [e4, if_pos, bs_size, bs_append, tD, pD, Option.bind_some]
  refine Ev.bind bA ?_
  simp (disch := omega) only [if_pos, bs_size, bs_append, show headTx A.length ++ bodyTx A = textTx A from rfl, pA, Option.bind_some, if_true]
  have o := ours_f (l := A) (by omega)
  rw [← hA, map_uf_tf] at o
  rw [← hA]
  refine Ev.bind o ?_
  obtain ⟨r, hr1, hr2⟩ := same_is l0 l0 (by omega)
  obtain rfl : r = true := hr2.2 rfl
  refine Ev.bind hr1 ?_
  exact Ev.now _
end Go.Proofs.YtjbdkdmoacdbpaaGreatDoor.Pure
