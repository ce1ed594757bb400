import Derived.Test.YtffdhekmnoajiaaDoorR5j
import Derived.Test.YtffdhekmnoajiaaDoorQx1

import Derived.BigQuiet
import Derived.Deep.QuietTactic
import Derived.RegionTactic
/- several texts of this session in one -/
set_option linter.unusedVariables false
set_option linter.unusedSimpArgs false
namespace Go.Proofs.YtffdhekmnoajiaaDoor.M
open Go.RowKit Go.Proofs.YtffdhekmnoajiaaDoorW.PrintWords Go.Proofs.YtffdhekmnoajiaaDoorW.PrintLast Go.Proofs.YtffdhekmnoajiaaDoorW.PrintMore Go.Proofs.YtffdhekmnoajiaaDoor.Q Go.Proofs.YtffdhekmnoajiaaDoor.X
theorem not_wrong {c : UInt8} (h : wrongM c = false) : letterP c.toNat = true ∨ (48 ≤ c.toNat ∧ c.toNat ≤ 57) ∨ c.toNat = 46 ∨ c.toNat = 95 ∨ c.toNat = 45 := by
  unfold wrongM wrongP at h
  cases hl : letterP (c.toNat : Int) with
  | true => exact .inl rfl
  | false =>
    rw [hl] at h
    simp only [Bool.not_false, Bool.true_and, Bool.and_eq_false_iff, Bool.or_eq_false_iff, decide_eq_false_iff_not, bne_eq_false_iff_eq] at h
    right
    rcases h with ((h | h) | h) | h <;> omega
theorem letter_range {x : Int} (h : letterP x = true) : (97 ≤ x ∧ x ≤ 122) ∨ (65 ≤ x ∧ x ≤ 90) := by
  unfold letterP at h
  simp only [Bool.or_eq_true, Bool.and_eq_true, decide_eq_true_eq] at h
  exact h
theorem letter_not_wrong {c : UInt8} (h : letterP c.toNat = true) : wrongM c = false := by unfold wrongM wrongP; rw [h]; rfl
theorem name_plain {c : UInt8} (h : wrongM c = false) : oddM c = false ∧ c ≠ 10 ∧ c ≠ 35 ∧ isB c = false := by
  have hn : ∀ d : UInt8, c = d → c.toNat = d.toNat := fun d e => by rw [e]
  have h2 : 45 ≤ c.toNat ∧ c.toNat ≤ 122 := by
    rcases not_wrong h with h | h | h | h | h
    · rcases letter_range h with h | h <;> omega
    all_goals omega
  have n10 : c ≠ 10 := fun e => by have : c.toNat = 10 := hn 10 e; omega
  have n35 : c ≠ 35 := fun e => by have : c.toNat = 35 := hn 35 e; omega
  have n9 : c ≠ 9 := fun e => by have : c.toNat = 9 := hn 9 e; omega
  have n32 : c ≠ 32 := fun e => by have : c.toNat = 32 := hn 32 e; omega
  refine ⟨?_, n10, n35, ?_⟩
  · unfold oddM
    have e1 : decide (c.toNat < 32) = false := decide_eq_false (by omega)
    have e2 : decide (126 < c.toNat) = false := decide_eq_false (by omega)
    rw [e1, e2]; simp
  · unfold isB
    rw [beq_eq_false_iff_ne.2 n32, beq_eq_false_iff_ne.2 n9]; rfl
theorem wordsC_plain : ∀ {l cur : List UInt8}, (∀ c ∈ l, isB c = false) → wordsC cur l = if cur ++ l = [] then [] else [cur ++ l]
  | [], cur, _ => by simp [wordsC]
  | c :: r, cur, h => by
    have hc := h c List.mem_cons_self
    unfold wordsC
    rw [if_neg (by rw [hc]; simp), wordsC_plain (fun x hx => h x (List.mem_cons_of_mem _ hx))]
    simp
theorem nameM_mem {s : List UInt8} (h : nameM s = true) : 0 < s.length ∧ s.length ≤ 12 ∧ letterP (bt (bs s) 0) = true ∧ ∀ c ∈ s, wrongM c = false := by
  unfold nameM at h
  simp only [Bool.and_eq_true, decide_eq_true_eq, Bool.not_eq_true', List.any_eq_false] at h
  obtain ⟨⟨⟨h1, h2⟩, h3⟩, h4⟩ := h
  exact ⟨h1, h2, h3, fun c hc => by simpa using h4 c hc⟩
theorem name_line {s : List UInt8} (h : nameM s = true) : linesT s = ([(1, [s])], 0) := by
  obtain ⟨h1, h2, _, h4⟩ := nameM_mem h
  have hne : s ≠ [] := List.length_pos_iff.1 h1
  have hw : wordsM s = [s] := by
    unfold wordsM cutM
    rw [takeWhile_none (fun hm => (name_plain (h4 35 hm)).2.2.1 rfl), wordsC_plain (fun c hc => (name_plain (h4 c hc)).2.2.2), List.nil_append, if_neg hne]
  unfold linesT
  rw [if_neg (by omega), if_neg]
  · show (outM 1 (linesM s), _) = _
    rw [linesM_plain (fun hm => (name_plain (h4 10 hm)).2.1 rfl)]
    simp only [outM, hw]
    rw [if_neg (by simp)]
  · rw [Bool.not_eq_true, List.any_eq_false]
    intro c hc
    rw [(name_plain (h4 c hc)).1]; simp
def rightM (c : UInt8) (k : Nat) : Bool := letterP c.toNat || (decide (0 < k) && !wrongM c)
theorem bt_cons0 (c : UInt8) (r : List UInt8) : bt (bs (c :: r)) 0 = c.toNat := bt0_bs
theorem name_more {s : List UInt8} (h : nameM s = true) (c : UInt8) {k : Nat} (hk : k ≤ s.length) : nameM (s.take k ++ [c] ++ s.drop k) = (rightM c k && decide (s.length + 1 ≤ 12)) := by
  obtain ⟨h1, h2, h3, h4⟩ := nameM_mem h
  have hlen : (s.take k ++ [c] ++ s.drop k).length = s.length + 1 := by simp; omega
  have hany : (s.take k ++ [c] ++ s.drop k).any wrongM = wrongM c := by
    have e1 : (s.take k).any wrongM = false := by rw [List.any_eq_false]; intro x hx; rw [h4 x (List.mem_of_mem_take hx)]; simp
    have e2 : (s.drop k).any wrongM = false := by rw [List.any_eq_false]; intro x hx; rw [h4 x (List.mem_of_mem_drop hx)]; simp
    rw [List.any_append, List.any_append, e1, e2]
    simp
  unfold nameM rightM
  rw [hlen, hany, decide_eq_true (show 0 < s.length + 1 by omega), Bool.true_and]
  rcases Nat.eq_zero_or_pos k with rfl | hp
  · simp only [List.take_zero, List.nil_append, List.drop_zero, List.singleton_append, bt_cons0]
    cases hl : letterP (c.toNat : Int) with
    | true => rw [letter_not_wrong hl]; simp
    | false => simp
  · obtain ⟨x, r, rfl⟩ : ∃ x r, s = x :: r := by
      cases s with
      | nil => simp at h1
      | cons x r => exact ⟨x, r, rfl⟩
    obtain ⟨k, rfl⟩ : ∃ j, k = j + 1 := ⟨k - 1, by omega⟩
    rw [bt_cons0] at h3
    simp only [List.take_succ_cons, List.drop_succ_cons, List.cons_append, bt_cons0, h3, Bool.and_true]
    have e1 : decide (0 < k + 1) = true := decide_eq_true (by omega)
    rw [e1]
    cases hw : wrongM c with
    | true =>
      have : letterP (c.toNat : Int) = false := by
        cases hl : letterP (c.toNat : Int) with
        | true => rw [letter_not_wrong hl] at hw; cases hw
        | false => rfl
      simp [this]
    | false => simp
end Go.Proofs.YtffdhekmnoajiaaDoor.M
namespace Go.Proofs.YtffdhekmnoajiaaDoor.XN
open Go Go.RowKit Go.Proofs.YtffdhekmnoajiaaDoorW.PrintWords Go.Proofs.YtffdhekmnoajiaaDoorW.PrintLast Go.Proofs.YtffdhekmnoajiaaDoorW.PrintMore Go.Proofs.YtffdhekmnoajiaaDoor Go.Proofs.YtffdhekmnoajiaaDoor.Q Go.Proofs.YtffdhekmnoajiaaDoor.X Go.Proofs.YtffdhekmnoajiaaDoor.M
theorem right_eq (c : UInt8) (q : Nat) : rightM c q = ((decide (97 ≤ (c.toNat : Int)) && decide ((c.toNat : Int) ≤ 122)) || (decide (65 ≤ (c.toNat : Int)) && decide ((c.toNat : Int) ≤ 90)) || (decide (0 < (q : Int)) && ((decide (48 ≤ (c.toNat : Int)) && decide ((c.toNat : Int) ≤ 57)) || ((c.toNat : Int) == 46) || ((c.toNat : Int) == 95) || ((c.toNat : Int) == 45)))) := by
  unfold rightM wrongM wrongP letterP
  obtain ⟨x, hx⟩ : ∃ x : Int, (c.toNat : Int) = x := ⟨_, rfl⟩
  rw [hx]
  have e1 : decide (x < 48) = !decide (48 ≤ x) := by rw [← decide_not, decide_eq_decide]; omega
  have e2 : decide (57 < x) = !decide (x ≤ 57) := by rw [← decide_not, decide_eq_decide]; omega
  have e3 : decide (0 < q) = decide (0 < (q : Int)) := by rw [decide_eq_decide]; omega
  rw [e1, e2, e3]
  unfold bne
  cases decide (97 ≤ x) <;> cases decide (x ≤ 122) <;> cases decide (65 ≤ x) <;> cases decide (x ≤ 90) <;> cases decide (0 < (q : Int)) <;> cases decide (48 ≤ x) <;> cases decide (x ≤ 57) <;> cases (x == 46) <;> cases (x == 95) <;> cases (x == 45) <;> rfl
theorem below_names {w w3 W w5 : World} {o : Obj} (h : Below w.heap.size w w3) (h5 : Below W.heap.size W w5) (e : W = (w3.alloc o).drew := by rfl) : Below w.heap.size w w5 := by
  subst e
  have := (h.alloc h.size o).drew
  exact this.trans (h5.mono this.size)
set_option maxHeartbeats 8000000 in
set_option maxRecDepth 100000 in
theorem names_walk {k : Nat} (ha : law05_alive.f k = some true) (a0 : ByteArray) (a1 : Int) (b2 : UInt8) (h1 : 0 ≤ a1 ∧ a1 ≤ 255) (w : World) (hL : LaidW w) :
    Calls Tryd.prog 4 #[.string a0, .int .u8 a1, .int .u8 b2.toNat] w fun e w' => e = .returned (.bool true) ∧ Below w.heap.size w w' := by
  have HAL := Aside0.mk (fun W (h : LaidW W) => law05_alive.calls k true W ha h)
  have HLD := Aside0.mk hL
  clear ha hL
  by_cases c1 : 3000 < a0.size
  · have c1b : decide (3000 < (a0.size : Int)) = true := decide_eq_true (by omega)
    go_enter Tryd.func4, Tryd.ntmps4
    go_wp2_with (first | (go_at_call 8; refine (HAL.out _ HLD.out).mono ?_; rintro e w1 ⟨rfl, hb⟩; have HB := Aside0.mk hb; clear hb))
    go_ret
    exact ⟨rfl, HB.out⟩
  have c1b : decide (3000 < (a0.size : Int)) = false := decide_eq_false (by omega)
  obtain ⟨s, rfl⟩ := bs_eta a0
  have hnm := nameB_bs s
  cases hn : nameM s with
  | false =>
    rw [hn] at hnm
    have HN := Aside0.mk (fun W => name_calls (bs s) W)
    rw [hnm] at HN
    go_enter Tryd.func4, Tryd.ntmps4
    go_wp2_with (first | (go_at_call 8; refine (HAL.out _ HLD.out).mono ?_; rintro e w1 ⟨rfl, hb⟩; have HB := Aside0.mk hb; clear hb) | (go_at_call 14; refine (HN.out _).mono ?_; rintro e w2 ⟨rfl, hb⟩; have HB2 := Aside0.mk (HB.out.trans (hb.mono HB.out.size)); clear hb))
    go_ret
    exact ⟨rfl, HB2.out⟩
  | true =>
    rw [hn] at hnm
    have HN := Aside0.mk (fun W => name_calls (bs s) W)
    rw [hnm] at HN
    have hlf : linesF (bs s) = some ([⟨1, [bs s]⟩], 0) := by
      have h := linesF_bs s
      rw [name_line hn] at h
      exact h
    have HLN := Aside0.mk (fun W (h : LaidW W) => lex_lines_calls (bs s) _ _ W hlf h)
    obtain ⟨hs0, hs1, _, _⟩ := nameM_mem hn
    have HS := Aside0.mk hn
    have hsz : (bs s).size = s.length := bs_size s
    have c2b : decide (12 < ((bs s).size : Int)) = false := decide_eq_false (by omega)
    clear hn hlf hnm
    go_enter Tryd.func4, Tryd.ntmps4
    go_upto_region 6 with (first | (go_at_call 8; refine (HAL.out _ HLD.out).mono ?_; rintro e w1 ⟨rfl, hb⟩; have HB := Aside0.mk hb; clear hb) | (go_at_call 14; refine (HN.out _).mono ?_; rintro e w2 ⟨rfl, hb⟩; have HB2 := Aside0.mk (HB.out.trans (hb.mono HB.out.size)); clear hb) | (go_at_call 10; refine (HLN.out _ (HLD.out.below HB2.out)).mono ?_; rintro e w3 ⟨v3, rfl, hR, hb⟩; have HB3 := Aside0.mk (HB2.out.trans (hb.mono HB2.out.size)); have HR := Aside0.mk hR; clear hb hR))
    obtain ⟨A, c, rfl⟩ := Kd.R_slice (Kd.S_R HR.out)
    have hC := (Kd.R_reads' (Kd.S_R HR.out)).2.2
    obtain ⟨ad, A1, c4, rfl, x0, x1, hl4, hC1⟩ := at_T42 hC 0 (by omega) (by simp)
    obtain ⟨ad1, rfl, hcs⟩ := hC1.2.2 (by show 0 < 1; omega)
    have x2 : w3.cell? ad1 = some (.string (bs s)) := by
      obtain ⟨cs, _, hk, hu⟩ := hcs 0 (bs s) rfl
      obtain rfl : cs = [.string (bs s)] := hk
      have := hu 0 _ rfl
      simpa [Addr.add_zero'] using this
    replace x1 : w3.cell? ⟨ad.block, ad.off + 1, none⟩ = some (.slice (some ad1) 1 c4) := by
      have h := x1
      simp only [Int.toNat_zero, Nat.zero_mul, Addr.add_zero'] at h
      exact h
    simp only [List.length_cons, List.length_nil, Nat.zero_add]
    have e1 : ((bs s).toList == (bs s).toList) = true := beq_self_eq_true _
    have e2 : ((bs s).toList != (bs s).toList) = false := by simp
    have hw1 : wrap64 ((s.length : Int) + 1) = (s.length : Int) + 1 := by unfold wrap64; omega
    have hw2 : wrap64 a1 = a1 := by unfold wrap64; omega
    have hz : (((s.length : Int) + 1) == 0) = false := beq_eq_false_iff_ne.mpr (by omega)
    obtain ⟨q, hq⟩ : ∃ q : Nat, Int.tmod a1 ((s.length : Int) + 1) = (q : Int) ∧ q ≤ s.length := by
      refine ⟨(Int.tmod a1 ((s.length : Int) + 1)).toNat, ?_, ?_⟩
      · rw [Int.tmod_eq_emod_of_nonneg h1.1]; have := Int.emod_nonneg a1 (show ((s.length : Int) + 1) ≠ 0 by omega); omega
      · rw [Int.tmod_eq_emod_of_nonneg h1.1]; have := Int.emod_lt_of_pos a1 (show 0 < ((s.length : Int) + 1) by omega); omega
    obtain ⟨hq, hqs⟩ := hq
    have hwq : wrap64 (q : Int) = q := by unfold wrap64; omega
    have hq0 : (q : Int) ≤ (s.length : Int) := Int.ofNat_le.mpr hqs
    have hcv : (convert 43 9 (.slice (some ⟨w3.heap.size, 0, none⟩) 1 1)).run Tryd.prog (w3.alloc (.cells #[.int .u8 b2.toNat] 5)).drew = .ok (.string ⟨#[b2]⟩) (w3.alloc (.cells #[.int .u8 b2.toNat] 5)).drew := by
      refine run_convert_bytes_back _ 43 9 5 ⟨w3.heap.size, 0, none⟩ 1 [b2] Tryd.underlying43 Tryd.underlying5 Tryd.underlying9 ?_
      intro j hj
      obtain rfl : j = 0 := by simp at hj; exact hj
      rw [Addr.add_zero']
      exact (blk_cell (blk_drew (blk_new w3 _)) 0).trans rfl
    have HR2 := Aside0.mk hC
    clear hC hC1 hcs x0
    go_upto_region 9 with (fail)
    go_region
    have hT : (bs s).extract 0 q ++ (⟨#[b2]⟩ : ByteArray) ++ (bs s).extract q s.length = bs (s.take q ++ [b2] ++ s.drop q) := by
      rw [show (⟨#[b2]⟩ : ByteArray) = bs [b2] from rfl, bs_extract, bs_extract, bs_append, bs_append, List.take_of_length_le (l := s.drop q) (Nat.le_of_eq (List.length_drop)), List.drop_zero, Nat.sub_zero]
    rw [hT]
    have hTs : (bs (s.take q ++ [b2] ++ s.drop q)).size = s.length + 1 := by rw [bs_size]; simp; omega
    obtain ⟨x, hx⟩ : ∃ x : Int, (b2.toNat : Int) = x := ⟨_, rfl⟩
    have hx0 : 0 ≤ x ∧ x ≤ 255 := by have := b2.toNat_lt; omega
    have hR := right_eq b2 q
    rw [hx] at hR ⊢
    have hmore := name_more HS.out b2 hqs
    obtain ⟨T, hTT⟩ : ∃ T, s.take q ++ [b2] ++ s.drop q = T := ⟨_, rfl⟩
    rw [hTT] at hTs hmore ⊢
    obtain ⟨ls, hls⟩ : ∃ n : Nat, s.length + 1 = n := ⟨_, rfl⟩
    rw [hls] at hTs hmore
    have fin : ∀ {G : Prop} (r : Bool), rightM b2 q = r → (∀ l : Bool, decide ((ls : Int) ≤ 12) = l → (∀ W, Calls Tryd.prog 14 #[.string (bs T)] W fun e w' => e = .returned (.bool (r && l)) ∧ Below W.heap.size W w') → G) → G := by
      intro G r hr h
      refine h _ rfl (fun W => ?_)
      have := name_calls (bs T) W
      rw [nameB_bs, hmore, hr, show decide (ls ≤ 12) = decide ((ls : Int) ≤ 12) by rw [decide_eq_decide]; omega] at this
      exact this
    have hcase : (97 ≤ x ∧ x ≤ 122) ∨
      (122 < x ∧ q = 0) ∨
      (122 < x ∧ 0 < q) ∨
      (90 < x ∧ x < 97 ∧ q = 0) ∨
      (90 < x ∧ x < 97 ∧ 0 < q ∧ x = 95) ∨
      (90 < x ∧ x < 97 ∧ 0 < q ∧ x ≠ 95) ∨
      (65 ≤ x ∧ x ≤ 90) ∨
      (57 < x ∧ x < 65 ∧ q = 0) ∨
      (57 < x ∧ x < 65 ∧ 0 < q) ∨
      (48 ≤ x ∧ x ≤ 57 ∧ q = 0) ∨
      (48 ≤ x ∧ x ≤ 57 ∧ 0 < q) ∨
      (x < 48 ∧ q = 0) ∨
      (x < 48 ∧ 0 < q ∧ x = 46) ∨
      (x < 48 ∧ 0 < q ∧ x = 45) ∨
      (x < 48 ∧ 0 < q ∧ x ≠ 46 ∧ x ≠ 45) := by omega
    clear hT hTT hcv hwq hq0 hw1 hw2 hz e1 e2 x1 x2 hs0 hs1 hmore hls hx HS HR HR2 HLN HN HAL HLD
    rcases hcase with hc | hc | hc | hc | hc | hc | hc | hc | hc | hc | hc | hc | hc | hc | hc
    · have d1 : decide (97 ≤ x) = true := decide_eq_true (by omega); have d2 : decide (x ≤ 122) = true := decide_eq_true (by omega)
      have hr : rightM b2 q = true := by simp only [hR, d1, d2, Bool.and_true, Bool.true_and, Bool.and_false, Bool.false_and, Bool.or_true, Bool.true_or, Bool.or_false, Bool.false_or]
      refine fin true hr (fun l hl hN => ?_)
      clear fin hr hR hc
      go_wp2_with (first | (go_at_call 14; refine (hN _).mono ?_; rintro e w5 ⟨rfl, hb5⟩))
      go_ret
      exact ⟨by cases l <;> rfl, below_names HB3.out hb5⟩
    · have d1 : decide (97 ≤ x) = true := decide_eq_true (by omega); have d2 : decide (x ≤ 122) = false := decide_eq_false (by omega); have d3 : decide (65 ≤ x) = true := decide_eq_true (by omega); have d4 : decide (x ≤ 90) = false := decide_eq_false (by omega); have d5 : decide (0 < (q : Int)) = false := decide_eq_false (by omega); have d5b : decide (0 < q) = false := decide_eq_false (by omega)
      have hr : rightM b2 q = false := by simp only [hR, d1, d2, d3, d4, d5, Bool.and_true, Bool.true_and, Bool.and_false, Bool.false_and, Bool.or_true, Bool.true_or, Bool.or_false, Bool.false_or]
      refine fin false hr (fun l hl hN => ?_)
      clear fin hr hR hc
      go_wp2_with (first | (go_at_call 14; refine (hN _).mono ?_; rintro e w5 ⟨rfl, hb5⟩))
      go_ret
      exact ⟨by cases l <;> rfl, below_names HB3.out hb5⟩
    · have d1 : decide (97 ≤ x) = true := decide_eq_true (by omega); have d2 : decide (x ≤ 122) = false := decide_eq_false (by omega); have d3 : decide (65 ≤ x) = true := decide_eq_true (by omega); have d4 : decide (x ≤ 90) = false := decide_eq_false (by omega); have d5 : decide (0 < (q : Int)) = true := decide_eq_true (by omega); have d5b : decide (0 < q) = true := decide_eq_true (by omega); have d6 : decide (48 ≤ x) = true := decide_eq_true (by omega); have d7 : decide (x ≤ 57) = false := decide_eq_false (by omega); have d8 : (x == 46) = false := beq_eq_false_iff_ne.mpr (by omega); have d9 : (x == 95) = false := beq_eq_false_iff_ne.mpr (by omega); have d10 : (x == 45) = false := beq_eq_false_iff_ne.mpr (by omega)
      have hr : rightM b2 q = false := by simp only [hR, d1, d2, d3, d4, d5, d6, d7, d8, d9, d10, Bool.and_true, Bool.true_and, Bool.and_false, Bool.false_and, Bool.or_true, Bool.true_or, Bool.or_false, Bool.false_or]
      refine fin false hr (fun l hl hN => ?_)
      clear fin hr hR hc
      go_wp2_with (first | (go_at_call 14; refine (hN _).mono ?_; rintro e w5 ⟨rfl, hb5⟩))
      go_ret
      exact ⟨by cases l <;> rfl, below_names HB3.out hb5⟩
    · have d1 : decide (97 ≤ x) = false := decide_eq_false (by omega); have d3 : decide (65 ≤ x) = true := decide_eq_true (by omega); have d4 : decide (x ≤ 90) = false := decide_eq_false (by omega); have d5 : decide (0 < (q : Int)) = false := decide_eq_false (by omega); have d5b : decide (0 < q) = false := decide_eq_false (by omega)
      have hr : rightM b2 q = false := by simp only [hR, d1, d3, d4, d5, Bool.and_true, Bool.true_and, Bool.and_false, Bool.false_and, Bool.or_true, Bool.true_or, Bool.or_false, Bool.false_or]
      refine fin false hr (fun l hl hN => ?_)
      clear fin hr hR hc
      go_wp2_with (first | (go_at_call 14; refine (hN _).mono ?_; rintro e w5 ⟨rfl, hb5⟩))
      go_ret
      exact ⟨by cases l <;> rfl, below_names HB3.out hb5⟩
    · have d1 : decide (97 ≤ x) = false := decide_eq_false (by omega); have d3 : decide (65 ≤ x) = true := decide_eq_true (by omega); have d4 : decide (x ≤ 90) = false := decide_eq_false (by omega); have d5 : decide (0 < (q : Int)) = true := decide_eq_true (by omega); have d5b : decide (0 < q) = true := decide_eq_true (by omega); have d6 : decide (48 ≤ x) = true := decide_eq_true (by omega); have d7 : decide (x ≤ 57) = false := decide_eq_false (by omega); have d8 : (x == 46) = false := beq_eq_false_iff_ne.mpr (by omega); have d9 : (x == 95) = true := beq_iff_eq.mpr (by omega)
      have hr : rightM b2 q = true := by simp only [hR, d1, d3, d4, d5, d6, d7, d8, d9, Bool.and_true, Bool.true_and, Bool.and_false, Bool.false_and, Bool.or_true, Bool.true_or, Bool.or_false, Bool.false_or]
      refine fin true hr (fun l hl hN => ?_)
      clear fin hr hR hc
      go_wp2_with (first | (go_at_call 14; refine (hN _).mono ?_; rintro e w5 ⟨rfl, hb5⟩))
      go_ret
      exact ⟨by cases l <;> rfl, below_names HB3.out hb5⟩
    · have d1 : decide (97 ≤ x) = false := decide_eq_false (by omega); have d3 : decide (65 ≤ x) = true := decide_eq_true (by omega); have d4 : decide (x ≤ 90) = false := decide_eq_false (by omega); have d5 : decide (0 < (q : Int)) = true := decide_eq_true (by omega); have d5b : decide (0 < q) = true := decide_eq_true (by omega); have d6 : decide (48 ≤ x) = true := decide_eq_true (by omega); have d7 : decide (x ≤ 57) = false := decide_eq_false (by omega); have d8 : (x == 46) = false := beq_eq_false_iff_ne.mpr (by omega); have d9 : (x == 95) = false := beq_eq_false_iff_ne.mpr (by omega); have d10 : (x == 45) = false := beq_eq_false_iff_ne.mpr (by omega)
      have hr : rightM b2 q = false := by simp only [hR, d1, d3, d4, d5, d6, d7, d8, d9, d10, Bool.and_true, Bool.true_and, Bool.and_false, Bool.false_and, Bool.or_true, Bool.true_or, Bool.or_false, Bool.false_or]
      refine fin false hr (fun l hl hN => ?_)
      clear fin hr hR hc
      go_wp2_with (first | (go_at_call 14; refine (hN _).mono ?_; rintro e w5 ⟨rfl, hb5⟩))
      go_ret
      exact ⟨by cases l <;> rfl, below_names HB3.out hb5⟩
    · have d1 : decide (97 ≤ x) = false := decide_eq_false (by omega); have d3 : decide (65 ≤ x) = true := decide_eq_true (by omega); have d4 : decide (x ≤ 90) = true := decide_eq_true (by omega)
      have hr : rightM b2 q = true := by simp only [hR, d1, d3, d4, Bool.and_true, Bool.true_and, Bool.and_false, Bool.false_and, Bool.or_true, Bool.true_or, Bool.or_false, Bool.false_or]
      refine fin true hr (fun l hl hN => ?_)
      clear fin hr hR hc
      go_wp2_with (first | (go_at_call 14; refine (hN _).mono ?_; rintro e w5 ⟨rfl, hb5⟩))
      go_ret
      exact ⟨by cases l <;> rfl, below_names HB3.out hb5⟩
    · have d1 : decide (97 ≤ x) = false := decide_eq_false (by omega); have d3 : decide (65 ≤ x) = false := decide_eq_false (by omega); have d5 : decide (0 < (q : Int)) = false := decide_eq_false (by omega); have d5b : decide (0 < q) = false := decide_eq_false (by omega)
      have hr : rightM b2 q = false := by simp only [hR, d1, d3, d5, Bool.and_true, Bool.true_and, Bool.and_false, Bool.false_and, Bool.or_true, Bool.true_or, Bool.or_false, Bool.false_or]
      refine fin false hr (fun l hl hN => ?_)
      clear fin hr hR hc
      go_wp2_with (first | (go_at_call 14; refine (hN _).mono ?_; rintro e w5 ⟨rfl, hb5⟩))
      go_ret
      exact ⟨by cases l <;> rfl, below_names HB3.out hb5⟩
    · have d1 : decide (97 ≤ x) = false := decide_eq_false (by omega); have d3 : decide (65 ≤ x) = false := decide_eq_false (by omega); have d5 : decide (0 < (q : Int)) = true := decide_eq_true (by omega); have d5b : decide (0 < q) = true := decide_eq_true (by omega); have d6 : decide (48 ≤ x) = true := decide_eq_true (by omega); have d7 : decide (x ≤ 57) = false := decide_eq_false (by omega); have d8 : (x == 46) = false := beq_eq_false_iff_ne.mpr (by omega); have d9 : (x == 95) = false := beq_eq_false_iff_ne.mpr (by omega); have d10 : (x == 45) = false := beq_eq_false_iff_ne.mpr (by omega)
      have hr : rightM b2 q = false := by simp only [hR, d1, d3, d5, d6, d7, d8, d9, d10, Bool.and_true, Bool.true_and, Bool.and_false, Bool.false_and, Bool.or_true, Bool.true_or, Bool.or_false, Bool.false_or]
      refine fin false hr (fun l hl hN => ?_)
      clear fin hr hR hc
      go_wp2_with (first | (go_at_call 14; refine (hN _).mono ?_; rintro e w5 ⟨rfl, hb5⟩))
      go_ret
      exact ⟨by cases l <;> rfl, below_names HB3.out hb5⟩
    · have d1 : decide (97 ≤ x) = false := decide_eq_false (by omega); have d3 : decide (65 ≤ x) = false := decide_eq_false (by omega); have d5 : decide (0 < (q : Int)) = false := decide_eq_false (by omega); have d5b : decide (0 < q) = false := decide_eq_false (by omega)
      have hr : rightM b2 q = false := by simp only [hR, d1, d3, d5, Bool.and_true, Bool.true_and, Bool.and_false, Bool.false_and, Bool.or_true, Bool.true_or, Bool.or_false, Bool.false_or]
      refine fin false hr (fun l hl hN => ?_)
      clear fin hr hR hc
      go_wp2_with (first | (go_at_call 14; refine (hN _).mono ?_; rintro e w5 ⟨rfl, hb5⟩))
      go_ret
      exact ⟨by cases l <;> rfl, below_names HB3.out hb5⟩
    · have d1 : decide (97 ≤ x) = false := decide_eq_false (by omega); have d3 : decide (65 ≤ x) = false := decide_eq_false (by omega); have d5 : decide (0 < (q : Int)) = true := decide_eq_true (by omega); have d5b : decide (0 < q) = true := decide_eq_true (by omega); have d6 : decide (48 ≤ x) = true := decide_eq_true (by omega); have d7 : decide (x ≤ 57) = true := decide_eq_true (by omega)
      have hr : rightM b2 q = true := by simp only [hR, d1, d3, d5, d6, d7, Bool.and_true, Bool.true_and, Bool.and_false, Bool.false_and, Bool.or_true, Bool.true_or, Bool.or_false, Bool.false_or]
      refine fin true hr (fun l hl hN => ?_)
      clear fin hr hR hc
      go_wp2_with (first | (go_at_call 14; refine (hN _).mono ?_; rintro e w5 ⟨rfl, hb5⟩))
      go_ret
      exact ⟨by cases l <;> rfl, below_names HB3.out hb5⟩
    · have d1 : decide (97 ≤ x) = false := decide_eq_false (by omega); have d3 : decide (65 ≤ x) = false := decide_eq_false (by omega); have d5 : decide (0 < (q : Int)) = false := decide_eq_false (by omega); have d5b : decide (0 < q) = false := decide_eq_false (by omega)
      have hr : rightM b2 q = false := by simp only [hR, d1, d3, d5, Bool.and_true, Bool.true_and, Bool.and_false, Bool.false_and, Bool.or_true, Bool.true_or, Bool.or_false, Bool.false_or]
      refine fin false hr (fun l hl hN => ?_)
      clear fin hr hR hc
      go_wp2_with (first | (go_at_call 14; refine (hN _).mono ?_; rintro e w5 ⟨rfl, hb5⟩))
      go_ret
      exact ⟨by cases l <;> rfl, below_names HB3.out hb5⟩
    · have d1 : decide (97 ≤ x) = false := decide_eq_false (by omega); have d3 : decide (65 ≤ x) = false := decide_eq_false (by omega); have d5 : decide (0 < (q : Int)) = true := decide_eq_true (by omega); have d5b : decide (0 < q) = true := decide_eq_true (by omega); have d6 : decide (48 ≤ x) = false := decide_eq_false (by omega); have d8 : (x == 46) = true := beq_iff_eq.mpr (by omega)
      have hr : rightM b2 q = true := by simp only [hR, d1, d3, d5, d6, d8, Bool.and_true, Bool.true_and, Bool.and_false, Bool.false_and, Bool.or_true, Bool.true_or, Bool.or_false, Bool.false_or]
      refine fin true hr (fun l hl hN => ?_)
      clear fin hr hR hc
      go_wp2_with (first | (go_at_call 14; refine (hN _).mono ?_; rintro e w5 ⟨rfl, hb5⟩))
      go_ret
      exact ⟨by cases l <;> rfl, below_names HB3.out hb5⟩
    · have d1 : decide (97 ≤ x) = false := decide_eq_false (by omega); have d3 : decide (65 ≤ x) = false := decide_eq_false (by omega); have d5 : decide (0 < (q : Int)) = true := decide_eq_true (by omega); have d5b : decide (0 < q) = true := decide_eq_true (by omega); have d6 : decide (48 ≤ x) = false := decide_eq_false (by omega); have d8 : (x == 46) = false := beq_eq_false_iff_ne.mpr (by omega); have d9 : (x == 95) = false := beq_eq_false_iff_ne.mpr (by omega); have d10 : (x == 45) = true := beq_iff_eq.mpr (by omega)
      have hr : rightM b2 q = true := by simp only [hR, d1, d3, d5, d6, d8, d9, d10, Bool.and_true, Bool.true_and, Bool.and_false, Bool.false_and, Bool.or_true, Bool.true_or, Bool.or_false, Bool.false_or]
      refine fin true hr (fun l hl hN => ?_)
      clear fin hr hR hc
      go_wp2_with (first | (go_at_call 14; refine (hN _).mono ?_; rintro e w5 ⟨rfl, hb5⟩))
      go_ret
      exact ⟨by cases l <;> rfl, below_names HB3.out hb5⟩
    · have d1 : decide (97 ≤ x) = false := decide_eq_false (by omega); have d3 : decide (65 ≤ x) = false := decide_eq_false (by omega); have d5 : decide (0 < (q : Int)) = true := decide_eq_true (by omega); have d5b : decide (0 < q) = true := decide_eq_true (by omega); have d6 : decide (48 ≤ x) = false := decide_eq_false (by omega); have d8 : (x == 46) = false := beq_eq_false_iff_ne.mpr (by omega); have d9 : (x == 95) = false := beq_eq_false_iff_ne.mpr (by omega); have d10 : (x == 45) = false := beq_eq_false_iff_ne.mpr (by omega)
      have hr : rightM b2 q = false := by simp only [hR, d1, d3, d5, d6, d8, d9, d10, Bool.and_true, Bool.true_and, Bool.and_false, Bool.false_and, Bool.or_true, Bool.true_or, Bool.or_false, Bool.false_or]
      refine fin false hr (fun l hl hN => ?_)
      clear fin hr hR hc
      go_wp2_with (first | (go_at_call 14; refine (hN _).mono ?_; rintro e w5 ⟨rfl, hb5⟩))
      go_ret
      exact ⟨by cases l <;> rfl, below_names HB3.out hb5⟩
end Go.Proofs.YtffdhekmnoajiaaDoor.XN
