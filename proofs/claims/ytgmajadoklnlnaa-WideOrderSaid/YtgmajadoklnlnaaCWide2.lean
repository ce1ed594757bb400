import Derived.Test.YtgmajadoklnlnaaCWide
import Derived.Test.YtgmajadoklnlnaaMWide
import Derived.Test.YtgmajadoklnlnaaQx2
/- what MulDiv, Exact, Cmp and Gcd tell -/
set_option linter.unusedVariables false
set_option linter.unusedSimpArgs false
namespace Go.Proofs.Ytgmajadoklnlnaa.M
open Go.RowKit Go.Proofs.YtgmajadoklnlnaaW.PrintWords Go.Proofs.YtgmajadoklnlnaaW.PrintLast Go.Proofs.YtgmajadoklnlnaaW.PrintMore Go.Proofs.Ytgmajadoklnlnaa.Q

theorem signed_f {n : Bool} {q : Int} (h0 : 0 ≤ q) (h1 : q ≤ 18446744073709551615) : Ev (fun k => wide_signed.f k n q) (fit (sg n q)) := by
  unfold wide_signed.f fit sg
  cases n with
  | true =>
    simp only [if_true]
    by_cases c : q ≤ 9223372036854775808
    · rw [decide_eq_true c, if_pos (by omega)]
      refine Ev.step (f := fun _ => some _) (fun k => ?_) (Ev.now _)
      rw [wide_signed.j0.eq_2, if_pos rfl]
      refine congrArg some (Prod.ext ?_ rfl)
      show wrap64 (-(wrap64 q)) = -q
      unfold wrap64; omega
    · rw [decide_eq_false c, if_neg (by omega)]
      refine Ev.step (f := fun _ => some _) (fun k => ?_) (Ev.now _)
      rw [wide_signed.j0.eq_2, if_neg (by simp), if_pos rfl]
  | false =>
    simp only [if_neg (show ¬ (false = true) by simp)]
    refine Ev.step (f := fun _ => some _) (fun k => ?_) (Ev.now _)
    rw [wide_signed.j0.eq_2, if_neg (by simp), if_neg (by simp)]
    by_cases c : q < 9223372036854775808
    · rw [if_pos c, if_pos (by omega), w64_in (by unfold I64; omega)]
    · rw [if_neg c, if_neg (by omega)]
theorem prod_bd {a b : Int} (ha : I64 a) (hb : I64 b) : 0 ≤ ab a * ab b ∧ ab a * ab b ≤ 85070591730234615865843651857942052864 := by
  have ha' := ab_le ha
  have hb' := ab_le hb
  have ha0 := ab_nonneg a
  have hb0 := ab_nonneg b
  exact ⟨Int.mul_nonneg ha0 hb0, mul_le_mul' ha' hb' ha0 (by omega)⟩

theorem muldiv_f {a b c : Int} (ha : I64 a) (hb : I64 b) (hc : I64 c) : Ev (fun k => wide_MulDiv.f k a b c) (mulDiv a b c) := by
  unfold wide_MulDiv.f mulDiv
  by_cases hc0 : c = 0
  · simp only [if_pos hc0]; exact Ev.now _
  · simp only [if_neg hc0]
    rw [times_f ha hb]
    simp only [Option.bind_some]
    have ⟨hP0, hP1⟩ := prod_bd ha hb
    have hb0 := ab_pos hc0
    have hb1 := ab_le hc
    refine Ev.bind (by_f hP0 hP1 hc hc0) ?_
    generalize hP : ab a * ab b = P at *
    generalize hn : decide (a * b < 0) = n
    have q0 : 0 ≤ P / ab c := Int.ediv_nonneg hP0 (by omega)
    have r0 := Int.emod_nonneg P (show ab c ≠ 0 by omega)
    have r1 := Int.emod_lt_of_pos P hb0
    have hbad : 9223372036854775808 < P / ab c → fit (sg (ngs a b c) (rnd P (ab c))) = (0, 2) := by
      intro h
      unfold fit sg rnd
      split <;> (rw [if_neg]; split <;> omega)
    by_cases hq : P / ab c < 18446744073709551616
    · simp only [if_pos hq, if_true]
      by_cases hq2 : 9223372036854775808 < P / ab c
      · rw [decide_eq_true (show P / ab c > 9223372036854775808 from hq2), hbad hq2]
        refine Ev.step (f := fun _ => some _) (fun k => ?_) (Ev.now _)
        rw [wide_MulDiv.j0.eq_2, if_pos rfl]
      · rw [decide_eq_false (show ¬ P / ab c > 9223372036854775808 from hq2)]
        have hz : ∀ q, q = rnd P (ab c) → fit (sg (n != (decide (c < 0))) q) = fit (sg (ngs a b c) (rnd P (ab c))) := by
          intro q e
          rw [← e, ← hn, sg_eq]
          intro h; rw [hP] at h; rw [e, h]; exact rnd_zero hb0
        by_cases hr : ab c - P % ab c ≤ P % ab c
        · have er : P / ab c + 1 = rnd P (ab c) := by unfold rnd; rw [if_pos hr]
          rw [← hz _ er]
          refine Ev.step (f := fun k => (wide_signed.f k (n != (decide (c < 0))) (P / ab c + 1)).bind fun bt => some (bt.1, bt.2)) (fun k => ?_) ?_
          · rw [wide_MulDiv.j0.eq_2, if_neg (by simp), size_f hc]
            simp only [Option.bind_some]
            rw [IntWalk.u64_in (ab c - P % ab c) ⟨by omega, by omega⟩, if_pos (show P % ab c ≥ ab c - P % ab c by omega), IntWalk.u64_in (P / ab c + 1) ⟨by omega, by omega⟩]
          · exact Ev.bind (signed_f (by omega) (by omega)) (Ev.now _)
        · have er : P / ab c = rnd P (ab c) := by unfold rnd; rw [if_neg hr]
          rw [← hz _ er]
          refine Ev.step (f := fun k => (wide_signed.f k (n != (decide (c < 0))) (P / ab c)).bind fun bt => some (bt.1, bt.2)) (fun k => ?_) ?_
          · rw [wide_MulDiv.j0.eq_2, if_neg (by simp), size_f hc]
            simp only [Option.bind_some]
            rw [IntWalk.u64_in (ab c - P % ab c) ⟨by omega, by omega⟩, if_neg (show ¬ P % ab c ≥ ab c - P % ab c by omega)]
          · exact Ev.bind (signed_f (by omega) (by omega)) (Ev.now _)
    · simp only [if_neg hq]
      rw [hbad (by omega)]
      simp only [Bool.false_eq_true, if_false]
      refine Ev.step (f := fun _ => some _) (fun k => ?_) (Ev.now _)
      rw [wide_MulDiv.j0.eq_2, if_pos rfl]

theorem exact_f {a b c : Int} (ha : I64 a) (hb : I64 b) (hc : I64 c) : Ev (fun k => wide_Exact.f k a b c) (exact a b c) := by
  unfold wide_Exact.f exact
  by_cases hc0 : c = 0
  · simp only [if_pos hc0]; exact Ev.now _
  · simp only [if_neg hc0]
    rw [times_f ha hb]
    simp only [Option.bind_some]
    have ⟨hP0, hP1⟩ := prod_bd ha hb
    have hb0 := ab_pos hc0
    have hb1 := ab_le hc
    refine Ev.bind (by_f hP0 hP1 hc hc0) ?_
    have hs := sg_eq (a := a) (b := b) (c := c) (q := ab a * ab b / ab c) (fun h => by rw [h, Int.zero_ediv])
    rw [← hs]
    generalize hP : ab a * ab b = P at *
    generalize hn : decide (a * b < 0) = n
    have q0 : 0 ≤ P / ab c := Int.ediv_nonneg hP0 (by omega)
    by_cases hr : P % ab c = 0
    · simp only [if_pos hr]
      by_cases hq : P / ab c < 18446744073709551616
      · simp only [if_pos hq, if_pos hr, if_true]
        refine Ev.bind (signed_f q0 (by omega)) ?_
        generalize sg (n != decide (c < 0)) (P / ab c) = v
        unfold fit
        by_cases hv : -9223372036854775808 ≤ v ∧ v ≤ 9223372036854775807
        · simp only [if_pos hv]; exact Ev.now _
        · simp only [if_neg hv]; exact Ev.now _
      · simp only [if_neg hq, if_pos hr, Bool.false_eq_true, if_false]
        rw [if_neg (by unfold sg; split <;> omega)]
        exact Ev.now _
    · simp only [if_neg hr]
      by_cases hq : P / ab c < 18446744073709551616
      · simp only [if_pos hq, if_neg hr]; exact Ev.now _
      · simp only [if_neg hq, if_neg hr]; exact Ev.now _

theorem compare_f (x y : Int) : cmp_Compare_uint64.f x y = some (cmpI x y) := by
  unfold cmp_Compare_uint64.f cmp_isNaN_uint64.f cmpI
  simp only [bne_self_eq_false, Option.bind_some, Bool.false_eq_true, if_false]
  by_cases h : x < y
  · rw [if_pos h, if_pos h]
  · rw [if_neg h, if_neg h]
    by_cases h2 : y < x
    · rw [if_pos h2, if_pos h2]
    · rw [if_neg h2, if_neg h2]
theorem or2_f (x y : Int) : Ev (fun k => cmp_Or_int.f k [x, y]) (if x = 0 then y else x) := by
  unfold cmp_Or_int.f
  have hl : (([x, y].length : Nat) : Int) = 2 := rfl
  have h0 : wrap64 (0 + 1) = 1 := by unfold wrap64; omega
  have h1 : wrap64 (1 + 1) = 2 := by unfold wrap64; omega
  rw [hl]
  by_cases hx : x = 0
  · rw [if_pos hx]
    refine Ev.step (f := fun k => cmp_Or_int.l0 k 0 [x, y] (2 : Int) 1) (fun k => ?_) ?_
    · rw [cmp_Or_int.l0.eq_2, hl, if_pos (by omega), if_pos (by omega), if_pos (by omega), if_pos (by rw [show rd [x, y] 0 = x from rfl]; exact hx), h0]
    · by_cases hy : y = 0
      · refine Ev.step (f := fun k => cmp_Or_int.l0 k 0 [x, y] (2 : Int) 2) (fun k => ?_) ?_
        · rw [cmp_Or_int.l0.eq_2, hl, if_pos (by omega), if_pos (by omega), if_pos (by omega), if_pos (by rw [show rd [x, y] 1 = y from rfl]; exact hy), h1]
        · refine Ev.step (f := fun _ => some y) (fun k => ?_) (Ev.now _)
          rw [cmp_Or_int.l0.eq_2, if_neg (by omega), hy]
      · refine Ev.step (f := fun _ => some y) (fun k => ?_) (Ev.now _)
        rw [cmp_Or_int.l0.eq_2, hl, if_pos (by omega), if_pos (by omega), if_pos (by omega), if_neg (by rw [show rd [x, y] 1 = y from rfl]; exact hy)]; rfl
  · rw [if_neg hx]
    refine Ev.step (f := fun _ => some x) (fun k => ?_) (Ev.now _)
    rw [cmp_Or_int.l0.eq_2, hl, if_pos (by omega), if_pos (by omega), if_pos (by omega), if_neg (by rw [show rd [x, y] 0 = x from rfl]; exact hx)]; rfl
theorem cmp_words (P Q : Int) : (if cmpI (P / 18446744073709551616) (Q / 18446744073709551616) = 0 then cmpI (P % 18446744073709551616) (Q % 18446744073709551616) else cmpI (P / 18446744073709551616) (Q / 18446744073709551616)) = cmpI P Q := by
  unfold cmpI; repeat' split
  all_goals omega
theorem neg_prod {a b : Int} : a * b = if a * b < 0 then -(ab a * ab b) else ab a * ab b := by
  by_cases h : a * b = 0
  · rw [if_neg (by omega), ab_mul.2 h]; exact h
  · have h2 := mul_neg_iff h
    unfold ab
    by_cases c : a < 0 <;> by_cases d : b < 0 <;> simp [c, d] at h2 <;> simp [c, d, Int.neg_mul, Int.mul_neg] <;> (first | (rw [if_pos h2]) | (rw [if_neg (by omega)]) | omega)
theorem cmp_f {a b c d : Int} (ha : I64 a) (hb : I64 b) (hc : I64 c) (hd : I64 d) : Ev (fun k => wide_Cmp.f k a b c d) (cmpI (a * b) (c * d)) := by
  unfold wide_Cmp.f
  rw [times_f ha hb, times_f hc hd]
  simp only [Option.bind_some]
  have e1 := neg_prod (a := a) (b := b)
  have e2 := neg_prod (a := c) (b := d)
  have p1 := (prod_bd ha hb).1
  have p2 := (prod_bd hc hd).1
  generalize a * b = x at *
  generalize c * d = y at *
  generalize ab a * ab b = P at *
  generalize ab c * ab d = Q at *
  by_cases hx : x < 0 <;> by_cases hy : y < 0
  · simp only [hx, hy, decide_true, bne_self_eq_false, Bool.false_eq_true, if_false]
    rw [if_pos hx] at e1; rw [if_pos hy] at e2
    have e : cmpI x y = cmpI Q P := by unfold cmpI; repeat' split
                                       all_goals omega
    rw [e, ← cmp_words]
    refine Ev.step (f := fun k => (cmp_Or_int.f k [cmpI (Q / 18446744073709551616) (P / 18446744073709551616), cmpI (Q % 18446744073709551616) (P % 18446744073709551616)]).bind fun t => some t) (fun k => ?_) (Ev.bind (or2_f _ _) (Ev.now _))
    rw [wide_Cmp.j0.eq_2, if_neg (by simp), if_neg (by simp), if_pos rfl, compare_f]
    simp only [Option.bind_some, compare_f]
  · simp only [hx, hy, decide_true, decide_false, show (true != false) = true from rfl, if_true]
    have e : cmpI x y = -1 := by unfold cmpI; rw [if_pos (by omega)]
    rw [e]
    refine Ev.step (f := fun _ => some _) (fun k => ?_) (Ev.now _)
    rw [wide_Cmp.j0.eq_2, if_pos rfl]
  · simp only [hx, hy, decide_true, decide_false, show (false != true) = true from rfl, if_true]
    have e : cmpI x y = 1 := by unfold cmpI; rw [if_neg (by omega), if_pos (by omega)]
    rw [e]
    refine Ev.step (f := fun _ => some _) (fun k => ?_) (Ev.now _)
    rw [wide_Cmp.j0.eq_2, if_neg (by simp), if_pos (by simp)]
  · simp only [hx, hy, decide_false, bne_self_eq_false, Bool.false_eq_true, if_false]
    rw [if_neg hx] at e1; rw [if_neg hy] at e2
    rw [e1, e2, ← cmp_words]
    refine Ev.step (f := fun k => (cmp_Or_int.f k [cmpI (P / 18446744073709551616) (Q / 18446744073709551616), cmpI (P % 18446744073709551616) (Q % 18446744073709551616)]).bind fun t => some t) (fun k => ?_) (Ev.bind (or2_f _ _) (Ev.now _))
    rw [wide_Cmp.j0.eq_2, if_neg (by simp), if_neg (by simp), if_neg (by simp), compare_f]
    simp only [Option.bind_some, compare_f]
theorem gcdl_f (d : Nat) : ∀ x y : Nat, y ≤ d → Ev (fun k => wide_Gcd.l0 k (x : Int) (y : Int)) ((Nat.gcd x y : Nat) : Int) := by
  induction d with
  | zero =>
    intro x y h
    obtain rfl : y = 0 := by omega
    refine Ev.step (f := fun _ => some _) (fun k => ?_) (Ev.now _)
    rw [wide_Gcd.l0.eq_2, if_pos (by rfl), Nat.gcd_zero_right]
  | succ d ih =>
    intro x y h
    by_cases hy : y = 0
    · subst hy
      refine Ev.step (f := fun _ => some _) (fun k => ?_) (Ev.now _)
      rw [wide_Gcd.l0.eq_2, if_pos (by rfl), Nat.gcd_zero_right]
    · have hlt := Nat.mod_lt x (show y > 0 by omega)
      have := ih y (x % y) (by omega)
      rw [Nat.gcd_comm, Nat.gcd_rec, Nat.gcd_comm]
      refine Ev.step (fun k => ?_) this
      rw [wide_Gcd.l0.eq_2, if_neg (by omega)]; rfl
theorem gcd_f {a b : Int} (ha : I64 a) (hb : I64 b) : Ev (fun k => wide_Gcd.f k a b) ((Int.gcd a b : Nat) : Int) := by
  unfold wide_Gcd.f
  rw [size_f ha, size_f hb]
  simp only [Option.bind_some]
  have e : ∀ x : Int, ab x = (x.natAbs : Int) := by intro x; unfold ab; split <;> omega
  rw [e, e]
  exact gcdl_f _ _ _ (Nat.le_refl _)
theorem alive_f : Ev (fun k => comptrollerlaw02_alive.f k) true := Ev.of comptrollerlaw02_alive.mono (k := 100) (by decide +kernel)
theorem wf_i64 {a : Int} (h : (Lit.int .i64 a).wf = true) : I64 a := by
  simp [Lit.wf, IntKind.min, IntKind.max, IntKind.bits, IntKind.signed] at h
  unfold I64
  omega
end Go.Proofs.Ytgmajadoklnlnaa.M
