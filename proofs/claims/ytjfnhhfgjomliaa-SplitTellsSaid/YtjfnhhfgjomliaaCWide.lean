import Derived.Test.YtjfnhhfgjomliaaQx5
import Derived.Test.YtjfnhhfgjomliaaMInt
import Derived.Test.YtjfnhhfgjomliaaCEv
/- what the printed functions of the package wide tell -/
set_option linter.unusedVariables false
set_option linter.unusedSimpArgs false
namespace Go.Proofs.Ytjfnhhfgjomliaa.M
open Go.RowKit Go.Proofs.YtjfnhhfgjomliaaW.PrintWords Go.Proofs.YtjfnhhfgjomliaaW.PrintLast Go.Proofs.YtjfnhhfgjomliaaW.PrintMore Go.Proofs.Ytjfnhhfgjomliaa.Q

theorem size_f {a : Int} (h : I64 a) : wide_size.f a = some (ab a) := by
  obtain ⟨h1, h2⟩ := h
  unfold wide_size.f ab
  by_cases c : a < 0
  · rw [if_pos c, if_pos c]; simp only [wu64]; congr 1; omega
  · rw [if_neg c, if_neg c]; simp only [wu64]; congr 1; omega

theorem mul64_f {x y : Int} (hx : 0 ≤ x) (hx1 : x ≤ 18446744073709551615) (hy : 0 ≤ y) (hy1 : y ≤ 18446744073709551615) :
    bits_Mul64.f x y = some (x * y / 18446744073709551616, x * y % 18446744073709551616) := by
  unfold bits_Mul64.f
  rw [and32 hx hx1, and32 hy hy1]
  obtain ⟨x1, hx1'⟩ : ∃ v, v = x / 4294967296 := ⟨_, rfl⟩
  obtain ⟨x0, hx0'⟩ : ∃ v, v = x % 4294967296 := ⟨_, rfl⟩
  obtain ⟨y1, hy1'⟩ : ∃ v, v = y / 4294967296 := ⟨_, rfl⟩
  obtain ⟨y0, hy0'⟩ : ∃ v, v = y % 4294967296 := ⟨_, rfl⟩
  rw [← hx1', ← hx0', ← hy1', ← hy0']
  have ex : x = x1 * 4294967296 + x0 := by omega
  have ey : y = y1 * 4294967296 + y0 := by omega
  have bx1 : 0 ≤ x1 ∧ x1 ≤ 4294967295 := by omega
  have bx0 : 0 ≤ x0 ∧ x0 ≤ 4294967295 := by omega
  have by1 : 0 ≤ y1 ∧ y1 ≤ 4294967295 := by omega
  have by0 : 0 ≤ y0 ∧ y0 ≤ 4294967295 := by omega
  have exy : x * y = x1 * y1 * 18446744073709551616 + (x1 * y0 + x0 * y1) * 4294967296 + x0 * y0 := by
    rw [ex, ey]; simp only [Int.add_mul, Int.mul_add]
    have e1 : x1 * 4294967296 * (y1 * 4294967296) = x1 * y1 * 18446744073709551616 := by
      rw [Int.mul_assoc, Int.mul_left_comm 4294967296 y1, ← Int.mul_assoc]; rfl
    have e2 : x1 * 4294967296 * y0 = x1 * y0 * 4294967296 := by rw [Int.mul_right_comm]
    have e3 : x0 * (y1 * 4294967296) = x0 * y1 * 4294967296 := by rw [Int.mul_assoc]
    rw [e1, e2, e3]; omega
  have bA : 0 ≤ x1 * y1 ∧ x1 * y1 ≤ 4294967295 * 4294967295 := ⟨Int.mul_nonneg bx1.1 by1.1, mul_le_mul' bx1.2 by1.2 bx1.1 (by omega)⟩
  have bB : 0 ≤ x1 * y0 ∧ x1 * y0 ≤ 4294967295 * 4294967295 := ⟨Int.mul_nonneg bx1.1 by0.1, mul_le_mul' bx1.2 by0.2 bx1.1 (by omega)⟩
  have bC : 0 ≤ x0 * y1 ∧ x0 * y1 ≤ 4294967295 * 4294967295 := ⟨Int.mul_nonneg bx0.1 by1.1, mul_le_mul' bx0.2 by1.2 bx0.1 (by omega)⟩
  have bD : 0 ≤ x0 * y0 ∧ x0 * y0 ≤ 4294967295 * 4294967295 := ⟨Int.mul_nonneg bx0.1 by0.1, mul_le_mul' bx0.2 by0.2 bx0.1 (by omega)⟩
  rw [exy]
  generalize x1 * y1 = A at *
  generalize x1 * y0 = B at *
  generalize x0 * y1 = C at *
  generalize x0 * y0 = D at *
  clear exy ex ey hx1' hx0' hy1' hy0' hx hx1 hy hy1
  rw [IntWalk.u64_in D ⟨by omega, by omega⟩, IntWalk.u64_in B ⟨by omega, by omega⟩, IntWalk.u64_in C ⟨by omega, by omega⟩, IntWalk.u64_in A ⟨by omega, by omega⟩]
  rw [IntWalk.u64_in (B + D / 4294967296) ⟨by omega, by omega⟩]
  rw [and32 (x := B + D / 4294967296) (by omega) (by omega)]
  rw [IntWalk.u64_in (A + (B + D / 4294967296) / 4294967296) ⟨by omega, by omega⟩]
  rw [IntWalk.u64_in ((B + D / 4294967296) % 4294967296 + C) ⟨by omega, by omega⟩]
  simp only [wu64]
  congr 1
  refine Prod.ext ?_ rfl
  show _ = _
  omega

/-- the product of the sizes in two words, and whether it is below 0 -/
theorem times_f {a b : Int} (ha : I64 a) (hb : I64 b) :
    wide_times.f a b = some (decide (a * b < 0), ab a * ab b / 18446744073709551616, ab a * ab b % 18446744073709551616) := by
  unfold wide_times.f
  rw [size_f ha, size_f hb]
  simp only [Option.bind_some]
  have ha' := ab_le ha
  have hb' := ab_le hb
  have ha0 := ab_nonneg a
  have hb0 := ab_nonneg b
  rw [mul64_f ha0 (by omega) hb0 (by omega)]
  simp only [Option.bind_some]
  have hP0 : 0 ≤ ab a * ab b := Int.mul_nonneg ha0 hb0
  have hP1 : ab a * ab b ≤ 9223372036854775808 * 9223372036854775808 := mul_le_mul' ha' hb' ha0 (by omega)
  by_cases hn : (decide (a < 0) != decide (b < 0)) = true
  · rw [if_pos hn, or_zero64 (by omega) (by omega) (by omega) (by omega)]
    congr 2
    have : (a * b < 0) ↔ (ab a * ab b / 18446744073709551616 ≠ 0 ∨ ab a * ab b % 18446744073709551616 ≠ 0) := by
      have e : (ab a * ab b / 18446744073709551616 ≠ 0 ∨ ab a * ab b % 18446744073709551616 ≠ 0) ↔ ab a * ab b ≠ 0 := by omega
      rw [e]
      simp only [bne_iff_ne, ne_eq, decide_eq_decide] at hn
      unfold ab
      by_cases c : a < 0
      · have c2 : ¬ b < 0 := fun h => hn ⟨fun _ => h, fun _ => c⟩
        rw [if_pos c, if_neg c2, Int.neg_mul]; 
        have : a * b ≤ 0 := Int.mul_nonpos_of_nonpos_of_nonneg (by omega) (by omega)
        omega
      · have c2 : b < 0 := Decidable.byContradiction fun h => hn ⟨fun h' => absurd h' c, fun h' => absurd h' h⟩
        rw [if_neg c, if_pos c2, Int.mul_neg]
        have : a * b ≤ 0 := Int.mul_nonpos_of_nonneg_of_nonpos (by omega) (by omega)
        omega
    rw [Bool.eq_iff_iff]; simpa using this.symm
  · rw [if_neg hn]
    congr 2
    have : ¬ a * b < 0 := by
      simp only [bne_iff_ne, ne_eq, decide_eq_decide, Classical.not_not] at hn
      by_cases c : a < 0
      · have := Int.mul_nonneg_of_nonpos_of_nonpos (show a ≤ 0 by omega) (show b ≤ 0 by have := hn.1 c; omega)
        omega
      · have := Int.mul_nonneg (show 0 ≤ a by omega) (show 0 ≤ b by have := mt hn.2 c; omega)
        omega
    simp [this]

/-! ### bits.Len64 -/
/-- how many bits: 2^(n-1) ≤ x < 2^n -/
def BL (x : Int) (n : Nat) : Prop := 1 ≤ n ∧ (2 : Int) ^ (n - 1) ≤ x ∧ x < 2 ^ n
theorem tab8_at : ∀ i : Fin 256, i.val ≠ 0 → bits_Len64.j0 1 (i.val : Int) 0 = some (((bits_Len64.j0 1 (i.val : Int) 0).getD 0).toNat : Int) ∧ 1 ≤ ((bits_Len64.j0 1 (i.val : Int) 0).getD 0).toNat ∧ ((bits_Len64.j0 1 (i.val : Int) 0).getD 0).toNat ≤ 8 ∧ 2 ^ (((bits_Len64.j0 1 (i.val : Int) 0).getD 0).toNat - 1) ≤ i.val ∧ i.val < 2 ^ ((bits_Len64.j0 1 (i.val : Int) 0).getD 0).toNat := by decide +kernel
theorem tab8_bl {x : Int} (h0 : 1 ≤ x) (h1 : x ≤ 255) : ∃ n : Nat, bits_Len64.j0 1 x 0 = some (n : Int) ∧ n ≤ 8 ∧ BL x n := by
  obtain ⟨i, rfl⟩ := Int.eq_ofNat_of_zero_le (show 0 ≤ x by omega)
  have := tab8_at ⟨i, by omega⟩ (by simp; omega)
  refine ⟨((bits_Len64.j0 1 (i : Int) 0).getD 0).toNat, this.1, this.2.2.1, this.2.1, ?_, ?_⟩
  · have := this.2.2.2.1; exact_mod_cast this
  · have := this.2.2.2.2; exact_mod_cast this
theorem BL.up {x : Int} {n : Nat} (j : Nat) (h : BL (x / 2 ^ j) n) : BL x (n + j) := by
  obtain ⟨h1, h2, h3⟩ := h
  have hp : (0 : Int) < 2 ^ j := Int.pow_pos (by omega)
  refine ⟨by omega, ?_, ?_⟩
  · have := (Int.le_ediv_iff_mul_le hp).1 h2
    rwa [← Int.pow_add, show n - 1 + j = n + j - 1 by omega] at this
  · have := (Int.ediv_lt_iff_lt_mul hp).1 h3
    rwa [← Int.pow_add] at this
set_option maxRecDepth 100000 in
theorem len_shape : ∃ B : Int → Int, ∀ k x0 x2, bits_Len64.j0 (k + 1) x0 x2 = (if x0 ≥ 65536 then (if (x0 / 65536) ≥ 256 then (if 0 ≤ (((x0 / 65536) / 256) % 256) then (if (((x0 / 65536) / 256) % 256) < 256 then (some (wrap64 ((wrap64 ((wrap64 (x2 + 16)) + 8)) + (wrap64 (B (((x0 / 65536) / 256) % 256)))))) else (none)) else (none)) else (if 0 ≤ ((x0 / 65536) % 256) then (if ((x0 / 65536) % 256) < 256 then (some (wrap64 ((wrap64 (x2 + 16)) + (wrap64 (B ((x0 / 65536) % 256)))))) else (none)) else (none))) else (if x0 ≥ 256 then (if 0 ≤ ((x0 / 256) % 256) then (if ((x0 / 256) % 256) < 256 then (some (wrap64 ((wrap64 (x2 + 8)) + (wrap64 (B ((x0 / 256) % 256)))))) else (none)) else (none)) else (if 0 ≤ ((x0) % 256) then (if ((x0) % 256) < 256 then (some (wrap64 (x2 + (wrap64 (B ((x0) % 256)))))) else (none)) else (none)))) := by
  refine ⟨fun i => bt ?_ i, ?_⟩
  rotate_left
  · intro k x0 x2
    exact bits_Len64.j0.eq_2 x0 x2 k
set_option maxRecDepth 100000 in
theorem len64_f {x : Int} (h0 : 1 ≤ x) (h1 : x ≤ 18446744073709551615) : ∃ n : Nat, Ev (fun k => bits_Len64.f k x) (n : Int) ∧ n ≤ 64 ∧ BL x n := by
  obtain ⟨B, hB⟩ := len_shape
  have hT : ∀ {z : Int}, 1 ≤ z → z ≤ 255 → ∃ n : Nat, wrap64 (B z) = (n : Int) ∧ n ≤ 8 ∧ BL z n := by
    intro z hz0 hz1
    obtain ⟨n, hn, hn8, hbl⟩ := tab8_bl hz0 hz1
    rw [hB, if_neg (by omega), if_neg (by omega), if_pos (by omega), if_pos (by omega), show z % 256 = z by omega] at hn
    have := Option.some.inj hn
    exact ⟨n, by unfold wrap64 at *; omega, hn8, hbl⟩
  have key : ∀ (y : Int) (b : Nat), 1 ≤ y → y ≤ 4294967295 → b ≤ 32 → ∃ n : Nat, Ev (fun k => bits_Len64.j0 k y (b : Int)) ((n + b : Nat) : Int) ∧ n ≤ 32 ∧ BL y n := by
    intro y b hy0 hy1 hb
    by_cases c1 : 65536 ≤ y
    · by_cases c2 : 256 ≤ y / 65536
      · obtain ⟨n, hn, hn8, hbl⟩ := hT (z := y / 16777216) (by omega) (by omega)
        refine ⟨n + 24, ?_, by omega, BL.up 24 (by simpa using hbl)⟩
        refine Ev.step (f := fun _ => some ((n + 24 + b : Nat) : Int)) ?_ (Ev.now _)
        intro k
        rw [hB, if_pos (show y ≥ 65536 by omega), if_pos (show y / 65536 ≥ 256 by omega), show y / 65536 / 256 % 256 = y / 16777216 by omega, if_pos (by omega), if_pos (by omega), hn]
        unfold wrap64; exact congrArg some (by omega)
      · obtain ⟨n, hn, hn8, hbl⟩ := hT (z := y / 65536) (by omega) (by omega)
        refine ⟨n + 16, ?_, by omega, BL.up 16 (by simpa using hbl)⟩
        refine Ev.step (f := fun _ => some ((n + 16 + b : Nat) : Int)) ?_ (Ev.now _)
        intro k
        rw [hB, if_pos (show y ≥ 65536 by omega), if_neg (show ¬ y / 65536 ≥ 256 by omega), show y / 65536 % 256 = y / 65536 by omega, if_pos (by omega), if_pos (by omega), hn]
        unfold wrap64; exact congrArg some (by omega)
    · by_cases c2 : 256 ≤ y
      · obtain ⟨n, hn, hn8, hbl⟩ := hT (z := y / 256) (by omega) (by omega)
        refine ⟨n + 8, ?_, by omega, BL.up 8 (by simpa using hbl)⟩
        refine Ev.step (f := fun _ => some ((n + 8 + b : Nat) : Int)) ?_ (Ev.now _)
        intro k
        rw [hB, if_neg (show ¬ y ≥ 65536 by omega), if_pos (show y ≥ 256 by omega), show y / 256 % 256 = y / 256 by omega, if_pos (by omega), if_pos (by omega), hn]
        unfold wrap64; exact congrArg some (by omega)
      · obtain ⟨n, hn, hn8, hbl⟩ := hT (z := y) (by omega) (by omega)
        refine ⟨n, ?_, by omega, hbl⟩
        refine Ev.step (f := fun _ => some ((n + b : Nat) : Int)) ?_ (Ev.now _)
        intro k
        rw [hB, if_neg (show ¬ y ≥ 65536 by omega), if_neg (show ¬ y ≥ 256 by omega), show y % 256 = y by omega, if_pos (by omega), if_pos (by omega), hn]
        unfold wrap64; exact congrArg some (by omega)
  unfold bits_Len64.f
  by_cases c : 4294967296 ≤ x
  · obtain ⟨n, h, hn, hb⟩ := key (x / 4294967296) 32 (by omega) (by omega) (by omega)
    refine ⟨n + 32, ?_, by omega, BL.up 32 (by simpa using hb)⟩
    simp only [if_pos (show x ≥ 4294967296 by omega)]; exact h
  · obtain ⟨n, h, hn, hb⟩ := key x 0 (by omega) (by omega) (by omega)
    refine ⟨n, ?_, by omega, hb⟩
    simp only [if_neg (show ¬ x ≥ 4294967296 by omega)]; exact h
theorem lead_f {x : Int} (h0 : 1 ≤ x) (h1 : x ≤ 18446744073709551615) : ∃ s : Nat, Ev (fun k => bits_LeadingZeros64.f k x) (s : Int) ∧ s ≤ 63 ∧ 9223372036854775808 ≤ x * 2 ^ s ∧ x * 2 ^ s < 18446744073709551616 := by
  obtain ⟨n, h, hn, b1, b2, b3⟩ := len64_f h0 h1
  refine ⟨64 - n, ?_, by omega, ?_, ?_⟩
  · unfold bits_LeadingZeros64.f
    refine Ev.bind h ?_
    rw [w64_in (by unfold I64; omega), show (64 : Int) - (n : Int) = ((64 - n : Nat) : Int) by omega]
    exact Ev.now _
  · have := Int.mul_le_mul_of_nonneg_right b2 (show (0 : Int) ≤ 2 ^ (64 - n) from Int.le_of_lt (Int.pow_pos (by omega)))
    rw [← Int.pow_add, show n - 1 + (64 - n) = 63 by omega] at this
    exact this
  · have := Int.mul_lt_mul_of_pos_right b3 (show (0 : Int) < 2 ^ (64 - n) from Int.pow_pos (by omega))
    rw [← Int.pow_add, show n + (64 - n) = 64 by omega] at this
    exact this

/-! ### bits.Div64 -/
theorem divl1_f {y1 y0 u u0 : Int} (x15 : Int) (s : Nat) (hx15 : 0 ≤ x15 ∧ x15 < 4294967296) (d : Nat) : ∀ q r : Int, Dg y1 y0 u u0 q r → q ≤ d →
    Ev (fun k => bits_Div64.l1 k (y1 * 4294967296 + y0) (s : Int) y1 y0 u0 x15 r u q)
      (IntKind.u64.wrap (x15 * 4294967296 + (u * 4294967296 + u0) / (y1 * 4294967296 + y0)), shr .u64 ((u * 4294967296 + u0) % (y1 * 4294967296 + y0)) (s : Int)) := by
  induction d with
  | zero =>
    intro q r h hd
    have hq := h.ql
    have e : q = 0 := by omega
    have hc : ¬ (4294967296 ≤ q ∨ 4294967296 * r + u0 < q * y0) := fun hc => by have := h.pos hc; omega
    have hN := h.no (by omega)
    have hh := h
    obtain ⟨h1, h2, h3, h4, h5, h6, h7, h8, h9, h10, h11, h12, h13, h14⟩ := hh
    subst e
    refine Ev.step (f := fun k => bits_Div64.j4 k (y1 * 4294967296 + y0) (s : Int) y1 y0 u0 x15 r u 0 false) (fun k => ?_) ?_
    · rw [bits_Div64.l1.eq_2, if_neg (by omega)]
      rw [IntWalk.u64_in (0 * y0) ⟨by omega, by omega⟩, IntWalk.u64_in (4294967296 * r) ⟨by omega, by omega⟩, IntWalk.u64_in (4294967296 * r + u0) ⟨by omega, by omega⟩, decide_eq_false (by omega)]
    · refine Ev.step (f := fun _ => some _) (fun k => ?_) (Ev.now _)
      rw [bits_Div64.j4.eq_2, if_neg (by simp), if_pos (by omega), Dg.rest h1 h2 h3 h4 hN, hN]
      rw [IntWalk.u64_in (x15 * 4294967296) ⟨by omega, by omega⟩]
  | succ d ih =>
    intro q r h hd
    have hh := h
    obtain ⟨h1, h2, h3, h4, h5, h6, h7, h8, h9, h10, h11, h12, h13, h14⟩ := hh
    by_cases hc : 4294967296 ≤ q ∨ 4294967296 * r + u0 < q * y0
    · refine Ev.step (f := fun k => bits_Div64.j4 k (y1 * 4294967296 + y0) (s : Int) y1 y0 u0 x15 r u q true) (fun k => ?_) ?_
      · rw [bits_Div64.l1.eq_2]
        by_cases c1 : 4294967296 ≤ q
        · rw [if_pos (by omega)]
        · have hc2 : 4294967296 * r + u0 < q * y0 := by rcases hc with hc | hc; exact absurd hc c1; exact hc
          have b1 : q * y0 ≤ 4294967295 * 4294967295 := mul_le_mul' (by omega) (by omega) (by omega) (by omega)
          rw [if_neg (by omega), IntWalk.u64_in (q * y0) ⟨by omega, by omega⟩, IntWalk.u64_in (4294967296 * r) ⟨by omega, by omega⟩, IntWalk.u64_in (4294967296 * r + u0) ⟨by omega, by omega⟩, decide_eq_true (by omega)]
      · have hp := h.pos hc
        by_cases hr : 4294967296 ≤ r + y1
        · have hN := h.out hc hr
          refine Ev.step (f := fun _ => some _) (fun k => ?_) (Ev.now _)
          rw [bits_Div64.j4.eq_2, if_pos rfl, IntWalk.u64_in (r + y1) ⟨by omega, by omega⟩, if_pos (by omega), if_pos (by omega), IntWalk.u64_in (q - 1) ⟨by omega, by omega⟩, Dg.rest h1 h2 h3 h4 hN, hN]
          rw [IntWalk.u64_in (x15 * 4294967296) ⟨by omega, by omega⟩]
        · refine Ev.step (f := fun k => bits_Div64.l1 k (y1 * 4294967296 + y0) (s : Int) y1 y0 u0 x15 (r + y1) u (q - 1)) (fun k => ?_) (ih (q - 1) (r + y1) (h.next hc (by omega)) (by omega))
          rw [bits_Div64.j4.eq_2, if_pos rfl, IntWalk.u64_in (r + y1) ⟨by omega, by omega⟩, if_neg (by omega), IntWalk.u64_in (q - 1) ⟨by omega, by omega⟩]
    · have hN := h.no (by omega)
      refine Ev.step (f := fun k => bits_Div64.j4 k (y1 * 4294967296 + y0) (s : Int) y1 y0 u0 x15 r u q false) (fun k => ?_) ?_
      · have b1 : q * y0 ≤ 4294967295 * 4294967295 := mul_le_mul' (by omega) (by omega) (by omega) (by omega)
        have b2 : 0 ≤ q * y0 := Int.mul_nonneg h9 h3
        rw [bits_Div64.l1.eq_2, if_neg (by omega), IntWalk.u64_in (q * y0) ⟨by omega, by omega⟩, IntWalk.u64_in (4294967296 * r) ⟨by omega, by omega⟩, IntWalk.u64_in (4294967296 * r + u0) ⟨by omega, by omega⟩, decide_eq_false (by omega)]
      · refine Ev.step (f := fun _ => some _) (fun k => ?_) (Ev.now _)
        rw [bits_Div64.j4.eq_2, if_neg (by simp), if_pos (by omega), Dg.rest h1 h2 h3 h4 hN, hN]
        rw [IntWalk.u64_in (x15 * 4294967296) ⟨by omega, by omega⟩]

/-- behind the first digit -/
theorem divj2_f {y1 y0 u u1 u0 q : Int} (s : Nat) (h1 : 2147483648 ≤ y1) (h2 : y1 < 4294967296) (h3 : 0 ≤ y0) (h4 : y0 < 4294967296) (hu0 : 0 ≤ u0 ∧ u0 < 4294967296) (hu1 : 0 ≤ u1 ∧ u1 < 4294967296) (hu : 0 ≤ u ∧ u < y1 * 4294967296 + y0)
    (hq : (u * 4294967296 + u1) / (y1 * 4294967296 + y0) = q) :
    Ev (fun k => bits_Div64.j2 k (y1 * 4294967296 + y0) (s : Int) y1 y0 u u1 u0 q)
      (((u * 4294967296 + u1) * 4294967296 + u0) / (y1 * 4294967296 + y0), shr .u64 (((u * 4294967296 + u1) * 4294967296 + u0) % (y1 * 4294967296 + y0)) (s : Int)) := by
  have hy : 0 < y1 * 4294967296 + y0 := by omega
  have hm := Int.emod_nonneg (u * 4294967296 + u1) (show y1 * 4294967296 + y0 ≠ 0 by omega)
  have hm2 := Int.emod_lt_of_pos (u * 4294967296 + u1) hy
  have hd := Dg.init h1 h2 h3 h4 hu0.1 hu0.2 hm hm2
  have ⟨e1, e2⟩ := two_digits (u0 := u0) hy hq rfl
  have hq0 : 0 ≤ q := by rw [← hq]; exact Int.ediv_nonneg (by omega) (by omega)
  have hq1 : q < 4294967296 := by rw [← hq]; exact Int.ediv_lt_of_lt_mul hy (by omega)
  have hlt : (((u * 4294967296 + u1) % (y1 * 4294967296 + y0)) * 4294967296 + u0) / (y1 * 4294967296 + y0) < 4294967296 := Int.ediv_lt_of_lt_mul hy (by omega)
  have hge : 0 ≤ (((u * 4294967296 + u1) % (y1 * 4294967296 + y0)) * 4294967296 + u0) / (y1 * 4294967296 + y0) := Int.ediv_nonneg (by omega) (by omega)
  refine Ev.step (f := fun k => bits_Div64.l1 k (y1 * 4294967296 + y0) (s : Int) y1 y0 u0 q ((u * 4294967296 + u1) % (y1 * 4294967296 + y0) - (u * 4294967296 + u1) % (y1 * 4294967296 + y0) / y1 * y1) ((u * 4294967296 + u1) % (y1 * 4294967296 + y0)) ((u * 4294967296 + u1) % (y1 * 4294967296 + y0) / y1)) (fun k => ?_) ?_
  · rw [bits_Div64.j2.eq_2, if_neg (by omega), Dg.rest h1 h2 h3 h4 hq]
    have b1 := hd.ql
    have b2 := hd.qh
    have b3 := hd.rl
    have b4 := hd.rh
    have b5 : 0 ≤ (u * 4294967296 + u1) % (y1 * 4294967296 + y0) / y1 * y1 := Int.mul_nonneg b1 (by omega)
    generalize hU : (u * 4294967296 + u1) % (y1 * 4294967296 + y0) = U at *
    rw [Int.tdiv_eq_ediv_of_nonneg hm, IntWalk.u64_in (U / y1) ⟨by omega, by omega⟩, IntWalk.u64_in (U / y1 * y1) ⟨by omega, by omega⟩, IntWalk.u64_in (U - U / y1 * y1) ⟨by omega, by omega⟩]
  · have := divl1_f q s ⟨hq0, hq1⟩ 8589934592 _ _ hd hd.qh
    rw [IntWalk.u64_in _ ⟨by omega, by omega⟩, ← e1, ← e2] at this
    exact this
theorem divl0_f {y1 y0 u u1 u0 : Int} (s : Nat) (hu0 : 0 ≤ u0 ∧ u0 < 4294967296) (d : Nat) : ∀ q r : Int, Dg y1 y0 u u1 q r → q ≤ d →
    Ev (fun k => bits_Div64.l0 k (y1 * 4294967296 + y0) (s : Int) y1 y0 u u1 u0 q r)
      (((u * 4294967296 + u1) * 4294967296 + u0) / (y1 * 4294967296 + y0), shr .u64 (((u * 4294967296 + u1) * 4294967296 + u0) % (y1 * 4294967296 + y0)) (s : Int)) := by
  induction d with
  | zero =>
    intro q r h hd
    have hq := h.ql
    have e : q = 0 := by omega
    have hc : ¬ (4294967296 ≤ q ∨ 4294967296 * r + u1 < q * y0) := fun hc => by have := h.pos hc; omega
    have hN := h.no (by omega)
    have hh := h
    obtain ⟨h1, h2, h3, h4, h5, h6, h7, h8, h9, h10, h11, h12, h13, h14⟩ := hh
    subst e
    refine Ev.step (f := fun k => bits_Div64.j1 k (y1 * 4294967296 + y0) (s : Int) y1 y0 u u1 u0 0 r false) (fun k => ?_) ?_
    · rw [bits_Div64.l0.eq_2, if_neg (by omega)]
      rw [IntWalk.u64_in (0 * y0) ⟨by omega, by omega⟩, IntWalk.u64_in (4294967296 * r) ⟨by omega, by omega⟩, IntWalk.u64_in (4294967296 * r + u1) ⟨by omega, by omega⟩, decide_eq_false (by omega)]
    · refine Ev.step (fun k => ?_) (divj2_f s h1 h2 h3 h4 hu0 ⟨h5, h6⟩ ⟨h7, h8⟩ hN)
      rw [bits_Div64.j1.eq_2, if_neg (by simp)]
  | succ d ih =>
    intro q r h hd
    have hh := h
    obtain ⟨h1, h2, h3, h4, h5, h6, h7, h8, h9, h10, h11, h12, h13, h14⟩ := hh
    by_cases hc : 4294967296 ≤ q ∨ 4294967296 * r + u1 < q * y0
    · refine Ev.step (f := fun k => bits_Div64.j1 k (y1 * 4294967296 + y0) (s : Int) y1 y0 u u1 u0 q r true) (fun k => ?_) ?_
      · rw [bits_Div64.l0.eq_2]
        by_cases c1 : 4294967296 ≤ q
        · rw [if_pos (by omega)]
        · have hc2 : 4294967296 * r + u1 < q * y0 := by rcases hc with hc | hc; exact absurd hc c1; exact hc
          have b1 : q * y0 ≤ 4294967295 * 4294967295 := mul_le_mul' (by omega) (by omega) (by omega) (by omega)
          rw [if_neg (by omega), IntWalk.u64_in (q * y0) ⟨by omega, by omega⟩, IntWalk.u64_in (4294967296 * r) ⟨by omega, by omega⟩, IntWalk.u64_in (4294967296 * r + u1) ⟨by omega, by omega⟩, decide_eq_true (by omega)]
      · have hp := h.pos hc
        by_cases hr : 4294967296 ≤ r + y1
        · have hN := h.out hc hr
          refine Ev.step (fun k => ?_) (divj2_f s h1 h2 h3 h4 hu0 ⟨h5, h6⟩ ⟨h7, h8⟩ hN)
          rw [bits_Div64.j1.eq_2, if_pos rfl, IntWalk.u64_in (r + y1) ⟨by omega, by omega⟩, if_pos (by omega), IntWalk.u64_in (q - 1) ⟨by omega, by omega⟩]
        · refine Ev.step (fun k => ?_) (ih (q - 1) (r + y1) (h.next hc (by omega)) (by omega))
          rw [bits_Div64.j1.eq_2, if_pos rfl, IntWalk.u64_in (r + y1) ⟨by omega, by omega⟩, if_neg (by omega), IntWalk.u64_in (q - 1) ⟨by omega, by omega⟩]
    · have hN := h.no (by omega)
      refine Ev.step (f := fun k => bits_Div64.j1 k (y1 * 4294967296 + y0) (s : Int) y1 y0 u u1 u0 q r false) (fun k => ?_) ?_
      · have b1 : q * y0 ≤ 4294967295 * 4294967295 := mul_le_mul' (by omega) (by omega) (by omega) (by omega)
        have b2 : 0 ≤ q * y0 := Int.mul_nonneg h9 h3
        rw [bits_Div64.l0.eq_2, if_neg (by omega), IntWalk.u64_in (q * y0) ⟨by omega, by omega⟩, IntWalk.u64_in (4294967296 * r) ⟨by omega, by omega⟩, IntWalk.u64_in (4294967296 * r + u1) ⟨by omega, by omega⟩, decide_eq_false (by omega)]
      · refine Ev.step (fun k => ?_) (divj2_f s h1 h2 h3 h4 hu0 ⟨h5, h6⟩ ⟨h7, h8⟩ hN)
        rw [bits_Div64.j1.eq_2, if_neg (by simp)]

theorem div64_f {hi lo y : Int} (hy : 0 < y) (hy1 : y ≤ 18446744073709551615) (hh : 0 ≤ hi) (hh1 : hi < y) (hl : 0 ≤ lo) (hl1 : lo ≤ 18446744073709551615) :
    Ev (fun k => bits_Div64.f k hi lo y) ((hi * 18446744073709551616 + lo) / y, (hi * 18446744073709551616 + lo) % y) := by
  unfold bits_Div64.f
  simp only [if_neg (show ¬ y = 0 by omega), if_neg (show ¬ y ≤ hi by omega)]
  by_cases h0 : hi = 0
  · subst h0
    simp only [if_pos, Int.zero_mul, Int.zero_add]
    rw [Int.tdiv_eq_ediv_of_nonneg hl, Int.tmod_eq_emod_of_nonneg hl]
    have b1 := Int.ediv_nonneg hl (show 0 ≤ y by omega)
    have b2 := Int.ediv_le_self y hl
    rw [IntWalk.u64_in _ ⟨b1, by omega⟩]
    exact Ev.now _
  · simp only [if_neg h0]
    obtain ⟨s, hs, hs63, hY0, hY1⟩ := lead_f (x := y) (by omega) hy1
    refine Ev.bind hs ?_
    have e1 : IntKind.u64.wrap (s : Int) = s := IntWalk.u64_in _ ⟨by omega, by omega⟩
    have e2 : IntKind.u64.wrap (64 - (s : Int)) = ((64 - s : Nat) : Int) := by rw [IntWalk.u64_in _ ⟨by omega, by omega⟩]; omega
    simp only [e1, e2]
    have hp : (0 : Int) < 2 ^ s := Int.pow_pos (by omega)
    have hp2 : (0 : Int) < 2 ^ (64 - s) := Int.pow_pos (by omega)
    have hpp : (2 : Int) ^ s * 2 ^ (64 - s) = 18446744073709551616 := by rw [← Int.pow_add, show s + (64 - s) = 64 by omega]; rfl
    have hpp' : (2 : Int) ^ (64 - s) * 2 ^ s = 18446744073709551616 := by rw [Int.mul_comm]; exact hpp
    have hhs : hi * 2 ^ s < 18446744073709551616 := by
      have := Int.mul_lt_mul_of_pos_right hh1 hp; omega
    have hhs0 : 0 ≤ hi * 2 ^ s := Int.mul_nonneg hh (by omega)
    have sh : ∀ x : Int, shl .u64 x (s : Int) = x * 2 ^ s % 18446744073709551616 := by
      intro x; unfold shl; rw [Int.toNat_natCast, Nat.min_eq_left (show s ≤ IntKind.u64.bits by show s ≤ 64; omega), wu64]
    have eY : shl .u64 y (s : Int) = y * 2 ^ s := by rw [sh]; omega
    have eH : shl .u64 hi (s : Int) = hi * 2 ^ s := by rw [sh]; omega
    have eR : shr .u64 lo ((64 - s : Nat) : Int) = lo / 2 ^ (64 - s) := by
      unfold shr; rw [Int.toNat_natCast, Nat.min_eq_left (show 64 - s ≤ IntKind.u64.bits by show 64 - s ≤ 64; omega)]
    rw [eY, eH, eR, sh lo]
    have hL0 : 0 ≤ lo / 2 ^ (64 - s) := Int.ediv_nonneg hl (by omega)
    have hL1 : lo / 2 ^ (64 - s) < 2 ^ s := Int.ediv_lt_of_lt_mul hp2 (by rw [hpp]; omega)
    have hs2 : (2 : Int) ^ s ≤ 9223372036854775808 := by
      have : (2 : Int) ^ s ≤ 2 ^ 63 := by exact_mod_cast Nat.pow_le_pow_right (by decide) hs63
      exact this
    have eO : Go.bits .or .u64 (hi * 2 ^ s) (lo / 2 ^ (64 - s)) = hi * 2 ^ s + lo / 2 ^ (64 - s) :=
      or_join s hhs0 (Int.mul_emod_left _ _) hhs hL0 hL1 (by omega)
    rw [eO]
    have eN : (hi * 2 ^ s + lo / 2 ^ (64 - s)) * 18446744073709551616 + lo * 2 ^ s % 18446744073709551616 = (hi * 18446744073709551616 + lo) * 2 ^ s := by
      have a1 : lo * 2 ^ s / 18446744073709551616 = lo / 2 ^ (64 - s) := by
        rw [← hpp', Int.mul_ediv_mul_of_pos_left _ _ hp]
      have a2 := Int.mul_ediv_add_emod (lo * 2 ^ s) 18446744073709551616
      rw [a1] at a2
      rw [Int.add_mul, Int.add_mul, Int.mul_right_comm hi]; omega
    have hU : hi * 2 ^ s + lo / 2 ^ (64 - s) < y * 2 ^ s := by
      have a1 : (hi + 1) * 2 ^ s ≤ y * 2 ^ s := Int.mul_le_mul_of_nonneg_right (by omega) (by omega)
      rw [Int.add_mul, Int.one_mul] at a1; omega
    generalize hUU : hi * 2 ^ s + lo / 2 ^ (64 - s) = U at *
    generalize hYY : y * 2 ^ s = Y at *
    generalize hLL : lo * 2 ^ s % 18446744073709551616 = LL at *
    have hLL0 : 0 ≤ LL ∧ LL < 18446744073709551616 := by rw [← hLL]; omega
    have hU0 : 0 ≤ U := by omega
    simp only [if_pos (show (0 : Int) ≤ (s : Int) by omega), if_pos (show (0 : Int) ≤ ((64 - s : Nat) : Int) by omega), if_neg (show ¬ Y / 4294967296 = 0 by omega)]
    rw [and32 (x := Y) (by omega) (by omega), and32 (x := LL) (by omega) (by omega)]
    have hd := Dg.init (y1 := Y / 4294967296) (y0 := Y % 4294967296) (u := U) (u0 := LL / 4294967296) (by omega) (by omega) (by omega) (by omega) (by omega) (by omega) hU0 (by omega)
    have b1 := hd.ql
    have b2 := hd.qh
    have b3 := hd.rl
    have b4 := hd.rh
    have b5 : 0 ≤ U / (Y / 4294967296) * (Y / 4294967296) := Int.mul_nonneg b1 (by omega)
    rw [Int.tdiv_eq_ediv_of_nonneg hU0, IntWalk.u64_in (U / (Y / 4294967296)) ⟨by omega, by omega⟩, IntWalk.u64_in (U / (Y / 4294967296) * (Y / 4294967296)) ⟨by omega, by omega⟩, IntWalk.u64_in (U - _) ⟨by omega, by omega⟩]
    have key := divl0_f (u0 := LL % 4294967296) s (by omega) 8589934592 _ _ hd b2
    rw [show Y / 4294967296 * 4294967296 + Y % 4294967296 = Y by omega, show (U * 4294967296 + LL / 4294967296) * 4294967296 + LL % 4294967296 = U * 18446744073709551616 + LL by omega, eN] at key
    have q1 : (hi * 18446744073709551616 + lo) * 2 ^ s / Y = (hi * 18446744073709551616 + lo) / y := by rw [← hYY, Int.mul_ediv_mul_of_pos_left _ _ hp]
    have q2 : (hi * 18446744073709551616 + lo) * 2 ^ s % Y = 2 ^ s * ((hi * 18446744073709551616 + lo) % y) := by rw [← hYY, Int.mul_comm _ (2 ^ s), Int.mul_comm y (2 ^ s), Int.mul_emod_mul_of_pos _ _ hp]
    have e3 : shr .u64 (2 ^ s * ((hi * 18446744073709551616 + lo) % y)) (s : Int) = (hi * 18446744073709551616 + lo) % y := by
      unfold shr; rw [Int.toNat_natCast, Nat.min_eq_left (show s ≤ IntKind.u64.bits by show s ≤ 64; omega), Int.mul_ediv_cancel_left _ (by omega)]
    rw [q1, q2, e3] at key
    exact key
theorem rem64_f {hi lo y : Int} (hy : 0 < y) (hy1 : y ≤ 18446744073709551615) (hh : 0 ≤ hi) (hl : 0 ≤ lo) (hl1 : lo ≤ 18446744073709551615) :
    Ev (fun k => bits_Rem64.f k hi lo y) ((hi * 18446744073709551616 + lo) % y) := by
  unfold bits_Rem64.f
  simp only [if_neg (show ¬ y = 0 by omega)]
  rw [Int.tmod_eq_emod_of_nonneg hh]
  have := div64_f hy hy1 (Int.emod_nonneg hi (by omega)) (Int.emod_lt_of_pos hi hy) hl hl1
  refine Ev.bind this ?_
  have e : (hi % y * 18446744073709551616 + lo) % y = (hi * 18446744073709551616 + lo) % y := by
    rw [Int.add_emod, Int.mul_emod, Int.emod_emod_of_dvd _ (Int.dvd_refl y), ← Int.mul_emod, ← Int.add_emod]
  simp only [e]
  exact Ev.now _
/-- the quotient and the rest of the product's size by c's -/
theorem by_f {n : Bool} {P c : Int} (hP : 0 ≤ P) (hP1 : P ≤ 85070591730234615865843651857942052864) (hc : I64 c) (hc0 : c ≠ 0) :
    Ev (fun k => wide_product_by.f k n (P / 18446744073709551616) (P % 18446744073709551616) c)
      (if P / ab c < 18446744073709551616 then (P / ab c, P % ab c, true) else (0, P % ab c, false)) := by
  have hb := ab_pos hc0
  have hb1 := ab_le hc
  unfold wide_product_by.f
  rw [size_f hc]
  simp only [Option.bind_some]
  by_cases h : ab c ≤ P / 18446744073709551616
  · have h2 : ¬ P / ab c < 18446744073709551616 := by
      have : 18446744073709551616 ≤ P / ab c := (Int.le_ediv_iff_mul_le hb).2 (by have := (Int.le_ediv_iff_mul_le (by decide : (0 : Int) < 18446744073709551616)).1 h; rw [Int.mul_comm]; exact this)
      omega
    simp only [if_pos (show P / 18446744073709551616 ≥ ab c by omega), if_neg h2]
    refine Ev.bind (rem64_f hb (by omega) (by omega) (by omega) (by omega)) ?_
    rw [show P / 18446744073709551616 * 18446744073709551616 + P % 18446744073709551616 = P by omega]
    exact Ev.now _
  · have h2 : P / ab c < 18446744073709551616 := Int.ediv_lt_of_lt_mul hb (by
      have := (Int.ediv_lt_iff_lt_mul (by decide : (0 : Int) < 18446744073709551616)).1 (show P / 18446744073709551616 < ab c by omega)
      rw [Int.mul_comm]; exact this)
    simp only [if_neg (show ¬ P / 18446744073709551616 ≥ ab c by omega), if_pos h2]
    refine Ev.bind (div64_f hb (by omega) (by omega) (by omega) (by omega) (by omega)) ?_
    rw [show P / 18446744073709551616 * 18446744073709551616 + P % 18446744073709551616 = P by omega]
    exact Ev.now _
end Go.Proofs.Ytjfnhhfgjomliaa.M
