import Derived.Test.YthidfomkgclkcaaGreatDoorQx3
import Derived.Test.YthidfomkgclkcaaGreatDoorGM

import Derived.Test.YthidfomkgclkcaaGreatDoorQx6

import Derived.Test.YthidfomkgclkcaaGreatDoorQx4


import Derived.Test.YthidfomkgclkcaaGreatDoorQx5



import Derived.Lib.ItoaLen
import Derived.Test.YthidfomkgclkcaaGreatDoorQx7

/- several texts of this session in one -/
set_option linter.unusedVariables false
set_option linter.unusedSimpArgs false
namespace Go.Proofs.YthidfomkgclkcaaGreatDoor.M
open Go.RowKit Go.Proofs.YthidfomkgclkcaaGreatDoorW.PrintWords Go.Proofs.YthidfomkgclkcaaGreatDoorW.PrintLast Go.Proofs.YthidfomkgclkcaaGreatDoorW.PrintMore Go.Proofs.YthidfomkgclkcaaGreatDoor.Q

theorem size_f {a : Int} (h : I64 a) : wide_size.f a = some (ab a) := by
  obtain ⟨h1, h2⟩ := h
  unfold wide_size.f ab
  by_cases c : a < 0
  · rw [if_pos c, if_pos c]; simp only [wu64]; congr 1; omega
  · rw [if_neg c, if_neg c]; simp only [wu64]; congr 1; omega

theorem mul64_f {x y : Int} (hx : 0 ≤ x) (hx1 : x ≤ 18446744073709551615) (hy : 0 ≤ y) (hy1 : y ≤ 18446744073709551615) :
    bits_Mul64.f x y = some (x * y / 18446744073709551616, x * y % 18446744073709551616) := by
  unfold bits_Mul64.f
  rw [and32 hx hx1, and32 hy hy1]
  obtain ⟨x1, hx1'⟩ : ∃ v, v = x / 4294967296 := ⟨_, rfl⟩
  obtain ⟨x0, hx0'⟩ : ∃ v, v = x % 4294967296 := ⟨_, rfl⟩
  obtain ⟨y1, hy1'⟩ : ∃ v, v = y / 4294967296 := ⟨_, rfl⟩
  obtain ⟨y0, hy0'⟩ : ∃ v, v = y % 4294967296 := ⟨_, rfl⟩
  rw [← hx1', ← hx0', ← hy1', ← hy0']
  have ex : x = x1 * 4294967296 + x0 := by omega
  have ey : y = y1 * 4294967296 + y0 := by omega
  have bx1 : 0 ≤ x1 ∧ x1 ≤ 4294967295 := by omega
  have bx0 : 0 ≤ x0 ∧ x0 ≤ 4294967295 := by omega
  have by1 : 0 ≤ y1 ∧ y1 ≤ 4294967295 := by omega
  have by0 : 0 ≤ y0 ∧ y0 ≤ 4294967295 := by omega
  have exy : x * y = x1 * y1 * 18446744073709551616 + (x1 * y0 + x0 * y1) * 4294967296 + x0 * y0 := by
    rw [ex, ey]; simp only [Int.add_mul, Int.mul_add]
    have e1 : x1 * 4294967296 * (y1 * 4294967296) = x1 * y1 * 18446744073709551616 := by
      rw [Int.mul_assoc, Int.mul_left_comm 4294967296 y1, ← Int.mul_assoc]; rfl
    have e2 : x1 * 4294967296 * y0 = x1 * y0 * 4294967296 := by rw [Int.mul_right_comm]
    have e3 : x0 * (y1 * 4294967296) = x0 * y1 * 4294967296 := by rw [Int.mul_assoc]
    rw [e1, e2, e3]; omega
  have bA : 0 ≤ x1 * y1 ∧ x1 * y1 ≤ 4294967295 * 4294967295 := ⟨Int.mul_nonneg bx1.1 by1.1, mul_le_mul' bx1.2 by1.2 bx1.1 (by omega)⟩
  have bB : 0 ≤ x1 * y0 ∧ x1 * y0 ≤ 4294967295 * 4294967295 := ⟨Int.mul_nonneg bx1.1 by0.1, mul_le_mul' bx1.2 by0.2 bx1.1 (by omega)⟩
  have bC : 0 ≤ x0 * y1 ∧ x0 * y1 ≤ 4294967295 * 4294967295 := ⟨Int.mul_nonneg bx0.1 by1.1, mul_le_mul' bx0.2 by1.2 bx0.1 (by omega)⟩
  have bD : 0 ≤ x0 * y0 ∧ x0 * y0 ≤ 4294967295 * 4294967295 := ⟨Int.mul_nonneg bx0.1 by0.1, mul_le_mul' bx0.2 by0.2 bx0.1 (by omega)⟩
  rw [exy]
  generalize x1 * y1 = A at *
  generalize x1 * y0 = B at *
  generalize x0 * y1 = C at *
  generalize x0 * y0 = D at *
  clear exy ex ey hx1' hx0' hy1' hy0' hx hx1 hy hy1
  rw [IntWalk.u64_in D ⟨by omega, by omega⟩, IntWalk.u64_in B ⟨by omega, by omega⟩, IntWalk.u64_in C ⟨by omega, by omega⟩, IntWalk.u64_in A ⟨by omega, by omega⟩]
  rw [IntWalk.u64_in (B + D / 4294967296) ⟨by omega, by omega⟩]
  rw [and32 (x := B + D / 4294967296) (by omega) (by omega)]
  rw [IntWalk.u64_in (A + (B + D / 4294967296) / 4294967296) ⟨by omega, by omega⟩]
  rw [IntWalk.u64_in ((B + D / 4294967296) % 4294967296 + C) ⟨by omega, by omega⟩]
  simp only [wu64]
  congr 1
  refine Prod.ext ?_ rfl
  show _ = _
  omega

/-- the product of the sizes in two words, and whether it is below 0 -/
theorem times_f {a b : Int} (ha : I64 a) (hb : I64 b) :
    wide_times.f a b = some (decide (a * b < 0), ab a * ab b / 18446744073709551616, ab a * ab b % 18446744073709551616) := by
  unfold wide_times.f
  rw [size_f ha, size_f hb]
  simp only [Option.bind_some]
  have ha' := ab_le ha
  have hb' := ab_le hb
  have ha0 := ab_nonneg a
  have hb0 := ab_nonneg b
  rw [mul64_f ha0 (by omega) hb0 (by omega)]
  simp only [Option.bind_some]
  have hP0 : 0 ≤ ab a * ab b := Int.mul_nonneg ha0 hb0
  have hP1 : ab a * ab b ≤ 9223372036854775808 * 9223372036854775808 := mul_le_mul' ha' hb' ha0 (by omega)
  by_cases hn : (decide (a < 0) != decide (b < 0)) = true
  · rw [if_pos hn, or_zero64 (by omega) (by omega) (by omega) (by omega)]
    congr 2
    have : (a * b < 0) ↔ (ab a * ab b / 18446744073709551616 ≠ 0 ∨ ab a * ab b % 18446744073709551616 ≠ 0) := by
      have e : (ab a * ab b / 18446744073709551616 ≠ 0 ∨ ab a * ab b % 18446744073709551616 ≠ 0) ↔ ab a * ab b ≠ 0 := by omega
      rw [e]
      simp only [bne_iff_ne, ne_eq, decide_eq_decide] at hn
      unfold ab
      by_cases c : a < 0
      · have c2 : ¬ b < 0 := fun h => hn ⟨fun _ => h, fun _ => c⟩
        rw [if_pos c, if_neg c2, Int.neg_mul]; 
        have : a * b ≤ 0 := Int.mul_nonpos_of_nonpos_of_nonneg (by omega) (by omega)
        omega
      · have c2 : b < 0 := Decidable.byContradiction fun h => hn ⟨fun h' => absurd h' c, fun h' => absurd h' h⟩
        rw [if_neg c, if_pos c2, Int.mul_neg]
        have : a * b ≤ 0 := Int.mul_nonpos_of_nonneg_of_nonpos (by omega) (by omega)
        omega
    rw [Bool.eq_iff_iff]; simpa using this.symm
  · rw [if_neg hn]
    congr 2
    have : ¬ a * b < 0 := by
      simp only [bne_iff_ne, ne_eq, decide_eq_decide, Classical.not_not] at hn
      by_cases c : a < 0
      · have := Int.mul_nonneg_of_nonpos_of_nonpos (show a ≤ 0 by omega) (show b ≤ 0 by have := hn.1 c; omega)
        omega
      · have := Int.mul_nonneg (show 0 ≤ a by omega) (show 0 ≤ b by have := mt hn.2 c; omega)
        omega
    simp [this]

/-! ### bits.Len64 -/
/-- how many bits: 2^(n-1) ≤ x < 2^n -/
def BL (x : Int) (n : Nat) : Prop := 1 ≤ n ∧ (2 : Int) ^ (n - 1) ≤ x ∧ x < 2 ^ n
theorem tab8_at : ∀ i : Fin 256, i.val ≠ 0 → bits_Len64.j0 1 (i.val : Int) 0 = some (((bits_Len64.j0 1 (i.val : Int) 0).getD 0).toNat : Int) ∧ 1 ≤ ((bits_Len64.j0 1 (i.val : Int) 0).getD 0).toNat ∧ ((bits_Len64.j0 1 (i.val : Int) 0).getD 0).toNat ≤ 8 ∧ 2 ^ (((bits_Len64.j0 1 (i.val : Int) 0).getD 0).toNat - 1) ≤ i.val ∧ i.val < 2 ^ ((bits_Len64.j0 1 (i.val : Int) 0).getD 0).toNat := by decide +kernel
theorem tab8_bl {x : Int} (h0 : 1 ≤ x) (h1 : x ≤ 255) : ∃ n : Nat, bits_Len64.j0 1 x 0 = some (n : Int) ∧ n ≤ 8 ∧ BL x n := by
  obtain ⟨i, rfl⟩ := Int.eq_ofNat_of_zero_le (show 0 ≤ x by omega)
  have := tab8_at ⟨i, by omega⟩ (by simp; omega)
  refine ⟨((bits_Len64.j0 1 (i : Int) 0).getD 0).toNat, this.1, this.2.2.1, this.2.1, ?_, ?_⟩
  · have := this.2.2.2.1; exact_mod_cast this
  · have := this.2.2.2.2; exact_mod_cast this
theorem BL.up {x : Int} {n : Nat} (j : Nat) (h : BL (x / 2 ^ j) n) : BL x (n + j) := by
  obtain ⟨h1, h2, h3⟩ := h
  have hp : (0 : Int) < 2 ^ j := Int.pow_pos (by omega)
  refine ⟨by omega, ?_, ?_⟩
  · have := (Int.le_ediv_iff_mul_le hp).1 h2
    rwa [← Int.pow_add, show n - 1 + j = n + j - 1 by omega] at this
  · have := (Int.ediv_lt_iff_lt_mul hp).1 h3
    rwa [← Int.pow_add] at this
set_option maxRecDepth 100000 in
theorem len_shape : ∃ B : Int → Int, ∀ k x0 x2, bits_Len64.j0 (k + 1) x0 x2 = (if x0 ≥ 65536 then (if (x0 / 65536) ≥ 256 then (if 0 ≤ (((x0 / 65536) / 256) % 256) then (if (((x0 / 65536) / 256) % 256) < 256 then (some (wrap64 ((wrap64 ((wrap64 (x2 + 16)) + 8)) + (wrap64 (B (((x0 / 65536) / 256) % 256)))))) else (none)) else (none)) else (if 0 ≤ ((x0 / 65536) % 256) then (if ((x0 / 65536) % 256) < 256 then (some (wrap64 ((wrap64 (x2 + 16)) + (wrap64 (B ((x0 / 65536) % 256)))))) else (none)) else (none))) else (if x0 ≥ 256 then (if 0 ≤ ((x0 / 256) % 256) then (if ((x0 / 256) % 256) < 256 then (some (wrap64 ((wrap64 (x2 + 8)) + (wrap64 (B ((x0 / 256) % 256)))))) else (none)) else (none)) else (if 0 ≤ ((x0) % 256) then (if ((x0) % 256) < 256 then (some (wrap64 (x2 + (wrap64 (B ((x0) % 256)))))) else (none)) else (none)))) := by
  refine ⟨fun i => bt ?_ i, ?_⟩
  rotate_left
  · intro k x0 x2
    exact bits_Len64.j0.eq_2 x0 x2 k
set_option maxRecDepth 100000 in
theorem len64_f {x : Int} (h0 : 1 ≤ x) (h1 : x ≤ 18446744073709551615) : ∃ n : Nat, Ev (fun k => bits_Len64.f k x) (n : Int) ∧ n ≤ 64 ∧ BL x n := by
  obtain ⟨B, hB⟩ := len_shape
  have hT : ∀ {z : Int}, 1 ≤ z → z ≤ 255 → ∃ n : Nat, wrap64 (B z) = (n : Int) ∧ n ≤ 8 ∧ BL z n := by
    intro z hz0 hz1
    obtain ⟨n, hn, hn8, hbl⟩ := tab8_bl hz0 hz1
    rw [hB, if_neg (by omega), if_neg (by omega), if_pos (by omega), if_pos (by omega), show z % 256 = z by omega] at hn
    have := Option.some.inj hn
    exact ⟨n, by unfold wrap64 at *; omega, hn8, hbl⟩
  have key : ∀ (y : Int) (b : Nat), 1 ≤ y → y ≤ 4294967295 → b ≤ 32 → ∃ n : Nat, Ev (fun k => bits_Len64.j0 k y (b : Int)) ((n + b : Nat) : Int) ∧ n ≤ 32 ∧ BL y n := by
    intro y b hy0 hy1 hb
    by_cases c1 : 65536 ≤ y
    · by_cases c2 : 256 ≤ y / 65536
      · obtain ⟨n, hn, hn8, hbl⟩ := hT (z := y / 16777216) (by omega) (by omega)
        refine ⟨n + 24, ?_, by omega, BL.up 24 (by simpa using hbl)⟩
        refine Ev.step (f := fun _ => some ((n + 24 + b : Nat) : Int)) ?_ (Ev.now _)
        intro k
        rw [hB, if_pos (show y ≥ 65536 by omega), if_pos (show y / 65536 ≥ 256 by omega), show y / 65536 / 256 % 256 = y / 16777216 by omega, if_pos (by omega), if_pos (by omega), hn]
        unfold wrap64; exact congrArg some (by omega)
      · obtain ⟨n, hn, hn8, hbl⟩ := hT (z := y / 65536) (by omega) (by omega)
        refine ⟨n + 16, ?_, by omega, BL.up 16 (by simpa using hbl)⟩
        refine Ev.step (f := fun _ => some ((n + 16 + b : Nat) : Int)) ?_ (Ev.now _)
        intro k
        rw [hB, if_pos (show y ≥ 65536 by omega), if_neg (show ¬ y / 65536 ≥ 256 by omega), show y / 65536 % 256 = y / 65536 by omega, if_pos (by omega), if_pos (by omega), hn]
        unfold wrap64; exact congrArg some (by omega)
    · by_cases c2 : 256 ≤ y
      · obtain ⟨n, hn, hn8, hbl⟩ := hT (z := y / 256) (by omega) (by omega)
        refine ⟨n + 8, ?_, by omega, BL.up 8 (by simpa using hbl)⟩
        refine Ev.step (f := fun _ => some ((n + 8 + b : Nat) : Int)) ?_ (Ev.now _)
        intro k
        rw [hB, if_neg (show ¬ y ≥ 65536 by omega), if_pos (show y ≥ 256 by omega), show y / 256 % 256 = y / 256 by omega, if_pos (by omega), if_pos (by omega), hn]
        unfold wrap64; exact congrArg some (by omega)
      · obtain ⟨n, hn, hn8, hbl⟩ := hT (z := y) (by omega) (by omega)
        refine ⟨n, ?_, by omega, hbl⟩
        refine Ev.step (f := fun _ => some ((n + b : Nat) : Int)) ?_ (Ev.now _)
        intro k
        rw [hB, if_neg (show ¬ y ≥ 65536 by omega), if_neg (show ¬ y ≥ 256 by omega), show y % 256 = y by omega, if_pos (by omega), if_pos (by omega), hn]
        unfold wrap64; exact congrArg some (by omega)
  unfold bits_Len64.f
  by_cases c : 4294967296 ≤ x
  · obtain ⟨n, h, hn, hb⟩ := key (x / 4294967296) 32 (by omega) (by omega) (by omega)
    refine ⟨n + 32, ?_, by omega, BL.up 32 (by simpa using hb)⟩
    simp only [if_pos (show x ≥ 4294967296 by omega)]; exact h
  · obtain ⟨n, h, hn, hb⟩ := key x 0 (by omega) (by omega) (by omega)
    refine ⟨n, ?_, by omega, hb⟩
    simp only [if_neg (show ¬ x ≥ 4294967296 by omega)]; exact h
theorem lead_f {x : Int} (h0 : 1 ≤ x) (h1 : x ≤ 18446744073709551615) : ∃ s : Nat, Ev (fun k => bits_LeadingZeros64.f k x) (s : Int) ∧ s ≤ 63 ∧ 9223372036854775808 ≤ x * 2 ^ s ∧ x * 2 ^ s < 18446744073709551616 := by
  obtain ⟨n, h, hn, b1, b2, b3⟩ := len64_f h0 h1
  refine ⟨64 - n, ?_, by omega, ?_, ?_⟩
  · unfold bits_LeadingZeros64.f
    refine Ev.bind h ?_
    rw [w64_in (by unfold I64; omega), show (64 : Int) - (n : Int) = ((64 - n : Nat) : Int) by omega]
    exact Ev.now _
  · have := Int.mul_le_mul_of_nonneg_right b2 (show (0 : Int) ≤ 2 ^ (64 - n) from Int.le_of_lt (Int.pow_pos (by omega)))
    rw [← Int.pow_add, show n - 1 + (64 - n) = 63 by omega] at this
    exact this
  · have := Int.mul_lt_mul_of_pos_right b3 (show (0 : Int) < 2 ^ (64 - n) from Int.pow_pos (by omega))
    rw [← Int.pow_add, show n + (64 - n) = 64 by omega] at this
    exact this

/-! ### bits.Div64 -/
theorem divl1_f {y1 y0 u u0 : Int} (x15 : Int) (s : Nat) (hx15 : 0 ≤ x15 ∧ x15 < 4294967296) (d : Nat) : ∀ q r : Int, Dg y1 y0 u u0 q r → q ≤ d →
    Ev (fun k => bits_Div64.l1 k (y1 * 4294967296 + y0) (s : Int) y1 y0 u0 x15 r u q)
      (IntKind.u64.wrap (x15 * 4294967296 + (u * 4294967296 + u0) / (y1 * 4294967296 + y0)), shr .u64 ((u * 4294967296 + u0) % (y1 * 4294967296 + y0)) (s : Int)) := by
  induction d with
  | zero =>
    intro q r h hd
    have hq := h.ql
    have e : q = 0 := by omega
    have hc : ¬ (4294967296 ≤ q ∨ 4294967296 * r + u0 < q * y0) := fun hc => by have := h.pos hc; omega
    have hN := h.no (by omega)
    have hh := h
    obtain ⟨h1, h2, h3, h4, h5, h6, h7, h8, h9, h10, h11, h12, h13, h14⟩ := hh
    subst e
    refine Ev.step (f := fun k => bits_Div64.j4 k (y1 * 4294967296 + y0) (s : Int) y1 y0 u0 x15 r u 0 false) (fun k => ?_) ?_
    · rw [bits_Div64.l1.eq_2, if_neg (by omega)]
      rw [IntWalk.u64_in (0 * y0) ⟨by omega, by omega⟩, IntWalk.u64_in (4294967296 * r) ⟨by omega, by omega⟩, IntWalk.u64_in (4294967296 * r + u0) ⟨by omega, by omega⟩, decide_eq_false (by omega)]
    · refine Ev.step (f := fun _ => some _) (fun k => ?_) (Ev.now _)
      rw [bits_Div64.j4.eq_2, if_neg (by simp), if_pos (by omega), Dg.rest h1 h2 h3 h4 hN, hN]
      rw [IntWalk.u64_in (x15 * 4294967296) ⟨by omega, by omega⟩]
  | succ d ih =>
    intro q r h hd
    have hh := h
    obtain ⟨h1, h2, h3, h4, h5, h6, h7, h8, h9, h10, h11, h12, h13, h14⟩ := hh
    by_cases hc : 4294967296 ≤ q ∨ 4294967296 * r + u0 < q * y0
    · refine Ev.step (f := fun k => bits_Div64.j4 k (y1 * 4294967296 + y0) (s : Int) y1 y0 u0 x15 r u q true) (fun k => ?_) ?_
      · rw [bits_Div64.l1.eq_2]
        by_cases c1 : 4294967296 ≤ q
        · rw [if_pos (by omega)]
        · have hc2 : 4294967296 * r + u0 < q * y0 := by rcases hc with hc | hc; exact absurd hc c1; exact hc
          have b1 : q * y0 ≤ 4294967295 * 4294967295 := mul_le_mul' (by omega) (by omega) (by omega) (by omega)
          rw [if_neg (by omega), IntWalk.u64_in (q * y0) ⟨by omega, by omega⟩, IntWalk.u64_in (4294967296 * r) ⟨by omega, by omega⟩, IntWalk.u64_in (4294967296 * r + u0) ⟨by omega, by omega⟩, decide_eq_true (by omega)]
      · have hp := h.pos hc
        by_cases hr : 4294967296 ≤ r + y1
        · have hN := h.out hc hr
          refine Ev.step (f := fun _ => some _) (fun k => ?_) (Ev.now _)
          rw [bits_Div64.j4.eq_2, if_pos rfl, IntWalk.u64_in (r + y1) ⟨by omega, by omega⟩, if_pos (by omega), if_pos (by omega), IntWalk.u64_in (q - 1) ⟨by omega, by omega⟩, Dg.rest h1 h2 h3 h4 hN, hN]
          rw [IntWalk.u64_in (x15 * 4294967296) ⟨by omega, by omega⟩]
        · refine Ev.step (f := fun k => bits_Div64.l1 k (y1 * 4294967296 + y0) (s : Int) y1 y0 u0 x15 (r + y1) u (q - 1)) (fun k => ?_) (ih (q - 1) (r + y1) (h.next hc (by omega)) (by omega))
          rw [bits_Div64.j4.eq_2, if_pos rfl, IntWalk.u64_in (r + y1) ⟨by omega, by omega⟩, if_neg (by omega), IntWalk.u64_in (q - 1) ⟨by omega, by omega⟩]
    · have hN := h.no (by omega)
      refine Ev.step (f := fun k => bits_Div64.j4 k (y1 * 4294967296 + y0) (s : Int) y1 y0 u0 x15 r u q false) (fun k => ?_) ?_
      · have b1 : q * y0 ≤ 4294967295 * 4294967295 := mul_le_mul' (by omega) (by omega) (by omega) (by omega)
        have b2 : 0 ≤ q * y0 := Int.mul_nonneg h9 h3
        rw [bits_Div64.l1.eq_2, if_neg (by omega), IntWalk.u64_in (q * y0) ⟨by omega, by omega⟩, IntWalk.u64_in (4294967296 * r) ⟨by omega, by omega⟩, IntWalk.u64_in (4294967296 * r + u0) ⟨by omega, by omega⟩, decide_eq_false (by omega)]
      · refine Ev.step (f := fun _ => some _) (fun k => ?_) (Ev.now _)
        rw [bits_Div64.j4.eq_2, if_neg (by simp), if_pos (by omega), Dg.rest h1 h2 h3 h4 hN, hN]
        rw [IntWalk.u64_in (x15 * 4294967296) ⟨by omega, by omega⟩]

/-- behind the first digit -/
theorem divj2_f {y1 y0 u u1 u0 q : Int} (s : Nat) (h1 : 2147483648 ≤ y1) (h2 : y1 < 4294967296) (h3 : 0 ≤ y0) (h4 : y0 < 4294967296) (hu0 : 0 ≤ u0 ∧ u0 < 4294967296) (hu1 : 0 ≤ u1 ∧ u1 < 4294967296) (hu : 0 ≤ u ∧ u < y1 * 4294967296 + y0)
    (hq : (u * 4294967296 + u1) / (y1 * 4294967296 + y0) = q) :
    Ev (fun k => bits_Div64.j2 k (y1 * 4294967296 + y0) (s : Int) y1 y0 u u1 u0 q)
      (((u * 4294967296 + u1) * 4294967296 + u0) / (y1 * 4294967296 + y0), shr .u64 (((u * 4294967296 + u1) * 4294967296 + u0) % (y1 * 4294967296 + y0)) (s : Int)) := by
  have hy : 0 < y1 * 4294967296 + y0 := by omega
  have hm := Int.emod_nonneg (u * 4294967296 + u1) (show y1 * 4294967296 + y0 ≠ 0 by omega)
  have hm2 := Int.emod_lt_of_pos (u * 4294967296 + u1) hy
  have hd := Dg.init h1 h2 h3 h4 hu0.1 hu0.2 hm hm2
  have ⟨e1, e2⟩ := two_digits (u0 := u0) hy hq rfl
  have hq0 : 0 ≤ q := by rw [← hq]; exact Int.ediv_nonneg (by omega) (by omega)
  have hq1 : q < 4294967296 := by rw [← hq]; exact Int.ediv_lt_of_lt_mul hy (by omega)
  have hlt : (((u * 4294967296 + u1) % (y1 * 4294967296 + y0)) * 4294967296 + u0) / (y1 * 4294967296 + y0) < 4294967296 := Int.ediv_lt_of_lt_mul hy (by omega)
  have hge : 0 ≤ (((u * 4294967296 + u1) % (y1 * 4294967296 + y0)) * 4294967296 + u0) / (y1 * 4294967296 + y0) := Int.ediv_nonneg (by omega) (by omega)
  refine Ev.step (f := fun k => bits_Div64.l1 k (y1 * 4294967296 + y0) (s : Int) y1 y0 u0 q ((u * 4294967296 + u1) % (y1 * 4294967296 + y0) - (u * 4294967296 + u1) % (y1 * 4294967296 + y0) / y1 * y1) ((u * 4294967296 + u1) % (y1 * 4294967296 + y0)) ((u * 4294967296 + u1) % (y1 * 4294967296 + y0) / y1)) (fun k => ?_) ?_
  · rw [bits_Div64.j2.eq_2, if_neg (by omega), Dg.rest h1 h2 h3 h4 hq]
    have b1 := hd.ql
    have b2 := hd.qh
    have b3 := hd.rl
    have b4 := hd.rh
    have b5 : 0 ≤ (u * 4294967296 + u1) % (y1 * 4294967296 + y0) / y1 * y1 := Int.mul_nonneg b1 (by omega)
    generalize hU : (u * 4294967296 + u1) % (y1 * 4294967296 + y0) = U at *
    rw [Int.tdiv_eq_ediv_of_nonneg hm, IntWalk.u64_in (U / y1) ⟨by omega, by omega⟩, IntWalk.u64_in (U / y1 * y1) ⟨by omega, by omega⟩, IntWalk.u64_in (U - U / y1 * y1) ⟨by omega, by omega⟩]
  · have := divl1_f q s ⟨hq0, hq1⟩ 8589934592 _ _ hd hd.qh
    rw [IntWalk.u64_in _ ⟨by omega, by omega⟩, ← e1, ← e2] at this
    exact this
theorem divl0_f {y1 y0 u u1 u0 : Int} (s : Nat) (hu0 : 0 ≤ u0 ∧ u0 < 4294967296) (d : Nat) : ∀ q r : Int, Dg y1 y0 u u1 q r → q ≤ d →
    Ev (fun k => bits_Div64.l0 k (y1 * 4294967296 + y0) (s : Int) y1 y0 u u1 u0 q r)
      (((u * 4294967296 + u1) * 4294967296 + u0) / (y1 * 4294967296 + y0), shr .u64 (((u * 4294967296 + u1) * 4294967296 + u0) % (y1 * 4294967296 + y0)) (s : Int)) := by
  induction d with
  | zero =>
    intro q r h hd
    have hq := h.ql
    have e : q = 0 := by omega
    have hc : ¬ (4294967296 ≤ q ∨ 4294967296 * r + u1 < q * y0) := fun hc => by have := h.pos hc; omega
    have hN := h.no (by omega)
    have hh := h
    obtain ⟨h1, h2, h3, h4, h5, h6, h7, h8, h9, h10, h11, h12, h13, h14⟩ := hh
    subst e
    refine Ev.step (f := fun k => bits_Div64.j1 k (y1 * 4294967296 + y0) (s : Int) y1 y0 u u1 u0 0 r false) (fun k => ?_) ?_
    · rw [bits_Div64.l0.eq_2, if_neg (by omega)]
      rw [IntWalk.u64_in (0 * y0) ⟨by omega, by omega⟩, IntWalk.u64_in (4294967296 * r) ⟨by omega, by omega⟩, IntWalk.u64_in (4294967296 * r + u1) ⟨by omega, by omega⟩, decide_eq_false (by omega)]
    · refine Ev.step (fun k => ?_) (divj2_f s h1 h2 h3 h4 hu0 ⟨h5, h6⟩ ⟨h7, h8⟩ hN)
      rw [bits_Div64.j1.eq_2, if_neg (by simp)]
  | succ d ih =>
    intro q r h hd
    have hh := h
    obtain ⟨h1, h2, h3, h4, h5, h6, h7, h8, h9, h10, h11, h12, h13, h14⟩ := hh
    by_cases hc : 4294967296 ≤ q ∨ 4294967296 * r + u1 < q * y0
    · refine Ev.step (f := fun k => bits_Div64.j1 k (y1 * 4294967296 + y0) (s : Int) y1 y0 u u1 u0 q r true) (fun k => ?_) ?_
      · rw [bits_Div64.l0.eq_2]
        by_cases c1 : 4294967296 ≤ q
        · rw [if_pos (by omega)]
        · have hc2 : 4294967296 * r + u1 < q * y0 := by rcases hc with hc | hc; exact absurd hc c1; exact hc
          have b1 : q * y0 ≤ 4294967295 * 4294967295 := mul_le_mul' (by omega) (by omega) (by omega) (by omega)
          rw [if_neg (by omega), IntWalk.u64_in (q * y0) ⟨by omega, by omega⟩, IntWalk.u64_in (4294967296 * r) ⟨by omega, by omega⟩, IntWalk.u64_in (4294967296 * r + u1) ⟨by omega, by omega⟩, decide_eq_true (by omega)]
      · have hp := h.pos hc
        by_cases hr : 4294967296 ≤ r + y1
        · have hN := h.out hc hr
          refine Ev.step (fun k => ?_) (divj2_f s h1 h2 h3 h4 hu0 ⟨h5, h6⟩ ⟨h7, h8⟩ hN)
          rw [bits_Div64.j1.eq_2, if_pos rfl, IntWalk.u64_in (r + y1) ⟨by omega, by omega⟩, if_pos (by omega), IntWalk.u64_in (q - 1) ⟨by omega, by omega⟩]
        · refine Ev.step (fun k => ?_) (ih (q - 1) (r + y1) (h.next hc (by omega)) (by omega))
          rw [bits_Div64.j1.eq_2, if_pos rfl, IntWalk.u64_in (r + y1) ⟨by omega, by omega⟩, if_neg (by omega), IntWalk.u64_in (q - 1) ⟨by omega, by omega⟩]
    · have hN := h.no (by omega)
      refine Ev.step (f := fun k => bits_Div64.j1 k (y1 * 4294967296 + y0) (s : Int) y1 y0 u u1 u0 q r false) (fun k => ?_) ?_
      · have b1 : q * y0 ≤ 4294967295 * 4294967295 := mul_le_mul' (by omega) (by omega) (by omega) (by omega)
        have b2 : 0 ≤ q * y0 := Int.mul_nonneg h9 h3
        rw [bits_Div64.l0.eq_2, if_neg (by omega), IntWalk.u64_in (q * y0) ⟨by omega, by omega⟩, IntWalk.u64_in (4294967296 * r) ⟨by omega, by omega⟩, IntWalk.u64_in (4294967296 * r + u1) ⟨by omega, by omega⟩, decide_eq_false (by omega)]
      · refine Ev.step (fun k => ?_) (divj2_f s h1 h2 h3 h4 hu0 ⟨h5, h6⟩ ⟨h7, h8⟩ hN)
        rw [bits_Div64.j1.eq_2, if_neg (by simp)]

theorem div64_f {hi lo y : Int} (hy : 0 < y) (hy1 : y ≤ 18446744073709551615) (hh : 0 ≤ hi) (hh1 : hi < y) (hl : 0 ≤ lo) (hl1 : lo ≤ 18446744073709551615) :
    Ev (fun k => bits_Div64.f k hi lo y) ((hi * 18446744073709551616 + lo) / y, (hi * 18446744073709551616 + lo) % y) := by
  unfold bits_Div64.f
  simp only [if_neg (show ¬ y = 0 by omega), if_neg (show ¬ y ≤ hi by omega)]
  by_cases h0 : hi = 0
  · subst h0
    simp only [if_pos, Int.zero_mul, Int.zero_add]
    rw [Int.tdiv_eq_ediv_of_nonneg hl, Int.tmod_eq_emod_of_nonneg hl]
    have b1 := Int.ediv_nonneg hl (show 0 ≤ y by omega)
    have b2 := Int.ediv_le_self y hl
    rw [IntWalk.u64_in _ ⟨b1, by omega⟩]
    exact Ev.now _
  · simp only [if_neg h0]
    obtain ⟨s, hs, hs63, hY0, hY1⟩ := lead_f (x := y) (by omega) hy1
    refine Ev.bind hs ?_
    have e1 : IntKind.u64.wrap (s : Int) = s := IntWalk.u64_in _ ⟨by omega, by omega⟩
    have e2 : IntKind.u64.wrap (64 - (s : Int)) = ((64 - s : Nat) : Int) := by rw [IntWalk.u64_in _ ⟨by omega, by omega⟩]; omega
    simp only [e1, e2]
    have hp : (0 : Int) < 2 ^ s := Int.pow_pos (by omega)
    have hp2 : (0 : Int) < 2 ^ (64 - s) := Int.pow_pos (by omega)
    have hpp : (2 : Int) ^ s * 2 ^ (64 - s) = 18446744073709551616 := by rw [← Int.pow_add, show s + (64 - s) = 64 by omega]; rfl
    have hpp' : (2 : Int) ^ (64 - s) * 2 ^ s = 18446744073709551616 := by rw [Int.mul_comm]; exact hpp
    have hhs : hi * 2 ^ s < 18446744073709551616 := by
      have := Int.mul_lt_mul_of_pos_right hh1 hp; omega
    have hhs0 : 0 ≤ hi * 2 ^ s := Int.mul_nonneg hh (by omega)
    have sh : ∀ x : Int, shl .u64 x (s : Int) = x * 2 ^ s % 18446744073709551616 := by
      intro x; unfold shl; rw [Int.toNat_natCast, Nat.min_eq_left (show s ≤ IntKind.u64.bits by show s ≤ 64; omega), wu64]
    have eY : shl .u64 y (s : Int) = y * 2 ^ s := by rw [sh]; omega
    have eH : shl .u64 hi (s : Int) = hi * 2 ^ s := by rw [sh]; omega
    have eR : shr .u64 lo ((64 - s : Nat) : Int) = lo / 2 ^ (64 - s) := by
      unfold shr; rw [Int.toNat_natCast, Nat.min_eq_left (show 64 - s ≤ IntKind.u64.bits by show 64 - s ≤ 64; omega)]
    rw [eY, eH, eR, sh lo]
    have hL0 : 0 ≤ lo / 2 ^ (64 - s) := Int.ediv_nonneg hl (by omega)
    have hL1 : lo / 2 ^ (64 - s) < 2 ^ s := Int.ediv_lt_of_lt_mul hp2 (by rw [hpp]; omega)
    have hs2 : (2 : Int) ^ s ≤ 9223372036854775808 := by
      have : (2 : Int) ^ s ≤ 2 ^ 63 := by exact_mod_cast Nat.pow_le_pow_right (by decide) hs63
      exact this
    have eO : Go.bits .or .u64 (hi * 2 ^ s) (lo / 2 ^ (64 - s)) = hi * 2 ^ s + lo / 2 ^ (64 - s) :=
      or_join s hhs0 (Int.mul_emod_left _ _) hhs hL0 hL1 (by omega)
    rw [eO]
    have eN : (hi * 2 ^ s + lo / 2 ^ (64 - s)) * 18446744073709551616 + lo * 2 ^ s % 18446744073709551616 = (hi * 18446744073709551616 + lo) * 2 ^ s := by
      have a1 : lo * 2 ^ s / 18446744073709551616 = lo / 2 ^ (64 - s) := by
        rw [← hpp', Int.mul_ediv_mul_of_pos_left _ _ hp]
      have a2 := Int.mul_ediv_add_emod (lo * 2 ^ s) 18446744073709551616
      rw [a1] at a2
      rw [Int.add_mul, Int.add_mul, Int.mul_right_comm hi]; omega
    have hU : hi * 2 ^ s + lo / 2 ^ (64 - s) < y * 2 ^ s := by
      have a1 : (hi + 1) * 2 ^ s ≤ y * 2 ^ s := Int.mul_le_mul_of_nonneg_right (by omega) (by omega)
      rw [Int.add_mul, Int.one_mul] at a1; omega
    generalize hUU : hi * 2 ^ s + lo / 2 ^ (64 - s) = U at *
    generalize hYY : y * 2 ^ s = Y at *
    generalize hLL : lo * 2 ^ s % 18446744073709551616 = LL at *
    have hLL0 : 0 ≤ LL ∧ LL < 18446744073709551616 := by rw [← hLL]; omega
    have hU0 : 0 ≤ U := by omega
    simp only [if_pos (show (0 : Int) ≤ (s : Int) by omega), if_pos (show (0 : Int) ≤ ((64 - s : Nat) : Int) by omega), if_neg (show ¬ Y / 4294967296 = 0 by omega)]
    rw [and32 (x := Y) (by omega) (by omega), and32 (x := LL) (by omega) (by omega)]
    have hd := Dg.init (y1 := Y / 4294967296) (y0 := Y % 4294967296) (u := U) (u0 := LL / 4294967296) (by omega) (by omega) (by omega) (by omega) (by omega) (by omega) hU0 (by omega)
    have b1 := hd.ql
    have b2 := hd.qh
    have b3 := hd.rl
    have b4 := hd.rh
    have b5 : 0 ≤ U / (Y / 4294967296) * (Y / 4294967296) := Int.mul_nonneg b1 (by omega)
    rw [Int.tdiv_eq_ediv_of_nonneg hU0, IntWalk.u64_in (U / (Y / 4294967296)) ⟨by omega, by omega⟩, IntWalk.u64_in (U / (Y / 4294967296) * (Y / 4294967296)) ⟨by omega, by omega⟩, IntWalk.u64_in (U - _) ⟨by omega, by omega⟩]
    have key := divl0_f (u0 := LL % 4294967296) s (by omega) 8589934592 _ _ hd b2
    rw [show Y / 4294967296 * 4294967296 + Y % 4294967296 = Y by omega, show (U * 4294967296 + LL / 4294967296) * 4294967296 + LL % 4294967296 = U * 18446744073709551616 + LL by omega, eN] at key
    have q1 : (hi * 18446744073709551616 + lo) * 2 ^ s / Y = (hi * 18446744073709551616 + lo) / y := by rw [← hYY, Int.mul_ediv_mul_of_pos_left _ _ hp]
    have q2 : (hi * 18446744073709551616 + lo) * 2 ^ s % Y = 2 ^ s * ((hi * 18446744073709551616 + lo) % y) := by rw [← hYY, Int.mul_comm _ (2 ^ s), Int.mul_comm y (2 ^ s), Int.mul_emod_mul_of_pos _ _ hp]
    have e3 : shr .u64 (2 ^ s * ((hi * 18446744073709551616 + lo) % y)) (s : Int) = (hi * 18446744073709551616 + lo) % y := by
      unfold shr; rw [Int.toNat_natCast, Nat.min_eq_left (show s ≤ IntKind.u64.bits by show s ≤ 64; omega), Int.mul_ediv_cancel_left _ (by omega)]
    rw [q1, q2, e3] at key
    exact key
theorem rem64_f {hi lo y : Int} (hy : 0 < y) (hy1 : y ≤ 18446744073709551615) (hh : 0 ≤ hi) (hl : 0 ≤ lo) (hl1 : lo ≤ 18446744073709551615) :
    Ev (fun k => bits_Rem64.f k hi lo y) ((hi * 18446744073709551616 + lo) % y) := by
  unfold bits_Rem64.f
  simp only [if_neg (show ¬ y = 0 by omega)]
  rw [Int.tmod_eq_emod_of_nonneg hh]
  have := div64_f hy hy1 (Int.emod_nonneg hi (by omega)) (Int.emod_lt_of_pos hi hy) hl hl1
  refine Ev.bind this ?_
  have e : (hi % y * 18446744073709551616 + lo) % y = (hi * 18446744073709551616 + lo) % y := by
    rw [Int.add_emod, Int.mul_emod, Int.emod_emod_of_dvd _ (Int.dvd_refl y), ← Int.mul_emod, ← Int.add_emod]
  simp only [e]
  exact Ev.now _
/-- the quotient and the rest of the product's size by c's -/
theorem by_f {n : Bool} {P c : Int} (hP : 0 ≤ P) (hP1 : P ≤ 85070591730234615865843651857942052864) (hc : I64 c) (hc0 : c ≠ 0) :
    Ev (fun k => wide_product_by.f k n (P / 18446744073709551616) (P % 18446744073709551616) c)
      (if P / ab c < 18446744073709551616 then (P / ab c, P % ab c, true) else (0, P % ab c, false)) := by
  have hb := ab_pos hc0
  have hb1 := ab_le hc
  unfold wide_product_by.f
  rw [size_f hc]
  simp only [Option.bind_some]
  by_cases h : ab c ≤ P / 18446744073709551616
  · have h2 : ¬ P / ab c < 18446744073709551616 := by
      have : 18446744073709551616 ≤ P / ab c := (Int.le_ediv_iff_mul_le hb).2 (by have := (Int.le_ediv_iff_mul_le (by decide : (0 : Int) < 18446744073709551616)).1 h; rw [Int.mul_comm]; exact this)
      omega
    simp only [if_pos (show P / 18446744073709551616 ≥ ab c by omega), if_neg h2]
    refine Ev.bind (rem64_f hb (by omega) (by omega) (by omega) (by omega)) ?_
    rw [show P / 18446744073709551616 * 18446744073709551616 + P % 18446744073709551616 = P by omega]
    exact Ev.now _
  · have h2 : P / ab c < 18446744073709551616 := Int.ediv_lt_of_lt_mul hb (by
      have := (Int.ediv_lt_iff_lt_mul (by decide : (0 : Int) < 18446744073709551616)).1 (show P / 18446744073709551616 < ab c by omega)
      rw [Int.mul_comm]; exact this)
    simp only [if_neg (show ¬ P / 18446744073709551616 ≥ ab c by omega), if_pos h2]
    refine Ev.bind (div64_f hb (by omega) (by omega) (by omega) (by omega) (by omega)) ?_
    rw [show P / 18446744073709551616 * 18446744073709551616 + P % 18446744073709551616 = P by omega]
    exact Ev.now _
end Go.Proofs.YthidfomkgclkcaaGreatDoor.M
namespace Go.Proofs.YthidfomkgclkcaaGreatDoor.M
open Go.RowKit Go.Proofs.YthidfomkgclkcaaGreatDoorW.PrintWords Go.Proofs.YthidfomkgclkcaaGreatDoorW.PrintLast Go.Proofs.YthidfomkgclkcaaGreatDoorW.PrintMore Go.Proofs.YthidfomkgclkcaaGreatDoor.Q

theorem signed_f {n : Bool} {q : Int} (h0 : 0 ≤ q) (h1 : q ≤ 18446744073709551615) : Ev (fun k => wide_signed.f k n q) (fit (sg n q)) := by
  unfold wide_signed.f fit sg
  cases n with
  | true =>
    simp only [if_true]
    by_cases c : q ≤ 9223372036854775808
    · rw [decide_eq_true c, if_pos (by omega)]
      refine Ev.step (f := fun _ => some _) (fun k => ?_) (Ev.now _)
      rw [wide_signed.j0.eq_2, if_pos rfl]
      refine congrArg some (Prod.ext ?_ rfl)
      show wrap64 (-(wrap64 q)) = -q
      unfold wrap64; omega
    · rw [decide_eq_false c, if_neg (by omega)]
      refine Ev.step (f := fun _ => some _) (fun k => ?_) (Ev.now _)
      rw [wide_signed.j0.eq_2, if_neg (by simp), if_pos rfl]
  | false =>
    simp only [if_neg (show ¬ (false = true) by simp)]
    refine Ev.step (f := fun _ => some _) (fun k => ?_) (Ev.now _)
    rw [wide_signed.j0.eq_2, if_neg (by simp), if_neg (by simp)]
    by_cases c : q < 9223372036854775808
    · rw [if_pos c, if_pos (by omega), w64_in (by unfold I64; omega)]
    · rw [if_neg c, if_neg (by omega)]
theorem muldiv_f {a b c : Int} (ha : I64 a) (hb : I64 b) (hc : I64 c) : Ev (fun k => wide_MulDiv.f k a b c) (mulDiv a b c) := by
  unfold wide_MulDiv.f mulDiv
  by_cases hc0 : c = 0
  · simp only [if_pos hc0]; exact Ev.now _
  · simp only [if_neg hc0]
    rw [times_f ha hb]
    simp only [Option.bind_some]
    have ⟨hP0, hP1⟩ := prod_bd ha hb
    have hb0 := ab_pos hc0
    have hb1 := ab_le hc
    refine Ev.bind (by_f hP0 hP1 hc hc0) ?_
    generalize hP : ab a * ab b = P at *
    generalize hn : decide (a * b < 0) = n
    have q0 : 0 ≤ P / ab c := Int.ediv_nonneg hP0 (by omega)
    have r0 := Int.emod_nonneg P (show ab c ≠ 0 by omega)
    have r1 := Int.emod_lt_of_pos P hb0
    have hbad : 9223372036854775808 < P / ab c → fit (sg (ngs a b c) (rnd P (ab c))) = (0, 2) := by
      intro h
      unfold fit sg rnd
      split <;> (rw [if_neg]; split <;> omega)
    by_cases hq : P / ab c < 18446744073709551616
    · simp only [if_pos hq, if_true]
      by_cases hq2 : 9223372036854775808 < P / ab c
      · rw [decide_eq_true (show P / ab c > 9223372036854775808 from hq2), hbad hq2]
        refine Ev.step (f := fun _ => some _) (fun k => ?_) (Ev.now _)
        rw [wide_MulDiv.j0.eq_2, if_pos rfl]
      · rw [decide_eq_false (show ¬ P / ab c > 9223372036854775808 from hq2)]
        have hz : ∀ q, q = rnd P (ab c) → fit (sg (n != (decide (c < 0))) q) = fit (sg (ngs a b c) (rnd P (ab c))) := by
          intro q e
          rw [← e, ← hn, sg_eq]
          intro h; rw [hP] at h; rw [e, h]; exact rnd_zero hb0
        by_cases hr : ab c - P % ab c ≤ P % ab c
        · have er : P / ab c + 1 = rnd P (ab c) := by unfold rnd; rw [if_pos hr]
          rw [← hz _ er]
          refine Ev.step (f := fun k => (wide_signed.f k (n != (decide (c < 0))) (P / ab c + 1)).bind fun bt => some (bt.1, bt.2)) (fun k => ?_) ?_
          · rw [wide_MulDiv.j0.eq_2, if_neg (by simp), size_f hc]
            simp only [Option.bind_some]
            rw [IntWalk.u64_in (ab c - P % ab c) ⟨by omega, by omega⟩, if_pos (show P % ab c ≥ ab c - P % ab c by omega), IntWalk.u64_in (P / ab c + 1) ⟨by omega, by omega⟩]
          · exact Ev.bind (signed_f (by omega) (by omega)) (Ev.now _)
        · have er : P / ab c = rnd P (ab c) := by unfold rnd; rw [if_neg hr]
          rw [← hz _ er]
          refine Ev.step (f := fun k => (wide_signed.f k (n != (decide (c < 0))) (P / ab c)).bind fun bt => some (bt.1, bt.2)) (fun k => ?_) ?_
          · rw [wide_MulDiv.j0.eq_2, if_neg (by simp), size_f hc]
            simp only [Option.bind_some]
            rw [IntWalk.u64_in (ab c - P % ab c) ⟨by omega, by omega⟩, if_neg (show ¬ P % ab c ≥ ab c - P % ab c by omega)]
          · exact Ev.bind (signed_f (by omega) (by omega)) (Ev.now _)
    · simp only [if_neg hq]
      rw [hbad (by omega)]
      simp only [Bool.false_eq_true, if_false]
      refine Ev.step (f := fun _ => some _) (fun k => ?_) (Ev.now _)
      rw [wide_MulDiv.j0.eq_2, if_pos rfl]

end Go.Proofs.YthidfomkgclkcaaGreatDoor.M
namespace Go.Proofs.YthidfomkgclkcaaGreatDoor.M
open Go.RowKit Go.Proofs.YthidfomkgclkcaaGreatDoorW.PrintWords Go.Proofs.YthidfomkgclkcaaGreatDoorW.PrintLast Go.Proofs.YthidfomkgclkcaaGreatDoorW.PrintMore Go.Proofs.YthidfomkgclkcaaGreatDoor.Q

theorem exact_f {a b c : Int} (ha : I64 a) (hb : I64 b) (hc : I64 c) : Ev (fun k => wide_Exact.f k a b c) (exact a b c) := by
  unfold wide_Exact.f exact
  by_cases hc0 : c = 0
  · simp only [if_pos hc0]; exact Ev.now _
  · simp only [if_neg hc0]
    rw [times_f ha hb]
    simp only [Option.bind_some]
    have ⟨hP0, hP1⟩ := prod_bd ha hb
    have hb0 := ab_pos hc0
    have hb1 := ab_le hc
    refine Ev.bind (by_f hP0 hP1 hc hc0) ?_
    have hs := sg_eq (a := a) (b := b) (c := c) (q := ab a * ab b / ab c) (fun h => by rw [h, Int.zero_ediv])
    rw [← hs]
    generalize hP : ab a * ab b = P at *
    generalize hn : decide (a * b < 0) = n
    have q0 : 0 ≤ P / ab c := Int.ediv_nonneg hP0 (by omega)
    by_cases hr : P % ab c = 0
    · simp only [if_pos hr]
      by_cases hq : P / ab c < 18446744073709551616
      · simp only [if_pos hq, if_pos hr, if_true]
        refine Ev.bind (signed_f q0 (by omega)) ?_
        generalize sg (n != decide (c < 0)) (P / ab c) = v
        unfold fit
        by_cases hv : -9223372036854775808 ≤ v ∧ v ≤ 9223372036854775807
        · simp only [if_pos hv]; exact Ev.now _
        · simp only [if_neg hv]; exact Ev.now _
      · simp only [if_neg hq, if_pos hr, Bool.false_eq_true, if_false]
        rw [if_neg (by unfold sg; split <;> omega)]
        exact Ev.now _
    · simp only [if_neg hr]
      by_cases hq : P / ab c < 18446744073709551616
      · simp only [if_pos hq, if_neg hr]; exact Ev.now _
      · simp only [if_neg hq, if_neg hr]; exact Ev.now _

end Go.Proofs.YthidfomkgclkcaaGreatDoor.M
namespace Go.Proofs.YthidfomkgclkcaaGreatDoor.M
open Go.RowKit Go.Proofs.YthidfomkgclkcaaGreatDoorW.PrintWords Go.Proofs.YthidfomkgclkcaaGreatDoorW.PrintLast Go.Proofs.YthidfomkgclkcaaGreatDoorW.PrintMore Go.Proofs.YthidfomkgclkcaaGreatDoor.Q

theorem gcdl_f (d : Nat) : ∀ x y : Nat, y ≤ d → Ev (fun k => wide_Gcd.l0 k (x : Int) (y : Int)) ((Nat.gcd x y : Nat) : Int) := by
  induction d with
  | zero =>
    intro x y h
    obtain rfl : y = 0 := by omega
    refine Ev.step (f := fun _ => some _) (fun k => ?_) (Ev.now _)
    rw [wide_Gcd.l0.eq_2, if_pos (by rfl), Nat.gcd_zero_right]
  | succ d ih =>
    intro x y h
    by_cases hy : y = 0
    · subst hy
      refine Ev.step (f := fun _ => some _) (fun k => ?_) (Ev.now _)
      rw [wide_Gcd.l0.eq_2, if_pos (by rfl), Nat.gcd_zero_right]
    · have hlt := Nat.mod_lt x (show y > 0 by omega)
      have := ih y (x % y) (by omega)
      rw [Nat.gcd_comm, Nat.gcd_rec, Nat.gcd_comm]
      refine Ev.step (fun k => ?_) this
      rw [wide_Gcd.l0.eq_2, if_neg (by omega)]; rfl
theorem gcd_f {a b : Int} (ha : I64 a) (hb : I64 b) : Ev (fun k => wide_Gcd.f k a b) ((Int.gcd a b : Nat) : Int) := by
  unfold wide_Gcd.f
  rw [size_f ha, size_f hb]
  simp only [Option.bind_some]
  have e : ∀ x : Int, ab x = (x.natAbs : Int) := by intro x; unfold ab; split <;> omega
  rw [e, e]
  exact gcdl_f _ _ _ (Nat.le_refl _)
end Go.Proofs.YthidfomkgclkcaaGreatDoor.M
namespace Go.Proofs.YthidfomkgclkcaaGreatDoor.M
open Go.RowKit Go.Proofs.YthidfomkgclkcaaGreatDoorW.PrintWords Go.Proofs.YthidfomkgclkcaaGreatDoorW.PrintLast Go.Proofs.YthidfomkgclkcaaGreatDoorW.PrintMore Go.Proofs.YthidfomkgclkcaaGreatDoor.Q

theorem compare_f (x y : Int) : cmp_Compare_uint64.f x y = some (cmpI x y) := by
  unfold cmp_Compare_uint64.f cmp_isNaN_uint64.f cmpI
  simp only [bne_self_eq_false, Option.bind_some, Bool.false_eq_true, if_false]
  by_cases h : x < y
  · rw [if_pos h, if_pos h]
  · rw [if_neg h, if_neg h]
    by_cases h2 : y < x
    · rw [if_pos h2, if_pos h2]
    · rw [if_neg h2, if_neg h2]
end Go.Proofs.YthidfomkgclkcaaGreatDoor.M
namespace Go.Proofs.YthidfomkgclkcaaGreatDoor.M
open Go.RowKit Go.Proofs.YthidfomkgclkcaaGreatDoorW.PrintWords Go.Proofs.YthidfomkgclkcaaGreatDoorW.PrintLast Go.Proofs.YthidfomkgclkcaaGreatDoorW.PrintMore Go.Proofs.YthidfomkgclkcaaGreatDoor.Q

theorem or2_f (x y : Int) : Ev (fun k => cmp_Or_int.f k [x, y]) (if x = 0 then y else x) := by
  unfold cmp_Or_int.f
  have hl : (([x, y].length : Nat) : Int) = 2 := rfl
  have h0 : wrap64 (0 + 1) = 1 := by unfold wrap64; omega
  have h1 : wrap64 (1 + 1) = 2 := by unfold wrap64; omega
  rw [hl]
  by_cases hx : x = 0
  · rw [if_pos hx]
    refine Ev.step (f := fun k => cmp_Or_int.l0 k 0 [x, y] (2 : Int) 1) (fun k => ?_) ?_
    · rw [cmp_Or_int.l0.eq_2, hl, if_pos (by omega), if_pos (by omega), if_pos (by omega), if_pos (by rw [show rd [x, y] 0 = x from rfl]; exact hx), h0]
    · by_cases hy : y = 0
      · refine Ev.step (f := fun k => cmp_Or_int.l0 k 0 [x, y] (2 : Int) 2) (fun k => ?_) ?_
        · rw [cmp_Or_int.l0.eq_2, hl, if_pos (by omega), if_pos (by omega), if_pos (by omega), if_pos (by rw [show rd [x, y] 1 = y from rfl]; exact hy), h1]
        · refine Ev.step (f := fun _ => some y) (fun k => ?_) (Ev.now _)
          rw [cmp_Or_int.l0.eq_2, if_neg (by omega), hy]
      · refine Ev.step (f := fun _ => some y) (fun k => ?_) (Ev.now _)
        rw [cmp_Or_int.l0.eq_2, hl, if_pos (by omega), if_pos (by omega), if_pos (by omega), if_neg (by rw [show rd [x, y] 1 = y from rfl]; exact hy)]; rfl
  · rw [if_neg hx]
    refine Ev.step (f := fun _ => some x) (fun k => ?_) (Ev.now _)
    rw [cmp_Or_int.l0.eq_2, hl, if_pos (by omega), if_pos (by omega), if_pos (by omega), if_neg (by rw [show rd [x, y] 0 = x from rfl]; exact hx)]; rfl
end Go.Proofs.YthidfomkgclkcaaGreatDoor.M
namespace Go.Proofs.YthidfomkgclkcaaGreatDoor.M
open Go.RowKit Go.Proofs.YthidfomkgclkcaaGreatDoorW.PrintWords Go.Proofs.YthidfomkgclkcaaGreatDoorW.PrintLast Go.Proofs.YthidfomkgclkcaaGreatDoorW.PrintMore Go.Proofs.YthidfomkgclkcaaGreatDoor.Q

theorem cmp_f {a b c d : Int} (ha : I64 a) (hb : I64 b) (hc : I64 c) (hd : I64 d) : Ev (fun k => wide_Cmp.f k a b c d) (cmpI (a * b) (c * d)) := by
  unfold wide_Cmp.f
  rw [times_f ha hb, times_f hc hd]
  simp only [Option.bind_some]
  have e1 := neg_prod (a := a) (b := b)
  have e2 := neg_prod (a := c) (b := d)
  have p1 := (prod_bd ha hb).1
  have p2 := (prod_bd hc hd).1
  generalize a * b = x at *
  generalize c * d = y at *
  generalize ab a * ab b = P at *
  generalize ab c * ab d = Q at *
  by_cases hx : x < 0 <;> by_cases hy : y < 0
  · simp only [hx, hy, decide_true, bne_self_eq_false, Bool.false_eq_true, if_false]
    rw [if_pos hx] at e1; rw [if_pos hy] at e2
    have e : cmpI x y = cmpI Q P := by unfold cmpI; repeat' split
                                       all_goals omega
    rw [e, ← cmp_words]
    refine Ev.step (f := fun k => (cmp_Or_int.f k [cmpI (Q / 18446744073709551616) (P / 18446744073709551616), cmpI (Q % 18446744073709551616) (P % 18446744073709551616)]).bind fun t => some t) (fun k => ?_) (Ev.bind (or2_f _ _) (Ev.now _))
    rw [wide_Cmp.j0.eq_2, if_neg (by simp), if_neg (by simp), if_pos rfl, compare_f]
    simp only [Option.bind_some, compare_f]
  · simp only [hx, hy, decide_true, decide_false, show (true != false) = true from rfl, if_true]
    have e : cmpI x y = -1 := by unfold cmpI; rw [if_pos (by omega)]
    rw [e]
    refine Ev.step (f := fun _ => some _) (fun k => ?_) (Ev.now _)
    rw [wide_Cmp.j0.eq_2, if_pos rfl]
  · simp only [hx, hy, decide_true, decide_false, show (false != true) = true from rfl, if_true]
    have e : cmpI x y = 1 := by unfold cmpI; rw [if_neg (by omega), if_pos (by omega)]
    rw [e]
    refine Ev.step (f := fun _ => some _) (fun k => ?_) (Ev.now _)
    rw [wide_Cmp.j0.eq_2, if_neg (by simp), if_pos (by simp)]
  · simp only [hx, hy, decide_false, bne_self_eq_false, Bool.false_eq_true, if_false]
    rw [if_neg hx] at e1; rw [if_neg hy] at e2
    rw [e1, e2, ← cmp_words]
    refine Ev.step (f := fun k => (cmp_Or_int.f k [cmpI (P / 18446744073709551616) (Q / 18446744073709551616), cmpI (P % 18446744073709551616) (Q % 18446744073709551616)]).bind fun t => some t) (fun k => ?_) (Ev.bind (or2_f _ _) (Ev.now _))
    rw [wide_Cmp.j0.eq_2, if_neg (by simp), if_neg (by simp), if_neg (by simp), compare_f]
    simp only [Option.bind_some, compare_f]
end Go.Proofs.YthidfomkgclkcaaGreatDoor.M
namespace Go.Proofs.YthidfomkgclkcaaGreatDoor.M
open Go.RowKit Go.Proofs.YthidfomkgclkcaaGreatDoorW.PrintWords Go.Proofs.YthidfomkgclkcaaGreatDoorW.PrintLast Go.Proofs.YthidfomkgclkcaaGreatDoorW.PrintMore Go.Proofs.YthidfomkgclkcaaGreatDoor.Q
theorem rcprint_f {a : Int} (ha : I64 a) : cent_Print.f a = some (bs (Lib.itoa a)) := by
  unfold cent_Print.f; rw [if_pos (show -9223372036854775808 ≤ a ∧ a ≤ 9223372036854775807 from ha)]; rfl
theorem within_f (n : Int) : rate_within.f n = some (decide (in9 n)) := by
  unfold rate_within.f
  by_cases c : n ≥ 1
  · rw [if_pos c]
    by_cases c2 : n ≤ 1000000000
    · rw [decide_eq_true c2, decide_eq_true (show in9 n from ⟨c, c2⟩)]
    · rw [decide_eq_false c2, decide_eq_false (fun h : in9 n => c2 h.2)]
  · rw [if_neg c, decide_eq_false (fun h : in9 n => c h.1)]
theorem right_f {n d : Int} (hn : I64 n) (hd : I64 d) : Ev (fun k => rate_Right.f k n d) (rightS n d) := by
  unfold rate_Right.f rightS
  rw [within_f, within_f]
  simp only [Option.bind_some]
  by_cases c1 : in9 n
  · simp only [decide_eq_true c1, if_true, Bool.true_and]
    by_cases c2 : in9 d
    · simp only [decide_eq_true c2, if_true, Bool.true_and]
      refine Ev.bind (gcd_f hn hd) ?_
      rw [show decide (Int.gcd n d = 1) = (((Int.gcd n d : Nat) : Int) == 1) by rw [Bool.eq_iff_iff]; simp; omega]
      exact Ev.now _
    · simp only [decide_eq_false c2, Bool.false_and, Bool.false_eq_true, if_false]; exact Ev.now _
  · simp only [decide_eq_false c1, Bool.false_and, Bool.false_eq_true, if_false]; exact Ev.now _
theorem gcd_lt {n d : Int} (hn : 1 ≤ n) (h : I64 n) : I64 (Int.gcd n d : Nat) := by
  have : (Int.gcd n d : Int) ≤ n := Int.gcd_le_left _ (by omega)
  unfold I64 at *; omega
theorem make_f {n d : Int} (hn : I64 n) (hd : I64 d) : Ev (fun k => rate_Make.f k n d) (makeS n d) := by
  unfold rate_Make.f
  have bad : Ev (fun k => rate_Make.j0 k n d true) (0, 0, 1) :=
    Ev.step (f := fun _ => some _) (fun k => by rw [rate_Make.j0.eq_2, if_pos rfl]) (Ev.now _)
  by_cases c1 : n < 1
  · simp only [if_pos c1]
    rw [show makeS n d = (0, 0, 1) by unfold makeS; rw [if_pos (.inl c1)]]; exact bad
  · simp only [if_neg c1]
    by_cases c2 : d < 1
    · rw [decide_eq_true c2, show makeS n d = (0, 0, 1) by unfold makeS; rw [if_pos (.inr c2)]]; exact bad
    · rw [decide_eq_false c2]
      refine Ev.step (f := fun k => _) (fun k => by rw [rate_Make.j0.eq_2, if_neg (by decide)]) ?_
      refine Ev.bind (gcd_f hn hd) ?_
      have hg := gcd_pos' (n := n) (d := d) (by omega)
      have hgi := gcd_lt (n := n) (d := d) (by omega) hn
      obtain ⟨q1, q1'⟩ := div_gcd_i64 (n := n) (d := d) (by omega) hn
      have q2 : I64 (d / (Int.gcd n d : Nat)) := by rw [Int.gcd_comm]; exact (div_gcd_i64 (n := d) (d := n) (by omega) hd).1
      rw [w64_in hgi, if_neg (by omega), Int.tdiv_eq_ediv_of_nonneg (by omega), Int.tdiv_eq_ediv_of_nonneg (by omega), w64_in q1, w64_in q2, within_f, within_f]
      simp only [Option.bind_some]
      rw [makeS_pos (by omega) (by omega)]
      by_cases d1 : in9 (n / (Int.gcd n d : Nat))
      · simp only [decide_eq_true d1, if_true]
        by_cases d2 : in9 (d / (Int.gcd n d : Nat))
        · simp only [decide_eq_true d2, if_true]; rw [if_pos ⟨d1, d2⟩]; exact Ev.now _
        · simp only [decide_eq_false d2, Bool.false_eq_true, if_false]; rw [if_neg (fun h => d2 h.2)]; exact Ev.now _
      · simp only [decide_eq_false d1, Bool.false_eq_true, if_false]; rw [if_neg (fun h => d1 h.1)]; exact Ev.now _
theorem rparse_fS {l : List UInt8} (hl : l.length < 4294967281) : Ev (fun k => rate_Parse.f k (bs l)) (rparseS l) := by
  unfold rate_Parse.f
  simp only [if_pos (show (bs l).size < 4294967281 by rw [bs_size]; exact hl), bs_dataL, parseF_pS]
  unfold rparseS
  by_cases c1 : (pS (X.upF l)).2 = 5
  · simp only [if_pos c1]; rw [if_pos (.inl c1)]; exact Ev.now _
  · simp only [if_neg c1]
    by_cases c2 : (pS (X.downF l)).2 = 5
    · simp only [if_pos c2]; rw [if_pos (.inr c2)]; exact Ev.now _
    · simp only [if_neg c2]
      rw [if_neg (fun h => h.elim c1 c2)]
      by_cases c3 : (pS (X.upF l)).2 ≠ 0 ∨ (pS (X.downF l)).2 ≠ 0
      · simp only [if_pos c3]; exact Ev.now _
      · simp only [if_neg c3]; exact make_f (pS_i64 _) (pS_i64 _)
theorem rprint_fS {n d : Int} (hn : I64 n) (hd : I64 d) : Ev (fun k => rate_Print.f k n d) (bs (rprintS n d)) := by
  unfold rate_Print.f
  refine Ev.bind (right_f hn hd) ?_
  unfold rprintS
  by_cases c : rightS n d = true
  · simp only [if_pos c]
    have h1 := Lib.itoa_length_le n hn.1 hn.2
    have h2 := Lib.itoa_length_le d hd.1 hd.2
    by_cases c1 : d = 1
    · simp only [if_pos c1]
      refine Ev.bind (evk (rcprint_f hn)) ?_; exact Ev.now _
    · simp only [if_neg c1]
      refine Ev.bind (evk (rcprint_f hn)) ?_
      simp only [if_pos (show (bs (Lib.itoa n)).size + 1 ≤ 9223372036854775807 by rw [bs_size]; omega)]
      refine Ev.bind (evk (rcprint_f hd)) ?_
      rw [show (⟨#[47]⟩ : ByteArray) = bs [47] from rfl, bs_append, bs_append, if_pos (by rw [bs_size, bs_size]; simp; omega)]
      exact Ev.now _
  · simp only [if_neg c]; exact Ev.now _
theorem apply_fS {n d a : Int} (hn : I64 n) (hd : I64 d) (ha : I64 a) : Ev (fun k => rate_Apply.f k n d a) (applyS n d a) := by
  unfold rate_Apply.f applyS
  refine Ev.bind (right_f hn hd) ?_
  by_cases c : rightS n d = true
  · simp only [if_pos c]; refine Ev.bind (muldiv_f ha hn hd) ?_; exact Ev.now _
  · simp only [if_neg c]; exact Ev.now _
theorem rcmp_fS {a b c d : Int} (ha : I64 a) (hb : I64 b) (hc : I64 c) (hd : I64 d) : Ev (fun k => rate_Cmp.f k a b c d) (rcmpS a b c d) := by
  unfold rate_Cmp.f rcmpS
  refine Ev.bind (cmp_f ha hd hc hb) ?_; exact Ev.now _
/-! chains -/
theorem exact4 {n p : Int} (hn : 0 ≤ n ∧ n ≤ 10000) (hp : 0 ≤ p ∧ p ≤ 10000) : exact n p 10000 = if n * p % 10000 = 0 then (n * p / 10000, true, 0) else (0, false, 0) := by
  have hs := step4 hn hp
  have e1 : ab n = n := by unfold ab; rw [if_neg (by omega)]
  have e2 : ab p = p := by unfold ab; rw [if_neg (by omega)]
  have e3 : ab 10000 = 10000 := by unfold ab; rw [if_neg (by omega)]
  have e4 : ngs n p 10000 = false := by unfold ngs; rw [decide_eq_false (by omega), decide_eq_false (by omega)]; rfl
  unfold exact
  rw [if_neg (by omega), e1, e2, e3, e4]
  by_cases c : n * p % 10000 = 0
  · rw [if_pos c, if_pos c]
    show (if -9223372036854775808 ≤ sg false (n * p / 10000) ∧ sg false (n * p / 10000) ≤ 9223372036854775807 then _ else _) = _
    rw [show sg false (n * p / 10000) = n * p / 10000 from rfl, if_pos (by omega)]
  · rw [if_neg c, if_neg c]
theorem chain1_f (T : List Int) : ∀ (P : List Int) (n i : Int), (∀ p ∈ T, 0 ≤ p ∧ p ≤ 10000) → (0 ≤ n ∧ n ≤ 10000) → i = P.length → P.length + T.length ≤ 1000000000 →
    Ev (fun k => rate_Chain.l1 k n (P ++ T) (((P ++ T).length : Nat) : Int) i) (chainF n T) := by
  induction T with
  | nil =>
    intro P n i _ hn hi hl
    refine Ev.step (f := fun _ => some _) (fun k => ?_) (Ev.now _)
    rw [rate_Chain.l1.eq_2, if_neg (by simp; omega)]; rfl
  | cons p T ih =>
    intro P n i hT hn hi hl
    have hp := hT p List.mem_cons_self
    have rr : rd (P ++ p :: T) i = p := by subst hi; unfold rd; rw [Int.toNat_natCast]; exact rd_int rfl rfl
    have hlen : ((P ++ p :: T).length : Int) = P.length + 1 + T.length := by simp; omega
    simp only [List.length_cons] at hl
    have hs := step4 hn hp
    have ht := ih (P ++ [p]) (n * p / 10000) (i + 1) (fun y hy => hT y (List.mem_cons_of_mem _ hy)) ⟨Int.ediv_nonneg hs.1 (by omega), by omega⟩ (by simp; omega) (by simp; omega)
    rw [show P ++ [p] ++ T = P ++ p :: T by simp] at ht
    refine Ev.step (f := fun k => _) (fun k => by rw [rate_Chain.l1.eq_2, if_pos (by omega), if_pos (by omega), if_pos (by omega), rr]) ?_
    refine Ev.bind (exact_f (by unfold I64; omega) (by unfold I64; omega) (by unfold I64; omega)) ?_
    rw [exact4 hn hp, show chainF n (p :: T) = if n * p % 10000 = 0 then chainF (n * p / 10000) T else (0, 12) from rfl]
    by_cases c : n * p % 10000 = 0
    · simp only [if_pos c, if_true]
      rw [w64_in (show I64 (i + 1) by unfold I64; omega)]; exact ht
    · simp only [if_neg c, Bool.false_eq_true, if_false]; exact Ev.now _
theorem chain0_f (X : List Int) (hX : X.length ≤ 1000000000) (T : List Int) : ∀ (P : List Int) (i : Int), X = P ++ T → P.all okP4 = true → i = P.length →
    Ev (fun k => rate_Chain.l0 k X X (X.length : Int) i) (chainS X) := by
  induction T with
  | nil =>
    intro P i hx hP hi
    rw [List.append_nil] at hx
    subst hx
    have := chain1_f X [] 10000 0 (fun p hp => okP4_iff.1 (List.all_eq_true.1 hP p hp)) (by omega) rfl (by simpa using hX)
    unfold chainS
    rw [if_pos hP]
    refine Ev.step (fun k => ?_) this
    rw [rate_Chain.l0.eq_2, if_neg (by omega)]; rfl
  | cons p T ih =>
    intro P i hx hP hi
    have rr : rd X i = p := by rw [hx, hi]; unfold rd; rw [Int.toNat_natCast]; exact rd_int rfl rfl
    have hlen : (X.length : Int) = P.length + 1 + T.length := by rw [hx]; simp; omega
    have bad : okP4 p = false → chainS X = (0, 1) := fun h => by
      unfold chainS; rw [if_neg (by rw [hx]; simp [h])]
    by_cases c1 : p < 0
    · rw [bad (by unfold okP4; simp; omega)]
      refine Ev.step (f := fun _ => some _) (fun k => ?_) (Ev.now _)
      rw [rate_Chain.l0.eq_2, if_pos (by omega), if_pos (by omega), if_pos (by omega), rr, if_pos c1]
    · by_cases c2 : p > 10000
      · rw [bad (by unfold okP4; simp; omega)]
        refine Ev.step (f := fun _ => some _) (fun k => ?_) (Ev.now _)
        rw [rate_Chain.l0.eq_2, if_pos (by omega), if_pos (by omega), if_pos (by omega), rr, if_neg c1, if_pos c2]
      · refine Ev.step (fun k => ?_) (ih (P ++ [p]) (i + 1) (by rw [hx]; simp) (by rw [List.all_append, hP]; simp [okP4]; omega) (by simp; omega))
        rw [rate_Chain.l0.eq_2, if_pos (by omega), if_pos (by omega), if_pos (by omega), rr, if_neg c1, if_neg c2, w64_in (by unfold I64; omega)]
theorem chain_fS {l : List Int} (hl : l.length ≤ 1000000000) : Ev (fun k => rate_Chain.f k l) (chainS l) := by
  unfold rate_Chain.f
  exact chain0_f l hl l [] 0 rfl rfl rfl
end Go.Proofs.YthidfomkgclkcaaGreatDoor.M
namespace Go.Proofs.YthidfomkgclkcaaGreatDoor.M
open Go.RowKit Go.Proofs.YthidfomkgclkcaaGreatDoorW.PrintWords Go.Proofs.YthidfomkgclkcaaGreatDoorW.PrintLast Go.Proofs.YthidfomkgclkcaaGreatDoorW.PrintMore Go.Proofs.YthidfomkgclkcaaGreatDoor.Q
theorem alive_f : Ev (fun k => law03_alive.f k) true := by
  unfold law03_alive.f
  have i64d : ∀ n : Int, -9223372036854775808 ≤ n → n ≤ 9223372036854775807 → I64 n := fun n h1 h2 => ⟨h1, h2⟩
  refine Ev.bind (rparse_fS (l := [54, 47, 52]) (by decide)) ?_
  rw [show rparseS [54, 47, 52] = (3, 2, 0) by decide +kernel]
  refine Ev.bind (apply_fS (i64d 3 (by decide) (by decide)) (i64d 2 (by decide) (by decide)) (i64d 3 (by decide) (by decide))) ?_
  rw [show applyS 3 2 3 = (5, 0) by decide +kernel]
  refine Ev.bind (chain_fS (l := [5000, 5000]) (by decide)) (Ev.bind (chain_fS (l := [3333, 3333]) (by decide)) ?_)
  rw [show chainS [5000, 5000] = (2500, 0) by decide +kernel, show chainS [3333, 3333] = (0, 12) by decide +kernel]
  simp only [show ((3 : Int) == 3 && ((2 : Int) == 2)) = true by decide, if_true]
  refine Ev.bind (rprint_fS (i64d 3 (by decide) (by decide)) (i64d 2 (by decide) (by decide))) ?_
  have hp : rprintS 3 2 = [51, 47, 50] := by
    unfold rprintS
    rw [if_pos (show rightS 3 2 = true by decide +kernel), if_neg (by decide)]
    have e3 : Lib.itoa 3 = [51] := by unfold Lib.itoa; rw [if_neg (by decide), show (3 : Int).toNat = 3 from rfl, dec_small (by decide)]; rfl
    have e2 : Lib.itoa 2 = [50] := by unfold Lib.itoa; rw [if_neg (by decide), show (2 : Int).toNat = 2 from rfl, dec_small (by decide)]; rfl
    rw [e3, e2]; rfl
  rw [hp]
  simp only [bs_toList, if_true]
  refine Ev.bind (right_f (i64d 3 (by decide) (by decide)) (i64d 2 (by decide) (by decide))) ?_
  rw [show rightS 3 2 = true by decide +kernel]
  simp only [if_true]
  refine Ev.bind (rcmp_fS (i64d 3 (by decide) (by decide)) (i64d 2 (by decide) (by decide)) (i64d 1 (by decide) (by decide)) (i64d 1 (by decide) (by decide))) ?_
  rw [show rcmpS 3 2 1 1 = 1 by decide +kernel]
  exact Ev.now _
end Go.Proofs.YthidfomkgclkcaaGreatDoor.M
