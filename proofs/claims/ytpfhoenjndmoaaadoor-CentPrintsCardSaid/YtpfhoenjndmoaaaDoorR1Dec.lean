import Derived.Test.YtpfhoenjndmoaaaDoorQx7
import Derived.Test.YtpfhoenjndmoaaaDoorQx1
import Derived.Test.YtpfhoenjndmoaaaDoorCDec
/- what the reference's Sub, Neg, Print, Parse tell -/
set_option linter.unusedVariables false
set_option linter.unusedSimpArgs false
namespace Go.Proofs.YtpfhoenjndmoaaaDoor.M
open Go.RowKit Go.Proofs.YtpfhoenjndmoaaaDoorW.PrintWords Go.Proofs.YtpfhoenjndmoaaaDoorW.PrintLast Go.Proofs.YtpfhoenjndmoaaaDoorW.PrintMore Go.Proofs.YtpfhoenjndmoaaaDoor.Q
theorem rsub_f {a b : Int} (ha : I64 a) (hb : I64 b) : ref01_Sub.f a b = some (subS a b) := by
  have e1 : b > 0 → wrap64 (-9223372036854775808 + b) = -9223372036854775808 + b := fun h => w64_in (by unfold I64 at *; omega)
  have e2 : b < 0 → wrap64 (9223372036854775807 + b) = 9223372036854775807 + b := fun h => w64_in (by unfold I64 at *; omega)
  unfold ref01_Sub.f subS
  by_cases c1 : b > 0
  · rw [if_pos c1, e1 c1, if_neg (show ¬ b < 0 by omega)]
    by_cases c : I64 (a - b)
    · rw [if_pos c, if_neg (by unfold I64 at c; omega), w64_in c]
    · rw [if_neg c, if_pos (by unfold I64 at *; omega)]
  · rw [if_neg c1]
    by_cases c2 : b < 0
    · rw [if_pos c2, e2 c2]
      by_cases c : I64 (a - b)
      · rw [if_pos c, if_neg (by unfold I64 at c; omega), w64_in c]
      · rw [if_neg c, if_pos (by unfold I64 at *; omega)]
    · have c : I64 (a - b) := by unfold I64 at *; omega
      rw [if_neg c2, if_pos c, w64_in c]
theorem rneg_f {a : Int} (ha : I64 a) : ref01_Neg.f a = some (subS 0 a) := by
  unfold ref01_Neg.f subS
  by_cases c : a = -9223372036854775808
  · rw [if_pos c, if_neg (by unfold I64; omega)]
  · have h : I64 (0 - a) := by unfold I64 at *; omega
    rw [if_neg c, if_pos h, show wrap64 (-a) = 0 - a by rw [show -a = 0 - a by omega]; exact w64_in h]
/-! the text of an amount -/
theorem ten : ∀ d : Nat, d < 10 → (⟨#[48, 49, 50, 51, 52, 53, 54, 55, 56, 57]⟩ : ByteArray).extract d (d + 1) = bs [UInt8.ofNat (48 + d)] := by
  have h : ∀ d : Fin 10, (⟨#[48, 49, 50, 51, 52, 53, 54, 55, 56, 57]⟩ : ByteArray).extract d.val (d.val + 1) = bs [UInt8.ofNat (48 + d.val)] := by decide +kernel
  intro d hd; exact h ⟨d, hd⟩
theorem ten' {x : Int} {d : Nat} (hd : d < 10) (hx : x = d) : (⟨#[48, 49, 50, 51, 52, 53, 54, 55, 56, 57]⟩ : ByteArray).extract (x : Int).toNat ((wrap64 (x + 1)) : Int).toNat = bs [UInt8.ofNat (48 + d)] := by
  subst hx
  rw [w64_in (by unfold I64; omega), show ((d : Int) + 1).toNat = d + 1 by omega, show (d : Int).toNat = d by omega]
  exact ten d hd
theorem tq10 (x : Int) : (0 ≤ x ∧ Int.tdiv x 10 = x / 10 ∧ Int.tmod x 10 = x % 10) ∨ (x < 0 ∧ Int.tdiv x 10 = -((-x) / 10) ∧ Int.tmod x 10 = -((-x) % 10)) := by
  by_cases h : 0 ≤ x
  · exact .inl ⟨h, Int.tdiv_eq_ediv_of_nonneg h, Int.tmod_eq_emod_of_nonneg h⟩
  · obtain ⟨y, rfl⟩ : ∃ y, x = -y := ⟨-x, by omega⟩
    rw [Int.neg_tdiv, Int.neg_tmod, Int.neg_neg, Int.tdiv_eq_ediv_of_nonneg (by omega), Int.tmod_eq_emod_of_nonneg (by omega)]
    exact .inr ⟨by omega, rfl, rfl⟩
theorem rprintl_f (u : Nat) : ∀ (x : Int) (s t : List UInt8), x.natAbs = u → I64 x → s.length + t.length + Lib.nDigits u ≤ 1000 → x ≠ 0 →
    Ev (fun k => ref01_Print.l0 k x (bs s) (bs t)) (bs (s ++ (Lib.decDigits u ++ t))) := by
  induction u using Nat.strongRecOn with
  | _ u ih =>
    intro x s t hu hx hl h0
    rcases tq10 x with ⟨hs0, e1, e2⟩ | ⟨hs0, e1, e2⟩
    all_goals
     have hq : I64 (Int.tdiv x 10) := by unfold I64 at *; omega
     have hqa : (Int.tdiv x 10).natAbs = u / 10 := by omega
     -- the digit
     have hstep : ∀ k, ref01_Print.l0 (k + 1) x (bs s) (bs t) = ref01_Print.l0 k (Int.tdiv x 10) (bs s) (bs ([UInt8.ofNat (48 + u % 10)] ++ t)) := by
       intro k
       rw [ref01_Print.l0.eq_2, if_neg h0]
       by_cases c : Int.tmod x 10 < 0
       · have hd : -(Int.tmod x 10) = ((u % 10 : Nat) : Int) := by omega
         have hw : wrap64 (-(Int.tmod x 10)) = -(Int.tmod x 10) := w64_in (by unfold I64; omega)
         have hw1 : wrap64 (-(Int.tmod x 10) + 1) = -(Int.tmod x 10) + 1 := w64_in (by unfold I64; omega)
         have he := ten' (x := -(Int.tmod x 10)) (d := u % 10) (by omega) hd
         rw [if_pos c, hw, he, hw1, if_pos (by omega), if_pos (by omega), if_pos (by omega), if_pos (by rw [bs_size, bs_size]; simp; omega), bs_append, w64_in hq]
       · have hd : (Int.tmod x 10) = ((u % 10 : Nat) : Int) := by omega
         have hw1 : wrap64 ((Int.tmod x 10) + 1) = (Int.tmod x 10) + 1 := w64_in (by unfold I64; omega)
         have he := ten' (x := Int.tmod x 10) (d := u % 10) (by omega) hd
         rw [if_neg c, he, hw1, if_pos (by omega), if_pos (by omega), if_pos (by omega), if_pos (by rw [bs_size, bs_size]; simp; omega), bs_append, w64_in hq]
     refine Ev.step hstep ?_
     by_cases c : u < 10
     · have hz : Int.tdiv x 10 = 0 := by omega
       rw [hz, dec_small c, Nat.mod_eq_of_lt c]
       refine Ev.step (f := fun _ => some _) (fun k => ?_) (Ev.now _)
       rw [ref01_Print.l0.eq_2, if_pos rfl, if_pos (by rw [bs_size, bs_size]; simp; omega), bs_append]
     · rw [Lib.nDigits_big c] at hl
       have := ih (u / 10) (by omega) (Int.tdiv x 10) s ([UInt8.ofNat (48 + u % 10)] ++ t) hqa hq (by simp; omega) (by omega)
       rw [dec_big c]
       simpa using this
theorem nDigits_le (u : Nat) (h : u ≤ 9223372036854775808) : Lib.nDigits u ≤ 20 := by
  have h1 := Lib.lt_pow_nDigits u
  rcases Nat.lt_or_ge 20 (Lib.nDigits u) with c | c
  · exfalso
    -- with more than 20 digits the number would be greater
    have key : ∀ n, 1 ≤ n → ∀ v, Lib.nDigits v = n → v = 0 ∨ 10 ^ (n - 1) ≤ v := by
      intro n
      induction n with
      | zero => intro h; omega
      | succ n ih =>
        intro _ v hv
        by_cases hs : v < 10
        · rw [Lib.nDigits_small hs] at hv
          obtain rfl : n = 0 := by omega
          by_cases hz : v = 0
          · exact .inl hz
          · exact .inr (by simp; omega)
        · rw [Lib.nDigits_big hs] at hv
          have := Lib.nDigits_pos (v / 10)
          rcases ih (by omega) (v / 10) (by omega) with h | h
          · omega
          · refine .inr ?_
            have e : 10 ^ (n + 1 - 1) = 10 ^ (n - 1) * 10 := by rw [← Nat.pow_succ]; congr 1; omega
            rw [e]; omega
    rcases key _ (Lib.nDigits_pos u) u rfl with h | h2
    · rw [h, Lib.nDigits_small (by omega)] at c; omega
    · have : 10 ^ 20 ≤ 10 ^ (Lib.nDigits u - 1) := Nat.pow_le_pow_right (by decide) (by omega)
      have e : (10 : Nat) ^ 20 = 100000000000000000000 := by decide
      omega
  · exact c
theorem rprint_f {a : Int} (ha : I64 a) : Ev (fun k => ref01_Print.f k a) (bs (Lib.itoa a)) := by
  unfold ref01_Print.f
  by_cases c : a = 0
  · subst c; simp only [if_true]
    have : bs (Lib.itoa 0) = (⟨#[48]⟩ : ByteArray) := by unfold Lib.itoa; rw [if_neg (by omega), show (0 : Int).toNat = 0 from rfl, dec_small (by omega)]; rfl
    rw [this]; exact Ev.now _
  · simp only [if_neg c]
    have hn := nDigits_le a.natAbs (by unfold I64 at ha; omega)
    by_cases c2 : a < 0
    · simp only [if_pos c2]
      have := rprintl_f a.natAbs a [45] [] rfl ha (by simp; omega) c
      refine Ev.step (f := fun k => ref01_Print.l0 k a (bs [45]) (bs [])) (fun k => rfl) ?_
      unfold Lib.itoa; rw [if_pos c2]
      simpa using this
    · simp only [if_neg c2]
      have := rprintl_f a.natAbs a [] [] rfl ha (by simp; omega) c
      refine Ev.step (f := fun k => ref01_Print.l0 k a (bs []) (bs [])) (fun k => rfl) ?_
      unfold Lib.itoa; rw [if_neg c2, show a.toNat = a.natAbs by omega]
      simpa using this
end Go.Proofs.YtpfhoenjndmoaaaDoor.M
