/- Proved: rates come back from their texts, and are in lowest terms; what is made of two numbers is what is made of both times a third one. For all int64 numbers and uint16 factors. No condition. -/
import Derived.Test.YthidfomkgclkcaaDoorQx8
import Derived.Test.YthidfomkgclkcaaDoorGC
set_option linter.unusedVariables false
set_option linter.unusedSimpArgs false
namespace Go.Proofs.YthidfomkgclkcaaDoor.Pure
open Go.RowKit Go.Proofs.YthidfomkgclkcaaDoor.Q Go.Proofs.YthidfomkgclkcaaDoor.M Go.Proofs.YthidfomkgclkcaaDoorW.PrintWords Go.Proofs.YthidfomkgclkcaaDoorW.PrintLast
theorem rprint_len {n d : Int} (hn : I64 n) (hd : I64 d) : (rprintS n d).length ≤ 50 := by
  have h1 := Lib.itoa_length_le n hn.1 hn.2
  have h2 := Lib.itoa_length_le d hd.1 hd.2
  unfold rprintS
  split
  · split
    · omega
    · simp; omega
  · simp
theorem RateBack : law03_RateBack.Pure := by
  intro n d b wn wd wb
  have hn := wf_i64 wn
  have hd := wf_i64 wd
  have hb := wf_u16 wb
  refine Ev.rounds (g := fun k => law03_RateBack.f k n d b) ?_
  unfold law03_RateBack.f
  refine Ev.bind alive_f ?_
  simp only [if_true]
  refine Ev.bind (make_f hn hd) ?_
  by_cases c : (makeS n d).2.2 = 0
  · simp only [if_pos c]
    obtain ⟨x, y, z, e⟩ : ∃ x y z, makeS n d = (x, y, z) := ⟨_, _, _, rfl⟩
    rw [e] at c ⊢
    obtain rfl : z = 0 := c
    have hr := makeS_right e
    obtain ⟨r1, r2, r3⟩ := rightS_iff.1 hr
    have ix := in9_i64 r1
    have iy := in9_i64 r2
    refine Ev.bind (rprint_fS ix iy) (Ev.bind (rparse_fS (l := rprintS x y) (by have := rprint_len ix iy; omega)) (Ev.bind (right_f ix iy) ?_))
    rw [rparse_print hr, hr]
    have hk : w64_in (show I64 b by unfold I64; omega) = w64_in (show I64 b by unfold I64; omega) := rfl
    have ek : wrap64 (wrap64 b + 1) = b + 1 := by rw [w64_in (show I64 b by unfold I64; omega), w64_in (by unfold I64; omega)]
    have m1 : 0 ≤ x * (b + 1) ∧ x * (b + 1) ≤ 1000000000 * 65536 := by
      unfold in9 at r1
      exact ⟨Int.mul_nonneg (by omega) (by omega), Int.mul_le_mul (by omega) (by omega) (by omega) (by omega)⟩
    have m2 : 0 ≤ y * (b + 1) ∧ y * (b + 1) ≤ 1000000000 * 65536 := by
      unfold in9 at r2
      exact ⟨Int.mul_nonneg (by omega) (by omega), Int.mul_le_mul (by omega) (by omega) (by omega) (by omega)⟩
    have i1 : I64 (x * (b + 1)) := by unfold I64; omega
    have i2 : I64 (y * (b + 1)) := by unfold I64; omega
    simp only [if_true, beq_self_eq_true, Bool.not_true, Bool.or_false, Bool.false_eq_true, if_false, ek, w64_in i1, w64_in i2]
    refine Ev.bind (make_f i1 i2) ?_
    rw [makeS_times hr (by omega)]
    simp only [beq_self_eq_true, Bool.and_true, if_true]
    exact Ev.now _
  · simp only [if_neg c]
    obtain ⟨h1, h2, h3⟩ := makeS_bad c
    refine Ev.bind (right_f hn hd) ?_
    rw [h1, h2, h3]
    simp only [Bool.false_eq_true, if_false, beq_self_eq_true, Bool.and_true]
    exact Ev.now _
end Go.Proofs.YthidfomkgclkcaaDoor.Pure
