/- Proved: rates stand as amounts at them do; each stands as itself, and the other way round the other way. For all rates of int64 and int32 amounts. No condition. -/
import Derived.Test.YthidfomkgclkcaaDoorQx10
import Derived.Test.YthidfomkgclkcaaDoorGC
set_option linter.unusedVariables false
set_option linter.unusedSimpArgs false
namespace Go.Proofs.YthidfomkgclkcaaDoor.Pure
open Go.RowKit Go.Proofs.YthidfomkgclkcaaDoor.Q Go.Proofs.YthidfomkgclkcaaDoor.M Go.Proofs.YthidfomkgclkcaaDoorW.PrintWords Go.Proofs.YthidfomkgclkcaaDoorW.PrintLast
theorem cmpI_vals (x y : Int) : (cmpI x y = -1 ∧ x < y) ∨ (cmpI x y = 1 ∧ y < x) ∨ (cmpI x y = 0 ∧ x = y) := by
  unfold cmpI
  by_cases c1 : x < y
  · rw [if_pos c1]; exact .inl ⟨rfl, c1⟩
  · rw [if_neg c1]
    by_cases c2 : y < x
    · rw [if_pos c2]; exact .inr (.inl ⟨rfl, c2⟩)
    · rw [if_neg c2]; exact .inr (.inr ⟨rfl, by omega⟩)
theorem lowest {a b c d : Int} (h1 : rightS a b = true) (h2 : rightS c d = true) (h : a * d = c * b) : a = c ∧ b = d := by
  obtain ⟨a1, b1, g1⟩ := rightS_iff.1 h1
  obtain ⟨c1, d1, g2⟩ := rightS_iff.1 h2
  unfold in9 at *
  obtain ⟨a, rfl⟩ := Int.eq_ofNat_of_zero_le (show 0 ≤ a by omega)
  obtain ⟨b, rfl⟩ := Int.eq_ofNat_of_zero_le (show 0 ≤ b by omega)
  obtain ⟨c, rfl⟩ := Int.eq_ofNat_of_zero_le (show 0 ≤ c by omega)
  obtain ⟨d, rfl⟩ := Int.eq_ofNat_of_zero_le (show 0 ≤ d by omega)
  have e : a * d = c * b := by exact_mod_cast h
  have k1 : Nat.Coprime a b := by simpa [Int.gcd] using g1
  have k2 : Nat.Coprime c d := by simpa [Int.gcd] using g2
  have x1 : a ∣ c := k1.dvd_of_dvd_mul_right (show a ∣ c * b by rw [← e]; exact Nat.dvd_mul_right a d)
  have x2 : c ∣ a := k2.dvd_of_dvd_mul_right (show c ∣ a * d by rw [e]; exact Nat.dvd_mul_right c b)
  have ea : a = c := Nat.dvd_antisymm x1 x2
  subst ea
  have : d = b := Nat.eq_of_mul_eq_mul_left (show 0 < a by omega) e
  subst this
  exact ⟨rfl, rfl⟩
/-- the rounded quotient, half up: as one division -/
theorem rnd_floor {P C : Int} (hC : 0 < C) : rnd P C = (2 * P + C) / (2 * C) := by
  have h := rnd_spec (P := P) hC
  have : ∀ q, q * C = q * C := fun _ => rfl
  rcases h with ⟨h1, h2⟩ | ⟨h1, h2⟩
  · symm
    refine (Int.ediv_eq_iff_of_pos (by omega)).2 ?_
    rw [Int.mul_left_comm]; constructor <;> omega
  · symm
    refine (Int.ediv_eq_iff_of_pos (by omega)).2 ?_
    rw [Int.mul_left_comm]; constructor <;> omega
theorem div_mono {A B A' B' : Int} (hB : 0 < B) (hB' : 0 < B') (h : A * B' ≤ A' * B) : A / B ≤ A' / B' := by
  refine Int.le_ediv_of_mul_le hB' ?_
  have h1 := Int.ediv_mul_le A (show B ≠ 0 by omega)
  have h2 : A / B * B' * B ≤ A' * B := by
    have : A / B * B * B' ≤ A * B' := Int.mul_le_mul_of_nonneg_right h1 (by omega)
    rw [Int.mul_right_comm]; omega
  exact Int.le_of_mul_le_mul_right h2 hB
theorem rnd_mono {N a b c d : Int} (hN : 0 ≤ N) (hb : 0 < b) (hd : 0 < d) (h : a * d ≤ c * b) : rnd (N * a) b ≤ rnd (N * c) d := by
  rw [rnd_floor hb, rnd_floor hd]
  refine div_mono (by omega) (by omega) ?_
  have h1 : N * (a * d) ≤ N * (c * b) := Int.mul_le_mul_of_nonneg_left h hN
  have e1 : (2 * (N * a) + b) * (2 * d) = 4 * (N * (a * d)) + 2 * (b * d) := by
    rw [Int.add_mul, Int.mul_assoc 2, Int.mul_left_comm (N * a) 2 d, Int.mul_assoc N a d, Int.mul_left_comm b 2 d]; omega
  have e2 : (2 * (N * c) + d) * (2 * b) = 4 * (N * (c * b)) + 2 * (b * d) := by
    rw [Int.add_mul, Int.mul_assoc 2, Int.mul_left_comm (N * c) 2 b, Int.mul_assoc N c b, Int.mul_left_comm d 2 b, Int.mul_comm d b]; omega
  omega
theorem rnd_bd {N a b : Int} (hN : 0 ≤ N ∧ N ≤ 2147483648) (ha : in9 a) (hb : in9 b) : 0 ≤ rnd (N * a) b ∧ rnd (N * a) b ≤ 2147483648000000001 := by
  have h0 : 0 ≤ N * a := Int.mul_nonneg hN.1 (by unfold in9 at ha; omega)
  have h1 : N * a ≤ 2147483648 * 1000000000 := mul_le_mul' hN.2 ha.2 hN.1 (by omega)
  refine ⟨rnd_nonneg h0 (by unfold in9 at hb; omega), ?_⟩
  have h2 : N * a / b ≤ N * a := Int.ediv_le_self _ h0
  unfold rnd; split <;> omega
/-- what an amount at a rate is, by its sign -/
theorem apply_val {n a b : Int} (hn : -2147483648 ≤ n ∧ n ≤ 2147483647) (hr : rightS a b = true) : applyS a b n = (if n < 0 then -(rnd (ab n * a) b) else rnd (ab n * a) b, 0) := by
  obtain ⟨h1, h2, _⟩ := rightS_iff.1 hr
  have hN : 0 ≤ ab n ∧ ab n ≤ 2147483648 := ⟨ab_nonneg n, by unfold ab; split <;> omega⟩
  have hb := rnd_bd hN h1 h2
  have ea : ab a = a := by unfold ab in9 at *; rw [if_neg (by omega)]
  have eb : ab b = b := by unfold ab in9 at *; rw [if_neg (by omega)]
  unfold applyS
  rw [if_pos hr]
  unfold mulDiv
  rw [if_neg (by unfold in9 at h2; omega), ea, eb]
  have en : ngs n a b = decide (n < 0) := by
    unfold ngs in9 at *; rw [decide_eq_false (show ¬ a < 0 by omega), decide_eq_false (show ¬ b < 0 by omega)]; simp
  rw [en]
  generalize rnd (ab n * a) b = X at *
  by_cases c : n < 0
  · rw [decide_eq_true c, if_pos c]
    exact if_pos (show -9223372036854775808 ≤ -X ∧ -X ≤ 9223372036854775807 by omega)
  · rw [decide_eq_false c, if_neg c]
    exact if_pos (show -9223372036854775808 ≤ X ∧ X ≤ 9223372036854775807 by omega)
theorem j2_ok {n c u v : Int} (hn : -2147483648 ≤ n ∧ n ≤ 2147483647) (hu : 0 ≤ u ∧ u ≤ 2147483648000000001) (hv : 0 ≤ v ∧ v ≤ 2147483648000000001)
    (h : (c = -1 ∧ u ≤ v) ∨ (c = 1 ∧ v ≤ u) ∨ (c = 0 ∧ u = v)) :
    Ev (fun k => law03_RateOrder.j2 k n c (if n < 0 then -u else u) (if n < 0 then -v else v) false) true := by
  have w1 : wrap64 (- -u) = u := by rw [Int.neg_neg]; exact w64_in (by unfold I64; omega)
  have w2 : wrap64 (- -v) = v := by rw [Int.neg_neg]; exact w64_in (by unfold I64; omega)
  refine Ev.step (f := fun _ => some true) (fun k => ?_) (Ev.now _)
  rw [law03_RateOrder.j2.eq_2, if_neg (by decide)]
  by_cases cn : n < 0
  · simp only [if_pos cn, w1, w2]
    rcases h with ⟨rfl, h⟩ | ⟨rfl, h⟩ | ⟨rfl, rfl⟩
    · rw [if_pos (by decide), if_pos h]
    · rw [if_neg (by decide), if_pos (by decide), if_pos h]
    · rw [if_neg (by decide), if_neg (by decide), if_pos rfl]; simp
  · simp only [if_neg cn]
    rcases h with ⟨rfl, h⟩ | ⟨rfl, h⟩ | ⟨rfl, rfl⟩
    · rw [if_pos (by decide), if_pos h]
    · rw [if_neg (by decide), if_pos (by decide), if_pos h]
    · rw [if_neg (by decide), if_neg (by decide), if_pos rfl]; simp
theorem RateOrder : law03_RateOrder.Pure := by
  intro a b c d n wa wb wc wd wn
  have ha := wf_i64 wa
  have hb := wf_i64 wb
  have hc := wf_i64 wc
  have hd := wf_i64 wd
  have hn := wf_i32 wn
  refine Ev.rounds (g := fun k => law03_RateOrder.f k a b c d n) ?_
  unfold law03_RateOrder.f
  refine Ev.bind alive_f ?_
  simp only [if_true]
  refine Ev.bind (right_f ha hb) ?_
  have no : Ev (fun k => law03_RateOrder.j0 k n true a b c d) true :=
    Ev.step (f := fun _ => some true) (fun k => by rw [law03_RateOrder.j0.eq_2, if_pos rfl]) (Ev.now _)
  by_cases r1 : rightS a b = true
  · simp only [r1, if_true]
    refine Ev.bind (right_f hc hd) ?_
    by_cases r2 : rightS c d = true
    · simp only [r2, Bool.not_true]
      obtain ⟨a1, b1, _⟩ := rightS_iff.1 r1
      obtain ⟨c1, d1, _⟩ := rightS_iff.1 r2
      refine Ev.step (f := fun k => _) (fun k => by rw [law03_RateOrder.j0.eq_2, if_neg (by decide)]) ?_
      refine Ev.bind (rcmp_fS ha hb hc hd) (Ev.bind (rcmp_fS hc hd ha hb) ?_)
      have hv1 := cmpI_vals (a * d) (c * b)
      have hv2 := cmpI_vals (c * b) (a * d)
      have e1 : rcmpS a b c d = wrap64 (-(rcmpS c d a b)) := by
        unfold rcmpS
        rcases hv1 with ⟨h, h'⟩ | ⟨h, h'⟩ | ⟨h, h'⟩ <;> rcases hv2 with ⟨g, g'⟩ | ⟨g, g'⟩ | ⟨g, g'⟩ <;> rw [h, g] <;> first | omega | decide +kernel
      have e2 : (rcmpS a b c d == 0) = (a == c && (b == d)) := by
        rw [Bool.eq_iff_iff, Bool.and_eq_true, beq_iff_eq, beq_iff_eq, beq_iff_eq]
        constructor
        · intro h
          refine lowest r1 r2 ?_
          unfold rcmpS at h
          rcases hv1 with ⟨g, g'⟩ | ⟨g, g'⟩ | ⟨g, g'⟩ <;> omega
        · rintro ⟨rfl, rfl⟩
          unfold rcmpS
          rcases hv1 with ⟨g, g'⟩ | ⟨g, g'⟩ | ⟨g, g'⟩ <;> omega
      have e3 : rcmpS a b a b = 0 := by
        unfold rcmpS
        rcases cmpI_vals (a * b) (a * b) with ⟨g, g'⟩ | ⟨g, g'⟩ | ⟨g, g'⟩ <;> omega
      simp only [if_pos e1, e2, bne_self_eq_false, Bool.false_eq_true, if_false]
      refine Ev.bind (rcmp_fS ha hb ha hb) ?_
      rw [e3]
      refine Ev.step (f := fun k => _) (fun k => by rw [law03_RateOrder.j1.eq_2, if_neg (by decide)]) ?_
      have wn : wrap64 n = n := w64_in (by unfold I64; omega)
      rw [wn]
      have hni : I64 n := by unfold I64; omega
      refine Ev.bind (apply_fS ha hb hni) (Ev.bind (apply_fS hc hd hni) ?_)
      rw [apply_val hn r1, apply_val hn r2]
      simp only [if_true, bne_self_eq_false]
      have hN : 0 ≤ ab n ∧ ab n ≤ 2147483648 := ⟨ab_nonneg n, by unfold ab; split <;> omega⟩
      refine j2_ok hn (rnd_bd hN a1 b1) (rnd_bd hN c1 d1) ?_
      unfold rcmpS
      have pb : 0 < b := by unfold in9 at b1; omega
      have pd : 0 < d := by unfold in9 at d1; omega
      rcases hv1 with ⟨h, h'⟩ | ⟨h, h'⟩ | ⟨h, h'⟩
      · exact .inl ⟨h, rnd_mono hN.1 pb pd (by omega)⟩
      · exact .inr (.inl ⟨h, rnd_mono hN.1 pd pb (by omega)⟩)
      · refine .inr (.inr ⟨h, ?_⟩)
        obtain ⟨rfl, rfl⟩ := lowest r1 r2 h'
        rfl
    · rw [Bool.not_eq_true] at r2
      simp only [r2, Bool.not_false]; exact no
  · simp only [r1, if_false]; exact no
end Go.Proofs.YthidfomkgclkcaaDoor.Pure
