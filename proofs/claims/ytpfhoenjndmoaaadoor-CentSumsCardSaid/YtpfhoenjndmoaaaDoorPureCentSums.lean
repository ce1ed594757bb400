/- Proved: for all lists of int32 (of at most 300 numbers each, as the law asks), a sum of two lists, one behind the other, is the sum of both sums. No condition but what Go itself can hold. -/
import Derived.Test.YtpfhoenjndmoaaaDoorQx3
import Derived.Test.YtpfhoenjndmoaaaDoorCAlive01
set_option linter.unusedVariables false
set_option linter.unusedSimpArgs false
namespace Go.Proofs.YtpfhoenjndmoaaaDoor.Pure
open Go.RowKit Go.Proofs.YtpfhoenjndmoaaaDoor.Q Go.Proofs.YtpfhoenjndmoaaaDoor.M Go.Proofs.YtpfhoenjndmoaaaDoorW.PrintWords Go.Proofs.YtpfhoenjndmoaaaDoorW.PrintLast
def sumL : List Int → Int
  | [] => 0
  | x :: l => x + sumL l
theorem sumL_app (a b : List Int) : sumL (a ++ b) = sumL a + sumL b := by
  induction a with
  | nil => simp [sumL]
  | cons x a ih => simp only [List.cons_append, sumL, ih]; omega
theorem sumL_bd (l : List Int) (h : ∀ x ∈ l, -2147483648 ≤ x ∧ x ≤ 2147483647) : -(2147483648 * (l.length : Int)) ≤ sumL l ∧ sumL l ≤ 2147483648 * (l.length : Int) := by
  induction l with
  | nil => simp [sumL]
  | cons x l ih =>
    have h1 := h x List.mem_cons_self
    have h2 := ih (fun y hy => h y (List.mem_cons_of_mem _ hy))
    simp only [sumL, List.length_cons]; omega
theorem sumS_fit (l : List Int) : ∀ n : Int, (∀ x ∈ l, -2147483648 ≤ x ∧ x ≤ 2147483647) → -4000000000000 ≤ n - 2147483648 * (l.length : Int) → n + 2147483648 * (l.length : Int) ≤ 4000000000000 → sumS n l = (n + sumL l, 0) := by
  induction l with
  | nil => intro n _ _ _; simp [sumS, sumL]
  | cons x l ih =>
    intro n h h1 h2
    have hx := h x List.mem_cons_self
    simp only [List.length_cons] at h1 h2
    show (if I64 (n + x) then sumS (n + x) l else (0, 2)) = _
    rw [if_pos (by unfold I64; omega), ih (n + x) (fun y hy => h y (List.mem_cons_of_mem _ hy)) (by omega) (by omega)]
    simp only [sumL]
    rw [show n + x + sumL l = n + (x + sumL l) by omega]
theorem l0_f {X : List Int} {r : Bool} (T : List Int) : ∀ P : List Int, (∀ x ∈ T, -2147483648 ≤ x ∧ x ≤ 2147483647) → P.length + T.length ≤ 1000 →
    Ev (fun k => law01_CentSums.l1 k (P ++ T) [] X (X.length : Int) 0) r → Ev (fun k => law01_CentSums.l0 k X P (P ++ T) (((P ++ T).length : Nat) : Int) (P.length : Int)) r := by
  induction T with
  | nil =>
    intro P _ _ h
    refine Ev.step (fun k => ?_) h
    rw [law01_CentSums.l0.eq_2, if_neg (by simp)]; simp
  | cons x T ih =>
    intro P hT hl h
    have hx := hT x List.mem_cons_self
    have rr : rd (P ++ x :: T) (P.length : Int) = x := by unfold rd; rw [Int.toNat_natCast]; exact rd_int rfl rfl
    simp only [List.length_cons] at hl
    have := ih (P ++ [x]) (fun y hy => hT y (List.mem_cons_of_mem _ hy)) (by simp; omega) (by simpa using h)
    rw [show P ++ [x] ++ T = P ++ x :: T by simp] at this
    refine Ev.step (fun k => ?_) this
    have hlen : ((P ++ x :: T).length : Int) = P.length + 1 + T.length := by simp; omega
    rw [law01_CentSums.l0.eq_2, if_pos (by omega), if_pos (by omega), if_pos (by omega), if_pos (by omega), rr, w64_in (show I64 x by unfold I64; omega), w64_in (by unfold I64; omega)]
    simp
theorem end_f {l m : List Int} (hl : l.length ≤ 300) (hm : m.length ≤ 300) (h1 : ∀ x ∈ l, -2147483648 ≤ x ∧ x ≤ 2147483647) (h2 : ∀ x ∈ m, -2147483648 ≤ x ∧ x ≤ 2147483647) {k' : List Int} {b i : Int} (hbi : ¬ i < b) :
    Ev (fun k => law01_CentSums.l1 k l m k' b i) true := by
  have i64 : ∀ x : Int, -2147483648 ≤ x ∧ x ≤ 2147483647 → I64 x := fun x h => by unfold I64; omega
  have b1 := sumL_bd l h1
  have b2 := sumL_bd m h2
  refine Ev.step (f := fun k => _) (fun k => by rw [law01_CentSums.l1.eq_2, if_neg hbi]) ?_
  refine Ev.bind (csum_f (fun x hx => i64 x (h1 x hx)) (by omega)) (Ev.bind (csum_f (fun x hx => i64 x (h2 x hx)) (by omega)) ?_)
  simp only [List.length_nil, Nat.zero_add, List.nil_append, Option.bind_some]
  simp only [if_pos (show l.length < 17592186044416 by omega), if_pos (show l.length + m.length < 17592186044416 by omega)]
  refine Ev.bind (csum_f (L := l ++ m) (fun x hx => i64 x ((List.mem_append.1 hx).elim (h1 x) (h2 x))) (by simp; omega)) ?_
  rw [sumS_fit l 0 h1 (by omega) (by omega), sumS_fit m 0 h2 (by omega) (by omega), sumS_fit (l ++ m) 0 (fun x hx => (List.mem_append.1 hx).elim (h1 x) (h2 x)) (by simp; omega) (by simp; omega)]
  refine Ev.bind (evk (cadd_f (by unfold I64; omega) (by unfold I64; omega))) ?_
  rw [show addS (0 + sumL l) (0 + sumL m) = (sumL l + sumL m, 0) by unfold addS; rw [if_pos (by unfold I64; omega)]; simp]
  simp only [if_true, sumL_app, Int.zero_add, beq_self_eq_true]
  exact Ev.now _
theorem l1_f {l : List Int} (hl : l.length ≤ 300) (h1 : ∀ x ∈ l, -2147483648 ≤ x ∧ x ≤ 2147483647) (T : List Int) : ∀ P : List Int, (∀ x ∈ P ++ T, -2147483648 ≤ x ∧ x ≤ 2147483647) → P.length + T.length ≤ 300 →
    Ev (fun k => law01_CentSums.l1 k l P (P ++ T) (((P ++ T).length : Nat) : Int) (P.length : Int)) true := by
  induction T with
  | nil =>
    intro P hP hl2
    exact end_f hl (by simpa using hl2) h1 (by simpa using hP) (by simp)
  | cons x T ih =>
    intro P hT hl
    have hx := hT x (by simp)
    have rr : rd (P ++ x :: T) (P.length : Int) = x := by unfold rd; rw [Int.toNat_natCast]; exact rd_int rfl rfl
    simp only [List.length_cons] at hl
    have := ih (P ++ [x]) (by simpa using hT) (by simp; omega)
    rw [show P ++ [x] ++ T = P ++ x :: T by simp] at this
    refine Ev.step (fun k => ?_) this
    have hlen : ((P ++ x :: T).length : Int) = P.length + 1 + T.length := by simp; omega
    rw [law01_CentSums.l1.eq_2, if_pos (by omega), if_pos (by omega), if_pos (by omega), if_pos (by omega), rr, w64_in (show I64 x by unfold I64; omega), w64_in (by unfold I64; omega)]
    simp
theorem CentSums : law01_CentSums.Pure := by
  intro a b _ ha _ hb
  refine Ev.rounds (g := fun k => law01_CentSums.f k a b) ?_
  unfold law01_CentSums.f
  refine Ev.bind alive_f ?_
  simp only [if_true]
  have no : ∀ x y, Ev (fun k => law01_CentSums.j0 k x y true) true := fun x y =>
    Ev.step (f := fun _ => some true) (fun k => by rw [law01_CentSums.j0.eq_2, if_pos rfl]) (Ev.now _)
  by_cases c0 : (a.length : Int) > 300
  · simp only [if_pos c0]; exact no a b
  simp only [if_neg c0]
  by_cases c1 : (b.length : Int) > 300
  · rw [decide_eq_true c1]; exact no a b
  rw [decide_eq_false c1]
  have h1 : ∀ x ∈ a, -2147483648 ≤ x ∧ x ≤ 2147483647 := fun x hx => wf_i32 (ha x hx)
  have h2 : ∀ x ∈ b, -2147483648 ≤ x ∧ x ≤ 2147483647 := fun x hx => wf_i32 (hb x hx)
  refine Ev.step (f := fun k => law01_CentSums.l0 k b [] a (a.length : Int) 0) (fun k => by rw [law01_CentSums.j0.eq_2, if_neg (by decide)]) ?_
  have := l1_f (l := a) (by omega) h1 b [] (by simpa using h2) (by simp; omega)
  exact l0_f a [] h1 (by simp; omega) this
end Go.Proofs.YtpfhoenjndmoaaaDoor.Pure
