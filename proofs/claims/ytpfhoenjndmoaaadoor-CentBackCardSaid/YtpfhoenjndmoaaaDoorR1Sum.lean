import Derived.Test.YtpfhoenjndmoaaaDoorQx7
import Derived.Test.YtpfhoenjndmoaaaDoorMCent
import Derived.Test.YtpfhoenjndmoaaaDoorCEv
/- what the reference's Add and Sum tell -/
set_option linter.unusedVariables false
set_option linter.unusedSimpArgs false
namespace Go.Proofs.YtpfhoenjndmoaaaDoor.M
open Go.RowKit Go.Proofs.YtpfhoenjndmoaaaDoorW.PrintWords Go.Proofs.YtpfhoenjndmoaaaDoorW.PrintLast Go.Proofs.YtpfhoenjndmoaaaDoorW.PrintMore Go.Proofs.YtpfhoenjndmoaaaDoor.Q
theorem radd_f {a b : Int} (ha : I64 a) (hb : I64 b) : ref01_Add.f a b = some (addS a b) := by
  have e1 : b > 0 → wrap64 (9223372036854775807 - b) = 9223372036854775807 - b := fun h => w64_in (by unfold I64 at *; omega)
  have e2 : b < 0 → wrap64 (-9223372036854775808 - b) = -9223372036854775808 - b := fun h => w64_in (by unfold I64 at *; omega)
  unfold ref01_Add.f addS
  by_cases c1 : b > 0
  · rw [if_pos c1, e1 c1, if_neg (show ¬ b < 0 by omega)]
    by_cases c : I64 (a + b)
    · rw [if_pos c, if_neg (by unfold I64 at c; omega), w64_in c]
    · rw [if_neg c, if_pos (by unfold I64 at *; omega)]
  · rw [if_neg c1]
    by_cases c2 : b < 0
    · rw [if_pos c2, e2 c2]
      by_cases c : I64 (a + b)
      · rw [if_pos c, if_neg (by unfold I64 at c; omega), w64_in c]
      · rw [if_neg c, if_pos (by unfold I64 at *; omega)]
    · have c : I64 (a + b) := by unfold I64 at *; omega
      rw [if_neg c2, if_pos c, w64_in c]
theorem rsuml_f (T : List Int) : ∀ (P : List Int) (n : Int) (i : Nat), (∀ x ∈ T, I64 x) → I64 n → P.length = i → i + T.length ≤ 9223372036854775807 →
    Ev (fun k => ref01_Sum.l0 k (P ++ T) n (i : Int)) (sumS n T) := by
  induction T with
  | nil =>
    intro P n i hT hn hi hL
    refine Ev.step (f := fun _ => some _) (fun k => ?_) (Ev.now _)
    rw [ref01_Sum.l0.eq_2, if_neg (by simp; omega)]; rfl
  | cons x T ih =>
    intro P n i hT hn hi hL
    have hx := hT x List.mem_cons_self
    have r : rd (P ++ x :: T) (i : Int) = x := by unfold rd; rw [Int.toNat_natCast]; exact rd_int rfl hi
    have hlen : ((P ++ x :: T).length : Int) = i + 1 + T.length := by simp; omega
    simp only [List.length_cons] at hL
    by_cases c : I64 (n + x)
    · have := ih (P ++ [x]) (n + x) (i + 1) (fun y hy => hT y (List.mem_cons_of_mem _ hy)) c (by simp; omega) (by omega)
      rw [show P ++ [x] ++ T = P ++ x :: T by simp] at this
      have e : sumS n (x :: T) = sumS (n + x) T := by show (if _ then _ else _) = _; rw [if_pos c]
      rw [e]
      refine Ev.step (fun k => ?_) this
      rw [ref01_Sum.l0.eq_2, if_pos (by omega), if_pos (by omega), r, radd_f hn hx, addS, if_pos c]
      simp only [Option.bind_some, if_true]
      rw [w64_in (by unfold I64; omega)]; rfl
    · have e : sumS n (x :: T) = (0, 2) := by show (if _ then _ else _) = _; rw [if_neg c]
      rw [e]
      refine Ev.step (f := fun _ => some _) (fun k => ?_) (Ev.now _)
      rw [ref01_Sum.l0.eq_2, if_pos (by omega), if_pos (by omega), r, radd_f hn hx, addS, if_neg c]
      simp
theorem rsum_f {L : List Int} (hL : ∀ x ∈ L, I64 x) (hl : L.length ≤ 9223372036854775807) : Ev (fun k => ref01_Sum.f k L) (sumS 0 L) := by
  unfold ref01_Sum.f
  have := rsuml_f L [] 0 0 hL (by unfold I64; omega) rfl (by omega)
  simpa using this
end Go.Proofs.YtpfhoenjndmoaaaDoor.M
