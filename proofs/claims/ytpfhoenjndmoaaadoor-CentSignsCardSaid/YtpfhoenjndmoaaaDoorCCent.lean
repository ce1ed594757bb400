import Derived.Test.YtpfhoenjndmoaaaDoorQx1
import Derived.Test.YtpfhoenjndmoaaaDoorMCent
import Derived.Test.YtpfhoenjndmoaaaDoorCEv
/- what cent's Add and Sum tell -/
set_option linter.unusedVariables false
set_option linter.unusedSimpArgs false
namespace Go.Proofs.YtpfhoenjndmoaaaDoor.M
open Go.RowKit Go.Proofs.YtpfhoenjndmoaaaDoorW.PrintWords Go.Proofs.YtpfhoenjndmoaaaDoorW.PrintLast Go.Proofs.YtpfhoenjndmoaaaDoorW.PrintMore Go.Proofs.YtpfhoenjndmoaaaDoor.Q
theorem cadd_f {a b : Int} (ha : I64 a) (hb : I64 b) : cent_Add.f a b = some (addS a b) := by
  unfold cent_Add.f addS
  have hw := w64_i64 (a + b)
  have x1 := xor_neg ha hw
  have x2 := xor_neg hb hw
  have x3 := and_neg x1.1 x2.1
  by_cases c : I64 (a + b)
  · rw [if_pos c, if_neg (by rw [x3, x1.2, x2.2, w64_in c]; omega), w64_in c]
  · rw [if_neg c, if_pos (by rw [x3, x1.2, x2.2]; unfold I64 wrap64 at *; omega)]
theorem csuml_f (T : List Int) : ∀ (P : List Int) (n : Int) (i : Nat), (∀ x ∈ T, I64 x) → I64 n → P.length = i → i + T.length ≤ 9223372036854775807 →
    Ev (fun k => cent_Sum.l0 k n (P ++ T) (((P ++ T).length : Nat) : Int) (i : Int)) (sumS n T) := by
  induction T with
  | nil =>
    intro P n i hT hn hi hL
    refine Ev.step (f := fun _ => some _) (fun k => ?_) (Ev.now _)
    rw [cent_Sum.l0.eq_2, if_neg (by simp; omega)]; rfl
  | cons x T ih =>
    intro P n i hT hn hi hL
    have hx := hT x List.mem_cons_self
    have r : rd (P ++ x :: T) (i : Int) = x := by unfold rd; rw [Int.toNat_natCast]; exact rd_int rfl hi
    have hlen : ((P ++ x :: T).length : Int) = i + 1 + T.length := by simp; omega
    simp only [List.length_cons] at hL
    by_cases c : I64 (n + x)
    · have := ih (P ++ [x]) (n + x) (i + 1) (fun y hy => hT y (List.mem_cons_of_mem _ hy)) c (by simp; omega) (by omega)
      rw [show P ++ [x] ++ T = P ++ x :: T by simp] at this
      have e : sumS n (x :: T) = sumS (n + x) T := by show (if _ then _ else _) = _; rw [if_pos c]
      rw [e]
      refine Ev.step (fun k => ?_) this
      rw [cent_Sum.l0.eq_2, if_pos (by omega), if_pos (by omega), if_pos (by omega), r, cadd_f hn hx, addS, if_pos c]
      simp only [Option.bind_some, if_true]
      rw [w64_in (by unfold I64; omega)]; rfl
    · have e : sumS n (x :: T) = (0, 2) := by show (if _ then _ else _) = _; rw [if_neg c]
      rw [e]
      refine Ev.step (f := fun _ => some _) (fun k => ?_) (Ev.now _)
      rw [cent_Sum.l0.eq_2, if_pos (by omega), if_pos (by omega), if_pos (by omega), r, cadd_f hn hx, addS, if_neg c]
      simp
theorem csum_f {L : List Int} (hL : ∀ x ∈ L, I64 x) (hl : L.length ≤ 9223372036854775807) : Ev (fun k => cent_Sum.f k L) (sumS 0 L) := by
  unfold cent_Sum.f
  have := csuml_f L [] 0 0 hL (by unfold I64; omega) rfl (by omega)
  simpa using this
end Go.Proofs.YtpfhoenjndmoaaaDoor.M
