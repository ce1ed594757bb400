import Derived.Test.YtpfhoenjndmoaaaDoorQx1
import Derived.Test.YtpfhoenjndmoaaaDoorQx5
import Derived.Test.YtpfhoenjndmoaaaDoorQx7
import Derived.Test.YtpfhoenjndmoaaaDoorMDec2
import Derived.Test.YtpfhoenjndmoaaaDoorMStr
import Derived.Test.YtpfhoenjndmoaaaDoorCEv
/- what cent's Sub, Neg, Print, Parse tell -/
set_option linter.unusedVariables false
set_option linter.unusedSimpArgs false
namespace Go.Proofs.YtpfhoenjndmoaaaDoor.M
open Go.RowKit Go.Proofs.YtpfhoenjndmoaaaDoorW.PrintWords Go.Proofs.YtpfhoenjndmoaaaDoorW.PrintLast Go.Proofs.YtpfhoenjndmoaaaDoorW.PrintMore Go.Proofs.YtpfhoenjndmoaaaDoor.Q
def subS (a b : Int) : Int × Int := if I64 (a - b) then (a - b, 0) else (0, 2)
theorem csub_f {a b : Int} (ha : I64 a) (hb : I64 b) : cent_Sub.f a b = some (subS a b) := by
  unfold cent_Sub.f subS
  have hw := w64_i64 (a - b)
  have x1 := xor_neg ha hb
  have x2 := xor_neg ha hw
  have x3 := and_neg x1.1 x2.1
  by_cases c : I64 (a - b)
  · rw [if_pos c, if_neg (by rw [x3, x1.2, x2.2, w64_in c]; omega), w64_in c]
  · rw [if_neg c, if_pos (by rw [x3, x1.2, x2.2]; unfold I64 wrap64 at *; omega)]
theorem cneg_f {a : Int} (ha : I64 a) : cent_Neg.f a = some (subS 0 a) := by
  unfold cent_Neg.f
  rw [csub_f ⟨by decide, by decide⟩ ha]; rfl
theorem cprint_f {a : Int} (ha : I64 a) : cent_Print.f a = some (bs (Lib.itoa a)) := by
  unfold cent_Print.f; rw [if_pos (show -9223372036854775808 ≤ a ∧ a ≤ 9223372036854775807 from ha)]; rfl
theorem cparse_f {l : List UInt8} (hl : l.length ≤ 281474976710656) : cent_Parse.f (bs l) = some (pS l) := by
  unfold cent_Parse.f; rw [if_pos (by rw [bs_size]; exact hl), ← parseF_pS]; rfl
theorem subS_i64 (a b : Int) : I64 (subS a b).1 := by
  unfold subS
  by_cases h : I64 (a - b)
  · rw [if_pos h]; exact h
  · rw [if_neg h]; exact ⟨by decide, by decide⟩
theorem addS_i64 (a b : Int) : I64 (addS a b).1 := by
  unfold addS
  by_cases h : I64 (a + b)
  · rw [if_pos h]; exact h
  · rw [if_neg h]; exact ⟨by decide, by decide⟩
end Go.Proofs.YtpfhoenjndmoaaaDoor.M
