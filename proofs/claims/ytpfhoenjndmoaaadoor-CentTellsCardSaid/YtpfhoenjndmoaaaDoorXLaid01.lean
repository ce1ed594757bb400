import Derived.Test.YtpfhoenjndmoaaaDoorXMet
import Derived.Test.YtpfhoenjndmoaaaDoorXCent
import Derived.Test.YtpfhoenjndmoaaaDoorRows
/- the listed variables of seat 01, as the contracts ask for them -/
set_option linter.unusedVariables false
set_option linter.unusedSimpArgs false
namespace Go.Proofs.YtpfhoenjndmoaaaDoor.XL
open Go Go.Lib
theorem laidW_of {l : List (String × DataW Unit)} {W : World} (h : laidMet Tryd.prog l W)
    (h1 : ("internal/strconv.uint64pow10", Rows.laid_internal_strconv_uint64pow10) ∈ l := by repeat (first | exact List.Mem.head _ | apply List.Mem.tail))
    (h2 : ("strconv.ErrRange", Rows.laid_strconv_ErrRange) ∈ l := by repeat (first | exact List.Mem.head _ | apply List.Mem.tail))
    (h3 : ("strconv.ErrSyntax", Rows.laid_strconv_ErrSyntax) ∈ l := by repeat (first | exact List.Mem.head _ | apply List.Mem.tail)) : X.LaidW W where
  pow := XM.tab_of_reads (g := 2) (t := 85) (e := 63) (N := 20) (by kernel_rfl) (by kernel_rfl) Tryd.underlying85 Tryd.underlying63 (by kernel_rfl) (by kernel_rfl) (Lib.laidMet.reads h h1)
  rng := XM.iface_of_reads (g := 1) (t := 45) (by kernel_rfl) (by kernel_rfl) Tryd.underlying45 (Lib.laidMet.reads h h2)
  syn := XM.iface_of_reads (g := 0) (t := 45) (by kernel_rfl) (by kernel_rfl) Tryd.underlying45 (Lib.laidMet.reads h h3)
end Go.Proofs.YtpfhoenjndmoaaaDoor.XL
