import Derived.Test.YtffdhekmnoajiaaDoorProg
import Derived.Lib.SmallJoins
import Derived.ProofKit
/- what the library's functions ask of its variables: the cell of bytealg.MaxLen -/
set_option linter.unusedVariables false
set_option linter.unusedSimpArgs false
namespace Go.Proofs.YtffdhekmnoajiaaDoor.X
open Go.RowKit
structure LaidW (w : World) : Prop where
  mx : ∃ m, w.cell? ⟨0, 0, none⟩ = some (.int .i64 m)
theorem LaidW.below {u v : World} (h : LaidW u) (hb : Below u.heap.size u v) : LaidW v := by
  obtain ⟨m, hc⟩ := h.mx
  exact ⟨m, (hb.cell (World.block_lt_of_cell? u _ hc)).trans hc⟩
end Go.Proofs.YtffdhekmnoajiaaDoor.X
