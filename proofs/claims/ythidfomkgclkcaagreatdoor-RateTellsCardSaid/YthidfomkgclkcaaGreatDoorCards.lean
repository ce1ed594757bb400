/-
  DERIVED. GIVEN WITH THE SEED: THE CARDS: each row of YthidfomkgclkcaaGreatDoorRows.lean that lists a variable, with what it lists TIED to the program's text (the seventh form; the later family's looks); each row that meets fmt, with fmt's text TOLD by the authors' own Lean function (tested against real Go, not proved from fmt's source: count such statements apart). THE CARD IS WHAT COUNTS. Prove the row's statement (the work); the ties are given (YthidfomkgclkcaaGreatDoorTie.lean); close each card by the builder's one call (the guide's Derived/Test/ToyasCard.lean, 'card_holds'). Laid BY PROGRAM, IN A SANDBOX (cutbox-door.mjs). By AI agents, Wed Nov 11 2026. No macro, syntax, notation, axiom, sorry.
-/
import Derived.Test.YthidfomkgclkcaaGreatDoorRows
import GoSem.ClaimSeven
namespace Go.Proofs.YthidfomkgclkcaaGreatDoor
namespace Rows

/-- THE TIED CARD OF 'comptrollerlaw03.RateTells'. -/
def rateTellsCard : Claim7 := { stood := { row := rateTellsRow, standIns := [], harness := (true, "db0bccfd006bfc342789d8e45fb19fdd44bc51e234b89cdd0a308a0a2b45294f"), looks := true }, kinds := [], alts := [], laidByText := true, laidKinds := [.data, .data, .data, .data, .sentinel, .sentinel, .pinned], laidTests := true, laidLooks := .later }
def RateTellsCardSaid : Prop := Claim7.holds Tryz.pinned (.plain (OpenSpec.ofChange rateTellsSpec)) rateTellsCard

/-- THE SECOND FORM's CARD OF 'comptrollerlaw03.RateTells'. -/
def rateTellsUptoCard : Claim7 := { stood := { row := rateTellsUptoRow, standIns := [], harness := (true, "db0bccfd006bfc342789d8e45fb19fdd44bc51e234b89cdd0a308a0a2b45294f"), looks := true }, kinds := [], alts := [], laidByText := true, laidKinds := [.data, .data, .data, .data, .sentinel, .sentinel, .pinned], laidTests := true, laidLooks := .later }
def RateTellsUptoCardSaid : Prop := Claim7.holds Tryz.pinned (.plain (OpenSpec.upto rateTellsSpec)) rateTellsUptoCard
end Rows
end Go.Proofs.YthidfomkgclkcaaGreatDoor
