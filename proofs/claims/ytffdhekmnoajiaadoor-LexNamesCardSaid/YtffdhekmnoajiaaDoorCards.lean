/-
  DERIVED. GIVEN WITH THE SEED: THE CARDS: each row of YtffdhekmnoajiaaDoorRows.lean that lists a variable, with what it lists TIED to the program's text (the seventh form; the later family's looks); each row that meets fmt, with fmt's text TOLD by the authors' own Lean function (tested against real Go, not proved from fmt's source: count such statements apart). THE CARD IS WHAT COUNTS. Prove the row's statement (the work); the ties are given (YtffdhekmnoajiaaDoorTie.lean); close each card by the builder's one call (the guide's Derived/Test/ToyasCard.lean, 'card_holds'). Laid BY PROGRAM, IN A SANDBOX (cutbox-door.mjs). By AI agents, Wed Nov 11 2026. No macro, syntax, notation, axiom, sorry.
-/
import Derived.Test.YtffdhekmnoajiaaDoorRows
import GoSem.ClaimSeven
namespace Go.Proofs.YtffdhekmnoajiaaDoor
namespace Rows

/-- THE TIED CARD OF 'comptrollerlaw05.LexTells'. -/
def lexTellsCard : Claim7 := { stood := { row := lexTellsRow, standIns := [], harness := (true, "a6d4a812577ce602aa3b0a2ca41bd21b5f59ecbac94eadc5d00704cc810cd877"), looks := false }, kinds := [], alts := [], laidByText := true, laidKinds := [.data, .pinned], laidTests := true, laidLooks := .later }
def LexTellsCardSaid : Prop := Claim7.holds Tryd.pinned (.plain (OpenSpec.ofChange lexTellsSpec)) lexTellsCard

/-- THE TIED CARD OF 'comptrollerlaw05.LexNames'. -/
def lexNamesCard : Claim7 := { stood := { row := lexNamesRow, standIns := [], harness := (true, "a6d4a812577ce602aa3b0a2ca41bd21b5f59ecbac94eadc5d00704cc810cd877"), looks := false }, kinds := [], alts := [], laidByText := true, laidKinds := [.data, .pinned], laidTests := true, laidLooks := .later }
def LexNamesCardSaid : Prop := Claim7.holds Tryd.pinned (.plain (OpenSpec.ofChange lexNamesSpec)) lexNamesCard

/-- THE TIED CARD OF 'comptrollerlaw05.LexPicks'. -/
def lexPicksCard : Claim7 := { stood := { row := lexPicksRow, standIns := [], harness := (true, "a6d4a812577ce602aa3b0a2ca41bd21b5f59ecbac94eadc5d00704cc810cd877"), looks := false }, kinds := [], alts := [], laidByText := true, laidKinds := [.data, .pinned], laidTests := true, laidLooks := .later }
def LexPicksCardSaid : Prop := Claim7.holds Tryd.pinned (.plain (OpenSpec.ofChange lexPicksSpec)) lexPicksCard

/-- THE TIED CARD OF 'comptrollerlaw05.LexNumbers'. -/
def lexNumbersCard : Claim7 := { stood := { row := lexNumbersRow, standIns := [], harness := (true, "a6d4a812577ce602aa3b0a2ca41bd21b5f59ecbac94eadc5d00704cc810cd877"), looks := false }, kinds := [], alts := [], laidByText := true, laidKinds := [.data, .pinned], laidTests := true, laidLooks := .later }
def LexNumbersCardSaid : Prop := Claim7.holds Tryd.pinned (.plain (OpenSpec.ofChange lexNumbersSpec)) lexNumbersCard

/-- THE TIED CARD OF 'comptrollerlaw05.LexRemarks'. -/
def lexRemarksCard : Claim7 := { stood := { row := lexRemarksRow, standIns := [], harness := (true, "a6d4a812577ce602aa3b0a2ca41bd21b5f59ecbac94eadc5d00704cc810cd877"), looks := false }, kinds := [], alts := [], laidByText := true, laidKinds := [.data, .pinned], laidTests := true, laidLooks := .later }
def LexRemarksCardSaid : Prop := Claim7.holds Tryd.pinned (.plain (OpenSpec.ofChange lexRemarksSpec)) lexRemarksCard

/-- THE SECOND FORM's CARD OF 'comptrollerlaw05.LexTells'. -/
def lexTellsUptoCard : Claim7 := { stood := { row := lexTellsUptoRow, standIns := [], harness := (true, "a6d4a812577ce602aa3b0a2ca41bd21b5f59ecbac94eadc5d00704cc810cd877"), looks := false }, kinds := [], alts := [], laidByText := true, laidKinds := [.data, .pinned], laidTests := true, laidLooks := .later }
def LexTellsUptoCardSaid : Prop := Claim7.holds Tryd.pinned (.plain (OpenSpec.upto lexTellsSpec)) lexTellsUptoCard

/-- THE SECOND FORM's CARD OF 'comptrollerlaw05.LexNames'. -/
def lexNamesUptoCard : Claim7 := { stood := { row := lexNamesUptoRow, standIns := [], harness := (true, "a6d4a812577ce602aa3b0a2ca41bd21b5f59ecbac94eadc5d00704cc810cd877"), looks := false }, kinds := [], alts := [], laidByText := true, laidKinds := [.data, .pinned], laidTests := true, laidLooks := .later }
def LexNamesUptoCardSaid : Prop := Claim7.holds Tryd.pinned (.plain (OpenSpec.upto lexNamesSpec)) lexNamesUptoCard

/-- THE SECOND FORM's CARD OF 'comptrollerlaw05.LexPicks'. -/
def lexPicksUptoCard : Claim7 := { stood := { row := lexPicksUptoRow, standIns := [], harness := (true, "a6d4a812577ce602aa3b0a2ca41bd21b5f59ecbac94eadc5d00704cc810cd877"), looks := false }, kinds := [], alts := [], laidByText := true, laidKinds := [.data, .pinned], laidTests := true, laidLooks := .later }
def LexPicksUptoCardSaid : Prop := Claim7.holds Tryd.pinned (.plain (OpenSpec.upto lexPicksSpec)) lexPicksUptoCard

/-- THE SECOND FORM's CARD OF 'comptrollerlaw05.LexNumbers'. -/
def lexNumbersUptoCard : Claim7 := { stood := { row := lexNumbersUptoRow, standIns := [], harness := (true, "a6d4a812577ce602aa3b0a2ca41bd21b5f59ecbac94eadc5d00704cc810cd877"), looks := false }, kinds := [], alts := [], laidByText := true, laidKinds := [.data, .pinned], laidTests := true, laidLooks := .later }
def LexNumbersUptoCardSaid : Prop := Claim7.holds Tryd.pinned (.plain (OpenSpec.upto lexNumbersSpec)) lexNumbersUptoCard

/-- THE SECOND FORM's CARD OF 'comptrollerlaw05.LexRemarks'. -/
def lexRemarksUptoCard : Claim7 := { stood := { row := lexRemarksUptoRow, standIns := [], harness := (true, "a6d4a812577ce602aa3b0a2ca41bd21b5f59ecbac94eadc5d00704cc810cd877"), looks := false }, kinds := [], alts := [], laidByText := true, laidKinds := [.data, .pinned], laidTests := true, laidLooks := .later }
def LexRemarksUptoCardSaid : Prop := Claim7.holds Tryd.pinned (.plain (OpenSpec.upto lexRemarksSpec)) lexRemarksUptoCard
end Rows
end Go.Proofs.YtffdhekmnoajiaaDoor
