/-
  DERIVED. GIVEN WITH THE SEED: THE CARDS: each row of YtpfhoenjndmoaaaDoorRows.lean that lists a variable, with what it lists TIED to the program's text (the seventh form; the later family's looks); each row that meets fmt, with fmt's text TOLD by the authors' own Lean function (tested against real Go, not proved from fmt's source: count such statements apart). THE CARD IS WHAT COUNTS. Prove the row's statement (the work); the ties are given (YtpfhoenjndmoaaaDoorTie.lean); close each card by the builder's one call (the guide's Derived/Test/ToyasCard.lean, 'card_holds'). Laid BY PROGRAM, IN A SANDBOX (cutbox-door.mjs). By AI agents, Wed Nov 11 2026. No macro, syntax, notation, axiom, sorry.
-/
import Derived.Test.YtpfhoenjndmoaaaDoorRows
import GoSem.ClaimSeven
namespace Go.Proofs.YtpfhoenjndmoaaaDoor
namespace Rows

/-- THE TIED CARD OF 'comptrollerlaw01.CentTexts'. -/
def centTextsCard : Claim7 := { stood := { row := centTextsRow, standIns := [], harness := (true, "c49ec4d00d672e263dc81e57cba5aa29684a916a912025d80b2d08581a0f1c38"), looks := true }, kinds := [], alts := [], laidByText := true, laidKinds := [.data, .data, .data, .data, .sentinel, .sentinel, .pinned], laidTests := true, laidLooks := .later }
def CentTextsCardSaid : Prop := Claim7.holds Tryd.pinned (.plain (OpenSpec.ofChange centTextsSpec)) centTextsCard

/-- THE TIED CARD OF 'comptrollerlaw01.CentSums'. -/
def centSumsCard : Claim7 := { stood := { row := centSumsRow, standIns := [], harness := (true, "c49ec4d00d672e263dc81e57cba5aa29684a916a912025d80b2d08581a0f1c38"), looks := true }, kinds := [], alts := [], laidByText := true, laidKinds := [.data, .data, .data, .data, .sentinel, .sentinel, .pinned], laidTests := true, laidLooks := .later }
def CentSumsCardSaid : Prop := Claim7.holds Tryd.pinned (.plain (OpenSpec.ofChange centSumsSpec)) centSumsCard

/-- THE TIED CARD OF 'comptrollerlaw01.CentPrints'. -/
def centPrintsCard : Claim7 := { stood := { row := centPrintsRow, standIns := [], harness := (true, "c49ec4d00d672e263dc81e57cba5aa29684a916a912025d80b2d08581a0f1c38"), looks := true }, kinds := [], alts := [], laidByText := true, laidKinds := [.data, .data, .data, .data, .sentinel, .sentinel, .pinned], laidTests := true, laidLooks := .later }
def CentPrintsCardSaid : Prop := Claim7.holds Tryd.pinned (.plain (OpenSpec.ofChange centPrintsSpec)) centPrintsCard

/-- THE TIED CARD OF 'comptrollerlaw01.CentBack'. -/
def centBackCard : Claim7 := { stood := { row := centBackRow, standIns := [], harness := (true, "c49ec4d00d672e263dc81e57cba5aa29684a916a912025d80b2d08581a0f1c38"), looks := true }, kinds := [], alts := [], laidByText := true, laidKinds := [.data, .data, .data, .data, .sentinel, .sentinel, .pinned], laidTests := true, laidLooks := .later }
def CentBackCardSaid : Prop := Claim7.holds Tryd.pinned (.plain (OpenSpec.ofChange centBackSpec)) centBackCard

/-- THE TIED CARD OF 'comptrollerlaw01.CentTells'. -/
def centTellsCard : Claim7 := { stood := { row := centTellsRow, standIns := [], harness := (true, "c49ec4d00d672e263dc81e57cba5aa29684a916a912025d80b2d08581a0f1c38"), looks := true }, kinds := [], alts := [], laidByText := true, laidKinds := [.data, .data, .data, .data, .sentinel, .sentinel, .pinned], laidTests := true, laidLooks := .later }
def CentTellsCardSaid : Prop := Claim7.holds Tryd.pinned (.plain (OpenSpec.ofChange centTellsSpec)) centTellsCard

/-- THE TIED CARD OF 'comptrollerlaw01.CentSigns'. -/
def centSignsCard : Claim7 := { stood := { row := centSignsRow, standIns := [], harness := (true, "c49ec4d00d672e263dc81e57cba5aa29684a916a912025d80b2d08581a0f1c38"), looks := true }, kinds := [], alts := [], laidByText := true, laidKinds := [.data, .data, .data, .data, .sentinel, .sentinel, .pinned], laidTests := true, laidLooks := .later }
def CentSignsCardSaid : Prop := Claim7.holds Tryd.pinned (.plain (OpenSpec.ofChange centSignsSpec)) centSignsCard

/-- THE SECOND FORM's CARD OF 'comptrollerlaw01.CentTexts'. -/
def centTextsUptoCard : Claim7 := { stood := { row := centTextsUptoRow, standIns := [], harness := (true, "c49ec4d00d672e263dc81e57cba5aa29684a916a912025d80b2d08581a0f1c38"), looks := true }, kinds := [], alts := [], laidByText := true, laidKinds := [.data, .data, .data, .data, .sentinel, .sentinel, .pinned], laidTests := true, laidLooks := .later }
def CentTextsUptoCardSaid : Prop := Claim7.holds Tryd.pinned (.plain (OpenSpec.upto centTextsSpec)) centTextsUptoCard

/-- THE SECOND FORM's CARD OF 'comptrollerlaw01.CentSums'. -/
def centSumsUptoCard : Claim7 := { stood := { row := centSumsUptoRow, standIns := [], harness := (true, "c49ec4d00d672e263dc81e57cba5aa29684a916a912025d80b2d08581a0f1c38"), looks := true }, kinds := [], alts := [], laidByText := true, laidKinds := [.data, .data, .data, .data, .sentinel, .sentinel, .pinned], laidTests := true, laidLooks := .later }
def CentSumsUptoCardSaid : Prop := Claim7.holds Tryd.pinned (.plain (OpenSpec.upto centSumsSpec)) centSumsUptoCard

/-- THE SECOND FORM's CARD OF 'comptrollerlaw01.CentPrints'. -/
def centPrintsUptoCard : Claim7 := { stood := { row := centPrintsUptoRow, standIns := [], harness := (true, "c49ec4d00d672e263dc81e57cba5aa29684a916a912025d80b2d08581a0f1c38"), looks := true }, kinds := [], alts := [], laidByText := true, laidKinds := [.data, .data, .data, .data, .sentinel, .sentinel, .pinned], laidTests := true, laidLooks := .later }
def CentPrintsUptoCardSaid : Prop := Claim7.holds Tryd.pinned (.plain (OpenSpec.upto centPrintsSpec)) centPrintsUptoCard

/-- THE SECOND FORM's CARD OF 'comptrollerlaw01.CentBack'. -/
def centBackUptoCard : Claim7 := { stood := { row := centBackUptoRow, standIns := [], harness := (true, "c49ec4d00d672e263dc81e57cba5aa29684a916a912025d80b2d08581a0f1c38"), looks := true }, kinds := [], alts := [], laidByText := true, laidKinds := [.data, .data, .data, .data, .sentinel, .sentinel, .pinned], laidTests := true, laidLooks := .later }
def CentBackUptoCardSaid : Prop := Claim7.holds Tryd.pinned (.plain (OpenSpec.upto centBackSpec)) centBackUptoCard

/-- THE SECOND FORM's CARD OF 'comptrollerlaw01.CentTells'. -/
def centTellsUptoCard : Claim7 := { stood := { row := centTellsUptoRow, standIns := [], harness := (true, "c49ec4d00d672e263dc81e57cba5aa29684a916a912025d80b2d08581a0f1c38"), looks := true }, kinds := [], alts := [], laidByText := true, laidKinds := [.data, .data, .data, .data, .sentinel, .sentinel, .pinned], laidTests := true, laidLooks := .later }
def CentTellsUptoCardSaid : Prop := Claim7.holds Tryd.pinned (.plain (OpenSpec.upto centTellsSpec)) centTellsUptoCard

/-- THE SECOND FORM's CARD OF 'comptrollerlaw01.CentSigns'. -/
def centSignsUptoCard : Claim7 := { stood := { row := centSignsUptoRow, standIns := [], harness := (true, "c49ec4d00d672e263dc81e57cba5aa29684a916a912025d80b2d08581a0f1c38"), looks := true }, kinds := [], alts := [], laidByText := true, laidKinds := [.data, .data, .data, .data, .sentinel, .sentinel, .pinned], laidTests := true, laidLooks := .later }
def CentSignsUptoCardSaid : Prop := Claim7.holds Tryd.pinned (.plain (OpenSpec.upto centSignsSpec)) centSignsUptoCard
end Rows
end Go.Proofs.YtpfhoenjndmoaaaDoor
