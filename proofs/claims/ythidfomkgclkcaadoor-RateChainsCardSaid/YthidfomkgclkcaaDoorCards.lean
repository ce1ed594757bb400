/-
  DERIVED. GIVEN WITH THE SEED: THE CARDS: each row of YthidfomkgclkcaaDoorRows.lean that lists a variable, with what it lists TIED to the program's text (the seventh form; the later family's looks); each row that meets fmt, with fmt's text TOLD by the authors' own Lean function (tested against real Go, not proved from fmt's source: count such statements apart). THE CARD IS WHAT COUNTS. Prove the row's statement (the work); the ties are given (YthidfomkgclkcaaDoorTie.lean); close each card by the builder's one call (the guide's Derived/Test/ToyasCard.lean, 'card_holds'). Laid BY PROGRAM, IN A SANDBOX (cutbox-door.mjs). By AI agents, Wed Nov 11 2026. No macro, syntax, notation, axiom, sorry.
-/
import Derived.Test.YthidfomkgclkcaaDoorRows
import GoSem.ClaimSeven
namespace Go.Proofs.YthidfomkgclkcaaDoor
namespace Rows

/-- THE TIED CARD OF 'comptrollerlaw03.RateChains'. -/
def rateChainsCard : Claim7 := { stood := { row := rateChainsRow, standIns := [], harness := (true, "3d0850d6b949a552861cb57aefffb0cce1029ea28c64bd41e0814d8299856f85"), looks := true }, kinds := [], alts := [], laidByText := true, laidKinds := [.data, .data, .data, .data, .sentinel, .sentinel, .pinned], laidTests := true, laidLooks := .later }
def RateChainsCardSaid : Prop := Claim7.holds Tryd.pinned (.plain (OpenSpec.ofChange rateChainsSpec)) rateChainsCard

/-- THE TIED CARD OF 'comptrollerlaw03.RateBack'. -/
def rateBackCard : Claim7 := { stood := { row := rateBackRow, standIns := [], harness := (true, "3d0850d6b949a552861cb57aefffb0cce1029ea28c64bd41e0814d8299856f85"), looks := true }, kinds := [], alts := [], laidByText := true, laidKinds := [.data, .data, .data, .data, .sentinel, .sentinel, .pinned], laidTests := true, laidLooks := .later }
def RateBackCardSaid : Prop := Claim7.holds Tryd.pinned (.plain (OpenSpec.ofChange rateBackSpec)) rateBackCard

/-- THE TIED CARD OF 'comptrollerlaw03.RateParts'. -/
def ratePartsCard : Claim7 := { stood := { row := ratePartsRow, standIns := [], harness := (true, "3d0850d6b949a552861cb57aefffb0cce1029ea28c64bd41e0814d8299856f85"), looks := true }, kinds := [], alts := [], laidByText := true, laidKinds := [.data, .data, .data, .data, .sentinel, .sentinel, .pinned], laidTests := true, laidLooks := .later }
def RatePartsCardSaid : Prop := Claim7.holds Tryd.pinned (.plain (OpenSpec.ofChange ratePartsSpec)) ratePartsCard

/-- THE TIED CARD OF 'comptrollerlaw03.RateOrder'. -/
def rateOrderCard : Claim7 := { stood := { row := rateOrderRow, standIns := [], harness := (true, "3d0850d6b949a552861cb57aefffb0cce1029ea28c64bd41e0814d8299856f85"), looks := true }, kinds := [], alts := [], laidByText := true, laidKinds := [.data, .data, .data, .data, .sentinel, .sentinel, .pinned], laidTests := true, laidLooks := .later }
def RateOrderCardSaid : Prop := Claim7.holds Tryd.pinned (.plain (OpenSpec.ofChange rateOrderSpec)) rateOrderCard

/-- THE TIED CARD OF 'comptrollerlaw03.RateApplies'. -/
def rateAppliesCard : Claim7 := { stood := { row := rateAppliesRow, standIns := [], harness := (true, "3d0850d6b949a552861cb57aefffb0cce1029ea28c64bd41e0814d8299856f85"), looks := true }, kinds := [], alts := [], laidByText := true, laidKinds := [.data, .data, .data, .data, .sentinel, .sentinel, .pinned], laidTests := true, laidLooks := .later }
def RateAppliesCardSaid : Prop := Claim7.holds Tryd.pinned (.plain (OpenSpec.ofChange rateAppliesSpec)) rateAppliesCard

/-- THE TIED CARD OF 'comptrollerlaw03.RateHalves'. -/
def rateHalvesCard : Claim7 := { stood := { row := rateHalvesRow, standIns := [], harness := (true, "3d0850d6b949a552861cb57aefffb0cce1029ea28c64bd41e0814d8299856f85"), looks := true }, kinds := [], alts := [], laidByText := true, laidKinds := [.data, .data, .data, .data, .sentinel, .sentinel, .pinned], laidTests := true, laidLooks := .later }
def RateHalvesCardSaid : Prop := Claim7.holds Tryd.pinned (.plain (OpenSpec.ofChange rateHalvesSpec)) rateHalvesCard

/-- THE SECOND FORM's CARD OF 'comptrollerlaw03.RateChains'. -/
def rateChainsUptoCard : Claim7 := { stood := { row := rateChainsUptoRow, standIns := [], harness := (true, "3d0850d6b949a552861cb57aefffb0cce1029ea28c64bd41e0814d8299856f85"), looks := true }, kinds := [], alts := [], laidByText := true, laidKinds := [.data, .data, .data, .data, .sentinel, .sentinel, .pinned], laidTests := true, laidLooks := .later }
def RateChainsUptoCardSaid : Prop := Claim7.holds Tryd.pinned (.plain (OpenSpec.upto rateChainsSpec)) rateChainsUptoCard

/-- THE SECOND FORM's CARD OF 'comptrollerlaw03.RateBack'. -/
def rateBackUptoCard : Claim7 := { stood := { row := rateBackUptoRow, standIns := [], harness := (true, "3d0850d6b949a552861cb57aefffb0cce1029ea28c64bd41e0814d8299856f85"), looks := true }, kinds := [], alts := [], laidByText := true, laidKinds := [.data, .data, .data, .data, .sentinel, .sentinel, .pinned], laidTests := true, laidLooks := .later }
def RateBackUptoCardSaid : Prop := Claim7.holds Tryd.pinned (.plain (OpenSpec.upto rateBackSpec)) rateBackUptoCard

/-- THE SECOND FORM's CARD OF 'comptrollerlaw03.RateParts'. -/
def ratePartsUptoCard : Claim7 := { stood := { row := ratePartsUptoRow, standIns := [], harness := (true, "3d0850d6b949a552861cb57aefffb0cce1029ea28c64bd41e0814d8299856f85"), looks := true }, kinds := [], alts := [], laidByText := true, laidKinds := [.data, .data, .data, .data, .sentinel, .sentinel, .pinned], laidTests := true, laidLooks := .later }
def RatePartsUptoCardSaid : Prop := Claim7.holds Tryd.pinned (.plain (OpenSpec.upto ratePartsSpec)) ratePartsUptoCard

/-- THE SECOND FORM's CARD OF 'comptrollerlaw03.RateOrder'. -/
def rateOrderUptoCard : Claim7 := { stood := { row := rateOrderUptoRow, standIns := [], harness := (true, "3d0850d6b949a552861cb57aefffb0cce1029ea28c64bd41e0814d8299856f85"), looks := true }, kinds := [], alts := [], laidByText := true, laidKinds := [.data, .data, .data, .data, .sentinel, .sentinel, .pinned], laidTests := true, laidLooks := .later }
def RateOrderUptoCardSaid : Prop := Claim7.holds Tryd.pinned (.plain (OpenSpec.upto rateOrderSpec)) rateOrderUptoCard

/-- THE SECOND FORM's CARD OF 'comptrollerlaw03.RateApplies'. -/
def rateAppliesUptoCard : Claim7 := { stood := { row := rateAppliesUptoRow, standIns := [], harness := (true, "3d0850d6b949a552861cb57aefffb0cce1029ea28c64bd41e0814d8299856f85"), looks := true }, kinds := [], alts := [], laidByText := true, laidKinds := [.data, .data, .data, .data, .sentinel, .sentinel, .pinned], laidTests := true, laidLooks := .later }
def RateAppliesUptoCardSaid : Prop := Claim7.holds Tryd.pinned (.plain (OpenSpec.upto rateAppliesSpec)) rateAppliesUptoCard

/-- THE SECOND FORM's CARD OF 'comptrollerlaw03.RateHalves'. -/
def rateHalvesUptoCard : Claim7 := { stood := { row := rateHalvesUptoRow, standIns := [], harness := (true, "3d0850d6b949a552861cb57aefffb0cce1029ea28c64bd41e0814d8299856f85"), looks := true }, kinds := [], alts := [], laidByText := true, laidKinds := [.data, .data, .data, .data, .sentinel, .sentinel, .pinned], laidTests := true, laidLooks := .later }
def RateHalvesUptoCardSaid : Prop := Claim7.holds Tryd.pinned (.plain (OpenSpec.upto rateHalvesSpec)) rateHalvesUptoCard
end Rows
end Go.Proofs.YthidfomkgclkcaaDoor
