/-
  DERIVED. GIVEN WITH THE SEED: THE CARDS: each row of YtophflldemlkjaaGreatDoorRows.lean that lists a variable, with what it lists TIED to the program's text (the seventh form; the later family's looks); each row that meets fmt, with fmt's text TOLD by the authors' own Lean function (tested against real Go, not proved from fmt's source: count such statements apart). THE CARD IS WHAT COUNTS. Prove the row's statement (the work); the ties are given (YtophflldemlkjaaGreatDoorTie.lean); close each card by the builder's one call (the guide's Derived/Test/ToyasCard.lean, 'card_holds'). Laid BY PROGRAM, IN A SANDBOX (cutbox-door.mjs). By AI agents, Wed Nov 11 2026. No macro, syntax, notation, axiom, sorry.
-/
import Derived.Test.YtophflldemlkjaaGreatDoorRows
import GoSem.ClaimSeven
namespace Go.Proofs.YtophflldemlkjaaGreatDoor
namespace Rows

/-- THE TIED CARD OF 'scriniumlaw26.PrintParts'. -/
def printPartsCard : Claim7 := { stood := { row := printPartsRow, standIns := [], harness := (true, "97cf8a5a4e832b21629d0e7c978e4cb15ae6b0ea4f4d476ef54ac03b5a8d6222"), looks := true }, kinds := [], alts := [], laidByText := true, laidKinds := [.sentinel, .sentinel, .sentinel, .sentinel, .sentinel, .sentinel, .sentinel, .sentinel, .sentinel], laidTests := true, laidLooks := .later }
def PrintPartsCardSaid : Prop := Claim7.holds Tryz.pinned (.plain (OpenSpec.ofChange printPartsSpec)) printPartsCard

/-- THE TIED CARD OF 'scriniumlaw26.PrintTexts'. -/
def printTextsCard : Claim7 := { stood := { row := printTextsRow, standIns := [], harness := (true, "97cf8a5a4e832b21629d0e7c978e4cb15ae6b0ea4f4d476ef54ac03b5a8d6222"), looks := true }, kinds := [], alts := [], laidByText := true, laidKinds := [.handle, .sentinel, .sentinel, .sentinel, .sentinel, .sentinel, .sentinel, .sentinel, .sentinel, .sentinel], laidTests := true, laidLooks := .later }
def PrintTextsCardSaid : Prop := Claim7.holds Tryz.pinned (.plain (OpenSpec.ofChange printTextsSpec)) printTextsCard

/-- THE TIED CARD OF 'scriniumlaw26.PrintOrders'. -/
def printOrdersCard : Claim7 := { stood := { row := printOrdersRow, standIns := [], harness := (true, "97cf8a5a4e832b21629d0e7c978e4cb15ae6b0ea4f4d476ef54ac03b5a8d6222"), looks := true }, kinds := [], alts := [], laidByText := true, laidKinds := [.handle, .sentinel, .sentinel, .sentinel, .sentinel, .sentinel, .sentinel, .sentinel, .sentinel, .sentinel], laidTests := true, laidLooks := .later }
def PrintOrdersCardSaid : Prop := Claim7.holds Tryz.pinned (.plain (OpenSpec.ofChange printOrdersSpec)) printOrdersCard

/-- THE SECOND FORM's CARD OF 'scriniumlaw26.PrintParts'. -/
def printPartsUptoCard : Claim7 := { stood := { row := printPartsUptoRow, standIns := [], harness := (true, "97cf8a5a4e832b21629d0e7c978e4cb15ae6b0ea4f4d476ef54ac03b5a8d6222"), looks := true }, kinds := [], alts := [], laidByText := true, laidKinds := [.sentinel, .sentinel, .sentinel, .sentinel, .sentinel, .sentinel, .sentinel, .sentinel, .sentinel], laidTests := true, laidLooks := .later }
def PrintPartsUptoCardSaid : Prop := Claim7.holds Tryz.pinned (.plain (OpenSpec.upto printPartsSpec)) printPartsUptoCard

/-- THE SECOND FORM's CARD OF 'scriniumlaw26.PrintTexts'. -/
def printTextsUptoCard : Claim7 := { stood := { row := printTextsUptoRow, standIns := [], harness := (true, "97cf8a5a4e832b21629d0e7c978e4cb15ae6b0ea4f4d476ef54ac03b5a8d6222"), looks := true }, kinds := [], alts := [], laidByText := true, laidKinds := [.handle, .sentinel, .sentinel, .sentinel, .sentinel, .sentinel, .sentinel, .sentinel, .sentinel, .sentinel], laidTests := true, laidLooks := .later }
def PrintTextsUptoCardSaid : Prop := Claim7.holds Tryz.pinned (.plain (OpenSpec.upto printTextsSpec)) printTextsUptoCard

/-- THE SECOND FORM's CARD OF 'scriniumlaw26.PrintOrders'. -/
def printOrdersUptoCard : Claim7 := { stood := { row := printOrdersUptoRow, standIns := [], harness := (true, "97cf8a5a4e832b21629d0e7c978e4cb15ae6b0ea4f4d476ef54ac03b5a8d6222"), looks := true }, kinds := [], alts := [], laidByText := true, laidKinds := [.handle, .sentinel, .sentinel, .sentinel, .sentinel, .sentinel, .sentinel, .sentinel, .sentinel, .sentinel], laidTests := true, laidLooks := .later }
def PrintOrdersUptoCardSaid : Prop := Claim7.holds Tryz.pinned (.plain (OpenSpec.upto printOrdersSpec)) printOrdersUptoCard
end Rows
end Go.Proofs.YtophflldemlkjaaGreatDoor
