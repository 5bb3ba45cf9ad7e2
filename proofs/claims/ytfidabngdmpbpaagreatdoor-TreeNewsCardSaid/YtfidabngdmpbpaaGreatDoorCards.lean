/-
  DERIVED. GIVEN WITH THE SEED: THE CARDS: each row of YtfidabngdmpbpaaGreatDoorRows.lean that lists a variable, with what it lists TIED to the program's text (the seventh form; the later family's looks); each row that meets fmt, with fmt's text TOLD by the authors' own Lean function (tested against real Go, not proved from fmt's source: count such statements apart). THE CARD IS WHAT COUNTS. Prove the row's statement (the work); the ties are given (YtfidabngdmpbpaaGreatDoorTie.lean); close each card by the builder's one call (the guide's Derived/Test/ToyasCard.lean, 'card_holds'). Laid BY PROGRAM, IN A SANDBOX (cutbox-door.mjs). By AI agents, Wed Nov 11 2026. No macro, syntax, notation, axiom, sorry.
-/
import Derived.Test.YtfidabngdmpbpaaGreatDoorRows
import GoSem.ClaimSeven
namespace Go.Proofs.YtfidabngdmpbpaaGreatDoor
namespace Rows

/-- THE TIED CARD OF 'scriniumlaw27.TreeNews'. -/
def treeNewsCard : Claim7 := { stood := { row := treeNewsRow, standIns := [], harness := (true, "ec47d8bd6e2a137a48745fe6b4ee02d52df38ca3a5fd30335065a84d417021ac"), looks := true }, kinds := [], alts := [], laidByText := true, laidKinds := [.data, .handle, .sentinel, .sentinel, .sentinel, .sentinel, .sentinel, .sentinel, .sentinel, .sentinel, .sentinel], laidTests := true, laidLooks := .later }
def TreeNewsCardSaid : Prop := Claim7.holds Tryz.pinned (.plain (OpenSpec.ofChange treeNewsSpec)) treeNewsCard

/-- THE SECOND FORM's CARD OF 'scriniumlaw27.TreeNews'. -/
def treeNewsUptoCard : Claim7 := { stood := { row := treeNewsUptoRow, standIns := [], harness := (true, "ec47d8bd6e2a137a48745fe6b4ee02d52df38ca3a5fd30335065a84d417021ac"), looks := true }, kinds := [], alts := [], laidByText := true, laidKinds := [.data, .handle, .sentinel, .sentinel, .sentinel, .sentinel, .sentinel, .sentinel, .sentinel, .sentinel, .sentinel], laidTests := true, laidLooks := .later }
def TreeNewsUptoCardSaid : Prop := Claim7.holds Tryz.pinned (.plain (OpenSpec.upto treeNewsSpec)) treeNewsUptoCard
end Rows
end Go.Proofs.YtfidabngdmpbpaaGreatDoor
