/-
  DERIVED. GIVEN WITH THE SEED: THE CARDS: each row of YtfidabngdmpbpaaDoorRows.lean that lists a variable, with what it lists TIED to the program's text (the seventh form; the later family's looks); each row that meets fmt, with fmt's text TOLD by the authors' own Lean function (tested against real Go, not proved from fmt's source: count such statements apart). THE CARD IS WHAT COUNTS. Prove the row's statement (the work); the ties are given (YtfidabngdmpbpaaDoorTie.lean); close each card by the builder's one call (the guide's Derived/Test/ToyasCard.lean, 'card_holds'). Laid BY PROGRAM, IN A SANDBOX (cutbox-door.mjs). By AI agents, Wed Nov 11 2026. No macro, syntax, notation, axiom, sorry.
-/
import Derived.Test.YtfidabngdmpbpaaDoorRows
import GoSem.ClaimSeven
namespace Go.Proofs.YtfidabngdmpbpaaDoor
namespace Rows

/-- THE TIED CARD OF 'scriniumlaw27.TreeLeast'. -/
def treeLeastCard : Claim7 := { stood := { row := treeLeastRow, standIns := [], harness := (true, "ea7d0a3b62049e57f9183bdc50f0ccf6ea330d2faa2fc344b7915dbefaab310d"), looks := false }, kinds := [], alts := [], laidByText := true, laidKinds := [.data, .sentinel, .sentinel], laidTests := true, laidLooks := .later }
def TreeLeastCardSaid : Prop := Claim7.holds Tryd.pinned (.plain (OpenSpec.ofChange treeLeastSpec)) treeLeastCard

/-- THE TIED CARD OF 'scriniumlaw27.TreeWhole'. -/
def treeWholeCard : Claim7 := { stood := { row := treeWholeRow, standIns := [], harness := (true, "ea7d0a3b62049e57f9183bdc50f0ccf6ea330d2faa2fc344b7915dbefaab310d"), looks := false }, kinds := [], alts := [], laidByText := true, laidKinds := [.data, .sentinel, .sentinel], laidTests := true, laidLooks := .later }
def TreeWholeCardSaid : Prop := Claim7.holds Tryd.pinned (.plain (OpenSpec.ofChange treeWholeSpec)) treeWholeCard

/-- THE TIED CARD OF 'scriniumlaw27.TreePairs'. -/
def treePairsCard : Claim7 := { stood := { row := treePairsRow, standIns := [], harness := (true, "ea7d0a3b62049e57f9183bdc50f0ccf6ea330d2faa2fc344b7915dbefaab310d"), looks := false }, kinds := [], alts := [], laidByText := true, laidKinds := [.data, .sentinel, .sentinel], laidTests := true, laidLooks := .later }
def TreePairsCardSaid : Prop := Claim7.holds Tryd.pinned (.plain (OpenSpec.ofChange treePairsSpec)) treePairsCard

/-- THE TIED CARD OF 'scriniumlaw27.TreeLists'. -/
def treeListsCard : Claim7 := { stood := { row := treeListsRow, standIns := [], harness := (true, "ea7d0a3b62049e57f9183bdc50f0ccf6ea330d2faa2fc344b7915dbefaab310d"), looks := false }, kinds := [], alts := [], laidByText := true, laidKinds := [.data, .sentinel, .sentinel], laidTests := true, laidLooks := .later }
def TreeListsCardSaid : Prop := Claim7.holds Tryd.pinned (.plain (OpenSpec.ofChange treeListsSpec)) treeListsCard

/-- THE TIED CARD OF 'scriniumlaw27.TreeStates'. -/
def treeStatesCard : Claim7 := { stood := { row := treeStatesRow, standIns := [], harness := (true, "ea7d0a3b62049e57f9183bdc50f0ccf6ea330d2faa2fc344b7915dbefaab310d"), looks := false }, kinds := [], alts := [], laidByText := true, laidKinds := [.data, .sentinel, .sentinel], laidTests := true, laidLooks := .later }
def TreeStatesCardSaid : Prop := Claim7.holds Tryd.pinned (.plain (OpenSpec.ofChange treeStatesSpec)) treeStatesCard

/-- THE TIED CARD OF 'scriniumlaw40.ReportColumns'. -/
def reportColumnsCard : Claim7 := { stood := { row := reportColumnsRow, standIns := [], harness := (true, "ea7d0a3b62049e57f9183bdc50f0ccf6ea330d2faa2fc344b7915dbefaab310d"), looks := false }, kinds := [], alts := [], laidByText := true, laidKinds := [.data, .pinned], laidTests := true, laidLooks := .later }
def ReportColumnsCardSaid : Prop := Claim7.holds Tryd.pinned (.plain (OpenSpec.ofChange reportColumnsSpec)) reportColumnsCard

/-- THE SECOND FORM's CARD OF 'scriniumlaw27.TreeLeast'. -/
def treeLeastUptoCard : Claim7 := { stood := { row := treeLeastUptoRow, standIns := [], harness := (true, "ea7d0a3b62049e57f9183bdc50f0ccf6ea330d2faa2fc344b7915dbefaab310d"), looks := false }, kinds := [], alts := [], laidByText := true, laidKinds := [.data, .sentinel, .sentinel], laidTests := true, laidLooks := .later }
def TreeLeastUptoCardSaid : Prop := Claim7.holds Tryd.pinned (.plain (OpenSpec.upto treeLeastSpec)) treeLeastUptoCard

/-- THE SECOND FORM's CARD OF 'scriniumlaw27.TreeWhole'. -/
def treeWholeUptoCard : Claim7 := { stood := { row := treeWholeUptoRow, standIns := [], harness := (true, "ea7d0a3b62049e57f9183bdc50f0ccf6ea330d2faa2fc344b7915dbefaab310d"), looks := false }, kinds := [], alts := [], laidByText := true, laidKinds := [.data, .sentinel, .sentinel], laidTests := true, laidLooks := .later }
def TreeWholeUptoCardSaid : Prop := Claim7.holds Tryd.pinned (.plain (OpenSpec.upto treeWholeSpec)) treeWholeUptoCard

/-- THE SECOND FORM's CARD OF 'scriniumlaw27.TreePairs'. -/
def treePairsUptoCard : Claim7 := { stood := { row := treePairsUptoRow, standIns := [], harness := (true, "ea7d0a3b62049e57f9183bdc50f0ccf6ea330d2faa2fc344b7915dbefaab310d"), looks := false }, kinds := [], alts := [], laidByText := true, laidKinds := [.data, .sentinel, .sentinel], laidTests := true, laidLooks := .later }
def TreePairsUptoCardSaid : Prop := Claim7.holds Tryd.pinned (.plain (OpenSpec.upto treePairsSpec)) treePairsUptoCard

/-- THE SECOND FORM's CARD OF 'scriniumlaw27.TreeLists'. -/
def treeListsUptoCard : Claim7 := { stood := { row := treeListsUptoRow, standIns := [], harness := (true, "ea7d0a3b62049e57f9183bdc50f0ccf6ea330d2faa2fc344b7915dbefaab310d"), looks := false }, kinds := [], alts := [], laidByText := true, laidKinds := [.data, .sentinel, .sentinel], laidTests := true, laidLooks := .later }
def TreeListsUptoCardSaid : Prop := Claim7.holds Tryd.pinned (.plain (OpenSpec.upto treeListsSpec)) treeListsUptoCard

/-- THE SECOND FORM's CARD OF 'scriniumlaw27.TreeStates'. -/
def treeStatesUptoCard : Claim7 := { stood := { row := treeStatesUptoRow, standIns := [], harness := (true, "ea7d0a3b62049e57f9183bdc50f0ccf6ea330d2faa2fc344b7915dbefaab310d"), looks := false }, kinds := [], alts := [], laidByText := true, laidKinds := [.data, .sentinel, .sentinel], laidTests := true, laidLooks := .later }
def TreeStatesUptoCardSaid : Prop := Claim7.holds Tryd.pinned (.plain (OpenSpec.upto treeStatesSpec)) treeStatesUptoCard

/-- THE SECOND FORM's CARD OF 'scriniumlaw40.ReportColumns'. -/
def reportColumnsUptoCard : Claim7 := { stood := { row := reportColumnsUptoRow, standIns := [], harness := (true, "ea7d0a3b62049e57f9183bdc50f0ccf6ea330d2faa2fc344b7915dbefaab310d"), looks := false }, kinds := [], alts := [], laidByText := true, laidKinds := [.data, .pinned], laidTests := true, laidLooks := .later }
def ReportColumnsUptoCardSaid : Prop := Claim7.holds Tryd.pinned (.plain (OpenSpec.upto reportColumnsSpec)) reportColumnsUptoCard
end Rows
end Go.Proofs.YtfidabngdmpbpaaDoor
