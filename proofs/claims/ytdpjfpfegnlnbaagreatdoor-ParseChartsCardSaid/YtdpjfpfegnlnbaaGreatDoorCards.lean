/-
  DERIVED. GIVEN WITH THE SEED: THE CARDS: each row of YtdpjfpfegnlnbaaGreatDoorRows.lean that lists a variable, with what it lists TIED to the program's text (the seventh form; the later family's looks); each row that meets fmt, with fmt's text TOLD by the authors' own Lean function (tested against real Go, not proved from fmt's source: count such statements apart). THE CARD IS WHAT COUNTS. Prove the row's statement (the work); the ties are given (YtdpjfpfegnlnbaaGreatDoorTie.lean); close each card by the builder's one call (the guide's Derived/Test/ToyasCard.lean, 'card_holds'). Laid BY PROGRAM, IN A SANDBOX (cutbox-door.mjs). By AI agents, Wed Nov 11 2026. No macro, syntax, notation, axiom, sorry.
-/
import Derived.Test.YtdpjfpfegnlnbaaGreatDoorRows
import GoSem.ClaimSeven
namespace Go.Proofs.YtdpjfpfegnlnbaaGreatDoor
namespace Rows

/-- THE TIED CARD OF 'scriniumlaw25.ParseCharts'. -/
def parseChartsCard : Claim7 := { stood := { row := parseChartsRow, standIns := [], harness := (true, "c9869967ed2f2f46868d4ccb2e7a8fc42256e2951f28e25b0768a21fb10c78c1"), looks := true }, kinds := [], alts := [], laidByText := true, laidKinds := [.handle, .sentinel, .sentinel, .sentinel, .sentinel, .sentinel, .sentinel, .sentinel, .sentinel, .sentinel], laidTests := true, laidLooks := .later }
def ParseChartsCardSaid : Prop := Claim7.holds Tryz.pinned (.plain (OpenSpec.ofChange parseChartsSpec)) parseChartsCard

/-- THE SECOND FORM's CARD OF 'scriniumlaw25.ParseCharts'. -/
def parseChartsUptoCard : Claim7 := { stood := { row := parseChartsUptoRow, standIns := [], harness := (true, "c9869967ed2f2f46868d4ccb2e7a8fc42256e2951f28e25b0768a21fb10c78c1"), looks := true }, kinds := [], alts := [], laidByText := true, laidKinds := [.handle, .sentinel, .sentinel, .sentinel, .sentinel, .sentinel, .sentinel, .sentinel, .sentinel, .sentinel], laidTests := true, laidLooks := .later }
def ParseChartsUptoCardSaid : Prop := Claim7.holds Tryz.pinned (.plain (OpenSpec.upto parseChartsSpec)) parseChartsUptoCard
end Rows
end Go.Proofs.YtdpjfpfegnlnbaaGreatDoor
