/-
  DERIVED. GIVEN WITH THE SEED: THE CARDS: each row of YtkddaijfdcfffaaDoorRows.lean that lists a variable, with what it lists TIED to the program's text (the seventh form; the later family's looks); each row that meets fmt, with fmt's text TOLD by the authors' own Lean function (tested against real Go, not proved from fmt's source: count such statements apart). THE CARD IS WHAT COUNTS. Prove the row's statement (the work); the ties are given (YtkddaijfdcfffaaDoorTie.lean); close each card by the builder's one call (the guide's Derived/Test/ToyasCard.lean, 'card_holds'). Laid BY PROGRAM, IN A SANDBOX (cutbox-door.mjs). By AI agents, Wed Nov 11 2026. No macro, syntax, notation, axiom, sorry.
-/
import Derived.Test.YtkddaijfdcfffaaDoorRows
import GoSem.ClaimSeven
namespace Go.Proofs.YtkddaijfdcfffaaDoor
namespace Rows

/-- THE TIED CARD OF 'scriniumlaw23.ValueFolds'. -/
def valueFoldsCard : Claim7 := { stood := { row := valueFoldsRow, standIns := [], harness := (true, "bca3fc1aa84d2121bf85946da1082b1b030dab7bf2daa37bbd78e279e8b0cb06"), looks := true }, kinds := [], alts := [], laidByText := true, laidKinds := [.sentinel, .sentinel, .sentinel], laidTests := true, laidLooks := .later }
def ValueFoldsCardSaid : Prop := Claim7.holds Tryd.pinned (.plain (OpenSpec.ofChange valueFoldsSpec)) valueFoldsCard

/-- THE TIED CARD OF 'scriniumlaw01.FaultCodes'. -/
def faultCodesCard : Claim7 := { stood := { row := faultCodesRow, standIns := [], harness := (true, "bca3fc1aa84d2121bf85946da1082b1b030dab7bf2daa37bbd78e279e8b0cb06"), looks := true }, kinds := [], alts := [], laidByText := true, laidKinds := [.handle, .sentinel, .sentinel, .sentinel, .sentinel, .sentinel, .sentinel, .sentinel, .sentinel, .sentinel], laidTests := true, laidLooks := .later }
def FaultCodesCardSaid : Prop := Claim7.holds Tryd.pinned (.plain (OpenSpec.ofChange faultCodesSpec)) faultCodesCard

/-- THE TIED CARD OF 'scriniumlaw01.FaultPages'. -/
def faultPagesCard : Claim7 := { stood := { row := faultPagesRow, standIns := [], harness := (true, "bca3fc1aa84d2121bf85946da1082b1b030dab7bf2daa37bbd78e279e8b0cb06"), looks := true }, kinds := [], alts := [], laidByText := true, laidKinds := [.handle, .sentinel, .sentinel, .sentinel, .sentinel, .sentinel, .sentinel, .sentinel, .sentinel, .sentinel], laidTests := true, laidLooks := .later }
def FaultPagesCardSaid : Prop := Claim7.holds Tryd.pinned (.plain (OpenSpec.ofChange faultPagesSpec)) faultPagesCard

/-- THE TIED CARD OF 'scriniumlaw01.FaultOps'. -/
def faultOpsCard : Claim7 := { stood := { row := faultOpsRow, standIns := [], harness := (true, "bca3fc1aa84d2121bf85946da1082b1b030dab7bf2daa37bbd78e279e8b0cb06"), looks := true }, kinds := [], alts := [], laidByText := true, laidKinds := [.handle, .sentinel, .sentinel, .sentinel, .sentinel, .sentinel, .sentinel, .sentinel, .sentinel, .sentinel], laidTests := true, laidLooks := .later }
def FaultOpsCardSaid : Prop := Claim7.holds Tryd.pinned (.plain (OpenSpec.ofChange faultOpsSpec)) faultOpsCard

/-- THE TIED CARD OF 'scriniumlaw01.FaultNil'. -/
def faultNilCard : Claim7 := { stood := { row := faultNilRow, standIns := [], harness := (true, "bca3fc1aa84d2121bf85946da1082b1b030dab7bf2daa37bbd78e279e8b0cb06"), looks := true }, kinds := [], alts := [], laidByText := true, laidKinds := [.handle, .sentinel, .sentinel, .sentinel, .sentinel, .sentinel, .sentinel, .sentinel, .sentinel, .sentinel], laidTests := true, laidLooks := .later }
def FaultNilCardSaid : Prop := Claim7.holds Tryd.pinned (.plain (OpenSpec.ofChange faultNilSpec)) faultNilCard

/-- THE TIED CARD OF 'scriniumlaw01.FaultIs'. -/
def faultIsCard : Claim7 := { stood := { row := faultIsRow, standIns := [], harness := (true, "bca3fc1aa84d2121bf85946da1082b1b030dab7bf2daa37bbd78e279e8b0cb06"), looks := true }, kinds := [], alts := [], laidByText := true, laidKinds := [.handle, .sentinel, .sentinel, .sentinel, .sentinel, .sentinel, .sentinel, .sentinel, .sentinel, .sentinel], laidTests := true, laidLooks := .later }
def FaultIsCardSaid : Prop := Claim7.holds Tryd.pinned (.plain (OpenSpec.ofChange faultIsSpec)) faultIsCard

/-- THE TIED CARD OF 'scriniumlaw01.FaultNews'. -/
def faultNewsCard : Claim7 := { stood := { row := faultNewsRow, standIns := [], harness := (true, "bca3fc1aa84d2121bf85946da1082b1b030dab7bf2daa37bbd78e279e8b0cb06"), looks := true }, kinds := [], alts := [], laidByText := true, laidKinds := [.handle, .sentinel, .sentinel, .sentinel, .sentinel, .sentinel, .sentinel, .sentinel, .sentinel, .sentinel], laidTests := true, laidLooks := .later }
def FaultNewsCardSaid : Prop := Claim7.holds Tryd.pinned (.plain (OpenSpec.ofChange faultNewsSpec)) faultNewsCard

/-- THE TIED CARD OF 'scriniumlaw23.ValueUses'. -/
def valueUsesCard : Claim7 := { stood := { row := valueUsesRow, standIns := [], harness := (true, "bca3fc1aa84d2121bf85946da1082b1b030dab7bf2daa37bbd78e279e8b0cb06"), looks := true }, kinds := [], alts := [], laidByText := true, laidKinds := [.sentinel, .sentinel, .sentinel], laidTests := true, laidLooks := .later }
def ValueUsesCardSaid : Prop := Claim7.holds Tryd.pinned (.plain (OpenSpec.ofChange valueUsesSpec)) valueUsesCard

/-- THE TIED CARD OF 'scriniumlaw23.ValueSame'. -/
def valueSameCard : Claim7 := { stood := { row := valueSameRow, standIns := [], harness := (true, "bca3fc1aa84d2121bf85946da1082b1b030dab7bf2daa37bbd78e279e8b0cb06"), looks := true }, kinds := [], alts := [], laidByText := true, laidKinds := [.sentinel, .sentinel, .sentinel, .sentinel, .sentinel, .sentinel, .sentinel, .sentinel, .sentinel], laidTests := true, laidLooks := .later }
def ValueSameCardSaid : Prop := Claim7.holds Tryd.pinned (.plain (OpenSpec.ofChange valueSameSpec)) valueSameCard

/-- THE TIED CARD OF 'scriniumlaw23.ValueEvals'. -/
def valueEvalsCard : Claim7 := { stood := { row := valueEvalsRow, standIns := [], harness := (true, "bca3fc1aa84d2121bf85946da1082b1b030dab7bf2daa37bbd78e279e8b0cb06"), looks := true }, kinds := [], alts := [], laidByText := true, laidKinds := [.sentinel, .sentinel, .sentinel, .sentinel, .sentinel, .sentinel, .sentinel, .sentinel, .sentinel], laidTests := true, laidLooks := .later }
def ValueEvalsCardSaid : Prop := Claim7.holds Tryd.pinned (.plain (OpenSpec.ofChange valueEvalsSpec)) valueEvalsCard

/-- THE TIED CARD OF 'scriniumlaw23.ValueSets'. -/
def valueSetsCard : Claim7 := { stood := { row := valueSetsRow, standIns := [], harness := (true, "bca3fc1aa84d2121bf85946da1082b1b030dab7bf2daa37bbd78e279e8b0cb06"), looks := true }, kinds := [], alts := [], laidByText := true, laidKinds := [.sentinel, .sentinel, .sentinel, .sentinel, .sentinel, .sentinel, .sentinel, .sentinel, .sentinel], laidTests := true, laidLooks := .later }
def ValueSetsCardSaid : Prop := Claim7.holds Tryd.pinned (.plain (OpenSpec.ofChange valueSetsSpec)) valueSetsCard

/-- THE TIED CARD OF 'scriniumlaw23.ValueHangs'. -/
def valueHangsCard : Claim7 := { stood := { row := valueHangsRow, standIns := [], harness := (true, "bca3fc1aa84d2121bf85946da1082b1b030dab7bf2daa37bbd78e279e8b0cb06"), looks := true }, kinds := [], alts := [], laidByText := true, laidKinds := [.sentinel, .sentinel, .sentinel, .sentinel, .sentinel, .sentinel, .sentinel, .sentinel, .sentinel], laidTests := true, laidLooks := .later }
def ValueHangsCardSaid : Prop := Claim7.holds Tryd.pinned (.plain (OpenSpec.ofChange valueHangsSpec)) valueHangsCard

/-- THE SECOND FORM's CARD OF 'scriniumlaw23.ValueFolds'. -/
def valueFoldsUptoCard : Claim7 := { stood := { row := valueFoldsUptoRow, standIns := [], harness := (true, "bca3fc1aa84d2121bf85946da1082b1b030dab7bf2daa37bbd78e279e8b0cb06"), looks := true }, kinds := [], alts := [], laidByText := true, laidKinds := [.sentinel, .sentinel, .sentinel], laidTests := true, laidLooks := .later }
def ValueFoldsUptoCardSaid : Prop := Claim7.holds Tryd.pinned (.plain (OpenSpec.upto valueFoldsSpec)) valueFoldsUptoCard

/-- THE SECOND FORM's CARD OF 'scriniumlaw01.FaultCodes'. -/
def faultCodesUptoCard : Claim7 := { stood := { row := faultCodesUptoRow, standIns := [], harness := (true, "bca3fc1aa84d2121bf85946da1082b1b030dab7bf2daa37bbd78e279e8b0cb06"), looks := true }, kinds := [], alts := [], laidByText := true, laidKinds := [.handle, .sentinel, .sentinel, .sentinel, .sentinel, .sentinel, .sentinel, .sentinel, .sentinel, .sentinel], laidTests := true, laidLooks := .later }
def FaultCodesUptoCardSaid : Prop := Claim7.holds Tryd.pinned (.plain (OpenSpec.upto faultCodesSpec)) faultCodesUptoCard

/-- THE SECOND FORM's CARD OF 'scriniumlaw01.FaultPages'. -/
def faultPagesUptoCard : Claim7 := { stood := { row := faultPagesUptoRow, standIns := [], harness := (true, "bca3fc1aa84d2121bf85946da1082b1b030dab7bf2daa37bbd78e279e8b0cb06"), looks := true }, kinds := [], alts := [], laidByText := true, laidKinds := [.handle, .sentinel, .sentinel, .sentinel, .sentinel, .sentinel, .sentinel, .sentinel, .sentinel, .sentinel], laidTests := true, laidLooks := .later }
def FaultPagesUptoCardSaid : Prop := Claim7.holds Tryd.pinned (.plain (OpenSpec.upto faultPagesSpec)) faultPagesUptoCard

/-- THE SECOND FORM's CARD OF 'scriniumlaw01.FaultOps'. -/
def faultOpsUptoCard : Claim7 := { stood := { row := faultOpsUptoRow, standIns := [], harness := (true, "bca3fc1aa84d2121bf85946da1082b1b030dab7bf2daa37bbd78e279e8b0cb06"), looks := true }, kinds := [], alts := [], laidByText := true, laidKinds := [.handle, .sentinel, .sentinel, .sentinel, .sentinel, .sentinel, .sentinel, .sentinel, .sentinel, .sentinel], laidTests := true, laidLooks := .later }
def FaultOpsUptoCardSaid : Prop := Claim7.holds Tryd.pinned (.plain (OpenSpec.upto faultOpsSpec)) faultOpsUptoCard

/-- THE SECOND FORM's CARD OF 'scriniumlaw01.FaultNil'. -/
def faultNilUptoCard : Claim7 := { stood := { row := faultNilUptoRow, standIns := [], harness := (true, "bca3fc1aa84d2121bf85946da1082b1b030dab7bf2daa37bbd78e279e8b0cb06"), looks := true }, kinds := [], alts := [], laidByText := true, laidKinds := [.handle, .sentinel, .sentinel, .sentinel, .sentinel, .sentinel, .sentinel, .sentinel, .sentinel, .sentinel], laidTests := true, laidLooks := .later }
def FaultNilUptoCardSaid : Prop := Claim7.holds Tryd.pinned (.plain (OpenSpec.upto faultNilSpec)) faultNilUptoCard

/-- THE SECOND FORM's CARD OF 'scriniumlaw01.FaultIs'. -/
def faultIsUptoCard : Claim7 := { stood := { row := faultIsUptoRow, standIns := [], harness := (true, "bca3fc1aa84d2121bf85946da1082b1b030dab7bf2daa37bbd78e279e8b0cb06"), looks := true }, kinds := [], alts := [], laidByText := true, laidKinds := [.handle, .sentinel, .sentinel, .sentinel, .sentinel, .sentinel, .sentinel, .sentinel, .sentinel, .sentinel], laidTests := true, laidLooks := .later }
def FaultIsUptoCardSaid : Prop := Claim7.holds Tryd.pinned (.plain (OpenSpec.upto faultIsSpec)) faultIsUptoCard

/-- THE SECOND FORM's CARD OF 'scriniumlaw01.FaultNews'. -/
def faultNewsUptoCard : Claim7 := { stood := { row := faultNewsUptoRow, standIns := [], harness := (true, "bca3fc1aa84d2121bf85946da1082b1b030dab7bf2daa37bbd78e279e8b0cb06"), looks := true }, kinds := [], alts := [], laidByText := true, laidKinds := [.handle, .sentinel, .sentinel, .sentinel, .sentinel, .sentinel, .sentinel, .sentinel, .sentinel, .sentinel], laidTests := true, laidLooks := .later }
def FaultNewsUptoCardSaid : Prop := Claim7.holds Tryd.pinned (.plain (OpenSpec.upto faultNewsSpec)) faultNewsUptoCard

/-- THE SECOND FORM's CARD OF 'scriniumlaw23.ValueUses'. -/
def valueUsesUptoCard : Claim7 := { stood := { row := valueUsesUptoRow, standIns := [], harness := (true, "bca3fc1aa84d2121bf85946da1082b1b030dab7bf2daa37bbd78e279e8b0cb06"), looks := true }, kinds := [], alts := [], laidByText := true, laidKinds := [.sentinel, .sentinel, .sentinel], laidTests := true, laidLooks := .later }
def ValueUsesUptoCardSaid : Prop := Claim7.holds Tryd.pinned (.plain (OpenSpec.upto valueUsesSpec)) valueUsesUptoCard

/-- THE SECOND FORM's CARD OF 'scriniumlaw23.ValueSame'. -/
def valueSameUptoCard : Claim7 := { stood := { row := valueSameUptoRow, standIns := [], harness := (true, "bca3fc1aa84d2121bf85946da1082b1b030dab7bf2daa37bbd78e279e8b0cb06"), looks := true }, kinds := [], alts := [], laidByText := true, laidKinds := [.sentinel, .sentinel, .sentinel, .sentinel, .sentinel, .sentinel, .sentinel, .sentinel, .sentinel], laidTests := true, laidLooks := .later }
def ValueSameUptoCardSaid : Prop := Claim7.holds Tryd.pinned (.plain (OpenSpec.upto valueSameSpec)) valueSameUptoCard

/-- THE SECOND FORM's CARD OF 'scriniumlaw23.ValueEvals'. -/
def valueEvalsUptoCard : Claim7 := { stood := { row := valueEvalsUptoRow, standIns := [], harness := (true, "bca3fc1aa84d2121bf85946da1082b1b030dab7bf2daa37bbd78e279e8b0cb06"), looks := true }, kinds := [], alts := [], laidByText := true, laidKinds := [.sentinel, .sentinel, .sentinel, .sentinel, .sentinel, .sentinel, .sentinel, .sentinel, .sentinel], laidTests := true, laidLooks := .later }
def ValueEvalsUptoCardSaid : Prop := Claim7.holds Tryd.pinned (.plain (OpenSpec.upto valueEvalsSpec)) valueEvalsUptoCard

/-- THE SECOND FORM's CARD OF 'scriniumlaw23.ValueSets'. -/
def valueSetsUptoCard : Claim7 := { stood := { row := valueSetsUptoRow, standIns := [], harness := (true, "bca3fc1aa84d2121bf85946da1082b1b030dab7bf2daa37bbd78e279e8b0cb06"), looks := true }, kinds := [], alts := [], laidByText := true, laidKinds := [.sentinel, .sentinel, .sentinel, .sentinel, .sentinel, .sentinel, .sentinel, .sentinel, .sentinel], laidTests := true, laidLooks := .later }
def ValueSetsUptoCardSaid : Prop := Claim7.holds Tryd.pinned (.plain (OpenSpec.upto valueSetsSpec)) valueSetsUptoCard

/-- THE SECOND FORM's CARD OF 'scriniumlaw23.ValueHangs'. -/
def valueHangsUptoCard : Claim7 := { stood := { row := valueHangsUptoRow, standIns := [], harness := (true, "bca3fc1aa84d2121bf85946da1082b1b030dab7bf2daa37bbd78e279e8b0cb06"), looks := true }, kinds := [], alts := [], laidByText := true, laidKinds := [.sentinel, .sentinel, .sentinel, .sentinel, .sentinel, .sentinel, .sentinel, .sentinel, .sentinel], laidTests := true, laidLooks := .later }
def ValueHangsUptoCardSaid : Prop := Claim7.holds Tryd.pinned (.plain (OpenSpec.upto valueHangsSpec)) valueHangsUptoCard
end Rows
end Go.Proofs.YtkddaijfdcfffaaDoor
