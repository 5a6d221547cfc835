/-
  DERIVED. GIVEN WITH THE SEED: THE CARDS: each row of YtmimninicegjcaaGreatDoorRows.lean that lists a variable, with what it lists TIED to the program's text (the seventh form; the later family's looks); each row that meets fmt, with fmt's text TOLD by the authors' own Lean function (tested against real Go, not proved from fmt's source: count such statements apart). THE CARD IS WHAT COUNTS. Prove the row's statement (the work); the ties are given (YtmimninicegjcaaGreatDoorTie.lean); close each card by the builder's one call (the guide's Derived/Test/ToyasCard.lean, 'card_holds'). Laid BY PROGRAM, IN A SANDBOX (cutbox-door.mjs). By AI agents, Wed Nov 11 2026. No macro, syntax, notation, axiom, sorry.
-/
import Derived.Test.YtmimninicegjcaaGreatDoorRows
import GoSem.ClaimSeven
namespace Go.Proofs.YtmimninicegjcaaGreatDoor
namespace Rows

/-- THE TIED CARD OF 'daybooklaw17.SheetTrials'. -/
def sheetTrialsCard : Claim7 := { stood := { row := sheetTrialsRow, standIns := [], harness := (true, "9fe652da4c00e4554375a3a7d08cede9252a9b5c7b0e6c9dbb2c913845d85962"), looks := true }, kinds := [], alts := [], laidByText := true, laidKinds := [.data, .data, .data, .data, .pinned], laidTests := true, laidLooks := .later }
def SheetTrialsCardSaid : Prop := Claim7.holds Tryz.pinned (.plain (OpenSpec.ofChange sheetTrialsSpec)) sheetTrialsCard

/-- THE TIED CARD OF 'daybooklaw17.SheetTables'. -/
def sheetTablesCard : Claim7 := { stood := { row := sheetTablesRow, standIns := [], harness := (true, "9fe652da4c00e4554375a3a7d08cede9252a9b5c7b0e6c9dbb2c913845d85962"), looks := true }, kinds := [], alts := [], laidByText := true, laidKinds := [.data, .data, .data, .data, .data, .pinned], laidTests := true, laidLooks := .later }
def SheetTablesCardSaid : Prop := Claim7.holds Tryz.pinned (.plain (OpenSpec.ofChange sheetTablesSpec)) sheetTablesCard

/-- THE TIED CARD OF 'daybooklaw17.SheetStatements'. -/
def sheetStatementsCard : Claim7 := { stood := { row := sheetStatementsRow, standIns := [], harness := (true, "9fe652da4c00e4554375a3a7d08cede9252a9b5c7b0e6c9dbb2c913845d85962"), looks := true }, kinds := [], alts := [], laidByText := true, laidKinds := [.data, .data, .data, .data, .data, .pinned], laidTests := true, laidLooks := .later }
def SheetStatementsCardSaid : Prop := Claim7.holds Tryz.pinned (.plain (OpenSpec.ofChange sheetStatementsSpec)) sheetStatementsCard

/-- THE TIED CARD OF 'daybooklaw17.SheetIncomes'. -/
def sheetIncomesCard : Claim7 := { stood := { row := sheetIncomesRow, standIns := [], harness := (true, "9fe652da4c00e4554375a3a7d08cede9252a9b5c7b0e6c9dbb2c913845d85962"), looks := true }, kinds := [], alts := [], laidByText := true, laidKinds := [.data, .data, .data, .data, .data, .pinned], laidTests := true, laidLooks := .later }
def SheetIncomesCardSaid : Prop := Claim7.holds Tryz.pinned (.plain (OpenSpec.ofChange sheetIncomesSpec)) sheetIncomesCard

/-- THE TIED CARD OF 'daybooklaw17.SheetPositions'. -/
def sheetPositionsCard : Claim7 := { stood := { row := sheetPositionsRow, standIns := [], harness := (true, "9fe652da4c00e4554375a3a7d08cede9252a9b5c7b0e6c9dbb2c913845d85962"), looks := true }, kinds := [], alts := [], laidByText := true, laidKinds := [.data, .data, .data, .data, .data, .pinned], laidTests := true, laidLooks := .later }
def SheetPositionsCardSaid : Prop := Claim7.holds Tryz.pinned (.plain (OpenSpec.ofChange sheetPositionsSpec)) sheetPositionsCard

/-- THE TIED CARD OF 'daybooklaw17.SheetOrder'. -/
def sheetOrderCard : Claim7 := { stood := { row := sheetOrderRow, standIns := [], harness := (true, "9fe652da4c00e4554375a3a7d08cede9252a9b5c7b0e6c9dbb2c913845d85962"), looks := true }, kinds := [], alts := [], laidByText := true, laidKinds := [.data, .data, .data, .data, .data, .pinned], laidTests := true, laidLooks := .later }
def SheetOrderCardSaid : Prop := Claim7.holds Tryz.pinned (.plain (OpenSpec.ofChange sheetOrderSpec)) sheetOrderCard

/-- THE SECOND FORM's CARD OF 'daybooklaw17.SheetTrials'. -/
def sheetTrialsUptoCard : Claim7 := { stood := { row := sheetTrialsUptoRow, standIns := [], harness := (true, "9fe652da4c00e4554375a3a7d08cede9252a9b5c7b0e6c9dbb2c913845d85962"), looks := true }, kinds := [], alts := [], laidByText := true, laidKinds := [.data, .data, .data, .data, .pinned], laidTests := true, laidLooks := .later }
def SheetTrialsUptoCardSaid : Prop := Claim7.holds Tryz.pinned (.plain (OpenSpec.upto sheetTrialsSpec)) sheetTrialsUptoCard

/-- THE SECOND FORM's CARD OF 'daybooklaw17.SheetTables'. -/
def sheetTablesUptoCard : Claim7 := { stood := { row := sheetTablesUptoRow, standIns := [], harness := (true, "9fe652da4c00e4554375a3a7d08cede9252a9b5c7b0e6c9dbb2c913845d85962"), looks := true }, kinds := [], alts := [], laidByText := true, laidKinds := [.data, .data, .data, .data, .data, .pinned], laidTests := true, laidLooks := .later }
def SheetTablesUptoCardSaid : Prop := Claim7.holds Tryz.pinned (.plain (OpenSpec.upto sheetTablesSpec)) sheetTablesUptoCard

/-- THE SECOND FORM's CARD OF 'daybooklaw17.SheetStatements'. -/
def sheetStatementsUptoCard : Claim7 := { stood := { row := sheetStatementsUptoRow, standIns := [], harness := (true, "9fe652da4c00e4554375a3a7d08cede9252a9b5c7b0e6c9dbb2c913845d85962"), looks := true }, kinds := [], alts := [], laidByText := true, laidKinds := [.data, .data, .data, .data, .data, .pinned], laidTests := true, laidLooks := .later }
def SheetStatementsUptoCardSaid : Prop := Claim7.holds Tryz.pinned (.plain (OpenSpec.upto sheetStatementsSpec)) sheetStatementsUptoCard

/-- THE SECOND FORM's CARD OF 'daybooklaw17.SheetIncomes'. -/
def sheetIncomesUptoCard : Claim7 := { stood := { row := sheetIncomesUptoRow, standIns := [], harness := (true, "9fe652da4c00e4554375a3a7d08cede9252a9b5c7b0e6c9dbb2c913845d85962"), looks := true }, kinds := [], alts := [], laidByText := true, laidKinds := [.data, .data, .data, .data, .data, .pinned], laidTests := true, laidLooks := .later }
def SheetIncomesUptoCardSaid : Prop := Claim7.holds Tryz.pinned (.plain (OpenSpec.upto sheetIncomesSpec)) sheetIncomesUptoCard

/-- THE SECOND FORM's CARD OF 'daybooklaw17.SheetPositions'. -/
def sheetPositionsUptoCard : Claim7 := { stood := { row := sheetPositionsUptoRow, standIns := [], harness := (true, "9fe652da4c00e4554375a3a7d08cede9252a9b5c7b0e6c9dbb2c913845d85962"), looks := true }, kinds := [], alts := [], laidByText := true, laidKinds := [.data, .data, .data, .data, .data, .pinned], laidTests := true, laidLooks := .later }
def SheetPositionsUptoCardSaid : Prop := Claim7.holds Tryz.pinned (.plain (OpenSpec.upto sheetPositionsSpec)) sheetPositionsUptoCard

/-- THE SECOND FORM's CARD OF 'daybooklaw17.SheetOrder'. -/
def sheetOrderUptoCard : Claim7 := { stood := { row := sheetOrderUptoRow, standIns := [], harness := (true, "9fe652da4c00e4554375a3a7d08cede9252a9b5c7b0e6c9dbb2c913845d85962"), looks := true }, kinds := [], alts := [], laidByText := true, laidKinds := [.data, .data, .data, .data, .data, .pinned], laidTests := true, laidLooks := .later }
def SheetOrderUptoCardSaid : Prop := Claim7.holds Tryz.pinned (.plain (OpenSpec.upto sheetOrderSpec)) sheetOrderUptoCard
end Rows
end Go.Proofs.YtmimninicegjcaaGreatDoor
