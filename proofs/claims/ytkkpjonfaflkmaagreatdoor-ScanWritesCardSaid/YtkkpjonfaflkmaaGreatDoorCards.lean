/-
  DERIVED. GIVEN WITH THE SEED: THE CARDS: each row of YtkkpjonfaflkmaaGreatDoorRows.lean that lists a variable, with what it lists TIED to the program's text (the seventh form; the later family's looks); each row that meets fmt, with fmt's text TOLD by the authors' own Lean function (tested against real Go, not proved from fmt's source: count such statements apart). THE CARD IS WHAT COUNTS. Prove the row's statement (the work); the ties are given (YtkkpjonfaflkmaaGreatDoorTie.lean); close each card by the builder's one call (the guide's Derived/Test/ToyasCard.lean, 'card_holds'). Laid BY PROGRAM, IN A SANDBOX (cutbox-door.mjs). By AI agents, Wed Nov 11 2026. No macro, syntax, notation, axiom, sorry.
-/
import Derived.Test.YtkkpjonfaflkmaaGreatDoorRows
import GoSem.ClaimSeven
namespace Go.Proofs.YtkkpjonfaflkmaaGreatDoor
namespace Rows

/-- THE TIED CARD OF 'qanatlaw03.ScanTokens'. -/
def scanTokensCard : Claim7 := { stood := { row := scanTokensRow, standIns := [], harness := (true, "65155389e9bf93d6fc95405b02baa2a6f343e5ad54b9c95e476354b36651d7da"), looks := true }, kinds := [], alts := [], laidByText := true, laidKinds := [.data, .listed, .data, .pinned], laidTests := true, laidLooks := .later }
def ScanTokensCardSaid : Prop := Claim7.holds Tryz.pinned (.plain (OpenSpec.ofChange scanTokensSpec)) scanTokensCard

/-- THE TIED CARD OF 'qanatlaw03.ScanSymbols'. -/
def scanSymbolsCard : Claim7 := { stood := { row := scanSymbolsRow, standIns := [], harness := (true, "65155389e9bf93d6fc95405b02baa2a6f343e5ad54b9c95e476354b36651d7da"), looks := true }, kinds := [], alts := [], laidByText := true, laidKinds := [.data, .listed, .data, .pinned], laidTests := true, laidLooks := .later }
def ScanSymbolsCardSaid : Prop := Claim7.holds Tryz.pinned (.plain (OpenSpec.ofChange scanSymbolsSpec)) scanSymbolsCard

/-- THE TIED CARD OF 'qanatlaw03.ScanLiterals'. -/
def scanLiteralsCard : Claim7 := { stood := { row := scanLiteralsRow, standIns := [], harness := (true, "65155389e9bf93d6fc95405b02baa2a6f343e5ad54b9c95e476354b36651d7da"), looks := true }, kinds := [], alts := [], laidByText := true, laidKinds := [.data, .listed, .data, .pinned], laidTests := true, laidLooks := .later }
def ScanLiteralsCardSaid : Prop := Claim7.holds Tryz.pinned (.plain (OpenSpec.ofChange scanLiteralsSpec)) scanLiteralsCard

/-- THE TIED CARD OF 'qanatlaw03.ScanWrites'. -/
def scanWritesCard : Claim7 := { stood := { row := scanWritesRow, standIns := [], harness := (true, "65155389e9bf93d6fc95405b02baa2a6f343e5ad54b9c95e476354b36651d7da"), looks := true }, kinds := [], alts := [], laidByText := true, laidKinds := [.data, .listed, .data, .pinned], laidTests := true, laidLooks := .later }
def ScanWritesCardSaid : Prop := Claim7.holds Tryz.pinned (.plain (OpenSpec.ofChange scanWritesSpec)) scanWritesCard

/-- THE TIED CARD OF 'qanatlaw03.ScanBack'. -/
def scanBackCard : Claim7 := { stood := { row := scanBackRow, standIns := [], harness := (true, "65155389e9bf93d6fc95405b02baa2a6f343e5ad54b9c95e476354b36651d7da"), looks := true }, kinds := [], alts := [], laidByText := true, laidKinds := [.data, .listed, .data, .pinned], laidTests := true, laidLooks := .later }
def ScanBackCardSaid : Prop := Claim7.holds Tryz.pinned (.plain (OpenSpec.ofChange scanBackSpec)) scanBackCard

/-- THE TIED CARD OF 'qanatlaw03.ScanLocal'. -/
def scanLocalCard : Claim7 := { stood := { row := scanLocalRow, standIns := [], harness := (true, "65155389e9bf93d6fc95405b02baa2a6f343e5ad54b9c95e476354b36651d7da"), looks := true }, kinds := [], alts := [], laidByText := true, laidKinds := [.data, .listed, .data, .pinned], laidTests := true, laidLooks := .later }
def ScanLocalCardSaid : Prop := Claim7.holds Tryz.pinned (.plain (OpenSpec.ofChange scanLocalSpec)) scanLocalCard

/-- THE TIED CARD OF 'qanatlaw03.ScanCase'. -/
def scanCaseCard : Claim7 := { stood := { row := scanCaseRow, standIns := [], harness := (true, "65155389e9bf93d6fc95405b02baa2a6f343e5ad54b9c95e476354b36651d7da"), looks := true }, kinds := [], alts := [], laidByText := true, laidKinds := [.data, .listed, .data, .pinned], laidTests := true, laidLooks := .later }
def ScanCaseCardSaid : Prop := Claim7.holds Tryz.pinned (.plain (OpenSpec.ofChange scanCaseSpec)) scanCaseCard

/-- THE TIED CARD OF 'qanatlaw03.ScanComments'. -/
def scanCommentsCard : Claim7 := { stood := { row := scanCommentsRow, standIns := [], harness := (true, "65155389e9bf93d6fc95405b02baa2a6f343e5ad54b9c95e476354b36651d7da"), looks := true }, kinds := [], alts := [], laidByText := true, laidKinds := [.data, .listed, .data, .pinned], laidTests := true, laidLooks := .later }
def ScanCommentsCardSaid : Prop := Claim7.holds Tryz.pinned (.plain (OpenSpec.ofChange scanCommentsSpec)) scanCommentsCard

/-- THE TIED CARD OF 'qanatlaw03.ScanErrors'. -/
def scanErrorsCard : Claim7 := { stood := { row := scanErrorsRow, standIns := [], harness := (true, "65155389e9bf93d6fc95405b02baa2a6f343e5ad54b9c95e476354b36651d7da"), looks := true }, kinds := [], alts := [], laidByText := true, laidKinds := [.data, .listed, .data, .pinned], laidTests := true, laidLooks := .later }
def ScanErrorsCardSaid : Prop := Claim7.holds Tryz.pinned (.plain (OpenSpec.ofChange scanErrorsSpec)) scanErrorsCard

/-- THE TIED CARD OF 'qanatlaw03.ScanValues'. -/
def scanValuesCard : Claim7 := { stood := { row := scanValuesRow, standIns := [], harness := (true, "65155389e9bf93d6fc95405b02baa2a6f343e5ad54b9c95e476354b36651d7da"), looks := true }, kinds := [], alts := [], laidByText := true, laidKinds := [.data, .listed, .data, .pinned], laidTests := true, laidLooks := .later }
def ScanValuesCardSaid : Prop := Claim7.holds Tryz.pinned (.plain (OpenSpec.ofChange scanValuesSpec)) scanValuesCard

/-- THE TIED CARD OF 'qanatlaw03.ScanCovers'. -/
def scanCoversCard : Claim7 := { stood := { row := scanCoversRow, standIns := [], harness := (true, "65155389e9bf93d6fc95405b02baa2a6f343e5ad54b9c95e476354b36651d7da"), looks := true }, kinds := [], alts := [], laidByText := true, laidKinds := [.data, .listed, .data, .pinned], laidTests := true, laidLooks := .later }
def ScanCoversCardSaid : Prop := Claim7.holds Tryz.pinned (.plain (OpenSpec.ofChange scanCoversSpec)) scanCoversCard

/-- THE TIED CARD OF 'qanatlaw03.ScanLines'. -/
def scanLinesCard : Claim7 := { stood := { row := scanLinesRow, standIns := [], harness := (true, "65155389e9bf93d6fc95405b02baa2a6f343e5ad54b9c95e476354b36651d7da"), looks := true }, kinds := [], alts := [], laidByText := true, laidKinds := [.data, .listed, .data, .pinned], laidTests := true, laidLooks := .later }
def ScanLinesCardSaid : Prop := Claim7.holds Tryz.pinned (.plain (OpenSpec.ofChange scanLinesSpec)) scanLinesCard

/-- THE SECOND FORM's CARD OF 'qanatlaw03.ScanTokens'. -/
def scanTokensUptoCard : Claim7 := { stood := { row := scanTokensUptoRow, standIns := [], harness := (true, "65155389e9bf93d6fc95405b02baa2a6f343e5ad54b9c95e476354b36651d7da"), looks := true }, kinds := [], alts := [], laidByText := true, laidKinds := [.data, .listed, .data, .pinned], laidTests := true, laidLooks := .later }
def ScanTokensUptoCardSaid : Prop := Claim7.holds Tryz.pinned (.plain (OpenSpec.upto scanTokensSpec)) scanTokensUptoCard

/-- THE SECOND FORM's CARD OF 'qanatlaw03.ScanSymbols'. -/
def scanSymbolsUptoCard : Claim7 := { stood := { row := scanSymbolsUptoRow, standIns := [], harness := (true, "65155389e9bf93d6fc95405b02baa2a6f343e5ad54b9c95e476354b36651d7da"), looks := true }, kinds := [], alts := [], laidByText := true, laidKinds := [.data, .listed, .data, .pinned], laidTests := true, laidLooks := .later }
def ScanSymbolsUptoCardSaid : Prop := Claim7.holds Tryz.pinned (.plain (OpenSpec.upto scanSymbolsSpec)) scanSymbolsUptoCard

/-- THE SECOND FORM's CARD OF 'qanatlaw03.ScanLiterals'. -/
def scanLiteralsUptoCard : Claim7 := { stood := { row := scanLiteralsUptoRow, standIns := [], harness := (true, "65155389e9bf93d6fc95405b02baa2a6f343e5ad54b9c95e476354b36651d7da"), looks := true }, kinds := [], alts := [], laidByText := true, laidKinds := [.data, .listed, .data, .pinned], laidTests := true, laidLooks := .later }
def ScanLiteralsUptoCardSaid : Prop := Claim7.holds Tryz.pinned (.plain (OpenSpec.upto scanLiteralsSpec)) scanLiteralsUptoCard

/-- THE SECOND FORM's CARD OF 'qanatlaw03.ScanWrites'. -/
def scanWritesUptoCard : Claim7 := { stood := { row := scanWritesUptoRow, standIns := [], harness := (true, "65155389e9bf93d6fc95405b02baa2a6f343e5ad54b9c95e476354b36651d7da"), looks := true }, kinds := [], alts := [], laidByText := true, laidKinds := [.data, .listed, .data, .pinned], laidTests := true, laidLooks := .later }
def ScanWritesUptoCardSaid : Prop := Claim7.holds Tryz.pinned (.plain (OpenSpec.upto scanWritesSpec)) scanWritesUptoCard

/-- THE SECOND FORM's CARD OF 'qanatlaw03.ScanBack'. -/
def scanBackUptoCard : Claim7 := { stood := { row := scanBackUptoRow, standIns := [], harness := (true, "65155389e9bf93d6fc95405b02baa2a6f343e5ad54b9c95e476354b36651d7da"), looks := true }, kinds := [], alts := [], laidByText := true, laidKinds := [.data, .listed, .data, .pinned], laidTests := true, laidLooks := .later }
def ScanBackUptoCardSaid : Prop := Claim7.holds Tryz.pinned (.plain (OpenSpec.upto scanBackSpec)) scanBackUptoCard

/-- THE SECOND FORM's CARD OF 'qanatlaw03.ScanLocal'. -/
def scanLocalUptoCard : Claim7 := { stood := { row := scanLocalUptoRow, standIns := [], harness := (true, "65155389e9bf93d6fc95405b02baa2a6f343e5ad54b9c95e476354b36651d7da"), looks := true }, kinds := [], alts := [], laidByText := true, laidKinds := [.data, .listed, .data, .pinned], laidTests := true, laidLooks := .later }
def ScanLocalUptoCardSaid : Prop := Claim7.holds Tryz.pinned (.plain (OpenSpec.upto scanLocalSpec)) scanLocalUptoCard

/-- THE SECOND FORM's CARD OF 'qanatlaw03.ScanCase'. -/
def scanCaseUptoCard : Claim7 := { stood := { row := scanCaseUptoRow, standIns := [], harness := (true, "65155389e9bf93d6fc95405b02baa2a6f343e5ad54b9c95e476354b36651d7da"), looks := true }, kinds := [], alts := [], laidByText := true, laidKinds := [.data, .listed, .data, .pinned], laidTests := true, laidLooks := .later }
def ScanCaseUptoCardSaid : Prop := Claim7.holds Tryz.pinned (.plain (OpenSpec.upto scanCaseSpec)) scanCaseUptoCard

/-- THE SECOND FORM's CARD OF 'qanatlaw03.ScanComments'. -/
def scanCommentsUptoCard : Claim7 := { stood := { row := scanCommentsUptoRow, standIns := [], harness := (true, "65155389e9bf93d6fc95405b02baa2a6f343e5ad54b9c95e476354b36651d7da"), looks := true }, kinds := [], alts := [], laidByText := true, laidKinds := [.data, .listed, .data, .pinned], laidTests := true, laidLooks := .later }
def ScanCommentsUptoCardSaid : Prop := Claim7.holds Tryz.pinned (.plain (OpenSpec.upto scanCommentsSpec)) scanCommentsUptoCard

/-- THE SECOND FORM's CARD OF 'qanatlaw03.ScanErrors'. -/
def scanErrorsUptoCard : Claim7 := { stood := { row := scanErrorsUptoRow, standIns := [], harness := (true, "65155389e9bf93d6fc95405b02baa2a6f343e5ad54b9c95e476354b36651d7da"), looks := true }, kinds := [], alts := [], laidByText := true, laidKinds := [.data, .listed, .data, .pinned], laidTests := true, laidLooks := .later }
def ScanErrorsUptoCardSaid : Prop := Claim7.holds Tryz.pinned (.plain (OpenSpec.upto scanErrorsSpec)) scanErrorsUptoCard

/-- THE SECOND FORM's CARD OF 'qanatlaw03.ScanValues'. -/
def scanValuesUptoCard : Claim7 := { stood := { row := scanValuesUptoRow, standIns := [], harness := (true, "65155389e9bf93d6fc95405b02baa2a6f343e5ad54b9c95e476354b36651d7da"), looks := true }, kinds := [], alts := [], laidByText := true, laidKinds := [.data, .listed, .data, .pinned], laidTests := true, laidLooks := .later }
def ScanValuesUptoCardSaid : Prop := Claim7.holds Tryz.pinned (.plain (OpenSpec.upto scanValuesSpec)) scanValuesUptoCard

/-- THE SECOND FORM's CARD OF 'qanatlaw03.ScanCovers'. -/
def scanCoversUptoCard : Claim7 := { stood := { row := scanCoversUptoRow, standIns := [], harness := (true, "65155389e9bf93d6fc95405b02baa2a6f343e5ad54b9c95e476354b36651d7da"), looks := true }, kinds := [], alts := [], laidByText := true, laidKinds := [.data, .listed, .data, .pinned], laidTests := true, laidLooks := .later }
def ScanCoversUptoCardSaid : Prop := Claim7.holds Tryz.pinned (.plain (OpenSpec.upto scanCoversSpec)) scanCoversUptoCard

/-- THE SECOND FORM's CARD OF 'qanatlaw03.ScanLines'. -/
def scanLinesUptoCard : Claim7 := { stood := { row := scanLinesUptoRow, standIns := [], harness := (true, "65155389e9bf93d6fc95405b02baa2a6f343e5ad54b9c95e476354b36651d7da"), looks := true }, kinds := [], alts := [], laidByText := true, laidKinds := [.data, .listed, .data, .pinned], laidTests := true, laidLooks := .later }
def ScanLinesUptoCardSaid : Prop := Claim7.holds Tryz.pinned (.plain (OpenSpec.upto scanLinesSpec)) scanLinesUptoCard
end Rows
end Go.Proofs.YtkkpjonfaflkmaaGreatDoor
