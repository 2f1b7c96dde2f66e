/-
  DERIVED. GIVEN WITH THE SEED: THE CARDS: each row of YtlekfhnlhdmekaaGreatDoorRows.lean that lists a variable, with what it lists TIED to the program's text (the seventh form; the later family's looks); each row that meets fmt, with fmt's text TOLD by the authors' own Lean function (tested against real Go, not proved from fmt's source: count such statements apart). THE CARD IS WHAT COUNTS. Prove the row's statement (the work); the ties are given (YtlekfhnlhdmekaaGreatDoorTie.lean); close each card by the builder's one call (the guide's Derived/Test/ToyasCard.lean, 'card_holds'). Laid BY PROGRAM, IN A SANDBOX (cutbox-door.mjs). By AI agents, Wed Nov 11 2026. No macro, syntax, notation, axiom, sorry.
-/
import Derived.Test.YtlekfhnlhdmekaaGreatDoorRows
import GoSem.ClaimSeven
namespace Go.Proofs.YtlekfhnlhdmekaaGreatDoor
namespace Rows

/-- THE TIED CARD OF 'qanatlaw02.TextBits'. -/
def textBitsCard : Claim7 := { stood := { row := textBitsRow, standIns := [], harness := (true, "e612e791cc4a448817f71162532e86f2bb1402659913a30f634261aa3e7235e6"), looks := false }, kinds := [], alts := [], laidByText := true, laidKinds := [.data, .listed, .data, .pinned], laidTests := true, laidLooks := .later }
def TextBitsCardSaid : Prop := Claim7.holds Tryz.pinned (.plain (OpenSpec.ofChange textBitsSpec)) textBitsCard

/-- THE TIED CARD OF 'qanatlaw02.TextTables'. -/
def textTablesCard : Claim7 := { stood := { row := textTablesRow, standIns := [], harness := (true, "e612e791cc4a448817f71162532e86f2bb1402659913a30f634261aa3e7235e6"), looks := false }, kinds := [], alts := [], laidByText := true, laidKinds := [.data, .listed, .data, .pinned], laidTests := true, laidLooks := .later }
def TextTablesCardSaid : Prop := Claim7.holds Tryz.pinned (.plain (OpenSpec.ofChange textTablesSpec)) textTablesCard

/-- THE TIED CARD OF 'qanatlaw02.TextCompares'. -/
def textComparesCard : Claim7 := { stood := { row := textComparesRow, standIns := [], harness := (true, "e612e791cc4a448817f71162532e86f2bb1402659913a30f634261aa3e7235e6"), looks := false }, kinds := [], alts := [], laidByText := true, laidKinds := [.data, .listed, .data, .pinned], laidTests := true, laidLooks := .later }
def TextComparesCardSaid : Prop := Claim7.holds Tryz.pinned (.plain (OpenSpec.ofChange textComparesSpec)) textComparesCard

/-- THE TIED CARD OF 'qanatlaw02.TextWords'. -/
def textWordsCard : Claim7 := { stood := { row := textWordsRow, standIns := [], harness := (true, "e612e791cc4a448817f71162532e86f2bb1402659913a30f634261aa3e7235e6"), looks := false }, kinds := [], alts := [], laidByText := true, laidKinds := [.data, .listed, .data, .pinned], laidTests := true, laidLooks := .later }
def TextWordsCardSaid : Prop := Claim7.holds Tryz.pinned (.plain (OpenSpec.ofChange textWordsSpec)) textWordsCard

/-- THE TIED CARD OF 'qanatlaw02.TextParts'. -/
def textPartsCard : Claim7 := { stood := { row := textPartsRow, standIns := [], harness := (true, "e612e791cc4a448817f71162532e86f2bb1402659913a30f634261aa3e7235e6"), looks := false }, kinds := [], alts := [], laidByText := true, laidKinds := [.data, .listed, .data, .pinned], laidTests := true, laidLooks := .later }
def TextPartsCardSaid : Prop := Claim7.holds Tryz.pinned (.plain (OpenSpec.ofChange textPartsSpec)) textPartsCard

/-- THE TIED CARD OF 'qanatlaw02.TextSearches'. -/
def textSearchesCard : Claim7 := { stood := { row := textSearchesRow, standIns := [], harness := (true, "e612e791cc4a448817f71162532e86f2bb1402659913a30f634261aa3e7235e6"), looks := false }, kinds := [], alts := [], laidByText := true, laidKinds := [.data, .listed, .data, .pinned], laidTests := true, laidLooks := .later }
def TextSearchesCardSaid : Prop := Claim7.holds Tryz.pinned (.plain (OpenSpec.ofChange textSearchesSpec)) textSearchesCard

/-- THE TIED CARD OF 'qanatlaw02.TextOccurs'. -/
def textOccursCard : Claim7 := { stood := { row := textOccursRow, standIns := [], harness := (true, "e612e791cc4a448817f71162532e86f2bb1402659913a30f634261aa3e7235e6"), looks := false }, kinds := [], alts := [], laidByText := true, laidKinds := [.data, .listed, .data, .pinned], laidTests := true, laidLooks := .later }
def TextOccursCardSaid : Prop := Claim7.holds Tryz.pinned (.plain (OpenSpec.ofChange textOccursSpec)) textOccursCard

/-- THE TIED CARD OF 'qanatlaw02.TextSplits'. -/
def textSplitsCard : Claim7 := { stood := { row := textSplitsRow, standIns := [], harness := (true, "e612e791cc4a448817f71162532e86f2bb1402659913a30f634261aa3e7235e6"), looks := false }, kinds := [], alts := [], laidByText := true, laidKinds := [.data, .listed, .data, .pinned], laidTests := true, laidLooks := .later }
def TextSplitsCardSaid : Prop := Claim7.holds Tryz.pinned (.plain (OpenSpec.ofChange textSplitsSpec)) textSplitsCard

/-- THE TIED CARD OF 'qanatlaw02.TextSpaces'. -/
def textSpacesCard : Claim7 := { stood := { row := textSpacesRow, standIns := [], harness := (true, "e612e791cc4a448817f71162532e86f2bb1402659913a30f634261aa3e7235e6"), looks := false }, kinds := [], alts := [], laidByText := true, laidKinds := [.data, .listed, .data, .pinned], laidTests := true, laidLooks := .later }
def TextSpacesCardSaid : Prop := Claim7.holds Tryz.pinned (.plain (OpenSpec.ofChange textSpacesSpec)) textSpacesCard

/-- THE TIED CARD OF 'qanatlaw02.TextWordy'. -/
def textWordyCard : Claim7 := { stood := { row := textWordyRow, standIns := [], harness := (true, "e612e791cc4a448817f71162532e86f2bb1402659913a30f634261aa3e7235e6"), looks := false }, kinds := [], alts := [], laidByText := true, laidKinds := [.data, .listed, .data, .pinned], laidTests := true, laidLooks := .later }
def TextWordyCardSaid : Prop := Claim7.holds Tryz.pinned (.plain (OpenSpec.ofChange textWordySpec)) textWordyCard

/-- THE TIED CARD OF 'qanatlaw02.TextDigits'. -/
def textDigitsCard : Claim7 := { stood := { row := textDigitsRow, standIns := [], harness := (true, "e612e791cc4a448817f71162532e86f2bb1402659913a30f634261aa3e7235e6"), looks := false }, kinds := [], alts := [], laidByText := true, laidKinds := [.data, .listed, .data, .pinned], laidTests := true, laidLooks := .later }
def TextDigitsCardSaid : Prop := Claim7.holds Tryz.pinned (.plain (OpenSpec.ofChange textDigitsSpec)) textDigitsCard

/-- THE TIED CARD OF 'qanatlaw02.TextConverts'. -/
def textConvertsCard : Claim7 := { stood := { row := textConvertsRow, standIns := [], harness := (true, "e612e791cc4a448817f71162532e86f2bb1402659913a30f634261aa3e7235e6"), looks := false }, kinds := [], alts := [], laidByText := true, laidKinds := [.data, .listed, .data, .pinned], laidTests := true, laidLooks := .later }
def TextConvertsCardSaid : Prop := Claim7.holds Tryz.pinned (.plain (OpenSpec.ofChange textConvertsSpec)) textConvertsCard

/-- THE SECOND FORM's CARD OF 'qanatlaw02.TextBits'. -/
def textBitsUptoCard : Claim7 := { stood := { row := textBitsUptoRow, standIns := [], harness := (true, "e612e791cc4a448817f71162532e86f2bb1402659913a30f634261aa3e7235e6"), looks := false }, kinds := [], alts := [], laidByText := true, laidKinds := [.data, .listed, .data, .pinned], laidTests := true, laidLooks := .later }
def TextBitsUptoCardSaid : Prop := Claim7.holds Tryz.pinned (.plain (OpenSpec.upto textBitsSpec)) textBitsUptoCard

/-- THE SECOND FORM's CARD OF 'qanatlaw02.TextTables'. -/
def textTablesUptoCard : Claim7 := { stood := { row := textTablesUptoRow, standIns := [], harness := (true, "e612e791cc4a448817f71162532e86f2bb1402659913a30f634261aa3e7235e6"), looks := false }, kinds := [], alts := [], laidByText := true, laidKinds := [.data, .listed, .data, .pinned], laidTests := true, laidLooks := .later }
def TextTablesUptoCardSaid : Prop := Claim7.holds Tryz.pinned (.plain (OpenSpec.upto textTablesSpec)) textTablesUptoCard

/-- THE SECOND FORM's CARD OF 'qanatlaw02.TextCompares'. -/
def textComparesUptoCard : Claim7 := { stood := { row := textComparesUptoRow, standIns := [], harness := (true, "e612e791cc4a448817f71162532e86f2bb1402659913a30f634261aa3e7235e6"), looks := false }, kinds := [], alts := [], laidByText := true, laidKinds := [.data, .listed, .data, .pinned], laidTests := true, laidLooks := .later }
def TextComparesUptoCardSaid : Prop := Claim7.holds Tryz.pinned (.plain (OpenSpec.upto textComparesSpec)) textComparesUptoCard

/-- THE SECOND FORM's CARD OF 'qanatlaw02.TextWords'. -/
def textWordsUptoCard : Claim7 := { stood := { row := textWordsUptoRow, standIns := [], harness := (true, "e612e791cc4a448817f71162532e86f2bb1402659913a30f634261aa3e7235e6"), looks := false }, kinds := [], alts := [], laidByText := true, laidKinds := [.data, .listed, .data, .pinned], laidTests := true, laidLooks := .later }
def TextWordsUptoCardSaid : Prop := Claim7.holds Tryz.pinned (.plain (OpenSpec.upto textWordsSpec)) textWordsUptoCard

/-- THE SECOND FORM's CARD OF 'qanatlaw02.TextParts'. -/
def textPartsUptoCard : Claim7 := { stood := { row := textPartsUptoRow, standIns := [], harness := (true, "e612e791cc4a448817f71162532e86f2bb1402659913a30f634261aa3e7235e6"), looks := false }, kinds := [], alts := [], laidByText := true, laidKinds := [.data, .listed, .data, .pinned], laidTests := true, laidLooks := .later }
def TextPartsUptoCardSaid : Prop := Claim7.holds Tryz.pinned (.plain (OpenSpec.upto textPartsSpec)) textPartsUptoCard

/-- THE SECOND FORM's CARD OF 'qanatlaw02.TextSearches'. -/
def textSearchesUptoCard : Claim7 := { stood := { row := textSearchesUptoRow, standIns := [], harness := (true, "e612e791cc4a448817f71162532e86f2bb1402659913a30f634261aa3e7235e6"), looks := false }, kinds := [], alts := [], laidByText := true, laidKinds := [.data, .listed, .data, .pinned], laidTests := true, laidLooks := .later }
def TextSearchesUptoCardSaid : Prop := Claim7.holds Tryz.pinned (.plain (OpenSpec.upto textSearchesSpec)) textSearchesUptoCard

/-- THE SECOND FORM's CARD OF 'qanatlaw02.TextOccurs'. -/
def textOccursUptoCard : Claim7 := { stood := { row := textOccursUptoRow, standIns := [], harness := (true, "e612e791cc4a448817f71162532e86f2bb1402659913a30f634261aa3e7235e6"), looks := false }, kinds := [], alts := [], laidByText := true, laidKinds := [.data, .listed, .data, .pinned], laidTests := true, laidLooks := .later }
def TextOccursUptoCardSaid : Prop := Claim7.holds Tryz.pinned (.plain (OpenSpec.upto textOccursSpec)) textOccursUptoCard

/-- THE SECOND FORM's CARD OF 'qanatlaw02.TextSplits'. -/
def textSplitsUptoCard : Claim7 := { stood := { row := textSplitsUptoRow, standIns := [], harness := (true, "e612e791cc4a448817f71162532e86f2bb1402659913a30f634261aa3e7235e6"), looks := false }, kinds := [], alts := [], laidByText := true, laidKinds := [.data, .listed, .data, .pinned], laidTests := true, laidLooks := .later }
def TextSplitsUptoCardSaid : Prop := Claim7.holds Tryz.pinned (.plain (OpenSpec.upto textSplitsSpec)) textSplitsUptoCard

/-- THE SECOND FORM's CARD OF 'qanatlaw02.TextSpaces'. -/
def textSpacesUptoCard : Claim7 := { stood := { row := textSpacesUptoRow, standIns := [], harness := (true, "e612e791cc4a448817f71162532e86f2bb1402659913a30f634261aa3e7235e6"), looks := false }, kinds := [], alts := [], laidByText := true, laidKinds := [.data, .listed, .data, .pinned], laidTests := true, laidLooks := .later }
def TextSpacesUptoCardSaid : Prop := Claim7.holds Tryz.pinned (.plain (OpenSpec.upto textSpacesSpec)) textSpacesUptoCard

/-- THE SECOND FORM's CARD OF 'qanatlaw02.TextWordy'. -/
def textWordyUptoCard : Claim7 := { stood := { row := textWordyUptoRow, standIns := [], harness := (true, "e612e791cc4a448817f71162532e86f2bb1402659913a30f634261aa3e7235e6"), looks := false }, kinds := [], alts := [], laidByText := true, laidKinds := [.data, .listed, .data, .pinned], laidTests := true, laidLooks := .later }
def TextWordyUptoCardSaid : Prop := Claim7.holds Tryz.pinned (.plain (OpenSpec.upto textWordySpec)) textWordyUptoCard

/-- THE SECOND FORM's CARD OF 'qanatlaw02.TextDigits'. -/
def textDigitsUptoCard : Claim7 := { stood := { row := textDigitsUptoRow, standIns := [], harness := (true, "e612e791cc4a448817f71162532e86f2bb1402659913a30f634261aa3e7235e6"), looks := false }, kinds := [], alts := [], laidByText := true, laidKinds := [.data, .listed, .data, .pinned], laidTests := true, laidLooks := .later }
def TextDigitsUptoCardSaid : Prop := Claim7.holds Tryz.pinned (.plain (OpenSpec.upto textDigitsSpec)) textDigitsUptoCard

/-- THE SECOND FORM's CARD OF 'qanatlaw02.TextConverts'. -/
def textConvertsUptoCard : Claim7 := { stood := { row := textConvertsUptoRow, standIns := [], harness := (true, "e612e791cc4a448817f71162532e86f2bb1402659913a30f634261aa3e7235e6"), looks := false }, kinds := [], alts := [], laidByText := true, laidKinds := [.data, .listed, .data, .pinned], laidTests := true, laidLooks := .later }
def TextConvertsUptoCardSaid : Prop := Claim7.holds Tryz.pinned (.plain (OpenSpec.upto textConvertsSpec)) textConvertsUptoCard
end Rows
end Go.Proofs.YtlekfhnlhdmekaaGreatDoor
