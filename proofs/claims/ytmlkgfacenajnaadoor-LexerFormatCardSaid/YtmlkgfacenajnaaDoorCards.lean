/-
  DERIVED. GIVEN WITH THE SEED: THE CARDS: each row of YtmlkgfacenajnaaDoorRows.lean that lists a variable, with what it lists TIED to the program's text (the seventh form; the later family's looks); each row that meets fmt, with fmt's text TOLD by the authors' own Lean function (tested against real Go, not proved from fmt's source: count such statements apart). THE CARD IS WHAT COUNTS. Prove the row's statement (the work); the ties are given (YtmlkgfacenajnaaDoorTie.lean); close each card by the builder's one call (the guide's Derived/Test/ToyasCard.lean, 'card_holds'). Laid BY PROGRAM, IN A SANDBOX (cutbox-door.mjs). By AI agents, Wed Nov 11 2026. No macro, syntax, notation, axiom, sorry.
-/
import Derived.Test.YtmlkgfacenajnaaDoorRows
import GoSem.ClaimSeven
namespace Go.Proofs.YtmlkgfacenajnaaDoor
namespace Rows

/-- THE TIED CARD OF 'guerdonlaw08.LexerTokenize'. -/
def lexerTokenizeCard : Claim7 := { stood := { row := lexerTokenizeRow, standIns := [], harness := (true, "bbd047076565ceb531938cc09a94cdd1c677cba39db728e0e9c9ad3f9177cc28"), looks := false }, kinds := [], alts := [], laidByText := true, laidKinds := [.data], laidTests := true, laidLooks := .later }
def LexerTokenizeCardSaid : Prop := Claim7.holds Tryd.pinned (.plain (OpenSpec.ofChange lexerTokenizeSpec)) lexerTokenizeCard

/-- THE TIED CARD OF 'guerdonlaw08.LexerIdentifier'. -/
def lexerIdentifierCard : Claim7 := { stood := { row := lexerIdentifierRow, standIns := [], harness := (true, "bbd047076565ceb531938cc09a94cdd1c677cba39db728e0e9c9ad3f9177cc28"), looks := false }, kinds := [], alts := [], laidByText := true, laidKinds := [.data], laidTests := true, laidLooks := .later }
def LexerIdentifierCardSaid : Prop := Claim7.holds Tryd.pinned (.plain (OpenSpec.ofChange lexerIdentifierSpec)) lexerIdentifierCard

/-- THE TIED CARD OF 'guerdonlaw08.LexerOffsets'. -/
def lexerOffsetsCard : Claim7 := { stood := { row := lexerOffsetsRow, standIns := [], harness := (true, "bbd047076565ceb531938cc09a94cdd1c677cba39db728e0e9c9ad3f9177cc28"), looks := false }, kinds := [], alts := [], laidByText := true, laidKinds := [.data], laidTests := true, laidLooks := .later }
def LexerOffsetsCardSaid : Prop := Claim7.holds Tryd.pinned (.plain (OpenSpec.ofChange lexerOffsetsSpec)) lexerOffsetsCard

/-- THE TIED CARD OF 'guerdonlaw08.LexerFormat'. -/
def lexerFormatCard : Claim7 := { stood := { row := lexerFormatRow, standIns := [], harness := (true, "bbd047076565ceb531938cc09a94cdd1c677cba39db728e0e9c9ad3f9177cc28"), looks := false }, kinds := [], alts := [], laidByText := true, laidKinds := [.data], laidTests := true, laidLooks := .later }
def LexerFormatCardSaid : Prop := Claim7.holds Tryd.pinned (.plain (OpenSpec.ofChange lexerFormatSpec)) lexerFormatCard

/-- THE TIED CARD OF 'guerdonlaw08.LexerRoundTrip'. -/
def lexerRoundTripCard : Claim7 := { stood := { row := lexerRoundTripRow, standIns := [], harness := (true, "bbd047076565ceb531938cc09a94cdd1c677cba39db728e0e9c9ad3f9177cc28"), looks := false }, kinds := [], alts := [], laidByText := true, laidKinds := [.data], laidTests := true, laidLooks := .later }
def LexerRoundTripCardSaid : Prop := Claim7.holds Tryd.pinned (.plain (OpenSpec.ofChange lexerRoundTripSpec)) lexerRoundTripCard

/-- THE TIED CARD OF 'guerdonlaw07.MonthRanges'. -/
def monthRangesCard : Claim7 := { stood := { row := monthRangesRow, standIns := [], harness := (true, "bbd047076565ceb531938cc09a94cdd1c677cba39db728e0e9c9ad3f9177cc28"), looks := false }, kinds := [], alts := [], laidByText := true, laidKinds := [.data, .data, .data, .data], laidTests := true, laidLooks := .later }
def MonthRangesCardSaid : Prop := Claim7.holds Tryd.pinned (.plain (OpenSpec.ofChange monthRangesSpec)) monthRangesCard

/-- THE TIED CARD OF 'guerdonlaw07.MonthPayDate'. -/
def monthPayDateCard : Claim7 := { stood := { row := monthPayDateRow, standIns := [], harness := (true, "bbd047076565ceb531938cc09a94cdd1c677cba39db728e0e9c9ad3f9177cc28"), looks := false }, kinds := [], alts := [], laidByText := true, laidKinds := [.data, .data, .data, .data], laidTests := true, laidLooks := .later }
def MonthPayDateCardSaid : Prop := Claim7.holds Tryd.pinned (.plain (OpenSpec.ofChange monthPayDateSpec)) monthPayDateCard

/-- THE TIED CARD OF 'guerdonlaw07.MonthTexts'. -/
def monthTextsCard : Claim7 := { stood := { row := monthTextsRow, standIns := [], harness := (true, "bbd047076565ceb531938cc09a94cdd1c677cba39db728e0e9c9ad3f9177cc28"), looks := false }, kinds := [], alts := [], laidByText := true, laidKinds := [.data, .data, .data, .data], laidTests := true, laidLooks := .later }
def MonthTextsCardSaid : Prop := Claim7.holds Tryd.pinned (.plain (OpenSpec.ofChange monthTextsSpec)) monthTextsCard

/-- THE TIED CARD OF 'guerdonlaw07.MonthPartition'. -/
def monthPartitionCard : Claim7 := { stood := { row := monthPartitionRow, standIns := [], harness := (true, "bbd047076565ceb531938cc09a94cdd1c677cba39db728e0e9c9ad3f9177cc28"), looks := false }, kinds := [], alts := [], laidByText := true, laidKinds := [.data, .data, .data, .data], laidTests := true, laidLooks := .later }
def MonthPartitionCardSaid : Prop := Claim7.holds Tryd.pinned (.plain (OpenSpec.ofChange monthPartitionSpec)) monthPartitionCard

/-- THE TIED CARD OF 'guerdonlaw07.MonthOverlap'. -/
def monthOverlapCard : Claim7 := { stood := { row := monthOverlapRow, standIns := [], harness := (true, "bbd047076565ceb531938cc09a94cdd1c677cba39db728e0e9c9ad3f9177cc28"), looks := false }, kinds := [], alts := [], laidByText := true, laidKinds := [.data, .data, .data, .data], laidTests := true, laidLooks := .later }
def MonthOverlapCardSaid : Prop := Claim7.holds Tryd.pinned (.plain (OpenSpec.ofChange monthOverlapSpec)) monthOverlapCard

/-- THE SECOND FORM's CARD OF 'guerdonlaw08.LexerTokenize'. -/
def lexerTokenizeUptoCard : Claim7 := { stood := { row := lexerTokenizeUptoRow, standIns := [], harness := (true, "bbd047076565ceb531938cc09a94cdd1c677cba39db728e0e9c9ad3f9177cc28"), looks := false }, kinds := [], alts := [], laidByText := true, laidKinds := [.data], laidTests := true, laidLooks := .later }
def LexerTokenizeUptoCardSaid : Prop := Claim7.holds Tryd.pinned (.plain (OpenSpec.upto lexerTokenizeSpec)) lexerTokenizeUptoCard

/-- THE SECOND FORM's CARD OF 'guerdonlaw08.LexerIdentifier'. -/
def lexerIdentifierUptoCard : Claim7 := { stood := { row := lexerIdentifierUptoRow, standIns := [], harness := (true, "bbd047076565ceb531938cc09a94cdd1c677cba39db728e0e9c9ad3f9177cc28"), looks := false }, kinds := [], alts := [], laidByText := true, laidKinds := [.data], laidTests := true, laidLooks := .later }
def LexerIdentifierUptoCardSaid : Prop := Claim7.holds Tryd.pinned (.plain (OpenSpec.upto lexerIdentifierSpec)) lexerIdentifierUptoCard

/-- THE SECOND FORM's CARD OF 'guerdonlaw08.LexerOffsets'. -/
def lexerOffsetsUptoCard : Claim7 := { stood := { row := lexerOffsetsUptoRow, standIns := [], harness := (true, "bbd047076565ceb531938cc09a94cdd1c677cba39db728e0e9c9ad3f9177cc28"), looks := false }, kinds := [], alts := [], laidByText := true, laidKinds := [.data], laidTests := true, laidLooks := .later }
def LexerOffsetsUptoCardSaid : Prop := Claim7.holds Tryd.pinned (.plain (OpenSpec.upto lexerOffsetsSpec)) lexerOffsetsUptoCard

/-- THE SECOND FORM's CARD OF 'guerdonlaw08.LexerFormat'. -/
def lexerFormatUptoCard : Claim7 := { stood := { row := lexerFormatUptoRow, standIns := [], harness := (true, "bbd047076565ceb531938cc09a94cdd1c677cba39db728e0e9c9ad3f9177cc28"), looks := false }, kinds := [], alts := [], laidByText := true, laidKinds := [.data], laidTests := true, laidLooks := .later }
def LexerFormatUptoCardSaid : Prop := Claim7.holds Tryd.pinned (.plain (OpenSpec.upto lexerFormatSpec)) lexerFormatUptoCard

/-- THE SECOND FORM's CARD OF 'guerdonlaw08.LexerRoundTrip'. -/
def lexerRoundTripUptoCard : Claim7 := { stood := { row := lexerRoundTripUptoRow, standIns := [], harness := (true, "bbd047076565ceb531938cc09a94cdd1c677cba39db728e0e9c9ad3f9177cc28"), looks := false }, kinds := [], alts := [], laidByText := true, laidKinds := [.data], laidTests := true, laidLooks := .later }
def LexerRoundTripUptoCardSaid : Prop := Claim7.holds Tryd.pinned (.plain (OpenSpec.upto lexerRoundTripSpec)) lexerRoundTripUptoCard

/-- THE SECOND FORM's CARD OF 'guerdonlaw07.MonthRanges'. -/
def monthRangesUptoCard : Claim7 := { stood := { row := monthRangesUptoRow, standIns := [], harness := (true, "bbd047076565ceb531938cc09a94cdd1c677cba39db728e0e9c9ad3f9177cc28"), looks := false }, kinds := [], alts := [], laidByText := true, laidKinds := [.data, .data, .data, .data], laidTests := true, laidLooks := .later }
def MonthRangesUptoCardSaid : Prop := Claim7.holds Tryd.pinned (.plain (OpenSpec.upto monthRangesSpec)) monthRangesUptoCard

/-- THE SECOND FORM's CARD OF 'guerdonlaw07.MonthPayDate'. -/
def monthPayDateUptoCard : Claim7 := { stood := { row := monthPayDateUptoRow, standIns := [], harness := (true, "bbd047076565ceb531938cc09a94cdd1c677cba39db728e0e9c9ad3f9177cc28"), looks := false }, kinds := [], alts := [], laidByText := true, laidKinds := [.data, .data, .data, .data], laidTests := true, laidLooks := .later }
def MonthPayDateUptoCardSaid : Prop := Claim7.holds Tryd.pinned (.plain (OpenSpec.upto monthPayDateSpec)) monthPayDateUptoCard

/-- THE SECOND FORM's CARD OF 'guerdonlaw07.MonthTexts'. -/
def monthTextsUptoCard : Claim7 := { stood := { row := monthTextsUptoRow, standIns := [], harness := (true, "bbd047076565ceb531938cc09a94cdd1c677cba39db728e0e9c9ad3f9177cc28"), looks := false }, kinds := [], alts := [], laidByText := true, laidKinds := [.data, .data, .data, .data], laidTests := true, laidLooks := .later }
def MonthTextsUptoCardSaid : Prop := Claim7.holds Tryd.pinned (.plain (OpenSpec.upto monthTextsSpec)) monthTextsUptoCard

/-- THE SECOND FORM's CARD OF 'guerdonlaw07.MonthPartition'. -/
def monthPartitionUptoCard : Claim7 := { stood := { row := monthPartitionUptoRow, standIns := [], harness := (true, "bbd047076565ceb531938cc09a94cdd1c677cba39db728e0e9c9ad3f9177cc28"), looks := false }, kinds := [], alts := [], laidByText := true, laidKinds := [.data, .data, .data, .data], laidTests := true, laidLooks := .later }
def MonthPartitionUptoCardSaid : Prop := Claim7.holds Tryd.pinned (.plain (OpenSpec.upto monthPartitionSpec)) monthPartitionUptoCard

/-- THE SECOND FORM's CARD OF 'guerdonlaw07.MonthOverlap'. -/
def monthOverlapUptoCard : Claim7 := { stood := { row := monthOverlapUptoRow, standIns := [], harness := (true, "bbd047076565ceb531938cc09a94cdd1c677cba39db728e0e9c9ad3f9177cc28"), looks := false }, kinds := [], alts := [], laidByText := true, laidKinds := [.data, .data, .data, .data], laidTests := true, laidLooks := .later }
def MonthOverlapUptoCardSaid : Prop := Claim7.holds Tryd.pinned (.plain (OpenSpec.upto monthOverlapSpec)) monthOverlapUptoCard
end Rows
end Go.Proofs.YtmlkgfacenajnaaDoor
