/-
  DERIVED. GIVEN WITH THE SEED: THE CARDS: each row of YtplconloofpakaaDoorRows.lean that lists a variable, with what it lists TIED to the program's text (the seventh form; the later family's looks); each row that meets fmt, with fmt's text TOLD by the authors' own Lean function (tested against real Go, not proved from fmt's source: count such statements apart). THE CARD IS WHAT COUNTS. Prove the row's statement (the work); the ties are given (YtplconloofpakaaDoorTie.lean); close each card by the builder's one call (the guide's Derived/Test/ToyasCard.lean, 'card_holds'). Laid BY PROGRAM, IN A SANDBOX (cutbox-door.mjs). By AI agents, Wed Nov 11 2026. No macro, syntax, notation, axiom, sorry.
-/
import Derived.Test.YtplconloofpakaaDoorRows
import GoSem.ClaimSeven
namespace Go.Proofs.YtplconloofpakaaDoor
namespace Rows

/-- THE TIED CARD OF 'guerdonlaw04.DateFields'. -/
def dateFieldsCard : Claim7 := { stood := { row := dateFieldsRow, standIns := [], harness := (true, "baacd06b2cf9ed9143a0af072602e478eb3ca0b9f24b94a5415e651d63f25f83"), looks := false }, kinds := [], alts := [], laidByText := true, laidKinds := [.data, .data, .data, .data], laidTests := true, laidLooks := .later }
def DateFieldsCardSaid : Prop := Claim7.holds Tryd.pinned (.plain (OpenSpec.ofChange dateFieldsSpec)) dateFieldsCard

/-- THE TIED CARD OF 'guerdonlaw04.DateMonths'. -/
def dateMonthsCard : Claim7 := { stood := { row := dateMonthsRow, standIns := [], harness := (true, "baacd06b2cf9ed9143a0af072602e478eb3ca0b9f24b94a5415e651d63f25f83"), looks := false }, kinds := [], alts := [], laidByText := true, laidKinds := [.data, .data, .data, .data], laidTests := true, laidLooks := .later }
def DateMonthsCardSaid : Prop := Claim7.holds Tryd.pinned (.plain (OpenSpec.ofChange dateMonthsSpec)) dateMonthsCard

/-- THE TIED CARD OF 'guerdonlaw04.DateAnniversary'. -/
def dateAnniversaryCard : Claim7 := { stood := { row := dateAnniversaryRow, standIns := [], harness := (true, "baacd06b2cf9ed9143a0af072602e478eb3ca0b9f24b94a5415e651d63f25f83"), looks := false }, kinds := [], alts := [], laidByText := true, laidKinds := [.data, .data, .data, .data], laidTests := true, laidLooks := .later }
def DateAnniversaryCardSaid : Prop := Claim7.holds Tryd.pinned (.plain (OpenSpec.ofChange dateAnniversarySpec)) dateAnniversaryCard

/-- THE TIED CARD OF 'guerdonlaw04.DateTexts'. -/
def dateTextsCard : Claim7 := { stood := { row := dateTextsRow, standIns := [], harness := (true, "baacd06b2cf9ed9143a0af072602e478eb3ca0b9f24b94a5415e651d63f25f83"), looks := false }, kinds := [], alts := [], laidByText := true, laidKinds := [.data, .data, .data, .data], laidTests := true, laidLooks := .later }
def DateTextsCardSaid : Prop := Claim7.holds Tryd.pinned (.plain (OpenSpec.ofChange dateTextsSpec)) dateTextsCard

/-- THE TIED CARD OF 'guerdonlaw04.DateRoundTrip'. -/
def dateRoundTripCard : Claim7 := { stood := { row := dateRoundTripRow, standIns := [], harness := (true, "baacd06b2cf9ed9143a0af072602e478eb3ca0b9f24b94a5415e651d63f25f83"), looks := false }, kinds := [], alts := [], laidByText := true, laidKinds := [.data, .data, .data, .data], laidTests := true, laidLooks := .later }
def DateRoundTripCardSaid : Prop := Claim7.holds Tryd.pinned (.plain (OpenSpec.ofChange dateRoundTripSpec)) dateRoundTripCard

/-- THE TIED CARD OF 'guerdonlaw01.NumtextInts'. -/
def numtextIntsCard : Claim7 := { stood := { row := numtextIntsRow, standIns := [], harness := (true, "baacd06b2cf9ed9143a0af072602e478eb3ca0b9f24b94a5415e651d63f25f83"), looks := false }, kinds := [], alts := [], laidByText := true, laidKinds := [.data, .data, .data], laidTests := true, laidLooks := .later }
def NumtextIntsCardSaid : Prop := Claim7.holds Tryd.pinned (.plain (OpenSpec.ofChange numtextIntsSpec)) numtextIntsCard

/-- THE TIED CARD OF 'guerdonlaw01.NumtextFixed'. -/
def numtextFixedCard : Claim7 := { stood := { row := numtextFixedRow, standIns := [], harness := (true, "baacd06b2cf9ed9143a0af072602e478eb3ca0b9f24b94a5415e651d63f25f83"), looks := false }, kinds := [], alts := [], laidByText := true, laidKinds := [.data, .data, .data], laidTests := true, laidLooks := .later }
def NumtextFixedCardSaid : Prop := Claim7.holds Tryd.pinned (.plain (OpenSpec.ofChange numtextFixedSpec)) numtextFixedCard

/-- THE TIED CARD OF 'guerdonlaw01.NumtextFields'. -/
def numtextFieldsCard : Claim7 := { stood := { row := numtextFieldsRow, standIns := [], harness := (true, "baacd06b2cf9ed9143a0af072602e478eb3ca0b9f24b94a5415e651d63f25f83"), looks := false }, kinds := [], alts := [], laidByText := true, laidKinds := [.data, .data, .data], laidTests := true, laidLooks := .later }
def NumtextFieldsCardSaid : Prop := Claim7.holds Tryd.pinned (.plain (OpenSpec.ofChange numtextFieldsSpec)) numtextFieldsCard

/-- THE TIED CARD OF 'guerdonlaw01.NumtextLines'. -/
def numtextLinesCard : Claim7 := { stood := { row := numtextLinesRow, standIns := [], harness := (true, "baacd06b2cf9ed9143a0af072602e478eb3ca0b9f24b94a5415e651d63f25f83"), looks := false }, kinds := [], alts := [], laidByText := true, laidKinds := [.data, .data, .data], laidTests := true, laidLooks := .later }
def NumtextLinesCardSaid : Prop := Claim7.holds Tryd.pinned (.plain (OpenSpec.ofChange numtextLinesSpec)) numtextLinesCard

/-- THE TIED CARD OF 'guerdonlaw01.NumtextRoundTrip'. -/
def numtextRoundTripCard : Claim7 := { stood := { row := numtextRoundTripRow, standIns := [], harness := (true, "baacd06b2cf9ed9143a0af072602e478eb3ca0b9f24b94a5415e651d63f25f83"), looks := false }, kinds := [], alts := [], laidByText := true, laidKinds := [.data, .data, .data], laidTests := true, laidLooks := .later }
def NumtextRoundTripCardSaid : Prop := Claim7.holds Tryd.pinned (.plain (OpenSpec.ofChange numtextRoundTripSpec)) numtextRoundTripCard

/-- THE TIED CARD OF 'guerdonlaw01.NumtextCanonical'. -/
def numtextCanonicalCard : Claim7 := { stood := { row := numtextCanonicalRow, standIns := [], harness := (true, "baacd06b2cf9ed9143a0af072602e478eb3ca0b9f24b94a5415e651d63f25f83"), looks := false }, kinds := [], alts := [], laidByText := true, laidKinds := [.data, .data, .data], laidTests := true, laidLooks := .later }
def NumtextCanonicalCardSaid : Prop := Claim7.holds Tryd.pinned (.plain (OpenSpec.ofChange numtextCanonicalSpec)) numtextCanonicalCard

/-- THE SECOND FORM's CARD OF 'guerdonlaw04.DateFields'. -/
def dateFieldsUptoCard : Claim7 := { stood := { row := dateFieldsUptoRow, standIns := [], harness := (true, "baacd06b2cf9ed9143a0af072602e478eb3ca0b9f24b94a5415e651d63f25f83"), looks := false }, kinds := [], alts := [], laidByText := true, laidKinds := [.data, .data, .data, .data], laidTests := true, laidLooks := .later }
def DateFieldsUptoCardSaid : Prop := Claim7.holds Tryd.pinned (.plain (OpenSpec.upto dateFieldsSpec)) dateFieldsUptoCard

/-- THE SECOND FORM's CARD OF 'guerdonlaw04.DateMonths'. -/
def dateMonthsUptoCard : Claim7 := { stood := { row := dateMonthsUptoRow, standIns := [], harness := (true, "baacd06b2cf9ed9143a0af072602e478eb3ca0b9f24b94a5415e651d63f25f83"), looks := false }, kinds := [], alts := [], laidByText := true, laidKinds := [.data, .data, .data, .data], laidTests := true, laidLooks := .later }
def DateMonthsUptoCardSaid : Prop := Claim7.holds Tryd.pinned (.plain (OpenSpec.upto dateMonthsSpec)) dateMonthsUptoCard

/-- THE SECOND FORM's CARD OF 'guerdonlaw04.DateAnniversary'. -/
def dateAnniversaryUptoCard : Claim7 := { stood := { row := dateAnniversaryUptoRow, standIns := [], harness := (true, "baacd06b2cf9ed9143a0af072602e478eb3ca0b9f24b94a5415e651d63f25f83"), looks := false }, kinds := [], alts := [], laidByText := true, laidKinds := [.data, .data, .data, .data], laidTests := true, laidLooks := .later }
def DateAnniversaryUptoCardSaid : Prop := Claim7.holds Tryd.pinned (.plain (OpenSpec.upto dateAnniversarySpec)) dateAnniversaryUptoCard

/-- THE SECOND FORM's CARD OF 'guerdonlaw04.DateTexts'. -/
def dateTextsUptoCard : Claim7 := { stood := { row := dateTextsUptoRow, standIns := [], harness := (true, "baacd06b2cf9ed9143a0af072602e478eb3ca0b9f24b94a5415e651d63f25f83"), looks := false }, kinds := [], alts := [], laidByText := true, laidKinds := [.data, .data, .data, .data], laidTests := true, laidLooks := .later }
def DateTextsUptoCardSaid : Prop := Claim7.holds Tryd.pinned (.plain (OpenSpec.upto dateTextsSpec)) dateTextsUptoCard

/-- THE SECOND FORM's CARD OF 'guerdonlaw04.DateRoundTrip'. -/
def dateRoundTripUptoCard : Claim7 := { stood := { row := dateRoundTripUptoRow, standIns := [], harness := (true, "baacd06b2cf9ed9143a0af072602e478eb3ca0b9f24b94a5415e651d63f25f83"), looks := false }, kinds := [], alts := [], laidByText := true, laidKinds := [.data, .data, .data, .data], laidTests := true, laidLooks := .later }
def DateRoundTripUptoCardSaid : Prop := Claim7.holds Tryd.pinned (.plain (OpenSpec.upto dateRoundTripSpec)) dateRoundTripUptoCard

/-- THE SECOND FORM's CARD OF 'guerdonlaw01.NumtextInts'. -/
def numtextIntsUptoCard : Claim7 := { stood := { row := numtextIntsUptoRow, standIns := [], harness := (true, "baacd06b2cf9ed9143a0af072602e478eb3ca0b9f24b94a5415e651d63f25f83"), looks := false }, kinds := [], alts := [], laidByText := true, laidKinds := [.data, .data, .data], laidTests := true, laidLooks := .later }
def NumtextIntsUptoCardSaid : Prop := Claim7.holds Tryd.pinned (.plain (OpenSpec.upto numtextIntsSpec)) numtextIntsUptoCard

/-- THE SECOND FORM's CARD OF 'guerdonlaw01.NumtextFixed'. -/
def numtextFixedUptoCard : Claim7 := { stood := { row := numtextFixedUptoRow, standIns := [], harness := (true, "baacd06b2cf9ed9143a0af072602e478eb3ca0b9f24b94a5415e651d63f25f83"), looks := false }, kinds := [], alts := [], laidByText := true, laidKinds := [.data, .data, .data], laidTests := true, laidLooks := .later }
def NumtextFixedUptoCardSaid : Prop := Claim7.holds Tryd.pinned (.plain (OpenSpec.upto numtextFixedSpec)) numtextFixedUptoCard

/-- THE SECOND FORM's CARD OF 'guerdonlaw01.NumtextFields'. -/
def numtextFieldsUptoCard : Claim7 := { stood := { row := numtextFieldsUptoRow, standIns := [], harness := (true, "baacd06b2cf9ed9143a0af072602e478eb3ca0b9f24b94a5415e651d63f25f83"), looks := false }, kinds := [], alts := [], laidByText := true, laidKinds := [.data, .data, .data], laidTests := true, laidLooks := .later }
def NumtextFieldsUptoCardSaid : Prop := Claim7.holds Tryd.pinned (.plain (OpenSpec.upto numtextFieldsSpec)) numtextFieldsUptoCard

/-- THE SECOND FORM's CARD OF 'guerdonlaw01.NumtextLines'. -/
def numtextLinesUptoCard : Claim7 := { stood := { row := numtextLinesUptoRow, standIns := [], harness := (true, "baacd06b2cf9ed9143a0af072602e478eb3ca0b9f24b94a5415e651d63f25f83"), looks := false }, kinds := [], alts := [], laidByText := true, laidKinds := [.data, .data, .data], laidTests := true, laidLooks := .later }
def NumtextLinesUptoCardSaid : Prop := Claim7.holds Tryd.pinned (.plain (OpenSpec.upto numtextLinesSpec)) numtextLinesUptoCard

/-- THE SECOND FORM's CARD OF 'guerdonlaw01.NumtextRoundTrip'. -/
def numtextRoundTripUptoCard : Claim7 := { stood := { row := numtextRoundTripUptoRow, standIns := [], harness := (true, "baacd06b2cf9ed9143a0af072602e478eb3ca0b9f24b94a5415e651d63f25f83"), looks := false }, kinds := [], alts := [], laidByText := true, laidKinds := [.data, .data, .data], laidTests := true, laidLooks := .later }
def NumtextRoundTripUptoCardSaid : Prop := Claim7.holds Tryd.pinned (.plain (OpenSpec.upto numtextRoundTripSpec)) numtextRoundTripUptoCard

/-- THE SECOND FORM's CARD OF 'guerdonlaw01.NumtextCanonical'. -/
def numtextCanonicalUptoCard : Claim7 := { stood := { row := numtextCanonicalUptoRow, standIns := [], harness := (true, "baacd06b2cf9ed9143a0af072602e478eb3ca0b9f24b94a5415e651d63f25f83"), looks := false }, kinds := [], alts := [], laidByText := true, laidKinds := [.data, .data, .data], laidTests := true, laidLooks := .later }
def NumtextCanonicalUptoCardSaid : Prop := Claim7.holds Tryd.pinned (.plain (OpenSpec.upto numtextCanonicalSpec)) numtextCanonicalUptoCard
end Rows
end Go.Proofs.YtplconloofpakaaDoor
