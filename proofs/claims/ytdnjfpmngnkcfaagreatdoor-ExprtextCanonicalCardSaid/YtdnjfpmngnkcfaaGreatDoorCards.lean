/-
  DERIVED. GIVEN WITH THE SEED: THE CARDS: each row of YtdnjfpmngnkcfaaGreatDoorRows.lean that lists a variable, with what it lists TIED to the program's text (the seventh form; the later family's looks); each row that meets fmt, with fmt's text TOLD by the authors' own Lean function (tested against real Go, not proved from fmt's source: count such statements apart). THE CARD IS WHAT COUNTS. Prove the row's statement (the work); the ties are given (YtdnjfpmngnkcfaaGreatDoorTie.lean); close each card by the builder's one call (the guide's Derived/Test/ToyasCard.lean, 'card_holds'). Laid BY PROGRAM, IN A SANDBOX (cutbox-door.mjs). By AI agents, Wed Nov 11 2026. No macro, syntax, notation, axiom, sorry.
-/
import Derived.Test.YtdnjfpmngnkcfaaGreatDoorRows
import GoSem.ClaimSeven
namespace Go.Proofs.YtdnjfpmngnkcfaaGreatDoor
namespace Rows

/-- THE TIED CARD OF 'guerdonlaw11.ExprtextRoundTrip'. -/
def exprtextRoundTripCard : Claim7 := { stood := { row := exprtextRoundTripRow, standIns := [], harness := (true, "a0cea3eed0b1bf5e68be4a55d5c9f66705e7ce342c1b79a1e930caff83c51ffe"), looks := false }, kinds := [], alts := [], laidByText := true, laidKinds := [.data, .data, .data, .data], laidTests := true, laidLooks := .later }
def ExprtextRoundTripCardSaid : Prop := Claim7.holds Tryz.pinned (.plain (OpenSpec.ofChange exprtextRoundTripSpec)) exprtextRoundTripCard

/-- THE TIED CARD OF 'guerdonlaw11.ExprtextCanonical'. -/
def exprtextCanonicalCard : Claim7 := { stood := { row := exprtextCanonicalRow, standIns := [], harness := (true, "a0cea3eed0b1bf5e68be4a55d5c9f66705e7ce342c1b79a1e930caff83c51ffe"), looks := false }, kinds := [], alts := [], laidByText := true, laidKinds := [.data, .data, .data, .data], laidTests := true, laidLooks := .later }
def ExprtextCanonicalCardSaid : Prop := Claim7.holds Tryz.pinned (.plain (OpenSpec.ofChange exprtextCanonicalSpec)) exprtextCanonicalCard

/-- THE TIED CARD OF 'guerdonlaw11.ExprtextGrouping'. -/
def exprtextGroupingCard : Claim7 := { stood := { row := exprtextGroupingRow, standIns := [], harness := (true, "a0cea3eed0b1bf5e68be4a55d5c9f66705e7ce342c1b79a1e930caff83c51ffe"), looks := false }, kinds := [], alts := [], laidByText := true, laidKinds := [.data, .data, .data, .data], laidTests := true, laidLooks := .later }
def ExprtextGroupingCardSaid : Prop := Claim7.holds Tryz.pinned (.plain (OpenSpec.ofChange exprtextGroupingSpec)) exprtextGroupingCard

/-- THE SECOND FORM's CARD OF 'guerdonlaw11.ExprtextRoundTrip'. -/
def exprtextRoundTripUptoCard : Claim7 := { stood := { row := exprtextRoundTripUptoRow, standIns := [], harness := (true, "a0cea3eed0b1bf5e68be4a55d5c9f66705e7ce342c1b79a1e930caff83c51ffe"), looks := false }, kinds := [], alts := [], laidByText := true, laidKinds := [.data, .data, .data, .data], laidTests := true, laidLooks := .later }
def ExprtextRoundTripUptoCardSaid : Prop := Claim7.holds Tryz.pinned (.plain (OpenSpec.upto exprtextRoundTripSpec)) exprtextRoundTripUptoCard

/-- THE SECOND FORM's CARD OF 'guerdonlaw11.ExprtextCanonical'. -/
def exprtextCanonicalUptoCard : Claim7 := { stood := { row := exprtextCanonicalUptoRow, standIns := [], harness := (true, "a0cea3eed0b1bf5e68be4a55d5c9f66705e7ce342c1b79a1e930caff83c51ffe"), looks := false }, kinds := [], alts := [], laidByText := true, laidKinds := [.data, .data, .data, .data], laidTests := true, laidLooks := .later }
def ExprtextCanonicalUptoCardSaid : Prop := Claim7.holds Tryz.pinned (.plain (OpenSpec.upto exprtextCanonicalSpec)) exprtextCanonicalUptoCard

/-- THE SECOND FORM's CARD OF 'guerdonlaw11.ExprtextGrouping'. -/
def exprtextGroupingUptoCard : Claim7 := { stood := { row := exprtextGroupingUptoRow, standIns := [], harness := (true, "a0cea3eed0b1bf5e68be4a55d5c9f66705e7ce342c1b79a1e930caff83c51ffe"), looks := false }, kinds := [], alts := [], laidByText := true, laidKinds := [.data, .data, .data, .data], laidTests := true, laidLooks := .later }
def ExprtextGroupingUptoCardSaid : Prop := Claim7.holds Tryz.pinned (.plain (OpenSpec.upto exprtextGroupingSpec)) exprtextGroupingUptoCard
end Rows
end Go.Proofs.YtdnjfpmngnkcfaaGreatDoor
