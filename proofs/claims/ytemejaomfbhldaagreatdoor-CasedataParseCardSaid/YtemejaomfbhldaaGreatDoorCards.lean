/-
  DERIVED. GIVEN WITH THE SEED: THE CARDS: each row of YtemejaomfbhldaaGreatDoorRows.lean that lists a variable, with what it lists TIED to the program's text (the seventh form; the later family's looks); each row that meets fmt, with fmt's text TOLD by the authors' own Lean function (tested against real Go, not proved from fmt's source: count such statements apart). THE CARD IS WHAT COUNTS. Prove the row's statement (the work); the ties are given (YtemejaomfbhldaaGreatDoorTie.lean); close each card by the builder's one call (the guide's Derived/Test/ToyasCard.lean, 'card_holds'). Laid BY PROGRAM, IN A SANDBOX (cutbox-door.mjs). By AI agents, Wed Nov 11 2026. No macro, syntax, notation, axiom, sorry.
-/
import Derived.Test.YtemejaomfbhldaaGreatDoorRows
import GoSem.ClaimSeven
namespace Go.Proofs.YtemejaomfbhldaaGreatDoor
namespace Rows

/-- THE TIED CARD OF 'guerdonlaw19.CasedataFormat'. -/
def casedataFormatCard : Claim7 := { stood := { row := casedataFormatRow, standIns := [], harness := (true, "6ef3fe5c3552f86a2d1f73b45aa4663068530b1d95dbb449ee22e91aa3ae8e52"), looks := false }, kinds := [], alts := [], laidByText := true, laidKinds := [.data, .data, .data, .data, .data, .pinned], laidTests := true, laidLooks := .later }
def CasedataFormatCardSaid : Prop := Claim7.holds Tryz.pinned (.plain (OpenSpec.ofChange casedataFormatSpec)) casedataFormatCard

/-- THE TIED CARD OF 'guerdonlaw19.CasedataParse'. -/
def casedataParseCard : Claim7 := { stood := { row := casedataParseRow, standIns := [], harness := (true, "6ef3fe5c3552f86a2d1f73b45aa4663068530b1d95dbb449ee22e91aa3ae8e52"), looks := false }, kinds := [], alts := [], laidByText := true, laidKinds := [.data, .data, .data, .data, .data, .pinned], laidTests := true, laidLooks := .later }
def CasedataParseCardSaid : Prop := Claim7.holds Tryz.pinned (.plain (OpenSpec.ofChange casedataParseSpec)) casedataParseCard

/-- THE SECOND FORM's CARD OF 'guerdonlaw19.CasedataFormat'. -/
def casedataFormatUptoCard : Claim7 := { stood := { row := casedataFormatUptoRow, standIns := [], harness := (true, "6ef3fe5c3552f86a2d1f73b45aa4663068530b1d95dbb449ee22e91aa3ae8e52"), looks := false }, kinds := [], alts := [], laidByText := true, laidKinds := [.data, .data, .data, .data, .data, .pinned], laidTests := true, laidLooks := .later }
def CasedataFormatUptoCardSaid : Prop := Claim7.holds Tryz.pinned (.plain (OpenSpec.upto casedataFormatSpec)) casedataFormatUptoCard

/-- THE SECOND FORM's CARD OF 'guerdonlaw19.CasedataParse'. -/
def casedataParseUptoCard : Claim7 := { stood := { row := casedataParseUptoRow, standIns := [], harness := (true, "6ef3fe5c3552f86a2d1f73b45aa4663068530b1d95dbb449ee22e91aa3ae8e52"), looks := false }, kinds := [], alts := [], laidByText := true, laidKinds := [.data, .data, .data, .data, .data, .pinned], laidTests := true, laidLooks := .later }
def CasedataParseUptoCardSaid : Prop := Claim7.holds Tryz.pinned (.plain (OpenSpec.upto casedataParseSpec)) casedataParseUptoCard
end Rows
end Go.Proofs.YtemejaomfbhldaaGreatDoor
