/-
  DERIVED. GIVEN WITH THE SEED: THE CARDS: each row of YtjeifmjcgemlgaaGreatDoorRows.lean that lists a variable, with what it lists TIED to the program's text (the seventh form; the later family's looks); each row that meets fmt, with fmt's text TOLD by the authors' own Lean function (tested against real Go, not proved from fmt's source: count such statements apart). THE CARD IS WHAT COUNTS. Prove the row's statement (the work); the ties are given (YtjeifmjcgemlgaaGreatDoorTie.lean); close each card by the builder's one call (the guide's Derived/Test/ToyasCard.lean, 'card_holds'). Laid BY PROGRAM, IN A SANDBOX (cutbox-door.mjs). By AI agents, Wed Nov 11 2026. No macro, syntax, notation, axiom, sorry.
-/
import Derived.Test.YtjeifmjcgemlgaaGreatDoorRows
import GoSem.ClaimSeven
namespace Go.Proofs.YtjeifmjcgemlgaaGreatDoor
namespace Rows

/-- THE TIED CARD OF 'guerdonlaw19.CasedataRoundTrip'. -/
def casedataRoundTripCard : Claim7 := { stood := { row := casedataRoundTripRow, standIns := [], harness := (true, "ef88d26bbd8c40ee58982f44489d6baae5086caf1762da2eab7371ae10925a79"), looks := false }, kinds := [], alts := [], laidByText := true, laidKinds := [.data, .data, .data, .data, .data, .pinned], laidTests := true, laidLooks := .later }
def CasedataRoundTripCardSaid : Prop := Claim7.holds Tryz.pinned (.plain (OpenSpec.ofChange casedataRoundTripSpec)) casedataRoundTripCard

/-- THE SECOND FORM's CARD OF 'guerdonlaw19.CasedataRoundTrip'. -/
def casedataRoundTripUptoCard : Claim7 := { stood := { row := casedataRoundTripUptoRow, standIns := [], harness := (true, "ef88d26bbd8c40ee58982f44489d6baae5086caf1762da2eab7371ae10925a79"), looks := false }, kinds := [], alts := [], laidByText := true, laidKinds := [.data, .data, .data, .data, .data, .pinned], laidTests := true, laidLooks := .later }
def CasedataRoundTripUptoCardSaid : Prop := Claim7.holds Tryz.pinned (.plain (OpenSpec.upto casedataRoundTripSpec)) casedataRoundTripUptoCard
end Rows
end Go.Proofs.YtjeifmjcgemlgaaGreatDoor
