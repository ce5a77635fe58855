/-
  DERIVED. GIVEN WITH THE SEED: THE CARDS: each row of YtobpgndkciofhaaGreatDoorRows.lean that lists a variable, with what it lists TIED to the program's text (the seventh form; the later family's looks); each row that meets fmt, with fmt's text TOLD by the authors' own Lean function (tested against real Go, not proved from fmt's source: count such statements apart). THE CARD IS WHAT COUNTS. Prove the row's statement (the work); the ties are given (YtobpgndkciofhaaGreatDoorTie.lean); close each card by the builder's one call (the guide's Derived/Test/ToyasCard.lean, 'card_holds'). Laid BY PROGRAM, IN A SANDBOX (cutbox-door.mjs). By AI agents, Wed Nov 11 2026. No macro, syntax, notation, axiom, sorry.
-/
import Derived.Test.YtobpgndkciofhaaGreatDoorRows
import GoSem.ClaimSeven
namespace Go.Proofs.YtobpgndkciofhaaGreatDoor
namespace Rows

/-- THE TIED CARD OF 'guerdontop.TopAttribution'. -/
def topAttributionCard : Claim7 := { stood := { row := topAttributionRow, standIns := [], harness := (true, "e9d4f9669e983711c5713d51ab47709dbf1bd419703c2a1415209e2b8c233585"), looks := true }, kinds := [], alts := [], laidByText := true, laidKinds := [.data], laidTests := true, laidLooks := .later }
def TopAttributionCardSaid : Prop := Claim7.holds Tryz.pinned (.plain (OpenSpec.ofChange topAttributionSpec)) topAttributionCard

/-- THE SECOND FORM's CARD OF 'guerdontop.TopAttribution'. -/
def topAttributionUptoCard : Claim7 := { stood := { row := topAttributionUptoRow, standIns := [], harness := (true, "e9d4f9669e983711c5713d51ab47709dbf1bd419703c2a1415209e2b8c233585"), looks := true }, kinds := [], alts := [], laidByText := true, laidKinds := [.data], laidTests := true, laidLooks := .later }
def TopAttributionUptoCardSaid : Prop := Claim7.holds Tryz.pinned (.plain (OpenSpec.upto topAttributionSpec)) topAttributionUptoCard
end Rows
end Go.Proofs.YtobpgndkciofhaaGreatDoor
