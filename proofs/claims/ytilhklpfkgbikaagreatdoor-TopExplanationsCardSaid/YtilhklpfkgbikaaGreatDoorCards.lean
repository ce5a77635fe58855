/-
  DERIVED. GIVEN WITH THE SEED: THE CARDS: each row of YtilhklpfkgbikaaGreatDoorRows.lean that lists a variable, with what it lists TIED to the program's text (the seventh form; the later family's looks); each row that meets fmt, with fmt's text TOLD by the authors' own Lean function (tested against real Go, not proved from fmt's source: count such statements apart). THE CARD IS WHAT COUNTS. Prove the row's statement (the work); the ties are given (YtilhklpfkgbikaaGreatDoorTie.lean); close each card by the builder's one call (the guide's Derived/Test/ToyasCard.lean, 'card_holds'). Laid BY PROGRAM, IN A SANDBOX (cutbox-door.mjs). By AI agents, Wed Nov 11 2026. No macro, syntax, notation, axiom, sorry.
-/
import Derived.Test.YtilhklpfkgbikaaGreatDoorRows
import GoSem.ClaimSeven
namespace Go.Proofs.YtilhklpfkgbikaaGreatDoor
namespace Rows

/-- THE TIED CARD OF 'guerdontop.TopExplanations'. -/
def topExplanationsCard : Claim7 := { stood := { row := topExplanationsRow, standIns := [], harness := (true, "9a91108c4a7b76100138c0171e04c27943ab8c58913805ad351d0a0bd5c34842"), looks := true }, kinds := [], alts := [], laidByText := true, laidKinds := [.data], laidTests := true, laidLooks := .later }
def TopExplanationsCardSaid : Prop := Claim7.holds Tryz.pinned (.plain (OpenSpec.ofChange topExplanationsSpec)) topExplanationsCard

/-- THE SECOND FORM's CARD OF 'guerdontop.TopExplanations'. -/
def topExplanationsUptoCard : Claim7 := { stood := { row := topExplanationsUptoRow, standIns := [], harness := (true, "9a91108c4a7b76100138c0171e04c27943ab8c58913805ad351d0a0bd5c34842"), looks := true }, kinds := [], alts := [], laidByText := true, laidKinds := [.data], laidTests := true, laidLooks := .later }
def TopExplanationsUptoCardSaid : Prop := Claim7.holds Tryz.pinned (.plain (OpenSpec.upto topExplanationsSpec)) topExplanationsUptoCard
end Rows
end Go.Proofs.YtilhklpfkgbikaaGreatDoor
