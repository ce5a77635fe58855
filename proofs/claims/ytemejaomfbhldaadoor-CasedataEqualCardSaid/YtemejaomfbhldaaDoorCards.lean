/-
  DERIVED. GIVEN WITH THE SEED: THE CARDS: each row of YtemejaomfbhldaaDoorRows.lean that lists a variable, with what it lists TIED to the program's text (the seventh form; the later family's looks); each row that meets fmt, with fmt's text TOLD by the authors' own Lean function (tested against real Go, not proved from fmt's source: count such statements apart). THE CARD IS WHAT COUNTS. Prove the row's statement (the work); the ties are given (YtemejaomfbhldaaDoorTie.lean); close each card by the builder's one call (the guide's Derived/Test/ToyasCard.lean, 'card_holds'). Laid BY PROGRAM, IN A SANDBOX (cutbox-door.mjs). By AI agents, Wed Nov 11 2026. No macro, syntax, notation, axiom, sorry.
-/
import Derived.Test.YtemejaomfbhldaaDoorRows
import GoSem.ClaimSeven
namespace Go.Proofs.YtemejaomfbhldaaDoor
namespace Rows

/-- THE TIED CARD OF 'guerdonlaw19.CasedataValidate'. -/
def casedataValidateCard : Claim7 := { stood := { row := casedataValidateRow, standIns := [], harness := (true, "9bf5aeca9679d1e7fcfdfdec914d7963f02cc0518406a03c411090b16e6805c7"), looks := false }, kinds := [], alts := [], laidByText := true, laidKinds := [.data, .data, .data, .data, .data, .pinned], laidTests := true, laidLooks := .later }
def CasedataValidateCardSaid : Prop := Claim7.holds Tryd.pinned (.plain (OpenSpec.ofChange casedataValidateSpec)) casedataValidateCard

/-- THE TIED CARD OF 'guerdonlaw19.CasedataCanonical'. -/
def casedataCanonicalCard : Claim7 := { stood := { row := casedataCanonicalRow, standIns := [], harness := (true, "9bf5aeca9679d1e7fcfdfdec914d7963f02cc0518406a03c411090b16e6805c7"), looks := false }, kinds := [], alts := [], laidByText := true, laidKinds := [.data, .data, .data, .data, .data, .pinned], laidTests := true, laidLooks := .later }
def CasedataCanonicalCardSaid : Prop := Claim7.holds Tryd.pinned (.plain (OpenSpec.ofChange casedataCanonicalSpec)) casedataCanonicalCard

/-- THE TIED CARD OF 'guerdonlaw19.CasedataEqual'. -/
def casedataEqualCard : Claim7 := { stood := { row := casedataEqualRow, standIns := [], harness := (true, "9bf5aeca9679d1e7fcfdfdec914d7963f02cc0518406a03c411090b16e6805c7"), looks := false }, kinds := [], alts := [], laidByText := true, laidKinds := [.data, .data, .data, .data, .data, .pinned], laidTests := true, laidLooks := .later }
def CasedataEqualCardSaid : Prop := Claim7.holds Tryd.pinned (.plain (OpenSpec.ofChange casedataEqualSpec)) casedataEqualCard

/-- THE SECOND FORM's CARD OF 'guerdonlaw19.CasedataValidate'. -/
def casedataValidateUptoCard : Claim7 := { stood := { row := casedataValidateUptoRow, standIns := [], harness := (true, "9bf5aeca9679d1e7fcfdfdec914d7963f02cc0518406a03c411090b16e6805c7"), looks := false }, kinds := [], alts := [], laidByText := true, laidKinds := [.data, .data, .data, .data, .data, .pinned], laidTests := true, laidLooks := .later }
def CasedataValidateUptoCardSaid : Prop := Claim7.holds Tryd.pinned (.plain (OpenSpec.upto casedataValidateSpec)) casedataValidateUptoCard

/-- THE SECOND FORM's CARD OF 'guerdonlaw19.CasedataCanonical'. -/
def casedataCanonicalUptoCard : Claim7 := { stood := { row := casedataCanonicalUptoRow, standIns := [], harness := (true, "9bf5aeca9679d1e7fcfdfdec914d7963f02cc0518406a03c411090b16e6805c7"), looks := false }, kinds := [], alts := [], laidByText := true, laidKinds := [.data, .data, .data, .data, .data, .pinned], laidTests := true, laidLooks := .later }
def CasedataCanonicalUptoCardSaid : Prop := Claim7.holds Tryd.pinned (.plain (OpenSpec.upto casedataCanonicalSpec)) casedataCanonicalUptoCard

/-- THE SECOND FORM's CARD OF 'guerdonlaw19.CasedataEqual'. -/
def casedataEqualUptoCard : Claim7 := { stood := { row := casedataEqualUptoRow, standIns := [], harness := (true, "9bf5aeca9679d1e7fcfdfdec914d7963f02cc0518406a03c411090b16e6805c7"), looks := false }, kinds := [], alts := [], laidByText := true, laidKinds := [.data, .data, .data, .data, .data, .pinned], laidTests := true, laidLooks := .later }
def CasedataEqualUptoCardSaid : Prop := Claim7.holds Tryd.pinned (.plain (OpenSpec.upto casedataEqualSpec)) casedataEqualUptoCard
end Rows
end Go.Proofs.YtemejaomfbhldaaDoor
