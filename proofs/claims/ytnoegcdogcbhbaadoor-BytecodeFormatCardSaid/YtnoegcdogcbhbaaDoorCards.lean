/-
  DERIVED. GIVEN WITH THE SEED: THE CARDS: each row of YtnoegcdogcbhbaaDoorRows.lean that lists a variable, with what it lists TIED to the program's text (the seventh form; the later family's looks); each row that meets fmt, with fmt's text TOLD by the authors' own Lean function (tested against real Go, not proved from fmt's source: count such statements apart). THE CARD IS WHAT COUNTS. Prove the row's statement (the work); the ties are given (YtnoegcdogcbhbaaDoorTie.lean); close each card by the builder's one call (the guide's Derived/Test/ToyasCard.lean, 'card_holds'). Laid BY PROGRAM, IN A SANDBOX (cutbox-door.mjs). By AI agents, Wed Nov 11 2026. No macro, syntax, notation, axiom, sorry.
-/
import Derived.Test.YtnoegcdogcbhbaaDoorRows
import GoSem.ClaimSeven
namespace Go.Proofs.YtnoegcdogcbhbaaDoor
namespace Rows

/-- THE TIED CARD OF 'guerdonlaw26.BytecodeCompile'. -/
def bytecodeCompileCard : Claim7 := { stood := { row := bytecodeCompileRow, standIns := [], harness := (true, "4c3c5b09ea488c1a3aee86195b061b8e51b6a3b53320dd0e50e7a0915c71de06"), looks := false }, kinds := [], alts := [], laidByText := true, laidKinds := [.data, .data, .data], laidTests := true, laidLooks := .later }
def BytecodeCompileCardSaid : Prop := Claim7.holds Tryd.pinned (.plain (OpenSpec.ofChange bytecodeCompileSpec)) bytecodeCompileCard

/-- THE TIED CARD OF 'guerdonlaw26.BytecodeVerify'. -/
def bytecodeVerifyCard : Claim7 := { stood := { row := bytecodeVerifyRow, standIns := [], harness := (true, "4c3c5b09ea488c1a3aee86195b061b8e51b6a3b53320dd0e50e7a0915c71de06"), looks := false }, kinds := [], alts := [], laidByText := true, laidKinds := [.data, .data, .data], laidTests := true, laidLooks := .later }
def BytecodeVerifyCardSaid : Prop := Claim7.holds Tryd.pinned (.plain (OpenSpec.ofChange bytecodeVerifySpec)) bytecodeVerifyCard

/-- THE TIED CARD OF 'guerdonlaw26.BytecodeFormat'. -/
def bytecodeFormatCard : Claim7 := { stood := { row := bytecodeFormatRow, standIns := [], harness := (true, "4c3c5b09ea488c1a3aee86195b061b8e51b6a3b53320dd0e50e7a0915c71de06"), looks := false }, kinds := [], alts := [], laidByText := true, laidKinds := [.data, .data, .data], laidTests := true, laidLooks := .later }
def BytecodeFormatCardSaid : Prop := Claim7.holds Tryd.pinned (.plain (OpenSpec.ofChange bytecodeFormatSpec)) bytecodeFormatCard

/-- THE TIED CARD OF 'guerdonlaw26.BytecodeVerified'. -/
def bytecodeVerifiedCard : Claim7 := { stood := { row := bytecodeVerifiedRow, standIns := [], harness := (true, "4c3c5b09ea488c1a3aee86195b061b8e51b6a3b53320dd0e50e7a0915c71de06"), looks := false }, kinds := [], alts := [], laidByText := true, laidKinds := [.data, .data, .data], laidTests := true, laidLooks := .later }
def BytecodeVerifiedCardSaid : Prop := Claim7.holds Tryd.pinned (.plain (OpenSpec.ofChange bytecodeVerifiedSpec)) bytecodeVerifiedCard

/-- THE TIED CARD OF 'guerdonlaw26.BytecodeRoundTrip'. -/
def bytecodeRoundTripCard : Claim7 := { stood := { row := bytecodeRoundTripRow, standIns := [], harness := (true, "4c3c5b09ea488c1a3aee86195b061b8e51b6a3b53320dd0e50e7a0915c71de06"), looks := false }, kinds := [], alts := [], laidByText := true, laidKinds := [.data, .data, .data], laidTests := true, laidLooks := .later }
def BytecodeRoundTripCardSaid : Prop := Claim7.holds Tryd.pinned (.plain (OpenSpec.ofChange bytecodeRoundTripSpec)) bytecodeRoundTripCard

/-- THE TIED CARD OF 'guerdonlaw26.BytecodeCanonical'. -/
def bytecodeCanonicalCard : Claim7 := { stood := { row := bytecodeCanonicalRow, standIns := [], harness := (true, "4c3c5b09ea488c1a3aee86195b061b8e51b6a3b53320dd0e50e7a0915c71de06"), looks := false }, kinds := [], alts := [], laidByText := true, laidKinds := [.data, .data, .data], laidTests := true, laidLooks := .later }
def BytecodeCanonicalCardSaid : Prop := Claim7.holds Tryd.pinned (.plain (OpenSpec.ofChange bytecodeCanonicalSpec)) bytecodeCanonicalCard

/-- THE TIED CARD OF 'guerdonlaw19.CasedataValidate'. -/
def casedataValidateCard : Claim7 := { stood := { row := casedataValidateRow, standIns := [], harness := (true, "4c3c5b09ea488c1a3aee86195b061b8e51b6a3b53320dd0e50e7a0915c71de06"), looks := false }, kinds := [], alts := [], laidByText := true, laidKinds := [.data, .data, .data, .data, .data, .pinned], laidTests := true, laidLooks := .later }
def CasedataValidateCardSaid : Prop := Claim7.holds Tryd.pinned (.plain (OpenSpec.ofChange casedataValidateSpec)) casedataValidateCard

/-- THE TIED CARD OF 'guerdonlaw19.CasedataCanonical'. -/
def casedataCanonicalCard : Claim7 := { stood := { row := casedataCanonicalRow, standIns := [], harness := (true, "4c3c5b09ea488c1a3aee86195b061b8e51b6a3b53320dd0e50e7a0915c71de06"), looks := false }, kinds := [], alts := [], laidByText := true, laidKinds := [.data, .data, .data, .data, .data, .pinned], laidTests := true, laidLooks := .later }
def CasedataCanonicalCardSaid : Prop := Claim7.holds Tryd.pinned (.plain (OpenSpec.ofChange casedataCanonicalSpec)) casedataCanonicalCard

/-- THE TIED CARD OF 'guerdonlaw19.CasedataEqual'. -/
def casedataEqualCard : Claim7 := { stood := { row := casedataEqualRow, standIns := [], harness := (true, "4c3c5b09ea488c1a3aee86195b061b8e51b6a3b53320dd0e50e7a0915c71de06"), looks := false }, kinds := [], alts := [], laidByText := true, laidKinds := [.data, .data, .data, .data, .data, .pinned], laidTests := true, laidLooks := .later }
def CasedataEqualCardSaid : Prop := Claim7.holds Tryd.pinned (.plain (OpenSpec.ofChange casedataEqualSpec)) casedataEqualCard

/-- THE SECOND FORM's CARD OF 'guerdonlaw26.BytecodeCompile'. -/
def bytecodeCompileUptoCard : Claim7 := { stood := { row := bytecodeCompileUptoRow, standIns := [], harness := (true, "4c3c5b09ea488c1a3aee86195b061b8e51b6a3b53320dd0e50e7a0915c71de06"), looks := false }, kinds := [], alts := [], laidByText := true, laidKinds := [.data, .data, .data], laidTests := true, laidLooks := .later }
def BytecodeCompileUptoCardSaid : Prop := Claim7.holds Tryd.pinned (.plain (OpenSpec.upto bytecodeCompileSpec)) bytecodeCompileUptoCard

/-- THE SECOND FORM's CARD OF 'guerdonlaw26.BytecodeVerify'. -/
def bytecodeVerifyUptoCard : Claim7 := { stood := { row := bytecodeVerifyUptoRow, standIns := [], harness := (true, "4c3c5b09ea488c1a3aee86195b061b8e51b6a3b53320dd0e50e7a0915c71de06"), looks := false }, kinds := [], alts := [], laidByText := true, laidKinds := [.data, .data, .data], laidTests := true, laidLooks := .later }
def BytecodeVerifyUptoCardSaid : Prop := Claim7.holds Tryd.pinned (.plain (OpenSpec.upto bytecodeVerifySpec)) bytecodeVerifyUptoCard

/-- THE SECOND FORM's CARD OF 'guerdonlaw26.BytecodeFormat'. -/
def bytecodeFormatUptoCard : Claim7 := { stood := { row := bytecodeFormatUptoRow, standIns := [], harness := (true, "4c3c5b09ea488c1a3aee86195b061b8e51b6a3b53320dd0e50e7a0915c71de06"), looks := false }, kinds := [], alts := [], laidByText := true, laidKinds := [.data, .data, .data], laidTests := true, laidLooks := .later }
def BytecodeFormatUptoCardSaid : Prop := Claim7.holds Tryd.pinned (.plain (OpenSpec.upto bytecodeFormatSpec)) bytecodeFormatUptoCard

/-- THE SECOND FORM's CARD OF 'guerdonlaw26.BytecodeVerified'. -/
def bytecodeVerifiedUptoCard : Claim7 := { stood := { row := bytecodeVerifiedUptoRow, standIns := [], harness := (true, "4c3c5b09ea488c1a3aee86195b061b8e51b6a3b53320dd0e50e7a0915c71de06"), looks := false }, kinds := [], alts := [], laidByText := true, laidKinds := [.data, .data, .data], laidTests := true, laidLooks := .later }
def BytecodeVerifiedUptoCardSaid : Prop := Claim7.holds Tryd.pinned (.plain (OpenSpec.upto bytecodeVerifiedSpec)) bytecodeVerifiedUptoCard

/-- THE SECOND FORM's CARD OF 'guerdonlaw26.BytecodeRoundTrip'. -/
def bytecodeRoundTripUptoCard : Claim7 := { stood := { row := bytecodeRoundTripUptoRow, standIns := [], harness := (true, "4c3c5b09ea488c1a3aee86195b061b8e51b6a3b53320dd0e50e7a0915c71de06"), looks := false }, kinds := [], alts := [], laidByText := true, laidKinds := [.data, .data, .data], laidTests := true, laidLooks := .later }
def BytecodeRoundTripUptoCardSaid : Prop := Claim7.holds Tryd.pinned (.plain (OpenSpec.upto bytecodeRoundTripSpec)) bytecodeRoundTripUptoCard

/-- THE SECOND FORM's CARD OF 'guerdonlaw26.BytecodeCanonical'. -/
def bytecodeCanonicalUptoCard : Claim7 := { stood := { row := bytecodeCanonicalUptoRow, standIns := [], harness := (true, "4c3c5b09ea488c1a3aee86195b061b8e51b6a3b53320dd0e50e7a0915c71de06"), looks := false }, kinds := [], alts := [], laidByText := true, laidKinds := [.data, .data, .data], laidTests := true, laidLooks := .later }
def BytecodeCanonicalUptoCardSaid : Prop := Claim7.holds Tryd.pinned (.plain (OpenSpec.upto bytecodeCanonicalSpec)) bytecodeCanonicalUptoCard

/-- THE SECOND FORM's CARD OF 'guerdonlaw19.CasedataValidate'. -/
def casedataValidateUptoCard : Claim7 := { stood := { row := casedataValidateUptoRow, standIns := [], harness := (true, "4c3c5b09ea488c1a3aee86195b061b8e51b6a3b53320dd0e50e7a0915c71de06"), looks := false }, kinds := [], alts := [], laidByText := true, laidKinds := [.data, .data, .data, .data, .data, .pinned], laidTests := true, laidLooks := .later }
def CasedataValidateUptoCardSaid : Prop := Claim7.holds Tryd.pinned (.plain (OpenSpec.upto casedataValidateSpec)) casedataValidateUptoCard

/-- THE SECOND FORM's CARD OF 'guerdonlaw19.CasedataCanonical'. -/
def casedataCanonicalUptoCard : Claim7 := { stood := { row := casedataCanonicalUptoRow, standIns := [], harness := (true, "4c3c5b09ea488c1a3aee86195b061b8e51b6a3b53320dd0e50e7a0915c71de06"), looks := false }, kinds := [], alts := [], laidByText := true, laidKinds := [.data, .data, .data, .data, .data, .pinned], laidTests := true, laidLooks := .later }
def CasedataCanonicalUptoCardSaid : Prop := Claim7.holds Tryd.pinned (.plain (OpenSpec.upto casedataCanonicalSpec)) casedataCanonicalUptoCard

/-- THE SECOND FORM's CARD OF 'guerdonlaw19.CasedataEqual'. -/
def casedataEqualUptoCard : Claim7 := { stood := { row := casedataEqualUptoRow, standIns := [], harness := (true, "4c3c5b09ea488c1a3aee86195b061b8e51b6a3b53320dd0e50e7a0915c71de06"), looks := false }, kinds := [], alts := [], laidByText := true, laidKinds := [.data, .data, .data, .data, .data, .pinned], laidTests := true, laidLooks := .later }
def CasedataEqualUptoCardSaid : Prop := Claim7.holds Tryd.pinned (.plain (OpenSpec.upto casedataEqualSpec)) casedataEqualUptoCard
end Rows
end Go.Proofs.YtnoegcdogcbhbaaDoor
