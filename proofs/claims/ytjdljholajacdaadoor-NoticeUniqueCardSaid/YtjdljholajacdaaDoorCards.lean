/-
  DERIVED. GIVEN WITH THE SEED: THE CARDS: each row of YtjdljholajacdaaDoorRows.lean that lists a variable, with what it lists TIED to the program's text (the seventh form; the later family's looks); each row that meets fmt, with fmt's text TOLD by the authors' own Lean function (tested against real Go, not proved from fmt's source: count such statements apart). THE CARD IS WHAT COUNTS. Prove the row's statement (the work); the ties are given (YtjdljholajacdaaDoorTie.lean); close each card by the builder's one call (the guide's Derived/Test/ToyasCard.lean, 'card_holds'). Laid BY PROGRAM, IN A SANDBOX (cutbox-door.mjs). By AI agents, Wed Nov 11 2026. No macro, syntax, notation, axiom, sorry.
-/
import Derived.Test.YtjdljholajacdaaDoorRows
import GoSem.ClaimSeven
namespace Go.Proofs.YtjdljholajacdaaDoor
namespace Rows

/-- THE TIED CARD OF 'guerdonlaw09.ValueFormat'. -/
def valueFormatCard : Claim7 := { stood := { row := valueFormatRow, standIns := [], harness := (true, "730c70066f4bd33804fa0d016f911d9ffb514cacd2b5872e91f0ad7819fe24ad"), looks := false }, kinds := [], alts := [], laidByText := true, laidKinds := [.data, .data, .data, .data], laidTests := true, laidLooks := .later }
def ValueFormatCardSaid : Prop := Claim7.holds Tryd.pinned (.plain (OpenSpec.ofChange valueFormatSpec)) valueFormatCard

/-- THE TIED CARD OF 'guerdonlaw09.ValueParse'. -/
def valueParseCard : Claim7 := { stood := { row := valueParseRow, standIns := [], harness := (true, "730c70066f4bd33804fa0d016f911d9ffb514cacd2b5872e91f0ad7819fe24ad"), looks := false }, kinds := [], alts := [], laidByText := true, laidKinds := [.data, .data, .data, .data], laidTests := true, laidLooks := .later }
def ValueParseCardSaid : Prop := Claim7.holds Tryd.pinned (.plain (OpenSpec.ofChange valueParseSpec)) valueParseCard

/-- THE TIED CARD OF 'guerdonlaw09.ValueRoundTrip'. -/
def valueRoundTripCard : Claim7 := { stood := { row := valueRoundTripRow, standIns := [], harness := (true, "730c70066f4bd33804fa0d016f911d9ffb514cacd2b5872e91f0ad7819fe24ad"), looks := false }, kinds := [], alts := [], laidByText := true, laidKinds := [.data, .data, .data, .data], laidTests := true, laidLooks := .later }
def ValueRoundTripCardSaid : Prop := Claim7.holds Tryd.pinned (.plain (OpenSpec.ofChange valueRoundTripSpec)) valueRoundTripCard

/-- THE TIED CARD OF 'guerdonlaw09.ValueDistinct'. -/
def valueDistinctCard : Claim7 := { stood := { row := valueDistinctRow, standIns := [], harness := (true, "730c70066f4bd33804fa0d016f911d9ffb514cacd2b5872e91f0ad7819fe24ad"), looks := false }, kinds := [], alts := [], laidByText := true, laidKinds := [.data, .data, .data, .data], laidTests := true, laidLooks := .later }
def ValueDistinctCardSaid : Prop := Claim7.holds Tryd.pinned (.plain (OpenSpec.ofChange valueDistinctSpec)) valueDistinctCard

/-- THE TIED CARD OF 'guerdonlaw09.ValueCanonical'. -/
def valueCanonicalCard : Claim7 := { stood := { row := valueCanonicalRow, standIns := [], harness := (true, "730c70066f4bd33804fa0d016f911d9ffb514cacd2b5872e91f0ad7819fe24ad"), looks := false }, kinds := [], alts := [], laidByText := true, laidKinds := [.data, .data, .data, .data], laidTests := true, laidLooks := .later }
def ValueCanonicalCardSaid : Prop := Claim7.holds Tryd.pinned (.plain (OpenSpec.ofChange valueCanonicalSpec)) valueCanonicalCard

/-- THE TIED CARD OF 'guerdonlaw09.ValueTypes'. -/
def valueTypesCard : Claim7 := { stood := { row := valueTypesRow, standIns := [], harness := (true, "730c70066f4bd33804fa0d016f911d9ffb514cacd2b5872e91f0ad7819fe24ad"), looks := false }, kinds := [], alts := [], laidByText := true, laidKinds := [.data, .data, .data, .data], laidTests := true, laidLooks := .later }
def ValueTypesCardSaid : Prop := Claim7.holds Tryd.pinned (.plain (OpenSpec.ofChange valueTypesSpec)) valueTypesCard

/-- THE TIED CARD OF 'guerdonlaw45.NoticeId'. -/
def noticeIdCard : Claim7 := { stood := { row := noticeIdRow, standIns := [], harness := (true, "730c70066f4bd33804fa0d016f911d9ffb514cacd2b5872e91f0ad7819fe24ad"), looks := false }, kinds := [], alts := [], laidByText := true, laidKinds := [.data, .data, .data, .data, .pinned], laidTests := true, laidLooks := .later }
def NoticeIdCardSaid : Prop := Claim7.holds Tryd.pinned (.plain (OpenSpec.ofChange noticeIdSpec)) noticeIdCard

/-- THE TIED CARD OF 'guerdonlaw45.NoticeForPayment'. -/
def noticeForPaymentCard : Claim7 := { stood := { row := noticeForPaymentRow, standIns := [], harness := (true, "730c70066f4bd33804fa0d016f911d9ffb514cacd2b5872e91f0ad7819fe24ad"), looks := false }, kinds := [], alts := [], laidByText := true, laidKinds := [.data, .data, .data, .data, .pinned], laidTests := true, laidLooks := .later }
def NoticeForPaymentCardSaid : Prop := Claim7.holds Tryd.pinned (.plain (OpenSpec.ofChange noticeForPaymentSpec)) noticeForPaymentCard

/-- THE TIED CARD OF 'guerdonlaw45.NoticeFormat'. -/
def noticeFormatCard : Claim7 := { stood := { row := noticeFormatRow, standIns := [], harness := (true, "730c70066f4bd33804fa0d016f911d9ffb514cacd2b5872e91f0ad7819fe24ad"), looks := false }, kinds := [], alts := [], laidByText := true, laidKinds := [.data, .data, .data, .data, .pinned], laidTests := true, laidLooks := .later }
def NoticeFormatCardSaid : Prop := Claim7.holds Tryd.pinned (.plain (OpenSpec.ofChange noticeFormatSpec)) noticeFormatCard

/-- THE TIED CARD OF 'guerdonlaw45.NoticeParse'. -/
def noticeParseCard : Claim7 := { stood := { row := noticeParseRow, standIns := [], harness := (true, "730c70066f4bd33804fa0d016f911d9ffb514cacd2b5872e91f0ad7819fe24ad"), looks := false }, kinds := [], alts := [], laidByText := true, laidKinds := [.data, .data, .data, .data, .pinned], laidTests := true, laidLooks := .later }
def NoticeParseCardSaid : Prop := Claim7.holds Tryd.pinned (.plain (OpenSpec.ofChange noticeParseSpec)) noticeParseCard

/-- THE TIED CARD OF 'guerdonlaw45.NoticeUnique'. -/
def noticeUniqueCard : Claim7 := { stood := { row := noticeUniqueRow, standIns := [], harness := (true, "730c70066f4bd33804fa0d016f911d9ffb514cacd2b5872e91f0ad7819fe24ad"), looks := false }, kinds := [], alts := [], laidByText := true, laidKinds := [.data, .data, .data, .data, .pinned], laidTests := true, laidLooks := .later }
def NoticeUniqueCardSaid : Prop := Claim7.holds Tryd.pinned (.plain (OpenSpec.ofChange noticeUniqueSpec)) noticeUniqueCard

/-- THE SECOND FORM's CARD OF 'guerdonlaw09.ValueFormat'. -/
def valueFormatUptoCard : Claim7 := { stood := { row := valueFormatUptoRow, standIns := [], harness := (true, "730c70066f4bd33804fa0d016f911d9ffb514cacd2b5872e91f0ad7819fe24ad"), looks := false }, kinds := [], alts := [], laidByText := true, laidKinds := [.data, .data, .data, .data], laidTests := true, laidLooks := .later }
def ValueFormatUptoCardSaid : Prop := Claim7.holds Tryd.pinned (.plain (OpenSpec.upto valueFormatSpec)) valueFormatUptoCard

/-- THE SECOND FORM's CARD OF 'guerdonlaw09.ValueParse'. -/
def valueParseUptoCard : Claim7 := { stood := { row := valueParseUptoRow, standIns := [], harness := (true, "730c70066f4bd33804fa0d016f911d9ffb514cacd2b5872e91f0ad7819fe24ad"), looks := false }, kinds := [], alts := [], laidByText := true, laidKinds := [.data, .data, .data, .data], laidTests := true, laidLooks := .later }
def ValueParseUptoCardSaid : Prop := Claim7.holds Tryd.pinned (.plain (OpenSpec.upto valueParseSpec)) valueParseUptoCard

/-- THE SECOND FORM's CARD OF 'guerdonlaw09.ValueRoundTrip'. -/
def valueRoundTripUptoCard : Claim7 := { stood := { row := valueRoundTripUptoRow, standIns := [], harness := (true, "730c70066f4bd33804fa0d016f911d9ffb514cacd2b5872e91f0ad7819fe24ad"), looks := false }, kinds := [], alts := [], laidByText := true, laidKinds := [.data, .data, .data, .data], laidTests := true, laidLooks := .later }
def ValueRoundTripUptoCardSaid : Prop := Claim7.holds Tryd.pinned (.plain (OpenSpec.upto valueRoundTripSpec)) valueRoundTripUptoCard

/-- THE SECOND FORM's CARD OF 'guerdonlaw09.ValueDistinct'. -/
def valueDistinctUptoCard : Claim7 := { stood := { row := valueDistinctUptoRow, standIns := [], harness := (true, "730c70066f4bd33804fa0d016f911d9ffb514cacd2b5872e91f0ad7819fe24ad"), looks := false }, kinds := [], alts := [], laidByText := true, laidKinds := [.data, .data, .data, .data], laidTests := true, laidLooks := .later }
def ValueDistinctUptoCardSaid : Prop := Claim7.holds Tryd.pinned (.plain (OpenSpec.upto valueDistinctSpec)) valueDistinctUptoCard

/-- THE SECOND FORM's CARD OF 'guerdonlaw09.ValueCanonical'. -/
def valueCanonicalUptoCard : Claim7 := { stood := { row := valueCanonicalUptoRow, standIns := [], harness := (true, "730c70066f4bd33804fa0d016f911d9ffb514cacd2b5872e91f0ad7819fe24ad"), looks := false }, kinds := [], alts := [], laidByText := true, laidKinds := [.data, .data, .data, .data], laidTests := true, laidLooks := .later }
def ValueCanonicalUptoCardSaid : Prop := Claim7.holds Tryd.pinned (.plain (OpenSpec.upto valueCanonicalSpec)) valueCanonicalUptoCard

/-- THE SECOND FORM's CARD OF 'guerdonlaw09.ValueTypes'. -/
def valueTypesUptoCard : Claim7 := { stood := { row := valueTypesUptoRow, standIns := [], harness := (true, "730c70066f4bd33804fa0d016f911d9ffb514cacd2b5872e91f0ad7819fe24ad"), looks := false }, kinds := [], alts := [], laidByText := true, laidKinds := [.data, .data, .data, .data], laidTests := true, laidLooks := .later }
def ValueTypesUptoCardSaid : Prop := Claim7.holds Tryd.pinned (.plain (OpenSpec.upto valueTypesSpec)) valueTypesUptoCard

/-- THE SECOND FORM's CARD OF 'guerdonlaw45.NoticeId'. -/
def noticeIdUptoCard : Claim7 := { stood := { row := noticeIdUptoRow, standIns := [], harness := (true, "730c70066f4bd33804fa0d016f911d9ffb514cacd2b5872e91f0ad7819fe24ad"), looks := false }, kinds := [], alts := [], laidByText := true, laidKinds := [.data, .data, .data, .data, .pinned], laidTests := true, laidLooks := .later }
def NoticeIdUptoCardSaid : Prop := Claim7.holds Tryd.pinned (.plain (OpenSpec.upto noticeIdSpec)) noticeIdUptoCard

/-- THE SECOND FORM's CARD OF 'guerdonlaw45.NoticeForPayment'. -/
def noticeForPaymentUptoCard : Claim7 := { stood := { row := noticeForPaymentUptoRow, standIns := [], harness := (true, "730c70066f4bd33804fa0d016f911d9ffb514cacd2b5872e91f0ad7819fe24ad"), looks := false }, kinds := [], alts := [], laidByText := true, laidKinds := [.data, .data, .data, .data, .pinned], laidTests := true, laidLooks := .later }
def NoticeForPaymentUptoCardSaid : Prop := Claim7.holds Tryd.pinned (.plain (OpenSpec.upto noticeForPaymentSpec)) noticeForPaymentUptoCard

/-- THE SECOND FORM's CARD OF 'guerdonlaw45.NoticeFormat'. -/
def noticeFormatUptoCard : Claim7 := { stood := { row := noticeFormatUptoRow, standIns := [], harness := (true, "730c70066f4bd33804fa0d016f911d9ffb514cacd2b5872e91f0ad7819fe24ad"), looks := false }, kinds := [], alts := [], laidByText := true, laidKinds := [.data, .data, .data, .data, .pinned], laidTests := true, laidLooks := .later }
def NoticeFormatUptoCardSaid : Prop := Claim7.holds Tryd.pinned (.plain (OpenSpec.upto noticeFormatSpec)) noticeFormatUptoCard

/-- THE SECOND FORM's CARD OF 'guerdonlaw45.NoticeParse'. -/
def noticeParseUptoCard : Claim7 := { stood := { row := noticeParseUptoRow, standIns := [], harness := (true, "730c70066f4bd33804fa0d016f911d9ffb514cacd2b5872e91f0ad7819fe24ad"), looks := false }, kinds := [], alts := [], laidByText := true, laidKinds := [.data, .data, .data, .data, .pinned], laidTests := true, laidLooks := .later }
def NoticeParseUptoCardSaid : Prop := Claim7.holds Tryd.pinned (.plain (OpenSpec.upto noticeParseSpec)) noticeParseUptoCard

/-- THE SECOND FORM's CARD OF 'guerdonlaw45.NoticeUnique'. -/
def noticeUniqueUptoCard : Claim7 := { stood := { row := noticeUniqueUptoRow, standIns := [], harness := (true, "730c70066f4bd33804fa0d016f911d9ffb514cacd2b5872e91f0ad7819fe24ad"), looks := false }, kinds := [], alts := [], laidByText := true, laidKinds := [.data, .data, .data, .data, .pinned], laidTests := true, laidLooks := .later }
def NoticeUniqueUptoCardSaid : Prop := Claim7.holds Tryd.pinned (.plain (OpenSpec.upto noticeUniqueSpec)) noticeUniqueUptoCard
end Rows
end Go.Proofs.YtjdljholajacdaaDoor
