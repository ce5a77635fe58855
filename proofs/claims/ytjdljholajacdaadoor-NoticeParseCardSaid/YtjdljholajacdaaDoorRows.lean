/-
  NARROWER THAN 'FOR EVERY INPUT', by the rows' own cells (each row's printed sentence says how): ValueFormat: laid · ValueParse: laid · ValueRoundTrip: laid · ValueDistinct: laid · ValueCanonical: laid · ValueTypes: laid · NoticeId: laid · NoticeForPayment: laid · NoticeFormat: laid · NoticeParse: laid · NoticeUnique: laid.
  DERIVED. THE GIVEN ROWS OF THIS SEAT. 11 by the template 'for every input the law returns true; each argument reads behind the call as it read before'; 0 by the template 'total and deterministic' (their statements: YtjdljholajacdaaDoorTotals.lean).
  GIVEN WITH THE SEED: the statements are not yours to turn. If you find one false, say at which input.
  Laid BY PROGRAM, IN A SANDBOX (cutbox-rows.mjs): the forced cells as the released guide's own fill.sh prints them over the translation d96dc922b8e62e7f… (all of the seat's roots in one cut). By AI agents, Wed Nov 11 2026. No macro, syntax, notation, axiom, sorry.
-/
import Derived.Test.YtjdljholajacdaaDoorChecked
import GoSem.PinnedTables
import GoSem.Claim
import GoSem.ClaimJoined
import GoSem.ClaimMapViews
import Derived.JoinedTies
import Derived.KernelRfl
namespace Go.Proofs.YtjdljholajacdaaDoor
/- THE CELL 'sum', in the pinned program and in every row, IS THE sha256 OF THE DUMP (.gsa) THAT YtjdljholajacdaaDoorProg.lean LOADS. Nothing in Lean hashes anything: it is a label: what it is worth is what the hold of that sum in a sandbox is worth. -/
noncomputable def Tryd.pinned : Pinned := { name := "ytjdljholajacdaadoor", sum := "d96dc922b8e62e7fad8c1ae38274c3f4fc584d55a2a8e3ca2dac2b17083e2947", checked := Tryd.checked }
namespace Rows
def none {H : Type} : Left H := { results := [], args := [] }

/- WHAT THE LISTED PACKAGE-LEVEL VARIABLES READ AS WHEN THE CALL BEGINS. Each datum BY PROGRAM (the guide's laid-datum.mjs) off the statement by which the dump's own 'gosem.cut.vars' lays the variable. In a bare row this is a premise. The card (YtjdljholajacdaaDoorCards.lean) ties it to the program's text. -/
def laid_math_bits_deBruijn32tab {H : Type} : DataW H := .agg [.lit (.int .u8 0), .lit (.int .u8 1), .lit (.int .u8 28), .lit (.int .u8 2), .lit (.int .u8 29), .lit (.int .u8 14), .lit (.int .u8 24), .lit (.int .u8 3), .lit (.int .u8 30), .lit (.int .u8 22), .lit (.int .u8 20), .lit (.int .u8 15), .lit (.int .u8 25), .lit (.int .u8 17), .lit (.int .u8 4), .lit (.int .u8 8), .lit (.int .u8 31), .lit (.int .u8 27), .lit (.int .u8 13), .lit (.int .u8 23), .lit (.int .u8 21), .lit (.int .u8 19), .lit (.int .u8 16), .lit (.int .u8 7), .lit (.int .u8 26), .lit (.int .u8 12), .lit (.int .u8 18), .lit (.int .u8 6), .lit (.int .u8 11), .lit (.int .u8 5), .lit (.int .u8 10), .lit (.int .u8 9)]
def laid_math_bits_deBruijn64tab {H : Type} : DataW H := .agg [.lit (.int .u8 0), .lit (.int .u8 1), .lit (.int .u8 56), .lit (.int .u8 2), .lit (.int .u8 57), .lit (.int .u8 49), .lit (.int .u8 28), .lit (.int .u8 3), .lit (.int .u8 61), .lit (.int .u8 58), .lit (.int .u8 42), .lit (.int .u8 50), .lit (.int .u8 38), .lit (.int .u8 29), .lit (.int .u8 17), .lit (.int .u8 4), .lit (.int .u8 62), .lit (.int .u8 47), .lit (.int .u8 59), .lit (.int .u8 36), .lit (.int .u8 45), .lit (.int .u8 43), .lit (.int .u8 51), .lit (.int .u8 22), .lit (.int .u8 53), .lit (.int .u8 39), .lit (.int .u8 33), .lit (.int .u8 30), .lit (.int .u8 24), .lit (.int .u8 18), .lit (.int .u8 12), .lit (.int .u8 5), .lit (.int .u8 63), .lit (.int .u8 55), .lit (.int .u8 48), .lit (.int .u8 27), .lit (.int .u8 60), .lit (.int .u8 41), .lit (.int .u8 37), .lit (.int .u8 16), .lit (.int .u8 46), .lit (.int .u8 35), .lit (.int .u8 44), .lit (.int .u8 21), .lit (.int .u8 52), .lit (.int .u8 32), .lit (.int .u8 23), .lit (.int .u8 11), .lit (.int .u8 54), .lit (.int .u8 26), .lit (.int .u8 40), .lit (.int .u8 15), .lit (.int .u8 34), .lit (.int .u8 20), .lit (.int .u8 31), .lit (.int .u8 10), .lit (.int .u8 25), .lit (.int .u8 14), .lit (.int .u8 19), .lit (.int .u8 9), .lit (.int .u8 13), .lit (.int .u8 8), .lit (.int .u8 7), .lit (.int .u8 6)]
def laid_internal_strconv_uint64pow10 {H : Type} : DataW H := .agg [.lit (.int .u64 1), .lit (.int .u64 10), .lit (.int .u64 100), .lit (.int .u64 1000), .lit (.int .u64 10000), .lit (.int .u64 100000), .lit (.int .u64 1000000), .lit (.int .u64 10000000), .lit (.int .u64 100000000), .lit (.int .u64 1000000000), .lit (.int .u64 10000000000), .lit (.int .u64 100000000000), .lit (.int .u64 1000000000000), .lit (.int .u64 10000000000000), .lit (.int .u64 100000000000000), .lit (.int .u64 1000000000000000), .lit (.int .u64 10000000000000000), .lit (.int .u64 100000000000000000), .lit (.int .u64 1000000000000000000), .lit (.int .u64 10000000000000000000)]
def laid_guerdon_date_monthLengths {H : Type} : DataW H := .agg [.lit (.int .i64 31), .lit (.int .i64 28), .lit (.int .i64 31), .lit (.int .i64 30), .lit (.int .i64 31), .lit (.int .i64 30), .lit (.int .i64 31), .lit (.int .i64 31), .lit (.int .i64 30), .lit (.int .i64 31), .lit (.int .i64 30), .lit (.int .i64 31)]
def laid_unicode_utf8_acceptRanges {H : Type} : DataW H := .agg [.agg [.lit (.int .u8 128), .lit (.int .u8 191)], .agg [.lit (.int .u8 160), .lit (.int .u8 191)], .agg [.lit (.int .u8 128), .lit (.int .u8 159)], .agg [.lit (.int .u8 144), .lit (.int .u8 191)], .agg [.lit (.int .u8 128), .lit (.int .u8 143)], .agg [.lit (.int .u8 0), .lit (.int .u8 0)], .agg [.lit (.int .u8 0), .lit (.int .u8 0)], .agg [.lit (.int .u8 0), .lit (.int .u8 0)], .agg [.lit (.int .u8 0), .lit (.int .u8 0)], .agg [.lit (.int .u8 0), .lit (.int .u8 0)], .agg [.lit (.int .u8 0), .lit (.int .u8 0)], .agg [.lit (.int .u8 0), .lit (.int .u8 0)], .agg [.lit (.int .u8 0), .lit (.int .u8 0)], .agg [.lit (.int .u8 0), .lit (.int .u8 0)], .agg [.lit (.int .u8 0), .lit (.int .u8 0)], .agg [.lit (.int .u8 0), .lit (.int .u8 0)]]
/-- One of Go's own tables, pinned by name: the form's constant. -/
def laid_unicode_utf8_first : DataW Unit := Go.Pinned.utf8First

/-- 'guerdonlaw09.ValueFormat': WHATEVER THE INPUT: true; the input reads as it did. -/
def valueFormatSpec : ChangeSpec := { name := "valueFormat", fn := fun _ => fun
  | [d1, d2] => { results := [.lit (.bool true)], args := [d1, d2] }
  | _ => none }
def valueFormatRow : OpenClaim := { program := "ytjdljholajacdaadoor", sum := "d96dc922b8e62e7fad8c1ae38274c3f4fc584d55a2a8e3ca2dac2b17083e2947", func := "guerdon/guerdonlaw09.ValueFormat", spec := "valueFormat", inPlace := ["internal/abi.NoEscape", "internal/bytealg.MakeNoZero"], recurses := true, named := ["internal/strconv.uint64pow10", "math/bits.deBruijn32tab", "math/bits.deBruijn64tab", "guerdon/date.monthLengths"], apart := false, laid := [("math/bits.deBruijn32tab", laid_math_bits_deBruijn32tab), ("math/bits.deBruijn64tab", laid_math_bits_deBruijn64tab), ("internal/strconv.uint64pow10", laid_internal_strconv_uint64pow10), ("guerdon/date.monthLengths", laid_guerdon_date_monthLengths)] }
def ValueFormatSaid : Prop := valueFormatRow.holds Tryd.pinned (OpenSpec.ofChange valueFormatSpec)

/-- ITS FALSE NEIGHBOUR: 'it returns false'. Refute it at one input. -/
def valueFormatWrong : ChangeSpec := { name := "valueFormat", fn := fun _ => fun
  | [d1, d2] => { results := [.lit (.bool false)], args := [d1, d2] }
  | _ => none }
def ValueFormatWrongFalsely : Prop := valueFormatRow.holds Tryd.pinned (OpenSpec.ofChange valueFormatWrong)

/-- 'guerdonlaw09.ValueParse': WHATEVER THE INPUT: true; the input reads as it did. -/
def valueParseSpec : ChangeSpec := { name := "valueParse", fn := fun _ => fun
  | [d1, d2, d3] => { results := [.lit (.bool true)], args := [d1, d2, d3] }
  | _ => none }
def valueParseRow : OpenClaim := { program := "ytjdljholajacdaadoor", sum := "d96dc922b8e62e7fad8c1ae38274c3f4fc584d55a2a8e3ca2dac2b17083e2947", func := "guerdon/guerdonlaw09.ValueParse", spec := "valueParse", inPlace := ["internal/abi.NoEscape", "internal/bytealg.MakeNoZero"], named := ["internal/strconv.uint64pow10", "math/bits.deBruijn32tab", "math/bits.deBruijn64tab", "guerdon/date.monthLengths"], apart := false, laid := [("math/bits.deBruijn32tab", laid_math_bits_deBruijn32tab), ("math/bits.deBruijn64tab", laid_math_bits_deBruijn64tab), ("internal/strconv.uint64pow10", laid_internal_strconv_uint64pow10), ("guerdon/date.monthLengths", laid_guerdon_date_monthLengths)] }
def ValueParseSaid : Prop := valueParseRow.holds Tryd.pinned (OpenSpec.ofChange valueParseSpec)

/-- ITS FALSE NEIGHBOUR: 'it returns false'. Refute it at one input. -/
def valueParseWrong : ChangeSpec := { name := "valueParse", fn := fun _ => fun
  | [d1, d2, d3] => { results := [.lit (.bool false)], args := [d1, d2, d3] }
  | _ => none }
def ValueParseWrongFalsely : Prop := valueParseRow.holds Tryd.pinned (OpenSpec.ofChange valueParseWrong)

/-- 'guerdonlaw09.ValueRoundTrip': WHATEVER THE INPUT: true; the input reads as it did. -/
def valueRoundTripSpec : ChangeSpec := { name := "valueRoundTrip", fn := fun _ => fun
  | [d1, d2] => { results := [.lit (.bool true)], args := [d1, d2] }
  | _ => none }
def valueRoundTripRow : OpenClaim := { program := "ytjdljholajacdaadoor", sum := "d96dc922b8e62e7fad8c1ae38274c3f4fc584d55a2a8e3ca2dac2b17083e2947", func := "guerdon/guerdonlaw09.ValueRoundTrip", spec := "valueRoundTrip", inPlace := ["internal/abi.NoEscape", "internal/bytealg.MakeNoZero"], named := ["internal/strconv.uint64pow10", "math/bits.deBruijn32tab", "math/bits.deBruijn64tab", "guerdon/date.monthLengths"], apart := false, laid := [("math/bits.deBruijn32tab", laid_math_bits_deBruijn32tab), ("math/bits.deBruijn64tab", laid_math_bits_deBruijn64tab), ("internal/strconv.uint64pow10", laid_internal_strconv_uint64pow10), ("guerdon/date.monthLengths", laid_guerdon_date_monthLengths)] }
def ValueRoundTripSaid : Prop := valueRoundTripRow.holds Tryd.pinned (OpenSpec.ofChange valueRoundTripSpec)

/-- ITS FALSE NEIGHBOUR: 'it returns false'. Refute it at one input. -/
def valueRoundTripWrong : ChangeSpec := { name := "valueRoundTrip", fn := fun _ => fun
  | [d1, d2] => { results := [.lit (.bool false)], args := [d1, d2] }
  | _ => none }
def ValueRoundTripWrongFalsely : Prop := valueRoundTripRow.holds Tryd.pinned (OpenSpec.ofChange valueRoundTripWrong)

/-- 'guerdonlaw09.ValueDistinct': WHATEVER THE INPUT: true; the input reads as it did. -/
def valueDistinctSpec : ChangeSpec := { name := "valueDistinct", fn := fun _ => fun
  | [d1, d2, d3] => { results := [.lit (.bool true)], args := [d1, d2, d3] }
  | _ => none }
def valueDistinctRow : OpenClaim := { program := "ytjdljholajacdaadoor", sum := "d96dc922b8e62e7fad8c1ae38274c3f4fc584d55a2a8e3ca2dac2b17083e2947", func := "guerdon/guerdonlaw09.ValueDistinct", spec := "valueDistinct", inPlace := ["internal/abi.NoEscape", "internal/bytealg.MakeNoZero"], named := ["internal/strconv.uint64pow10", "math/bits.deBruijn32tab", "math/bits.deBruijn64tab", "guerdon/date.monthLengths"], apart := false, laid := [("math/bits.deBruijn32tab", laid_math_bits_deBruijn32tab), ("math/bits.deBruijn64tab", laid_math_bits_deBruijn64tab), ("internal/strconv.uint64pow10", laid_internal_strconv_uint64pow10), ("guerdon/date.monthLengths", laid_guerdon_date_monthLengths)] }
def ValueDistinctSaid : Prop := valueDistinctRow.holds Tryd.pinned (OpenSpec.ofChange valueDistinctSpec)

/-- ITS FALSE NEIGHBOUR: 'it returns false'. Refute it at one input. -/
def valueDistinctWrong : ChangeSpec := { name := "valueDistinct", fn := fun _ => fun
  | [d1, d2, d3] => { results := [.lit (.bool false)], args := [d1, d2, d3] }
  | _ => none }
def ValueDistinctWrongFalsely : Prop := valueDistinctRow.holds Tryd.pinned (OpenSpec.ofChange valueDistinctWrong)

/-- 'guerdonlaw09.ValueCanonical': WHATEVER THE INPUT: true; the input reads as it did. -/
def valueCanonicalSpec : ChangeSpec := { name := "valueCanonical", fn := fun _ => fun
  | [d1, d2, d3] => { results := [.lit (.bool true)], args := [d1, d2, d3] }
  | _ => none }
def valueCanonicalRow : OpenClaim := { program := "ytjdljholajacdaadoor", sum := "d96dc922b8e62e7fad8c1ae38274c3f4fc584d55a2a8e3ca2dac2b17083e2947", func := "guerdon/guerdonlaw09.ValueCanonical", spec := "valueCanonical", inPlace := ["internal/abi.NoEscape", "internal/bytealg.MakeNoZero"], named := ["internal/strconv.uint64pow10", "math/bits.deBruijn32tab", "math/bits.deBruijn64tab", "guerdon/date.monthLengths"], apart := false, laid := [("math/bits.deBruijn32tab", laid_math_bits_deBruijn32tab), ("math/bits.deBruijn64tab", laid_math_bits_deBruijn64tab), ("internal/strconv.uint64pow10", laid_internal_strconv_uint64pow10), ("guerdon/date.monthLengths", laid_guerdon_date_monthLengths)] }
def ValueCanonicalSaid : Prop := valueCanonicalRow.holds Tryd.pinned (OpenSpec.ofChange valueCanonicalSpec)

/-- ITS FALSE NEIGHBOUR: 'it returns false'. Refute it at one input. -/
def valueCanonicalWrong : ChangeSpec := { name := "valueCanonical", fn := fun _ => fun
  | [d1, d2, d3] => { results := [.lit (.bool false)], args := [d1, d2, d3] }
  | _ => none }
def ValueCanonicalWrongFalsely : Prop := valueCanonicalRow.holds Tryd.pinned (OpenSpec.ofChange valueCanonicalWrong)

/-- 'guerdonlaw09.ValueTypes': WHATEVER THE INPUT: true; the input reads as it did. -/
def valueTypesSpec : ChangeSpec := { name := "valueTypes", fn := fun _ => fun
  | [d1, d2, d3] => { results := [.lit (.bool true)], args := [d1, d2, d3] }
  | _ => none }
def valueTypesRow : OpenClaim := { program := "ytjdljholajacdaadoor", sum := "d96dc922b8e62e7fad8c1ae38274c3f4fc584d55a2a8e3ca2dac2b17083e2947", func := "guerdon/guerdonlaw09.ValueTypes", spec := "valueTypes", inPlace := ["internal/abi.NoEscape", "internal/bytealg.MakeNoZero"], named := ["internal/strconv.uint64pow10", "math/bits.deBruijn32tab", "math/bits.deBruijn64tab", "guerdon/date.monthLengths"], apart := false, laid := [("math/bits.deBruijn32tab", laid_math_bits_deBruijn32tab), ("math/bits.deBruijn64tab", laid_math_bits_deBruijn64tab), ("internal/strconv.uint64pow10", laid_internal_strconv_uint64pow10), ("guerdon/date.monthLengths", laid_guerdon_date_monthLengths)] }
def ValueTypesSaid : Prop := valueTypesRow.holds Tryd.pinned (OpenSpec.ofChange valueTypesSpec)

/-- ITS FALSE NEIGHBOUR: 'it returns false'. Refute it at one input. -/
def valueTypesWrong : ChangeSpec := { name := "valueTypes", fn := fun _ => fun
  | [d1, d2, d3] => { results := [.lit (.bool false)], args := [d1, d2, d3] }
  | _ => none }
def ValueTypesWrongFalsely : Prop := valueTypesRow.holds Tryd.pinned (OpenSpec.ofChange valueTypesWrong)

/-- 'guerdonlaw45.NoticeId': WHATEVER THE INPUT: true; the input reads as it did. -/
def noticeIdSpec : ChangeSpec := { name := "noticeId", fn := fun _ => fun
  | [d1, d2] => { results := [.lit (.bool true)], args := [d1, d2] }
  | _ => none }
def noticeIdRow : OpenClaim := { program := "ytjdljholajacdaadoor", sum := "d96dc922b8e62e7fad8c1ae38274c3f4fc584d55a2a8e3ca2dac2b17083e2947", func := "guerdon/guerdonlaw45.NoticeId", spec := "noticeId", inPlace := ["internal/bytealg.CountString", "internal/bytealg.IndexByteString", "internal/bytealg.IndexString", "internal/abi.NoEscape", "internal/bytealg.MakeNoZero"], named := ["unicode/utf8.first", "unicode/utf8.acceptRanges", "internal/bytealg.MaxLen", "internal/strconv.uint64pow10", "math/bits.deBruijn32tab", "math/bits.deBruijn64tab"], apart := false, laid := [("math/bits.deBruijn32tab", laid_math_bits_deBruijn32tab), ("math/bits.deBruijn64tab", laid_math_bits_deBruijn64tab), ("internal/strconv.uint64pow10", laid_internal_strconv_uint64pow10), ("unicode/utf8.acceptRanges", laid_unicode_utf8_acceptRanges), ("unicode/utf8.first", laid_unicode_utf8_first)] }
def NoticeIdSaid : Prop := noticeIdRow.holds Tryd.pinned (OpenSpec.ofChange noticeIdSpec)

/-- ITS FALSE NEIGHBOUR: 'it returns false'. Refute it at one input. -/
def noticeIdWrong : ChangeSpec := { name := "noticeId", fn := fun _ => fun
  | [d1, d2] => { results := [.lit (.bool false)], args := [d1, d2] }
  | _ => none }
def NoticeIdWrongFalsely : Prop := noticeIdRow.holds Tryd.pinned (OpenSpec.ofChange noticeIdWrong)

/-- 'guerdonlaw45.NoticeForPayment': WHATEVER THE INPUT: true; the input reads as it did. -/
def noticeForPaymentSpec : ChangeSpec := { name := "noticeForPayment", fn := fun _ => fun
  | [d1, d2, d3, d4] => { results := [.lit (.bool true)], args := [d1, d2, d3, d4] }
  | _ => none }
def noticeForPaymentRow : OpenClaim := { program := "ytjdljholajacdaadoor", sum := "d96dc922b8e62e7fad8c1ae38274c3f4fc584d55a2a8e3ca2dac2b17083e2947", func := "guerdon/guerdonlaw45.NoticeForPayment", spec := "noticeForPayment", inPlace := ["internal/bytealg.CountString", "internal/bytealg.IndexByteString", "internal/bytealg.IndexString", "internal/abi.NoEscape", "internal/bytealg.MakeNoZero"], named := ["unicode/utf8.first", "unicode/utf8.acceptRanges", "internal/bytealg.MaxLen", "internal/strconv.uint64pow10", "math/bits.deBruijn32tab", "math/bits.deBruijn64tab"], apart := false, laid := [("math/bits.deBruijn32tab", laid_math_bits_deBruijn32tab), ("math/bits.deBruijn64tab", laid_math_bits_deBruijn64tab), ("internal/strconv.uint64pow10", laid_internal_strconv_uint64pow10), ("unicode/utf8.acceptRanges", laid_unicode_utf8_acceptRanges), ("unicode/utf8.first", laid_unicode_utf8_first)] }
def NoticeForPaymentSaid : Prop := noticeForPaymentRow.holds Tryd.pinned (OpenSpec.ofChange noticeForPaymentSpec)

/-- ITS FALSE NEIGHBOUR: 'it returns false'. Refute it at one input. -/
def noticeForPaymentWrong : ChangeSpec := { name := "noticeForPayment", fn := fun _ => fun
  | [d1, d2, d3, d4] => { results := [.lit (.bool false)], args := [d1, d2, d3, d4] }
  | _ => none }
def NoticeForPaymentWrongFalsely : Prop := noticeForPaymentRow.holds Tryd.pinned (OpenSpec.ofChange noticeForPaymentWrong)

/-- 'guerdonlaw45.NoticeFormat': WHATEVER THE INPUT: true; the input reads as it did. -/
def noticeFormatSpec : ChangeSpec := { name := "noticeFormat", fn := fun _ => fun
  | [d] => { results := [.lit (.bool true)], args := [d] }
  | _ => none }
def noticeFormatRow : OpenClaim := { program := "ytjdljholajacdaadoor", sum := "d96dc922b8e62e7fad8c1ae38274c3f4fc584d55a2a8e3ca2dac2b17083e2947", func := "guerdon/guerdonlaw45.NoticeFormat", spec := "noticeFormat", inPlace := ["internal/abi.NoEscape", "internal/bytealg.MakeNoZero", "internal/bytealg.CountString", "internal/bytealg.IndexByteString", "internal/bytealg.IndexString"], recurses := true, named := ["internal/strconv.uint64pow10", "math/bits.deBruijn32tab", "math/bits.deBruijn64tab", "unicode/utf8.first", "unicode/utf8.acceptRanges", "internal/bytealg.MaxLen"], apart := false, laid := [("math/bits.deBruijn32tab", laid_math_bits_deBruijn32tab), ("math/bits.deBruijn64tab", laid_math_bits_deBruijn64tab), ("internal/strconv.uint64pow10", laid_internal_strconv_uint64pow10), ("unicode/utf8.acceptRanges", laid_unicode_utf8_acceptRanges), ("unicode/utf8.first", laid_unicode_utf8_first)] }
def NoticeFormatSaid : Prop := noticeFormatRow.holds Tryd.pinned (OpenSpec.ofChange noticeFormatSpec)

/-- ITS FALSE NEIGHBOUR: 'it returns false'. Refute it at one input. -/
def noticeFormatWrong : ChangeSpec := { name := "noticeFormat", fn := fun _ => fun
  | [d] => { results := [.lit (.bool false)], args := [d] }
  | _ => none }
def NoticeFormatWrongFalsely : Prop := noticeFormatRow.holds Tryd.pinned (OpenSpec.ofChange noticeFormatWrong)

/-- 'guerdonlaw45.NoticeParse': WHATEVER THE INPUT: true; the input reads as it did. -/
def noticeParseSpec : ChangeSpec := { name := "noticeParse", fn := fun _ => fun
  | [d] => { results := [.lit (.bool true)], args := [d] }
  | _ => none }
def noticeParseRow : OpenClaim := { program := "ytjdljholajacdaadoor", sum := "d96dc922b8e62e7fad8c1ae38274c3f4fc584d55a2a8e3ca2dac2b17083e2947", func := "guerdon/guerdonlaw45.NoticeParse", spec := "noticeParse", inPlace := ["internal/bytealg.CountString", "internal/bytealg.IndexByteString", "internal/bytealg.IndexString", "internal/abi.NoEscape", "internal/bytealg.MakeNoZero"], recurses := true, named := ["unicode/utf8.first", "unicode/utf8.acceptRanges", "internal/bytealg.MaxLen", "internal/strconv.uint64pow10", "math/bits.deBruijn32tab", "math/bits.deBruijn64tab"], apart := false, laid := [("math/bits.deBruijn32tab", laid_math_bits_deBruijn32tab), ("math/bits.deBruijn64tab", laid_math_bits_deBruijn64tab), ("internal/strconv.uint64pow10", laid_internal_strconv_uint64pow10), ("unicode/utf8.acceptRanges", laid_unicode_utf8_acceptRanges), ("unicode/utf8.first", laid_unicode_utf8_first)] }
def NoticeParseSaid : Prop := noticeParseRow.holds Tryd.pinned (OpenSpec.ofChange noticeParseSpec)

/-- ITS FALSE NEIGHBOUR: 'it returns false'. Refute it at one input. -/
def noticeParseWrong : ChangeSpec := { name := "noticeParse", fn := fun _ => fun
  | [d] => { results := [.lit (.bool false)], args := [d] }
  | _ => none }
def NoticeParseWrongFalsely : Prop := noticeParseRow.holds Tryd.pinned (OpenSpec.ofChange noticeParseWrong)

/-- 'guerdonlaw45.NoticeUnique': WHATEVER THE INPUT: true; the input reads as it did. -/
def noticeUniqueSpec : ChangeSpec := { name := "noticeUnique", fn := fun _ => fun
  | [d1, d2, d3] => { results := [.lit (.bool true)], args := [d1, d2, d3] }
  | _ => none }
def noticeUniqueRow : OpenClaim := { program := "ytjdljholajacdaadoor", sum := "d96dc922b8e62e7fad8c1ae38274c3f4fc584d55a2a8e3ca2dac2b17083e2947", func := "guerdon/guerdonlaw45.NoticeUnique", spec := "noticeUnique", inPlace := ["internal/bytealg.CountString", "internal/bytealg.IndexByteString", "internal/bytealg.IndexString", "internal/abi.NoEscape", "internal/bytealg.MakeNoZero"], named := ["unicode/utf8.first", "unicode/utf8.acceptRanges", "internal/bytealg.MaxLen", "internal/strconv.uint64pow10", "math/bits.deBruijn32tab", "math/bits.deBruijn64tab"], apart := false, laid := [("math/bits.deBruijn32tab", laid_math_bits_deBruijn32tab), ("math/bits.deBruijn64tab", laid_math_bits_deBruijn64tab), ("internal/strconv.uint64pow10", laid_internal_strconv_uint64pow10), ("unicode/utf8.acceptRanges", laid_unicode_utf8_acceptRanges), ("unicode/utf8.first", laid_unicode_utf8_first)] }
def NoticeUniqueSaid : Prop := noticeUniqueRow.holds Tryd.pinned (OpenSpec.ofChange noticeUniqueSpec)

/-- ITS FALSE NEIGHBOUR: 'it returns false'. Refute it at one input. -/
def noticeUniqueWrong : ChangeSpec := { name := "noticeUnique", fn := fun _ => fun
  | [d1, d2, d3] => { results := [.lit (.bool false)], args := [d1, d2, d3] }
  | _ => none }
def NoticeUniqueWrongFalsely : Prop := noticeUniqueRow.holds Tryd.pinned (OpenSpec.ofChange noticeUniqueWrong)

/- THE SECOND FORM. 'bulk': how many values and letters a reading holds, each counted each time it is reached (what is shared counts as often as it is met; a slice's spare places count too). A statement '..UptoSaid' is the law's where the arguments, and the package variables that the reading takes, are together of bulk at most 1048576: NARROWER than '..Said'. Prove '..Said' where nothing that the law and all that it calls make is longer than what came in: it says more and counts as full. Else prove '..UptoSaid'. A law counts once. -/
mutual
def uptoBulk {H : Type} : DataW H → Nat
  | .lit (.string bytes) => bytes.length + 1
  | .lit _ => 1
  | .nil => 1
  | .ptr d => uptoBulk d + 1
  | .slice elems spare => uptoBulkAll elems + uptoBulkAll spare + 1
  | .agg parts => uptoBulkAll parts + 1
  | .iface _ d => uptoBulk d + 1
  | .map entries => uptoBulkEntries entries + 1
  | .held _ => 1
def uptoBulkAll {H : Type} : List (DataW H) → Nat
  | [] => 0
  | d :: r => uptoBulk d + uptoBulkAll r
def uptoBulkEntries {H : Type} : List (Lit × DataW H) → Nat
  | [] => 0
  | x :: r => uptoBulkEntry x + uptoBulkEntries r
def uptoBulkEntry {H : Type} : Lit × DataW H → Nat
  | (.string bytes, d) => bytes.length + uptoBulk d + 1
  | (_, d) => uptoBulk d + 1
 end
def uptoSmall : (H : Type) → List (DataW H) → Bool := fun _ ds => decide (uptoBulkAll ds ≤ 1048576)
def OpenSpec.upto (s : _root_.Go.ChangeSpec) : _root_.Go.OpenSpec := { _root_.Go.OpenSpec.ofChange s with cond := some uptoSmall }

/-- 'guerdonlaw09.ValueFormat', WHERE WHAT IT READS IS OF BULK AT MOST 1048576: true; the input reads as it did. -/
def valueFormatUptoRow : OpenClaim := { program := "ytjdljholajacdaadoor", sum := "d96dc922b8e62e7fad8c1ae38274c3f4fc584d55a2a8e3ca2dac2b17083e2947", func := "guerdon/guerdonlaw09.ValueFormat", spec := "valueFormat", inPlace := ["internal/abi.NoEscape", "internal/bytealg.MakeNoZero"], recurses := true, named := ["internal/strconv.uint64pow10", "math/bits.deBruijn32tab", "math/bits.deBruijn64tab", "guerdon/date.monthLengths"], apart := false, laid := [("math/bits.deBruijn32tab", laid_math_bits_deBruijn32tab), ("math/bits.deBruijn64tab", laid_math_bits_deBruijn64tab), ("internal/strconv.uint64pow10", laid_internal_strconv_uint64pow10), ("guerdon/date.monthLengths", laid_guerdon_date_monthLengths)], narrowed := true }
def ValueFormatUptoSaid : Prop := valueFormatUptoRow.holds Tryd.pinned (OpenSpec.upto valueFormatSpec)

/-- 'guerdonlaw09.ValueParse', WHERE WHAT IT READS IS OF BULK AT MOST 1048576: true; the input reads as it did. -/
def valueParseUptoRow : OpenClaim := { program := "ytjdljholajacdaadoor", sum := "d96dc922b8e62e7fad8c1ae38274c3f4fc584d55a2a8e3ca2dac2b17083e2947", func := "guerdon/guerdonlaw09.ValueParse", spec := "valueParse", inPlace := ["internal/abi.NoEscape", "internal/bytealg.MakeNoZero"], named := ["internal/strconv.uint64pow10", "math/bits.deBruijn32tab", "math/bits.deBruijn64tab", "guerdon/date.monthLengths"], apart := false, laid := [("math/bits.deBruijn32tab", laid_math_bits_deBruijn32tab), ("math/bits.deBruijn64tab", laid_math_bits_deBruijn64tab), ("internal/strconv.uint64pow10", laid_internal_strconv_uint64pow10), ("guerdon/date.monthLengths", laid_guerdon_date_monthLengths)], narrowed := true }
def ValueParseUptoSaid : Prop := valueParseUptoRow.holds Tryd.pinned (OpenSpec.upto valueParseSpec)

/-- 'guerdonlaw09.ValueRoundTrip', WHERE WHAT IT READS IS OF BULK AT MOST 1048576: true; the input reads as it did. -/
def valueRoundTripUptoRow : OpenClaim := { program := "ytjdljholajacdaadoor", sum := "d96dc922b8e62e7fad8c1ae38274c3f4fc584d55a2a8e3ca2dac2b17083e2947", func := "guerdon/guerdonlaw09.ValueRoundTrip", spec := "valueRoundTrip", inPlace := ["internal/abi.NoEscape", "internal/bytealg.MakeNoZero"], named := ["internal/strconv.uint64pow10", "math/bits.deBruijn32tab", "math/bits.deBruijn64tab", "guerdon/date.monthLengths"], apart := false, laid := [("math/bits.deBruijn32tab", laid_math_bits_deBruijn32tab), ("math/bits.deBruijn64tab", laid_math_bits_deBruijn64tab), ("internal/strconv.uint64pow10", laid_internal_strconv_uint64pow10), ("guerdon/date.monthLengths", laid_guerdon_date_monthLengths)], narrowed := true }
def ValueRoundTripUptoSaid : Prop := valueRoundTripUptoRow.holds Tryd.pinned (OpenSpec.upto valueRoundTripSpec)

/-- 'guerdonlaw09.ValueDistinct', WHERE WHAT IT READS IS OF BULK AT MOST 1048576: true; the input reads as it did. -/
def valueDistinctUptoRow : OpenClaim := { program := "ytjdljholajacdaadoor", sum := "d96dc922b8e62e7fad8c1ae38274c3f4fc584d55a2a8e3ca2dac2b17083e2947", func := "guerdon/guerdonlaw09.ValueDistinct", spec := "valueDistinct", inPlace := ["internal/abi.NoEscape", "internal/bytealg.MakeNoZero"], named := ["internal/strconv.uint64pow10", "math/bits.deBruijn32tab", "math/bits.deBruijn64tab", "guerdon/date.monthLengths"], apart := false, laid := [("math/bits.deBruijn32tab", laid_math_bits_deBruijn32tab), ("math/bits.deBruijn64tab", laid_math_bits_deBruijn64tab), ("internal/strconv.uint64pow10", laid_internal_strconv_uint64pow10), ("guerdon/date.monthLengths", laid_guerdon_date_monthLengths)], narrowed := true }
def ValueDistinctUptoSaid : Prop := valueDistinctUptoRow.holds Tryd.pinned (OpenSpec.upto valueDistinctSpec)

/-- 'guerdonlaw09.ValueCanonical', WHERE WHAT IT READS IS OF BULK AT MOST 1048576: true; the input reads as it did. -/
def valueCanonicalUptoRow : OpenClaim := { program := "ytjdljholajacdaadoor", sum := "d96dc922b8e62e7fad8c1ae38274c3f4fc584d55a2a8e3ca2dac2b17083e2947", func := "guerdon/guerdonlaw09.ValueCanonical", spec := "valueCanonical", inPlace := ["internal/abi.NoEscape", "internal/bytealg.MakeNoZero"], named := ["internal/strconv.uint64pow10", "math/bits.deBruijn32tab", "math/bits.deBruijn64tab", "guerdon/date.monthLengths"], apart := false, laid := [("math/bits.deBruijn32tab", laid_math_bits_deBruijn32tab), ("math/bits.deBruijn64tab", laid_math_bits_deBruijn64tab), ("internal/strconv.uint64pow10", laid_internal_strconv_uint64pow10), ("guerdon/date.monthLengths", laid_guerdon_date_monthLengths)], narrowed := true }
def ValueCanonicalUptoSaid : Prop := valueCanonicalUptoRow.holds Tryd.pinned (OpenSpec.upto valueCanonicalSpec)

/-- 'guerdonlaw09.ValueTypes', WHERE WHAT IT READS IS OF BULK AT MOST 1048576: true; the input reads as it did. -/
def valueTypesUptoRow : OpenClaim := { program := "ytjdljholajacdaadoor", sum := "d96dc922b8e62e7fad8c1ae38274c3f4fc584d55a2a8e3ca2dac2b17083e2947", func := "guerdon/guerdonlaw09.ValueTypes", spec := "valueTypes", inPlace := ["internal/abi.NoEscape", "internal/bytealg.MakeNoZero"], named := ["internal/strconv.uint64pow10", "math/bits.deBruijn32tab", "math/bits.deBruijn64tab", "guerdon/date.monthLengths"], apart := false, laid := [("math/bits.deBruijn32tab", laid_math_bits_deBruijn32tab), ("math/bits.deBruijn64tab", laid_math_bits_deBruijn64tab), ("internal/strconv.uint64pow10", laid_internal_strconv_uint64pow10), ("guerdon/date.monthLengths", laid_guerdon_date_monthLengths)], narrowed := true }
def ValueTypesUptoSaid : Prop := valueTypesUptoRow.holds Tryd.pinned (OpenSpec.upto valueTypesSpec)

/-- 'guerdonlaw45.NoticeId', WHERE WHAT IT READS IS OF BULK AT MOST 1048576: true; the input reads as it did. -/
def noticeIdUptoRow : OpenClaim := { program := "ytjdljholajacdaadoor", sum := "d96dc922b8e62e7fad8c1ae38274c3f4fc584d55a2a8e3ca2dac2b17083e2947", func := "guerdon/guerdonlaw45.NoticeId", spec := "noticeId", inPlace := ["internal/bytealg.CountString", "internal/bytealg.IndexByteString", "internal/bytealg.IndexString", "internal/abi.NoEscape", "internal/bytealg.MakeNoZero"], named := ["unicode/utf8.first", "unicode/utf8.acceptRanges", "internal/bytealg.MaxLen", "internal/strconv.uint64pow10", "math/bits.deBruijn32tab", "math/bits.deBruijn64tab"], apart := false, laid := [("math/bits.deBruijn32tab", laid_math_bits_deBruijn32tab), ("math/bits.deBruijn64tab", laid_math_bits_deBruijn64tab), ("internal/strconv.uint64pow10", laid_internal_strconv_uint64pow10), ("unicode/utf8.acceptRanges", laid_unicode_utf8_acceptRanges), ("unicode/utf8.first", laid_unicode_utf8_first)], narrowed := true }
def NoticeIdUptoSaid : Prop := noticeIdUptoRow.holds Tryd.pinned (OpenSpec.upto noticeIdSpec)

/-- 'guerdonlaw45.NoticeForPayment', WHERE WHAT IT READS IS OF BULK AT MOST 1048576: true; the input reads as it did. -/
def noticeForPaymentUptoRow : OpenClaim := { program := "ytjdljholajacdaadoor", sum := "d96dc922b8e62e7fad8c1ae38274c3f4fc584d55a2a8e3ca2dac2b17083e2947", func := "guerdon/guerdonlaw45.NoticeForPayment", spec := "noticeForPayment", inPlace := ["internal/bytealg.CountString", "internal/bytealg.IndexByteString", "internal/bytealg.IndexString", "internal/abi.NoEscape", "internal/bytealg.MakeNoZero"], named := ["unicode/utf8.first", "unicode/utf8.acceptRanges", "internal/bytealg.MaxLen", "internal/strconv.uint64pow10", "math/bits.deBruijn32tab", "math/bits.deBruijn64tab"], apart := false, laid := [("math/bits.deBruijn32tab", laid_math_bits_deBruijn32tab), ("math/bits.deBruijn64tab", laid_math_bits_deBruijn64tab), ("internal/strconv.uint64pow10", laid_internal_strconv_uint64pow10), ("unicode/utf8.acceptRanges", laid_unicode_utf8_acceptRanges), ("unicode/utf8.first", laid_unicode_utf8_first)], narrowed := true }
def NoticeForPaymentUptoSaid : Prop := noticeForPaymentUptoRow.holds Tryd.pinned (OpenSpec.upto noticeForPaymentSpec)

/-- 'guerdonlaw45.NoticeFormat', WHERE WHAT IT READS IS OF BULK AT MOST 1048576: true; the input reads as it did. -/
def noticeFormatUptoRow : OpenClaim := { program := "ytjdljholajacdaadoor", sum := "d96dc922b8e62e7fad8c1ae38274c3f4fc584d55a2a8e3ca2dac2b17083e2947", func := "guerdon/guerdonlaw45.NoticeFormat", spec := "noticeFormat", inPlace := ["internal/abi.NoEscape", "internal/bytealg.MakeNoZero", "internal/bytealg.CountString", "internal/bytealg.IndexByteString", "internal/bytealg.IndexString"], recurses := true, named := ["internal/strconv.uint64pow10", "math/bits.deBruijn32tab", "math/bits.deBruijn64tab", "unicode/utf8.first", "unicode/utf8.acceptRanges", "internal/bytealg.MaxLen"], apart := false, laid := [("math/bits.deBruijn32tab", laid_math_bits_deBruijn32tab), ("math/bits.deBruijn64tab", laid_math_bits_deBruijn64tab), ("internal/strconv.uint64pow10", laid_internal_strconv_uint64pow10), ("unicode/utf8.acceptRanges", laid_unicode_utf8_acceptRanges), ("unicode/utf8.first", laid_unicode_utf8_first)], narrowed := true }
def NoticeFormatUptoSaid : Prop := noticeFormatUptoRow.holds Tryd.pinned (OpenSpec.upto noticeFormatSpec)

/-- 'guerdonlaw45.NoticeParse', WHERE WHAT IT READS IS OF BULK AT MOST 1048576: true; the input reads as it did. -/
def noticeParseUptoRow : OpenClaim := { program := "ytjdljholajacdaadoor", sum := "d96dc922b8e62e7fad8c1ae38274c3f4fc584d55a2a8e3ca2dac2b17083e2947", func := "guerdon/guerdonlaw45.NoticeParse", spec := "noticeParse", inPlace := ["internal/bytealg.CountString", "internal/bytealg.IndexByteString", "internal/bytealg.IndexString", "internal/abi.NoEscape", "internal/bytealg.MakeNoZero"], recurses := true, named := ["unicode/utf8.first", "unicode/utf8.acceptRanges", "internal/bytealg.MaxLen", "internal/strconv.uint64pow10", "math/bits.deBruijn32tab", "math/bits.deBruijn64tab"], apart := false, laid := [("math/bits.deBruijn32tab", laid_math_bits_deBruijn32tab), ("math/bits.deBruijn64tab", laid_math_bits_deBruijn64tab), ("internal/strconv.uint64pow10", laid_internal_strconv_uint64pow10), ("unicode/utf8.acceptRanges", laid_unicode_utf8_acceptRanges), ("unicode/utf8.first", laid_unicode_utf8_first)], narrowed := true }
def NoticeParseUptoSaid : Prop := noticeParseUptoRow.holds Tryd.pinned (OpenSpec.upto noticeParseSpec)

/-- 'guerdonlaw45.NoticeUnique', WHERE WHAT IT READS IS OF BULK AT MOST 1048576: true; the input reads as it did. -/
def noticeUniqueUptoRow : OpenClaim := { program := "ytjdljholajacdaadoor", sum := "d96dc922b8e62e7fad8c1ae38274c3f4fc584d55a2a8e3ca2dac2b17083e2947", func := "guerdon/guerdonlaw45.NoticeUnique", spec := "noticeUnique", inPlace := ["internal/bytealg.CountString", "internal/bytealg.IndexByteString", "internal/bytealg.IndexString", "internal/abi.NoEscape", "internal/bytealg.MakeNoZero"], named := ["unicode/utf8.first", "unicode/utf8.acceptRanges", "internal/bytealg.MaxLen", "internal/strconv.uint64pow10", "math/bits.deBruijn32tab", "math/bits.deBruijn64tab"], apart := false, laid := [("math/bits.deBruijn32tab", laid_math_bits_deBruijn32tab), ("math/bits.deBruijn64tab", laid_math_bits_deBruijn64tab), ("internal/strconv.uint64pow10", laid_internal_strconv_uint64pow10), ("unicode/utf8.acceptRanges", laid_unicode_utf8_acceptRanges), ("unicode/utf8.first", laid_unicode_utf8_first)], narrowed := true }
def NoticeUniqueUptoSaid : Prop := noticeUniqueUptoRow.holds Tryd.pinned (OpenSpec.upto noticeUniqueSpec)

end Rows
end Go.Proofs.YtjdljholajacdaaDoor
