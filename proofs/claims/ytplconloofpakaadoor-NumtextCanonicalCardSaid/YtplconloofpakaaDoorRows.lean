/-
  NARROWER THAN 'FOR EVERY INPUT', by the rows' own cells (each row's printed sentence says how): DateFields: laid · DateMonths: laid · DateAnniversary: laid · DateTexts: laid · DateRoundTrip: laid · NumtextInts: laid · NumtextFixed: laid · NumtextFields: laid · NumtextLines: laid · NumtextRoundTrip: laid · NumtextCanonical: laid.
  DERIVED. THE GIVEN ROWS OF THIS SEAT. 11 by the template 'for every input the law returns true; each argument reads behind the call as it read before'; 0 by the template 'total and deterministic' (their statements: YtplconloofpakaaDoorTotals.lean).
  GIVEN WITH THE SEED: the statements are not yours to turn. If you find one false, say at which input.
  Laid BY PROGRAM, IN A SANDBOX (cutbox-rows.mjs): the forced cells as the released guide's own fill.sh prints them over the translation b12a901aa4f57682… (all of the seat's roots in one cut). By AI agents, Wed Nov 11 2026. No macro, syntax, notation, axiom, sorry.
-/
import Derived.Test.YtplconloofpakaaDoorChecked
import GoSem.Claim
import GoSem.ClaimJoined
import GoSem.ClaimMapViews
import Derived.JoinedTies
import Derived.KernelRfl
namespace Go.Proofs.YtplconloofpakaaDoor
/- THE CELL 'sum', in the pinned program and in every row, IS THE sha256 OF THE DUMP (.gsa) THAT YtplconloofpakaaDoorProg.lean LOADS. Nothing in Lean hashes anything: it is a label: what it is worth is what the hold of that sum in a sandbox is worth. -/
noncomputable def Tryd.pinned : Pinned := { name := "ytplconloofpakaadoor", sum := "b12a901aa4f57682cd92a8b61b64d43f5ef923b77bf906bce3c678855b22445a", checked := Tryd.checked }
namespace Rows
def none {H : Type} : Left H := { results := [], args := [] }

/- WHAT THE LISTED PACKAGE-LEVEL VARIABLES READ AS WHEN THE CALL BEGINS. Each datum BY PROGRAM (the guide's laid-datum.mjs) off the statement by which the dump's own 'gosem.cut.vars' lays the variable. In a bare row this is a premise. The card (YtplconloofpakaaDoorCards.lean) ties it to the program's text. -/
def laid_math_bits_deBruijn32tab {H : Type} : DataW H := .agg [.lit (.int .u8 0), .lit (.int .u8 1), .lit (.int .u8 28), .lit (.int .u8 2), .lit (.int .u8 29), .lit (.int .u8 14), .lit (.int .u8 24), .lit (.int .u8 3), .lit (.int .u8 30), .lit (.int .u8 22), .lit (.int .u8 20), .lit (.int .u8 15), .lit (.int .u8 25), .lit (.int .u8 17), .lit (.int .u8 4), .lit (.int .u8 8), .lit (.int .u8 31), .lit (.int .u8 27), .lit (.int .u8 13), .lit (.int .u8 23), .lit (.int .u8 21), .lit (.int .u8 19), .lit (.int .u8 16), .lit (.int .u8 7), .lit (.int .u8 26), .lit (.int .u8 12), .lit (.int .u8 18), .lit (.int .u8 6), .lit (.int .u8 11), .lit (.int .u8 5), .lit (.int .u8 10), .lit (.int .u8 9)]
def laid_math_bits_deBruijn64tab {H : Type} : DataW H := .agg [.lit (.int .u8 0), .lit (.int .u8 1), .lit (.int .u8 56), .lit (.int .u8 2), .lit (.int .u8 57), .lit (.int .u8 49), .lit (.int .u8 28), .lit (.int .u8 3), .lit (.int .u8 61), .lit (.int .u8 58), .lit (.int .u8 42), .lit (.int .u8 50), .lit (.int .u8 38), .lit (.int .u8 29), .lit (.int .u8 17), .lit (.int .u8 4), .lit (.int .u8 62), .lit (.int .u8 47), .lit (.int .u8 59), .lit (.int .u8 36), .lit (.int .u8 45), .lit (.int .u8 43), .lit (.int .u8 51), .lit (.int .u8 22), .lit (.int .u8 53), .lit (.int .u8 39), .lit (.int .u8 33), .lit (.int .u8 30), .lit (.int .u8 24), .lit (.int .u8 18), .lit (.int .u8 12), .lit (.int .u8 5), .lit (.int .u8 63), .lit (.int .u8 55), .lit (.int .u8 48), .lit (.int .u8 27), .lit (.int .u8 60), .lit (.int .u8 41), .lit (.int .u8 37), .lit (.int .u8 16), .lit (.int .u8 46), .lit (.int .u8 35), .lit (.int .u8 44), .lit (.int .u8 21), .lit (.int .u8 52), .lit (.int .u8 32), .lit (.int .u8 23), .lit (.int .u8 11), .lit (.int .u8 54), .lit (.int .u8 26), .lit (.int .u8 40), .lit (.int .u8 15), .lit (.int .u8 34), .lit (.int .u8 20), .lit (.int .u8 31), .lit (.int .u8 10), .lit (.int .u8 25), .lit (.int .u8 14), .lit (.int .u8 19), .lit (.int .u8 9), .lit (.int .u8 13), .lit (.int .u8 8), .lit (.int .u8 7), .lit (.int .u8 6)]
def laid_internal_strconv_uint64pow10 {H : Type} : DataW H := .agg [.lit (.int .u64 1), .lit (.int .u64 10), .lit (.int .u64 100), .lit (.int .u64 1000), .lit (.int .u64 10000), .lit (.int .u64 100000), .lit (.int .u64 1000000), .lit (.int .u64 10000000), .lit (.int .u64 100000000), .lit (.int .u64 1000000000), .lit (.int .u64 10000000000), .lit (.int .u64 100000000000), .lit (.int .u64 1000000000000), .lit (.int .u64 10000000000000), .lit (.int .u64 100000000000000), .lit (.int .u64 1000000000000000), .lit (.int .u64 10000000000000000), .lit (.int .u64 100000000000000000), .lit (.int .u64 1000000000000000000), .lit (.int .u64 10000000000000000000)]
def laid_guerdon_date_monthLengths {H : Type} : DataW H := .agg [.lit (.int .i64 31), .lit (.int .i64 28), .lit (.int .i64 31), .lit (.int .i64 30), .lit (.int .i64 31), .lit (.int .i64 30), .lit (.int .i64 31), .lit (.int .i64 31), .lit (.int .i64 30), .lit (.int .i64 31), .lit (.int .i64 30), .lit (.int .i64 31)]

/-- 'guerdonlaw04.DateFields': WHATEVER THE INPUT: true; the input reads as it did. -/
def dateFieldsSpec : ChangeSpec := { name := "dateFields", fn := fun _ => fun
  | [d1, d2, d3, d4] => { results := [.lit (.bool true)], args := [d1, d2, d3, d4] }
  | _ => none }
def dateFieldsRow : OpenClaim := { program := "ytplconloofpakaadoor", sum := "b12a901aa4f57682cd92a8b61b64d43f5ef923b77bf906bce3c678855b22445a", func := "guerdon/guerdonlaw04.DateFields", spec := "dateFields", inPlace := ["internal/abi.NoEscape", "internal/bytealg.MakeNoZero"], named := ["guerdon/date.monthLengths", "internal/strconv.uint64pow10", "math/bits.deBruijn32tab", "math/bits.deBruijn64tab"], apart := false, laid := [("math/bits.deBruijn32tab", laid_math_bits_deBruijn32tab), ("math/bits.deBruijn64tab", laid_math_bits_deBruijn64tab), ("internal/strconv.uint64pow10", laid_internal_strconv_uint64pow10), ("guerdon/date.monthLengths", laid_guerdon_date_monthLengths)] }
def DateFieldsSaid : Prop := dateFieldsRow.holds Tryd.pinned (OpenSpec.ofChange dateFieldsSpec)

/-- ITS FALSE NEIGHBOUR: 'it returns false'. Refute it at one input. -/
def dateFieldsWrong : ChangeSpec := { name := "dateFields", fn := fun _ => fun
  | [d1, d2, d3, d4] => { results := [.lit (.bool false)], args := [d1, d2, d3, d4] }
  | _ => none }
def DateFieldsWrongFalsely : Prop := dateFieldsRow.holds Tryd.pinned (OpenSpec.ofChange dateFieldsWrong)

/-- 'guerdonlaw04.DateMonths': WHATEVER THE INPUT: true; the input reads as it did. -/
def dateMonthsSpec : ChangeSpec := { name := "dateMonths", fn := fun _ => fun
  | [d1, d2, d3] => { results := [.lit (.bool true)], args := [d1, d2, d3] }
  | _ => none }
def dateMonthsRow : OpenClaim := { program := "ytplconloofpakaadoor", sum := "b12a901aa4f57682cd92a8b61b64d43f5ef923b77bf906bce3c678855b22445a", func := "guerdon/guerdonlaw04.DateMonths", spec := "dateMonths", inPlace := ["internal/abi.NoEscape", "internal/bytealg.MakeNoZero"], named := ["guerdon/date.monthLengths", "internal/strconv.uint64pow10", "math/bits.deBruijn32tab", "math/bits.deBruijn64tab"], apart := false, laid := [("math/bits.deBruijn32tab", laid_math_bits_deBruijn32tab), ("math/bits.deBruijn64tab", laid_math_bits_deBruijn64tab), ("internal/strconv.uint64pow10", laid_internal_strconv_uint64pow10), ("guerdon/date.monthLengths", laid_guerdon_date_monthLengths)] }
def DateMonthsSaid : Prop := dateMonthsRow.holds Tryd.pinned (OpenSpec.ofChange dateMonthsSpec)

/-- ITS FALSE NEIGHBOUR: 'it returns false'. Refute it at one input. -/
def dateMonthsWrong : ChangeSpec := { name := "dateMonths", fn := fun _ => fun
  | [d1, d2, d3] => { results := [.lit (.bool false)], args := [d1, d2, d3] }
  | _ => none }
def DateMonthsWrongFalsely : Prop := dateMonthsRow.holds Tryd.pinned (OpenSpec.ofChange dateMonthsWrong)

/-- 'guerdonlaw04.DateAnniversary': WHATEVER THE INPUT: true; the input reads as it did. -/
def dateAnniversarySpec : ChangeSpec := { name := "dateAnniversary", fn := fun _ => fun
  | [d1, d2] => { results := [.lit (.bool true)], args := [d1, d2] }
  | _ => none }
def dateAnniversaryRow : OpenClaim := { program := "ytplconloofpakaadoor", sum := "b12a901aa4f57682cd92a8b61b64d43f5ef923b77bf906bce3c678855b22445a", func := "guerdon/guerdonlaw04.DateAnniversary", spec := "dateAnniversary", inPlace := ["internal/abi.NoEscape", "internal/bytealg.MakeNoZero"], named := ["guerdon/date.monthLengths", "internal/strconv.uint64pow10", "math/bits.deBruijn32tab", "math/bits.deBruijn64tab"], apart := false, laid := [("math/bits.deBruijn32tab", laid_math_bits_deBruijn32tab), ("math/bits.deBruijn64tab", laid_math_bits_deBruijn64tab), ("internal/strconv.uint64pow10", laid_internal_strconv_uint64pow10), ("guerdon/date.monthLengths", laid_guerdon_date_monthLengths)] }
def DateAnniversarySaid : Prop := dateAnniversaryRow.holds Tryd.pinned (OpenSpec.ofChange dateAnniversarySpec)

/-- ITS FALSE NEIGHBOUR: 'it returns false'. Refute it at one input. -/
def dateAnniversaryWrong : ChangeSpec := { name := "dateAnniversary", fn := fun _ => fun
  | [d1, d2] => { results := [.lit (.bool false)], args := [d1, d2] }
  | _ => none }
def DateAnniversaryWrongFalsely : Prop := dateAnniversaryRow.holds Tryd.pinned (OpenSpec.ofChange dateAnniversaryWrong)

/-- 'guerdonlaw04.DateTexts': WHATEVER THE INPUT: true; the input reads as it did. -/
def dateTextsSpec : ChangeSpec := { name := "dateTexts", fn := fun _ => fun
  | [d1, d2] => { results := [.lit (.bool true)], args := [d1, d2] }
  | _ => none }
def dateTextsRow : OpenClaim := { program := "ytplconloofpakaadoor", sum := "b12a901aa4f57682cd92a8b61b64d43f5ef923b77bf906bce3c678855b22445a", func := "guerdon/guerdonlaw04.DateTexts", spec := "dateTexts", inPlace := ["internal/abi.NoEscape", "internal/bytealg.MakeNoZero"], recurses := true, named := ["guerdon/date.monthLengths", "internal/strconv.uint64pow10", "math/bits.deBruijn32tab", "math/bits.deBruijn64tab"], apart := false, laid := [("math/bits.deBruijn32tab", laid_math_bits_deBruijn32tab), ("math/bits.deBruijn64tab", laid_math_bits_deBruijn64tab), ("internal/strconv.uint64pow10", laid_internal_strconv_uint64pow10), ("guerdon/date.monthLengths", laid_guerdon_date_monthLengths)] }
def DateTextsSaid : Prop := dateTextsRow.holds Tryd.pinned (OpenSpec.ofChange dateTextsSpec)

/-- ITS FALSE NEIGHBOUR: 'it returns false'. Refute it at one input. -/
def dateTextsWrong : ChangeSpec := { name := "dateTexts", fn := fun _ => fun
  | [d1, d2] => { results := [.lit (.bool false)], args := [d1, d2] }
  | _ => none }
def DateTextsWrongFalsely : Prop := dateTextsRow.holds Tryd.pinned (OpenSpec.ofChange dateTextsWrong)

/-- 'guerdonlaw04.DateRoundTrip': WHATEVER THE INPUT: true; the input reads as it did. -/
def dateRoundTripSpec : ChangeSpec := { name := "dateRoundTrip", fn := fun _ => fun
  | [d] => { results := [.lit (.bool true)], args := [d] }
  | _ => none }
def dateRoundTripRow : OpenClaim := { program := "ytplconloofpakaadoor", sum := "b12a901aa4f57682cd92a8b61b64d43f5ef923b77bf906bce3c678855b22445a", func := "guerdon/guerdonlaw04.DateRoundTrip", spec := "dateRoundTrip", inPlace := ["internal/abi.NoEscape", "internal/bytealg.MakeNoZero"], named := ["guerdon/date.monthLengths", "internal/strconv.uint64pow10", "math/bits.deBruijn32tab", "math/bits.deBruijn64tab"], apart := false, laid := [("math/bits.deBruijn32tab", laid_math_bits_deBruijn32tab), ("math/bits.deBruijn64tab", laid_math_bits_deBruijn64tab), ("internal/strconv.uint64pow10", laid_internal_strconv_uint64pow10), ("guerdon/date.monthLengths", laid_guerdon_date_monthLengths)] }
def DateRoundTripSaid : Prop := dateRoundTripRow.holds Tryd.pinned (OpenSpec.ofChange dateRoundTripSpec)

/-- ITS FALSE NEIGHBOUR: 'it returns false'. Refute it at one input. -/
def dateRoundTripWrong : ChangeSpec := { name := "dateRoundTrip", fn := fun _ => fun
  | [d] => { results := [.lit (.bool false)], args := [d] }
  | _ => none }
def DateRoundTripWrongFalsely : Prop := dateRoundTripRow.holds Tryd.pinned (OpenSpec.ofChange dateRoundTripWrong)

/-- 'guerdonlaw01.NumtextInts': WHATEVER THE INPUT: true; the input reads as it did. -/
def numtextIntsSpec : ChangeSpec := { name := "numtextInts", fn := fun _ => fun
  | [d1, d2] => { results := [.lit (.bool true)], args := [d1, d2] }
  | _ => none }
def numtextIntsRow : OpenClaim := { program := "ytplconloofpakaadoor", sum := "b12a901aa4f57682cd92a8b61b64d43f5ef923b77bf906bce3c678855b22445a", func := "guerdon/guerdonlaw01.NumtextInts", spec := "numtextInts", inPlace := ["internal/abi.NoEscape", "internal/bytealg.MakeNoZero"], recurses := true, named := ["internal/strconv.uint64pow10", "math/bits.deBruijn32tab", "math/bits.deBruijn64tab"], apart := false, laid := [("math/bits.deBruijn32tab", laid_math_bits_deBruijn32tab), ("math/bits.deBruijn64tab", laid_math_bits_deBruijn64tab), ("internal/strconv.uint64pow10", laid_internal_strconv_uint64pow10)] }
def NumtextIntsSaid : Prop := numtextIntsRow.holds Tryd.pinned (OpenSpec.ofChange numtextIntsSpec)

/-- ITS FALSE NEIGHBOUR: 'it returns false'. Refute it at one input. -/
def numtextIntsWrong : ChangeSpec := { name := "numtextInts", fn := fun _ => fun
  | [d1, d2] => { results := [.lit (.bool false)], args := [d1, d2] }
  | _ => none }
def NumtextIntsWrongFalsely : Prop := numtextIntsRow.holds Tryd.pinned (OpenSpec.ofChange numtextIntsWrong)

/-- 'guerdonlaw01.NumtextFixed': WHATEVER THE INPUT: true; the input reads as it did. -/
def numtextFixedSpec : ChangeSpec := { name := "numtextFixed", fn := fun _ => fun
  | [d1, d2, d3] => { results := [.lit (.bool true)], args := [d1, d2, d3] }
  | _ => none }
def numtextFixedRow : OpenClaim := { program := "ytplconloofpakaadoor", sum := "b12a901aa4f57682cd92a8b61b64d43f5ef923b77bf906bce3c678855b22445a", func := "guerdon/guerdonlaw01.NumtextFixed", spec := "numtextFixed", inPlace := ["internal/abi.NoEscape", "internal/bytealg.MakeNoZero"], recurses := true, named := ["internal/strconv.uint64pow10", "math/bits.deBruijn32tab", "math/bits.deBruijn64tab"], apart := false, laid := [("math/bits.deBruijn32tab", laid_math_bits_deBruijn32tab), ("math/bits.deBruijn64tab", laid_math_bits_deBruijn64tab), ("internal/strconv.uint64pow10", laid_internal_strconv_uint64pow10)] }
def NumtextFixedSaid : Prop := numtextFixedRow.holds Tryd.pinned (OpenSpec.ofChange numtextFixedSpec)

/-- ITS FALSE NEIGHBOUR: 'it returns false'. Refute it at one input. -/
def numtextFixedWrong : ChangeSpec := { name := "numtextFixed", fn := fun _ => fun
  | [d1, d2, d3] => { results := [.lit (.bool false)], args := [d1, d2, d3] }
  | _ => none }
def NumtextFixedWrongFalsely : Prop := numtextFixedRow.holds Tryd.pinned (OpenSpec.ofChange numtextFixedWrong)

/-- 'guerdonlaw01.NumtextFields': WHATEVER THE INPUT: true; the input reads as it did. -/
def numtextFieldsSpec : ChangeSpec := { name := "numtextFields", fn := fun _ => fun
  | [d] => { results := [.lit (.bool true)], args := [d] }
  | _ => none }
def numtextFieldsRow : OpenClaim := { program := "ytplconloofpakaadoor", sum := "b12a901aa4f57682cd92a8b61b64d43f5ef923b77bf906bce3c678855b22445a", func := "guerdon/guerdonlaw01.NumtextFields", spec := "numtextFields", inPlace := ["internal/abi.NoEscape", "internal/bytealg.MakeNoZero"], named := ["internal/strconv.uint64pow10", "math/bits.deBruijn32tab", "math/bits.deBruijn64tab"], apart := false, laid := [("math/bits.deBruijn32tab", laid_math_bits_deBruijn32tab), ("math/bits.deBruijn64tab", laid_math_bits_deBruijn64tab), ("internal/strconv.uint64pow10", laid_internal_strconv_uint64pow10)] }
def NumtextFieldsSaid : Prop := numtextFieldsRow.holds Tryd.pinned (OpenSpec.ofChange numtextFieldsSpec)

/-- ITS FALSE NEIGHBOUR: 'it returns false'. Refute it at one input. -/
def numtextFieldsWrong : ChangeSpec := { name := "numtextFields", fn := fun _ => fun
  | [d] => { results := [.lit (.bool false)], args := [d] }
  | _ => none }
def NumtextFieldsWrongFalsely : Prop := numtextFieldsRow.holds Tryd.pinned (OpenSpec.ofChange numtextFieldsWrong)

/-- 'guerdonlaw01.NumtextLines': WHATEVER THE INPUT: true; the input reads as it did. -/
def numtextLinesSpec : ChangeSpec := { name := "numtextLines", fn := fun _ => fun
  | [d] => { results := [.lit (.bool true)], args := [d] }
  | _ => none }
def numtextLinesRow : OpenClaim := { program := "ytplconloofpakaadoor", sum := "b12a901aa4f57682cd92a8b61b64d43f5ef923b77bf906bce3c678855b22445a", func := "guerdon/guerdonlaw01.NumtextLines", spec := "numtextLines", inPlace := ["internal/abi.NoEscape", "internal/bytealg.MakeNoZero"], named := ["internal/strconv.uint64pow10", "math/bits.deBruijn32tab", "math/bits.deBruijn64tab"], apart := false, laid := [("math/bits.deBruijn32tab", laid_math_bits_deBruijn32tab), ("math/bits.deBruijn64tab", laid_math_bits_deBruijn64tab), ("internal/strconv.uint64pow10", laid_internal_strconv_uint64pow10)] }
def NumtextLinesSaid : Prop := numtextLinesRow.holds Tryd.pinned (OpenSpec.ofChange numtextLinesSpec)

/-- ITS FALSE NEIGHBOUR: 'it returns false'. Refute it at one input. -/
def numtextLinesWrong : ChangeSpec := { name := "numtextLines", fn := fun _ => fun
  | [d] => { results := [.lit (.bool false)], args := [d] }
  | _ => none }
def NumtextLinesWrongFalsely : Prop := numtextLinesRow.holds Tryd.pinned (OpenSpec.ofChange numtextLinesWrong)

/-- 'guerdonlaw01.NumtextRoundTrip': WHATEVER THE INPUT: true; the input reads as it did. -/
def numtextRoundTripSpec : ChangeSpec := { name := "numtextRoundTrip", fn := fun _ => fun
  | [d1, d2] => { results := [.lit (.bool true)], args := [d1, d2] }
  | _ => none }
def numtextRoundTripRow : OpenClaim := { program := "ytplconloofpakaadoor", sum := "b12a901aa4f57682cd92a8b61b64d43f5ef923b77bf906bce3c678855b22445a", func := "guerdon/guerdonlaw01.NumtextRoundTrip", spec := "numtextRoundTrip", inPlace := ["internal/abi.NoEscape", "internal/bytealg.MakeNoZero"], named := ["internal/strconv.uint64pow10", "math/bits.deBruijn32tab", "math/bits.deBruijn64tab"], apart := false, laid := [("math/bits.deBruijn32tab", laid_math_bits_deBruijn32tab), ("math/bits.deBruijn64tab", laid_math_bits_deBruijn64tab), ("internal/strconv.uint64pow10", laid_internal_strconv_uint64pow10)] }
def NumtextRoundTripSaid : Prop := numtextRoundTripRow.holds Tryd.pinned (OpenSpec.ofChange numtextRoundTripSpec)

/-- ITS FALSE NEIGHBOUR: 'it returns false'. Refute it at one input. -/
def numtextRoundTripWrong : ChangeSpec := { name := "numtextRoundTrip", fn := fun _ => fun
  | [d1, d2] => { results := [.lit (.bool false)], args := [d1, d2] }
  | _ => none }
def NumtextRoundTripWrongFalsely : Prop := numtextRoundTripRow.holds Tryd.pinned (OpenSpec.ofChange numtextRoundTripWrong)

/-- 'guerdonlaw01.NumtextCanonical': WHATEVER THE INPUT: true; the input reads as it did. -/
def numtextCanonicalSpec : ChangeSpec := { name := "numtextCanonical", fn := fun _ => fun
  | [d1, d2] => { results := [.lit (.bool true)], args := [d1, d2] }
  | _ => none }
def numtextCanonicalRow : OpenClaim := { program := "ytplconloofpakaadoor", sum := "b12a901aa4f57682cd92a8b61b64d43f5ef923b77bf906bce3c678855b22445a", func := "guerdon/guerdonlaw01.NumtextCanonical", spec := "numtextCanonical", inPlace := ["internal/abi.NoEscape", "internal/bytealg.MakeNoZero"], named := ["internal/strconv.uint64pow10", "math/bits.deBruijn32tab", "math/bits.deBruijn64tab"], apart := false, laid := [("math/bits.deBruijn32tab", laid_math_bits_deBruijn32tab), ("math/bits.deBruijn64tab", laid_math_bits_deBruijn64tab), ("internal/strconv.uint64pow10", laid_internal_strconv_uint64pow10)] }
def NumtextCanonicalSaid : Prop := numtextCanonicalRow.holds Tryd.pinned (OpenSpec.ofChange numtextCanonicalSpec)

/-- ITS FALSE NEIGHBOUR: 'it returns false'. Refute it at one input. -/
def numtextCanonicalWrong : ChangeSpec := { name := "numtextCanonical", fn := fun _ => fun
  | [d1, d2] => { results := [.lit (.bool false)], args := [d1, d2] }
  | _ => none }
def NumtextCanonicalWrongFalsely : Prop := numtextCanonicalRow.holds Tryd.pinned (OpenSpec.ofChange numtextCanonicalWrong)

/- THE SECOND FORM. 'bulk': how many values and letters a reading holds, each counted each time it is reached (what is shared counts as often as it is met; a slice's spare places count too). A statement '..UptoSaid' is the law's where the arguments, and the package variables that the reading takes, are together of bulk at most 1048576: NARROWER than '..Said'. Prove '..Said' where nothing that the law and all that it calls make is longer than what came in: it says more and counts as full. Else prove '..UptoSaid'. A law counts once. -/
mutual
def uptoBulk {H : Type} : DataW H → Nat
  | .lit (.string bytes) => bytes.length + 1
  | .lit _ => 1
  | .nil => 1
  | .ptr d => uptoBulk d + 1
  | .slice elems spare => uptoBulkAll elems + uptoBulkAll spare + 1
  | .agg parts => uptoBulkAll parts + 1
  | .iface _ d => uptoBulk d + 1
  | .map entries => uptoBulkEntries entries + 1
  | .held _ => 1
def uptoBulkAll {H : Type} : List (DataW H) → Nat
  | [] => 0
  | d :: r => uptoBulk d + uptoBulkAll r
def uptoBulkEntries {H : Type} : List (Lit × DataW H) → Nat
  | [] => 0
  | x :: r => uptoBulkEntry x + uptoBulkEntries r
def uptoBulkEntry {H : Type} : Lit × DataW H → Nat
  | (.string bytes, d) => bytes.length + uptoBulk d + 1
  | (_, d) => uptoBulk d + 1
 end
def uptoSmall : (H : Type) → List (DataW H) → Bool := fun _ ds => decide (uptoBulkAll ds ≤ 1048576)
def OpenSpec.upto (s : _root_.Go.ChangeSpec) : _root_.Go.OpenSpec := { _root_.Go.OpenSpec.ofChange s with cond := some uptoSmall }

/-- 'guerdonlaw04.DateFields', WHERE WHAT IT READS IS OF BULK AT MOST 1048576: true; the input reads as it did. -/
def dateFieldsUptoRow : OpenClaim := { program := "ytplconloofpakaadoor", sum := "b12a901aa4f57682cd92a8b61b64d43f5ef923b77bf906bce3c678855b22445a", func := "guerdon/guerdonlaw04.DateFields", spec := "dateFields", inPlace := ["internal/abi.NoEscape", "internal/bytealg.MakeNoZero"], named := ["guerdon/date.monthLengths", "internal/strconv.uint64pow10", "math/bits.deBruijn32tab", "math/bits.deBruijn64tab"], apart := false, laid := [("math/bits.deBruijn32tab", laid_math_bits_deBruijn32tab), ("math/bits.deBruijn64tab", laid_math_bits_deBruijn64tab), ("internal/strconv.uint64pow10", laid_internal_strconv_uint64pow10), ("guerdon/date.monthLengths", laid_guerdon_date_monthLengths)], narrowed := true }
def DateFieldsUptoSaid : Prop := dateFieldsUptoRow.holds Tryd.pinned (OpenSpec.upto dateFieldsSpec)

/-- 'guerdonlaw04.DateMonths', WHERE WHAT IT READS IS OF BULK AT MOST 1048576: true; the input reads as it did. -/
def dateMonthsUptoRow : OpenClaim := { program := "ytplconloofpakaadoor", sum := "b12a901aa4f57682cd92a8b61b64d43f5ef923b77bf906bce3c678855b22445a", func := "guerdon/guerdonlaw04.DateMonths", spec := "dateMonths", inPlace := ["internal/abi.NoEscape", "internal/bytealg.MakeNoZero"], named := ["guerdon/date.monthLengths", "internal/strconv.uint64pow10", "math/bits.deBruijn32tab", "math/bits.deBruijn64tab"], apart := false, laid := [("math/bits.deBruijn32tab", laid_math_bits_deBruijn32tab), ("math/bits.deBruijn64tab", laid_math_bits_deBruijn64tab), ("internal/strconv.uint64pow10", laid_internal_strconv_uint64pow10), ("guerdon/date.monthLengths", laid_guerdon_date_monthLengths)], narrowed := true }
def DateMonthsUptoSaid : Prop := dateMonthsUptoRow.holds Tryd.pinned (OpenSpec.upto dateMonthsSpec)

/-- 'guerdonlaw04.DateAnniversary', WHERE WHAT IT READS IS OF BULK AT MOST 1048576: true; the input reads as it did. -/
def dateAnniversaryUptoRow : OpenClaim := { program := "ytplconloofpakaadoor", sum := "b12a901aa4f57682cd92a8b61b64d43f5ef923b77bf906bce3c678855b22445a", func := "guerdon/guerdonlaw04.DateAnniversary", spec := "dateAnniversary", inPlace := ["internal/abi.NoEscape", "internal/bytealg.MakeNoZero"], named := ["guerdon/date.monthLengths", "internal/strconv.uint64pow10", "math/bits.deBruijn32tab", "math/bits.deBruijn64tab"], apart := false, laid := [("math/bits.deBruijn32tab", laid_math_bits_deBruijn32tab), ("math/bits.deBruijn64tab", laid_math_bits_deBruijn64tab), ("internal/strconv.uint64pow10", laid_internal_strconv_uint64pow10), ("guerdon/date.monthLengths", laid_guerdon_date_monthLengths)], narrowed := true }
def DateAnniversaryUptoSaid : Prop := dateAnniversaryUptoRow.holds Tryd.pinned (OpenSpec.upto dateAnniversarySpec)

/-- 'guerdonlaw04.DateTexts', WHERE WHAT IT READS IS OF BULK AT MOST 1048576: true; the input reads as it did. -/
def dateTextsUptoRow : OpenClaim := { program := "ytplconloofpakaadoor", sum := "b12a901aa4f57682cd92a8b61b64d43f5ef923b77bf906bce3c678855b22445a", func := "guerdon/guerdonlaw04.DateTexts", spec := "dateTexts", inPlace := ["internal/abi.NoEscape", "internal/bytealg.MakeNoZero"], recurses := true, named := ["guerdon/date.monthLengths", "internal/strconv.uint64pow10", "math/bits.deBruijn32tab", "math/bits.deBruijn64tab"], apart := false, laid := [("math/bits.deBruijn32tab", laid_math_bits_deBruijn32tab), ("math/bits.deBruijn64tab", laid_math_bits_deBruijn64tab), ("internal/strconv.uint64pow10", laid_internal_strconv_uint64pow10), ("guerdon/date.monthLengths", laid_guerdon_date_monthLengths)], narrowed := true }
def DateTextsUptoSaid : Prop := dateTextsUptoRow.holds Tryd.pinned (OpenSpec.upto dateTextsSpec)

/-- 'guerdonlaw04.DateRoundTrip', WHERE WHAT IT READS IS OF BULK AT MOST 1048576: true; the input reads as it did. -/
def dateRoundTripUptoRow : OpenClaim := { program := "ytplconloofpakaadoor", sum := "b12a901aa4f57682cd92a8b61b64d43f5ef923b77bf906bce3c678855b22445a", func := "guerdon/guerdonlaw04.DateRoundTrip", spec := "dateRoundTrip", inPlace := ["internal/abi.NoEscape", "internal/bytealg.MakeNoZero"], named := ["guerdon/date.monthLengths", "internal/strconv.uint64pow10", "math/bits.deBruijn32tab", "math/bits.deBruijn64tab"], apart := false, laid := [("math/bits.deBruijn32tab", laid_math_bits_deBruijn32tab), ("math/bits.deBruijn64tab", laid_math_bits_deBruijn64tab), ("internal/strconv.uint64pow10", laid_internal_strconv_uint64pow10), ("guerdon/date.monthLengths", laid_guerdon_date_monthLengths)], narrowed := true }
def DateRoundTripUptoSaid : Prop := dateRoundTripUptoRow.holds Tryd.pinned (OpenSpec.upto dateRoundTripSpec)

/-- 'guerdonlaw01.NumtextInts', WHERE WHAT IT READS IS OF BULK AT MOST 1048576: true; the input reads as it did. -/
def numtextIntsUptoRow : OpenClaim := { program := "ytplconloofpakaadoor", sum := "b12a901aa4f57682cd92a8b61b64d43f5ef923b77bf906bce3c678855b22445a", func := "guerdon/guerdonlaw01.NumtextInts", spec := "numtextInts", inPlace := ["internal/abi.NoEscape", "internal/bytealg.MakeNoZero"], recurses := true, named := ["internal/strconv.uint64pow10", "math/bits.deBruijn32tab", "math/bits.deBruijn64tab"], apart := false, laid := [("math/bits.deBruijn32tab", laid_math_bits_deBruijn32tab), ("math/bits.deBruijn64tab", laid_math_bits_deBruijn64tab), ("internal/strconv.uint64pow10", laid_internal_strconv_uint64pow10)], narrowed := true }
def NumtextIntsUptoSaid : Prop := numtextIntsUptoRow.holds Tryd.pinned (OpenSpec.upto numtextIntsSpec)

/-- 'guerdonlaw01.NumtextFixed', WHERE WHAT IT READS IS OF BULK AT MOST 1048576: true; the input reads as it did. -/
def numtextFixedUptoRow : OpenClaim := { program := "ytplconloofpakaadoor", sum := "b12a901aa4f57682cd92a8b61b64d43f5ef923b77bf906bce3c678855b22445a", func := "guerdon/guerdonlaw01.NumtextFixed", spec := "numtextFixed", inPlace := ["internal/abi.NoEscape", "internal/bytealg.MakeNoZero"], recurses := true, named := ["internal/strconv.uint64pow10", "math/bits.deBruijn32tab", "math/bits.deBruijn64tab"], apart := false, laid := [("math/bits.deBruijn32tab", laid_math_bits_deBruijn32tab), ("math/bits.deBruijn64tab", laid_math_bits_deBruijn64tab), ("internal/strconv.uint64pow10", laid_internal_strconv_uint64pow10)], narrowed := true }
def NumtextFixedUptoSaid : Prop := numtextFixedUptoRow.holds Tryd.pinned (OpenSpec.upto numtextFixedSpec)

/-- 'guerdonlaw01.NumtextFields', WHERE WHAT IT READS IS OF BULK AT MOST 1048576: true; the input reads as it did. -/
def numtextFieldsUptoRow : OpenClaim := { program := "ytplconloofpakaadoor", sum := "b12a901aa4f57682cd92a8b61b64d43f5ef923b77bf906bce3c678855b22445a", func := "guerdon/guerdonlaw01.NumtextFields", spec := "numtextFields", inPlace := ["internal/abi.NoEscape", "internal/bytealg.MakeNoZero"], named := ["internal/strconv.uint64pow10", "math/bits.deBruijn32tab", "math/bits.deBruijn64tab"], apart := false, laid := [("math/bits.deBruijn32tab", laid_math_bits_deBruijn32tab), ("math/bits.deBruijn64tab", laid_math_bits_deBruijn64tab), ("internal/strconv.uint64pow10", laid_internal_strconv_uint64pow10)], narrowed := true }
def NumtextFieldsUptoSaid : Prop := numtextFieldsUptoRow.holds Tryd.pinned (OpenSpec.upto numtextFieldsSpec)

/-- 'guerdonlaw01.NumtextLines', WHERE WHAT IT READS IS OF BULK AT MOST 1048576: true; the input reads as it did. -/
def numtextLinesUptoRow : OpenClaim := { program := "ytplconloofpakaadoor", sum := "b12a901aa4f57682cd92a8b61b64d43f5ef923b77bf906bce3c678855b22445a", func := "guerdon/guerdonlaw01.NumtextLines", spec := "numtextLines", inPlace := ["internal/abi.NoEscape", "internal/bytealg.MakeNoZero"], named := ["internal/strconv.uint64pow10", "math/bits.deBruijn32tab", "math/bits.deBruijn64tab"], apart := false, laid := [("math/bits.deBruijn32tab", laid_math_bits_deBruijn32tab), ("math/bits.deBruijn64tab", laid_math_bits_deBruijn64tab), ("internal/strconv.uint64pow10", laid_internal_strconv_uint64pow10)], narrowed := true }
def NumtextLinesUptoSaid : Prop := numtextLinesUptoRow.holds Tryd.pinned (OpenSpec.upto numtextLinesSpec)

/-- 'guerdonlaw01.NumtextRoundTrip', WHERE WHAT IT READS IS OF BULK AT MOST 1048576: true; the input reads as it did. -/
def numtextRoundTripUptoRow : OpenClaim := { program := "ytplconloofpakaadoor", sum := "b12a901aa4f57682cd92a8b61b64d43f5ef923b77bf906bce3c678855b22445a", func := "guerdon/guerdonlaw01.NumtextRoundTrip", spec := "numtextRoundTrip", inPlace := ["internal/abi.NoEscape", "internal/bytealg.MakeNoZero"], named := ["internal/strconv.uint64pow10", "math/bits.deBruijn32tab", "math/bits.deBruijn64tab"], apart := false, laid := [("math/bits.deBruijn32tab", laid_math_bits_deBruijn32tab), ("math/bits.deBruijn64tab", laid_math_bits_deBruijn64tab), ("internal/strconv.uint64pow10", laid_internal_strconv_uint64pow10)], narrowed := true }
def NumtextRoundTripUptoSaid : Prop := numtextRoundTripUptoRow.holds Tryd.pinned (OpenSpec.upto numtextRoundTripSpec)

/-- 'guerdonlaw01.NumtextCanonical', WHERE WHAT IT READS IS OF BULK AT MOST 1048576: true; the input reads as it did. -/
def numtextCanonicalUptoRow : OpenClaim := { program := "ytplconloofpakaadoor", sum := "b12a901aa4f57682cd92a8b61b64d43f5ef923b77bf906bce3c678855b22445a", func := "guerdon/guerdonlaw01.NumtextCanonical", spec := "numtextCanonical", inPlace := ["internal/abi.NoEscape", "internal/bytealg.MakeNoZero"], named := ["internal/strconv.uint64pow10", "math/bits.deBruijn32tab", "math/bits.deBruijn64tab"], apart := false, laid := [("math/bits.deBruijn32tab", laid_math_bits_deBruijn32tab), ("math/bits.deBruijn64tab", laid_math_bits_deBruijn64tab), ("internal/strconv.uint64pow10", laid_internal_strconv_uint64pow10)], narrowed := true }
def NumtextCanonicalUptoSaid : Prop := numtextCanonicalUptoRow.holds Tryd.pinned (OpenSpec.upto numtextCanonicalSpec)

end Rows
end Go.Proofs.YtplconloofpakaaDoor
