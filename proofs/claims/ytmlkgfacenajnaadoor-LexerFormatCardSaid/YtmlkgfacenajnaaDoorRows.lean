/-
  NARROWER THAN 'FOR EVERY INPUT', by the rows' own cells (each row's printed sentence says how): LexerTokenize: laid · LexerIdentifier: laid · LexerOffsets: laid · LexerFormat: laid · LexerRoundTrip: laid · MonthRanges: laid · MonthPayDate: laid · MonthTexts: laid · MonthPartition: laid · MonthOverlap: laid.
  DERIVED. THE GIVEN ROWS OF THIS SEAT. 10 by the template 'for every input the law returns true; each argument reads behind the call as it read before'; 0 by the template 'total and deterministic' (their statements: YtmlkgfacenajnaaDoorTotals.lean).
  GIVEN WITH THE SEED: the statements are not yours to turn. If you find one false, say at which input.
  Laid BY PROGRAM, IN A SANDBOX (cutbox-rows.mjs): the forced cells as the released guide's own fill.sh prints them over the translation 0af974c8b77acd97… (all of the seat's roots in one cut). By AI agents, Wed Nov 11 2026. No macro, syntax, notation, axiom, sorry.
-/
import Derived.Test.YtmlkgfacenajnaaDoorChecked
import GoSem.Claim
import GoSem.ClaimJoined
import GoSem.ClaimMapViews
import Derived.JoinedTies
import Derived.KernelRfl
namespace Go.Proofs.YtmlkgfacenajnaaDoor
/- THE CELL 'sum', in the pinned program and in every row, IS THE sha256 OF THE DUMP (.gsa) THAT YtmlkgfacenajnaaDoorProg.lean LOADS. Nothing in Lean hashes anything: it is a label: what it is worth is what the hold of that sum in a sandbox is worth. -/
noncomputable def Tryd.pinned : Pinned := { name := "ytmlkgfacenajnaadoor", sum := "0af974c8b77acd975c5a832a89d18b276216b45006c1020ad678e364bf9ccac8", checked := Tryd.checked }
namespace Rows
def none {H : Type} : Left H := { results := [], args := [] }

/- WHAT THE LISTED PACKAGE-LEVEL VARIABLES READ AS WHEN THE CALL BEGINS. Each datum BY PROGRAM (the guide's laid-datum.mjs) off the statement by which the dump's own 'gosem.cut.vars' lays the variable. In a bare row this is a premise. The card (YtmlkgfacenajnaaDoorCards.lean) ties it to the program's text. -/
def laid_guerdon_date_monthLengths {H : Type} : DataW H := .agg [.lit (.int .i64 31), .lit (.int .i64 28), .lit (.int .i64 31), .lit (.int .i64 30), .lit (.int .i64 31), .lit (.int .i64 30), .lit (.int .i64 31), .lit (.int .i64 31), .lit (.int .i64 30), .lit (.int .i64 31), .lit (.int .i64 30), .lit (.int .i64 31)]
def laid_math_bits_deBruijn32tab {H : Type} : DataW H := .agg [.lit (.int .u8 0), .lit (.int .u8 1), .lit (.int .u8 28), .lit (.int .u8 2), .lit (.int .u8 29), .lit (.int .u8 14), .lit (.int .u8 24), .lit (.int .u8 3), .lit (.int .u8 30), .lit (.int .u8 22), .lit (.int .u8 20), .lit (.int .u8 15), .lit (.int .u8 25), .lit (.int .u8 17), .lit (.int .u8 4), .lit (.int .u8 8), .lit (.int .u8 31), .lit (.int .u8 27), .lit (.int .u8 13), .lit (.int .u8 23), .lit (.int .u8 21), .lit (.int .u8 19), .lit (.int .u8 16), .lit (.int .u8 7), .lit (.int .u8 26), .lit (.int .u8 12), .lit (.int .u8 18), .lit (.int .u8 6), .lit (.int .u8 11), .lit (.int .u8 5), .lit (.int .u8 10), .lit (.int .u8 9)]
def laid_math_bits_deBruijn64tab {H : Type} : DataW H := .agg [.lit (.int .u8 0), .lit (.int .u8 1), .lit (.int .u8 56), .lit (.int .u8 2), .lit (.int .u8 57), .lit (.int .u8 49), .lit (.int .u8 28), .lit (.int .u8 3), .lit (.int .u8 61), .lit (.int .u8 58), .lit (.int .u8 42), .lit (.int .u8 50), .lit (.int .u8 38), .lit (.int .u8 29), .lit (.int .u8 17), .lit (.int .u8 4), .lit (.int .u8 62), .lit (.int .u8 47), .lit (.int .u8 59), .lit (.int .u8 36), .lit (.int .u8 45), .lit (.int .u8 43), .lit (.int .u8 51), .lit (.int .u8 22), .lit (.int .u8 53), .lit (.int .u8 39), .lit (.int .u8 33), .lit (.int .u8 30), .lit (.int .u8 24), .lit (.int .u8 18), .lit (.int .u8 12), .lit (.int .u8 5), .lit (.int .u8 63), .lit (.int .u8 55), .lit (.int .u8 48), .lit (.int .u8 27), .lit (.int .u8 60), .lit (.int .u8 41), .lit (.int .u8 37), .lit (.int .u8 16), .lit (.int .u8 46), .lit (.int .u8 35), .lit (.int .u8 44), .lit (.int .u8 21), .lit (.int .u8 52), .lit (.int .u8 32), .lit (.int .u8 23), .lit (.int .u8 11), .lit (.int .u8 54), .lit (.int .u8 26), .lit (.int .u8 40), .lit (.int .u8 15), .lit (.int .u8 34), .lit (.int .u8 20), .lit (.int .u8 31), .lit (.int .u8 10), .lit (.int .u8 25), .lit (.int .u8 14), .lit (.int .u8 19), .lit (.int .u8 9), .lit (.int .u8 13), .lit (.int .u8 8), .lit (.int .u8 7), .lit (.int .u8 6)]
def laid_internal_strconv_uint64pow10 {H : Type} : DataW H := .agg [.lit (.int .u64 1), .lit (.int .u64 10), .lit (.int .u64 100), .lit (.int .u64 1000), .lit (.int .u64 10000), .lit (.int .u64 100000), .lit (.int .u64 1000000), .lit (.int .u64 10000000), .lit (.int .u64 100000000), .lit (.int .u64 1000000000), .lit (.int .u64 10000000000), .lit (.int .u64 100000000000), .lit (.int .u64 1000000000000), .lit (.int .u64 10000000000000), .lit (.int .u64 100000000000000), .lit (.int .u64 1000000000000000), .lit (.int .u64 10000000000000000), .lit (.int .u64 100000000000000000), .lit (.int .u64 1000000000000000000), .lit (.int .u64 10000000000000000000)]

/-- 'guerdonlaw08.LexerTokenize': WHATEVER THE INPUT: true; the input reads as it did. -/
def lexerTokenizeSpec : ChangeSpec := { name := "lexerTokenize", fn := fun _ => fun
  | [d] => { results := [.lit (.bool true)], args := [d] }
  | _ => none }
def lexerTokenizeRow : OpenClaim := { program := "ytmlkgfacenajnaadoor", sum := "0af974c8b77acd975c5a832a89d18b276216b45006c1020ad678e364bf9ccac8", func := "guerdon/guerdonlaw08.LexerTokenize", spec := "lexerTokenize", inPlace := ["internal/bytealg.IndexByteString", "internal/bytealg.IndexString"], named := ["guerdon/date.monthLengths", "internal/bytealg.MaxLen"], apart := false, laid := [("guerdon/date.monthLengths", laid_guerdon_date_monthLengths)] }
def LexerTokenizeSaid : Prop := lexerTokenizeRow.holds Tryd.pinned (OpenSpec.ofChange lexerTokenizeSpec)

/-- ITS FALSE NEIGHBOUR: 'it returns false'. Refute it at one input. -/
def lexerTokenizeWrong : ChangeSpec := { name := "lexerTokenize", fn := fun _ => fun
  | [d] => { results := [.lit (.bool false)], args := [d] }
  | _ => none }
def LexerTokenizeWrongFalsely : Prop := lexerTokenizeRow.holds Tryd.pinned (OpenSpec.ofChange lexerTokenizeWrong)

/-- 'guerdonlaw08.LexerIdentifier': WHATEVER THE INPUT: true; the input reads as it did. -/
def lexerIdentifierSpec : ChangeSpec := { name := "lexerIdentifier", fn := fun _ => fun
  | [d] => { results := [.lit (.bool true)], args := [d] }
  | _ => none }
def lexerIdentifierRow : OpenClaim := { program := "ytmlkgfacenajnaadoor", sum := "0af974c8b77acd975c5a832a89d18b276216b45006c1020ad678e364bf9ccac8", func := "guerdon/guerdonlaw08.LexerIdentifier", spec := "lexerIdentifier", inPlace := ["internal/bytealg.IndexByteString", "internal/bytealg.IndexString"], named := ["guerdon/date.monthLengths", "internal/bytealg.MaxLen"], apart := false, laid := [("guerdon/date.monthLengths", laid_guerdon_date_monthLengths)] }
def LexerIdentifierSaid : Prop := lexerIdentifierRow.holds Tryd.pinned (OpenSpec.ofChange lexerIdentifierSpec)

/-- ITS FALSE NEIGHBOUR: 'it returns false'. Refute it at one input. -/
def lexerIdentifierWrong : ChangeSpec := { name := "lexerIdentifier", fn := fun _ => fun
  | [d] => { results := [.lit (.bool false)], args := [d] }
  | _ => none }
def LexerIdentifierWrongFalsely : Prop := lexerIdentifierRow.holds Tryd.pinned (OpenSpec.ofChange lexerIdentifierWrong)

/-- 'guerdonlaw08.LexerOffsets': WHATEVER THE INPUT: true; the input reads as it did. -/
def lexerOffsetsSpec : ChangeSpec := { name := "lexerOffsets", fn := fun _ => fun
  | [d] => { results := [.lit (.bool true)], args := [d] }
  | _ => none }
def lexerOffsetsRow : OpenClaim := { program := "ytmlkgfacenajnaadoor", sum := "0af974c8b77acd975c5a832a89d18b276216b45006c1020ad678e364bf9ccac8", func := "guerdon/guerdonlaw08.LexerOffsets", spec := "lexerOffsets", inPlace := ["internal/bytealg.IndexByteString", "internal/bytealg.IndexString"], named := ["guerdon/date.monthLengths", "internal/bytealg.MaxLen"], apart := false, laid := [("guerdon/date.monthLengths", laid_guerdon_date_monthLengths)] }
def LexerOffsetsSaid : Prop := lexerOffsetsRow.holds Tryd.pinned (OpenSpec.ofChange lexerOffsetsSpec)

/-- ITS FALSE NEIGHBOUR: 'it returns false'. Refute it at one input. -/
def lexerOffsetsWrong : ChangeSpec := { name := "lexerOffsets", fn := fun _ => fun
  | [d] => { results := [.lit (.bool false)], args := [d] }
  | _ => none }
def LexerOffsetsWrongFalsely : Prop := lexerOffsetsRow.holds Tryd.pinned (OpenSpec.ofChange lexerOffsetsWrong)

/-- 'guerdonlaw08.LexerFormat': WHATEVER THE INPUT: true; the input reads as it did. -/
def lexerFormatSpec : ChangeSpec := { name := "lexerFormat", fn := fun _ => fun
  | [d] => { results := [.lit (.bool true)], args := [d] }
  | _ => none }
def lexerFormatRow : OpenClaim := { program := "ytmlkgfacenajnaadoor", sum := "0af974c8b77acd975c5a832a89d18b276216b45006c1020ad678e364bf9ccac8", func := "guerdon/guerdonlaw08.LexerFormat", spec := "lexerFormat", inPlace := ["internal/bytealg.IndexByteString", "internal/bytealg.IndexString", "internal/abi.NoEscape"], named := ["guerdon/date.monthLengths", "internal/bytealg.MaxLen"], apart := false, laid := [("guerdon/date.monthLengths", laid_guerdon_date_monthLengths)] }
def LexerFormatSaid : Prop := lexerFormatRow.holds Tryd.pinned (OpenSpec.ofChange lexerFormatSpec)

/-- ITS FALSE NEIGHBOUR: 'it returns false'. Refute it at one input. -/
def lexerFormatWrong : ChangeSpec := { name := "lexerFormat", fn := fun _ => fun
  | [d] => { results := [.lit (.bool false)], args := [d] }
  | _ => none }
def LexerFormatWrongFalsely : Prop := lexerFormatRow.holds Tryd.pinned (OpenSpec.ofChange lexerFormatWrong)

/-- 'guerdonlaw08.LexerRoundTrip': WHATEVER THE INPUT: true; the input reads as it did. -/
def lexerRoundTripSpec : ChangeSpec := { name := "lexerRoundTrip", fn := fun _ => fun
  | [d] => { results := [.lit (.bool true)], args := [d] }
  | _ => none }
def lexerRoundTripRow : OpenClaim := { program := "ytmlkgfacenajnaadoor", sum := "0af974c8b77acd975c5a832a89d18b276216b45006c1020ad678e364bf9ccac8", func := "guerdon/guerdonlaw08.LexerRoundTrip", spec := "lexerRoundTrip", inPlace := ["internal/bytealg.IndexByteString", "internal/bytealg.IndexString", "internal/abi.NoEscape"], named := ["guerdon/date.monthLengths", "internal/bytealg.MaxLen"], apart := false, laid := [("guerdon/date.monthLengths", laid_guerdon_date_monthLengths)] }
def LexerRoundTripSaid : Prop := lexerRoundTripRow.holds Tryd.pinned (OpenSpec.ofChange lexerRoundTripSpec)

/-- ITS FALSE NEIGHBOUR: 'it returns false'. Refute it at one input. -/
def lexerRoundTripWrong : ChangeSpec := { name := "lexerRoundTrip", fn := fun _ => fun
  | [d] => { results := [.lit (.bool false)], args := [d] }
  | _ => none }
def LexerRoundTripWrongFalsely : Prop := lexerRoundTripRow.holds Tryd.pinned (OpenSpec.ofChange lexerRoundTripWrong)

/-- 'guerdonlaw07.MonthRanges': WHATEVER THE INPUT: true; the input reads as it did. -/
def monthRangesSpec : ChangeSpec := { name := "monthRanges", fn := fun _ => fun
  | [d1, d2, d3] => { results := [.lit (.bool true)], args := [d1, d2, d3] }
  | _ => none }
def monthRangesRow : OpenClaim := { program := "ytmlkgfacenajnaadoor", sum := "0af974c8b77acd975c5a832a89d18b276216b45006c1020ad678e364bf9ccac8", func := "guerdon/guerdonlaw07.MonthRanges", spec := "monthRanges", inPlace := ["internal/abi.NoEscape", "internal/bytealg.MakeNoZero"], named := ["guerdon/date.monthLengths", "internal/strconv.uint64pow10", "math/bits.deBruijn32tab", "math/bits.deBruijn64tab"], apart := false, laid := [("math/bits.deBruijn32tab", laid_math_bits_deBruijn32tab), ("math/bits.deBruijn64tab", laid_math_bits_deBruijn64tab), ("internal/strconv.uint64pow10", laid_internal_strconv_uint64pow10), ("guerdon/date.monthLengths", laid_guerdon_date_monthLengths)] }
def MonthRangesSaid : Prop := monthRangesRow.holds Tryd.pinned (OpenSpec.ofChange monthRangesSpec)

/-- ITS FALSE NEIGHBOUR: 'it returns false'. Refute it at one input. -/
def monthRangesWrong : ChangeSpec := { name := "monthRanges", fn := fun _ => fun
  | [d1, d2, d3] => { results := [.lit (.bool false)], args := [d1, d2, d3] }
  | _ => none }
def MonthRangesWrongFalsely : Prop := monthRangesRow.holds Tryd.pinned (OpenSpec.ofChange monthRangesWrong)

/-- 'guerdonlaw07.MonthPayDate': WHATEVER THE INPUT: true; the input reads as it did. -/
def monthPayDateSpec : ChangeSpec := { name := "monthPayDate", fn := fun _ => fun
  | [d1, d2, d3] => { results := [.lit (.bool true)], args := [d1, d2, d3] }
  | _ => none }
def monthPayDateRow : OpenClaim := { program := "ytmlkgfacenajnaadoor", sum := "0af974c8b77acd975c5a832a89d18b276216b45006c1020ad678e364bf9ccac8", func := "guerdon/guerdonlaw07.MonthPayDate", spec := "monthPayDate", inPlace := ["internal/abi.NoEscape", "internal/bytealg.MakeNoZero"], named := ["guerdon/date.monthLengths", "internal/strconv.uint64pow10", "math/bits.deBruijn32tab", "math/bits.deBruijn64tab"], apart := false, laid := [("math/bits.deBruijn32tab", laid_math_bits_deBruijn32tab), ("math/bits.deBruijn64tab", laid_math_bits_deBruijn64tab), ("internal/strconv.uint64pow10", laid_internal_strconv_uint64pow10), ("guerdon/date.monthLengths", laid_guerdon_date_monthLengths)] }
def MonthPayDateSaid : Prop := monthPayDateRow.holds Tryd.pinned (OpenSpec.ofChange monthPayDateSpec)

/-- ITS FALSE NEIGHBOUR: 'it returns false'. Refute it at one input. -/
def monthPayDateWrong : ChangeSpec := { name := "monthPayDate", fn := fun _ => fun
  | [d1, d2, d3] => { results := [.lit (.bool false)], args := [d1, d2, d3] }
  | _ => none }
def MonthPayDateWrongFalsely : Prop := monthPayDateRow.holds Tryd.pinned (OpenSpec.ofChange monthPayDateWrong)

/-- 'guerdonlaw07.MonthTexts': WHATEVER THE INPUT: true; the input reads as it did. -/
def monthTextsSpec : ChangeSpec := { name := "monthTexts", fn := fun _ => fun
  | [d1, d2] => { results := [.lit (.bool true)], args := [d1, d2] }
  | _ => none }
def monthTextsRow : OpenClaim := { program := "ytmlkgfacenajnaadoor", sum := "0af974c8b77acd975c5a832a89d18b276216b45006c1020ad678e364bf9ccac8", func := "guerdon/guerdonlaw07.MonthTexts", spec := "monthTexts", inPlace := ["internal/abi.NoEscape", "internal/bytealg.MakeNoZero"], recurses := true, named := ["internal/strconv.uint64pow10", "math/bits.deBruijn32tab", "math/bits.deBruijn64tab", "guerdon/date.monthLengths"], apart := false, laid := [("math/bits.deBruijn32tab", laid_math_bits_deBruijn32tab), ("math/bits.deBruijn64tab", laid_math_bits_deBruijn64tab), ("internal/strconv.uint64pow10", laid_internal_strconv_uint64pow10), ("guerdon/date.monthLengths", laid_guerdon_date_monthLengths)] }
def MonthTextsSaid : Prop := monthTextsRow.holds Tryd.pinned (OpenSpec.ofChange monthTextsSpec)

/-- ITS FALSE NEIGHBOUR: 'it returns false'. Refute it at one input. -/
def monthTextsWrong : ChangeSpec := { name := "monthTexts", fn := fun _ => fun
  | [d1, d2] => { results := [.lit (.bool false)], args := [d1, d2] }
  | _ => none }
def MonthTextsWrongFalsely : Prop := monthTextsRow.holds Tryd.pinned (OpenSpec.ofChange monthTextsWrong)

/-- 'guerdonlaw07.MonthPartition': WHATEVER THE INPUT: true; the input reads as it did. -/
def monthPartitionSpec : ChangeSpec := { name := "monthPartition", fn := fun _ => fun
  | [d1, d2] => { results := [.lit (.bool true)], args := [d1, d2] }
  | _ => none }
def monthPartitionRow : OpenClaim := { program := "ytmlkgfacenajnaadoor", sum := "0af974c8b77acd975c5a832a89d18b276216b45006c1020ad678e364bf9ccac8", func := "guerdon/guerdonlaw07.MonthPartition", spec := "monthPartition", inPlace := ["internal/abi.NoEscape", "internal/bytealg.MakeNoZero"], named := ["guerdon/date.monthLengths", "internal/strconv.uint64pow10", "math/bits.deBruijn32tab", "math/bits.deBruijn64tab"], apart := false, laid := [("math/bits.deBruijn32tab", laid_math_bits_deBruijn32tab), ("math/bits.deBruijn64tab", laid_math_bits_deBruijn64tab), ("internal/strconv.uint64pow10", laid_internal_strconv_uint64pow10), ("guerdon/date.monthLengths", laid_guerdon_date_monthLengths)] }
def MonthPartitionSaid : Prop := monthPartitionRow.holds Tryd.pinned (OpenSpec.ofChange monthPartitionSpec)

/-- ITS FALSE NEIGHBOUR: 'it returns false'. Refute it at one input. -/
def monthPartitionWrong : ChangeSpec := { name := "monthPartition", fn := fun _ => fun
  | [d1, d2] => { results := [.lit (.bool false)], args := [d1, d2] }
  | _ => none }
def MonthPartitionWrongFalsely : Prop := monthPartitionRow.holds Tryd.pinned (OpenSpec.ofChange monthPartitionWrong)

/-- 'guerdonlaw07.MonthOverlap': WHATEVER THE INPUT: true; the input reads as it did. -/
def monthOverlapSpec : ChangeSpec := { name := "monthOverlap", fn := fun _ => fun
  | [d1, d2, d3] => { results := [.lit (.bool true)], args := [d1, d2, d3] }
  | _ => none }
def monthOverlapRow : OpenClaim := { program := "ytmlkgfacenajnaadoor", sum := "0af974c8b77acd975c5a832a89d18b276216b45006c1020ad678e364bf9ccac8", func := "guerdon/guerdonlaw07.MonthOverlap", spec := "monthOverlap", inPlace := ["internal/abi.NoEscape", "internal/bytealg.MakeNoZero"], named := ["guerdon/date.monthLengths", "internal/strconv.uint64pow10", "math/bits.deBruijn32tab", "math/bits.deBruijn64tab"], apart := false, laid := [("math/bits.deBruijn32tab", laid_math_bits_deBruijn32tab), ("math/bits.deBruijn64tab", laid_math_bits_deBruijn64tab), ("internal/strconv.uint64pow10", laid_internal_strconv_uint64pow10), ("guerdon/date.monthLengths", laid_guerdon_date_monthLengths)] }
def MonthOverlapSaid : Prop := monthOverlapRow.holds Tryd.pinned (OpenSpec.ofChange monthOverlapSpec)

/-- ITS FALSE NEIGHBOUR: 'it returns false'. Refute it at one input. -/
def monthOverlapWrong : ChangeSpec := { name := "monthOverlap", fn := fun _ => fun
  | [d1, d2, d3] => { results := [.lit (.bool false)], args := [d1, d2, d3] }
  | _ => none }
def MonthOverlapWrongFalsely : Prop := monthOverlapRow.holds Tryd.pinned (OpenSpec.ofChange monthOverlapWrong)

/- THE SECOND FORM. 'bulk': how many values and letters a reading holds, each counted each time it is reached (what is shared counts as often as it is met; a slice's spare places count too). A statement '..UptoSaid' is the law's where the arguments, and the package variables that the reading takes, are together of bulk at most 1048576: NARROWER than '..Said'. Prove '..Said' where nothing that the law and all that it calls make is longer than what came in: it says more and counts as full. Else prove '..UptoSaid'. A law counts once. -/
mutual
def uptoBulk {H : Type} : DataW H → Nat
  | .lit (.string bytes) => bytes.length + 1
  | .lit _ => 1
  | .nil => 1
  | .ptr d => uptoBulk d + 1
  | .slice elems spare => uptoBulkAll elems + uptoBulkAll spare + 1
  | .agg parts => uptoBulkAll parts + 1
  | .iface _ d => uptoBulk d + 1
  | .map entries => uptoBulkEntries entries + 1
  | .held _ => 1
def uptoBulkAll {H : Type} : List (DataW H) → Nat
  | [] => 0
  | d :: r => uptoBulk d + uptoBulkAll r
def uptoBulkEntries {H : Type} : List (Lit × DataW H) → Nat
  | [] => 0
  | x :: r => uptoBulkEntry x + uptoBulkEntries r
def uptoBulkEntry {H : Type} : Lit × DataW H → Nat
  | (.string bytes, d) => bytes.length + uptoBulk d + 1
  | (_, d) => uptoBulk d + 1
 end
def uptoSmall : (H : Type) → List (DataW H) → Bool := fun _ ds => decide (uptoBulkAll ds ≤ 1048576)
def OpenSpec.upto (s : _root_.Go.ChangeSpec) : _root_.Go.OpenSpec := { _root_.Go.OpenSpec.ofChange s with cond := some uptoSmall }

/-- 'guerdonlaw08.LexerTokenize', WHERE WHAT IT READS IS OF BULK AT MOST 1048576: true; the input reads as it did. -/
def lexerTokenizeUptoRow : OpenClaim := { program := "ytmlkgfacenajnaadoor", sum := "0af974c8b77acd975c5a832a89d18b276216b45006c1020ad678e364bf9ccac8", func := "guerdon/guerdonlaw08.LexerTokenize", spec := "lexerTokenize", inPlace := ["internal/bytealg.IndexByteString", "internal/bytealg.IndexString"], named := ["guerdon/date.monthLengths", "internal/bytealg.MaxLen"], apart := false, laid := [("guerdon/date.monthLengths", laid_guerdon_date_monthLengths)], narrowed := true }
def LexerTokenizeUptoSaid : Prop := lexerTokenizeUptoRow.holds Tryd.pinned (OpenSpec.upto lexerTokenizeSpec)

/-- 'guerdonlaw08.LexerIdentifier', WHERE WHAT IT READS IS OF BULK AT MOST 1048576: true; the input reads as it did. -/
def lexerIdentifierUptoRow : OpenClaim := { program := "ytmlkgfacenajnaadoor", sum := "0af974c8b77acd975c5a832a89d18b276216b45006c1020ad678e364bf9ccac8", func := "guerdon/guerdonlaw08.LexerIdentifier", spec := "lexerIdentifier", inPlace := ["internal/bytealg.IndexByteString", "internal/bytealg.IndexString"], named := ["guerdon/date.monthLengths", "internal/bytealg.MaxLen"], apart := false, laid := [("guerdon/date.monthLengths", laid_guerdon_date_monthLengths)], narrowed := true }
def LexerIdentifierUptoSaid : Prop := lexerIdentifierUptoRow.holds Tryd.pinned (OpenSpec.upto lexerIdentifierSpec)

/-- 'guerdonlaw08.LexerOffsets', WHERE WHAT IT READS IS OF BULK AT MOST 1048576: true; the input reads as it did. -/
def lexerOffsetsUptoRow : OpenClaim := { program := "ytmlkgfacenajnaadoor", sum := "0af974c8b77acd975c5a832a89d18b276216b45006c1020ad678e364bf9ccac8", func := "guerdon/guerdonlaw08.LexerOffsets", spec := "lexerOffsets", inPlace := ["internal/bytealg.IndexByteString", "internal/bytealg.IndexString"], named := ["guerdon/date.monthLengths", "internal/bytealg.MaxLen"], apart := false, laid := [("guerdon/date.monthLengths", laid_guerdon_date_monthLengths)], narrowed := true }
def LexerOffsetsUptoSaid : Prop := lexerOffsetsUptoRow.holds Tryd.pinned (OpenSpec.upto lexerOffsetsSpec)

/-- 'guerdonlaw08.LexerFormat', WHERE WHAT IT READS IS OF BULK AT MOST 1048576: true; the input reads as it did. -/
def lexerFormatUptoRow : OpenClaim := { program := "ytmlkgfacenajnaadoor", sum := "0af974c8b77acd975c5a832a89d18b276216b45006c1020ad678e364bf9ccac8", func := "guerdon/guerdonlaw08.LexerFormat", spec := "lexerFormat", inPlace := ["internal/bytealg.IndexByteString", "internal/bytealg.IndexString", "internal/abi.NoEscape"], named := ["guerdon/date.monthLengths", "internal/bytealg.MaxLen"], apart := false, laid := [("guerdon/date.monthLengths", laid_guerdon_date_monthLengths)], narrowed := true }
def LexerFormatUptoSaid : Prop := lexerFormatUptoRow.holds Tryd.pinned (OpenSpec.upto lexerFormatSpec)

/-- 'guerdonlaw08.LexerRoundTrip', WHERE WHAT IT READS IS OF BULK AT MOST 1048576: true; the input reads as it did. -/
def lexerRoundTripUptoRow : OpenClaim := { program := "ytmlkgfacenajnaadoor", sum := "0af974c8b77acd975c5a832a89d18b276216b45006c1020ad678e364bf9ccac8", func := "guerdon/guerdonlaw08.LexerRoundTrip", spec := "lexerRoundTrip", inPlace := ["internal/bytealg.IndexByteString", "internal/bytealg.IndexString", "internal/abi.NoEscape"], named := ["guerdon/date.monthLengths", "internal/bytealg.MaxLen"], apart := false, laid := [("guerdon/date.monthLengths", laid_guerdon_date_monthLengths)], narrowed := true }
def LexerRoundTripUptoSaid : Prop := lexerRoundTripUptoRow.holds Tryd.pinned (OpenSpec.upto lexerRoundTripSpec)

/-- 'guerdonlaw07.MonthRanges', WHERE WHAT IT READS IS OF BULK AT MOST 1048576: true; the input reads as it did. -/
def monthRangesUptoRow : OpenClaim := { program := "ytmlkgfacenajnaadoor", sum := "0af974c8b77acd975c5a832a89d18b276216b45006c1020ad678e364bf9ccac8", func := "guerdon/guerdonlaw07.MonthRanges", spec := "monthRanges", inPlace := ["internal/abi.NoEscape", "internal/bytealg.MakeNoZero"], named := ["guerdon/date.monthLengths", "internal/strconv.uint64pow10", "math/bits.deBruijn32tab", "math/bits.deBruijn64tab"], apart := false, laid := [("math/bits.deBruijn32tab", laid_math_bits_deBruijn32tab), ("math/bits.deBruijn64tab", laid_math_bits_deBruijn64tab), ("internal/strconv.uint64pow10", laid_internal_strconv_uint64pow10), ("guerdon/date.monthLengths", laid_guerdon_date_monthLengths)], narrowed := true }
def MonthRangesUptoSaid : Prop := monthRangesUptoRow.holds Tryd.pinned (OpenSpec.upto monthRangesSpec)

/-- 'guerdonlaw07.MonthPayDate', WHERE WHAT IT READS IS OF BULK AT MOST 1048576: true; the input reads as it did. -/
def monthPayDateUptoRow : OpenClaim := { program := "ytmlkgfacenajnaadoor", sum := "0af974c8b77acd975c5a832a89d18b276216b45006c1020ad678e364bf9ccac8", func := "guerdon/guerdonlaw07.MonthPayDate", spec := "monthPayDate", inPlace := ["internal/abi.NoEscape", "internal/bytealg.MakeNoZero"], named := ["guerdon/date.monthLengths", "internal/strconv.uint64pow10", "math/bits.deBruijn32tab", "math/bits.deBruijn64tab"], apart := false, laid := [("math/bits.deBruijn32tab", laid_math_bits_deBruijn32tab), ("math/bits.deBruijn64tab", laid_math_bits_deBruijn64tab), ("internal/strconv.uint64pow10", laid_internal_strconv_uint64pow10), ("guerdon/date.monthLengths", laid_guerdon_date_monthLengths)], narrowed := true }
def MonthPayDateUptoSaid : Prop := monthPayDateUptoRow.holds Tryd.pinned (OpenSpec.upto monthPayDateSpec)

/-- 'guerdonlaw07.MonthTexts', WHERE WHAT IT READS IS OF BULK AT MOST 1048576: true; the input reads as it did. -/
def monthTextsUptoRow : OpenClaim := { program := "ytmlkgfacenajnaadoor", sum := "0af974c8b77acd975c5a832a89d18b276216b45006c1020ad678e364bf9ccac8", func := "guerdon/guerdonlaw07.MonthTexts", spec := "monthTexts", inPlace := ["internal/abi.NoEscape", "internal/bytealg.MakeNoZero"], recurses := true, named := ["internal/strconv.uint64pow10", "math/bits.deBruijn32tab", "math/bits.deBruijn64tab", "guerdon/date.monthLengths"], apart := false, laid := [("math/bits.deBruijn32tab", laid_math_bits_deBruijn32tab), ("math/bits.deBruijn64tab", laid_math_bits_deBruijn64tab), ("internal/strconv.uint64pow10", laid_internal_strconv_uint64pow10), ("guerdon/date.monthLengths", laid_guerdon_date_monthLengths)], narrowed := true }
def MonthTextsUptoSaid : Prop := monthTextsUptoRow.holds Tryd.pinned (OpenSpec.upto monthTextsSpec)

/-- 'guerdonlaw07.MonthPartition', WHERE WHAT IT READS IS OF BULK AT MOST 1048576: true; the input reads as it did. -/
def monthPartitionUptoRow : OpenClaim := { program := "ytmlkgfacenajnaadoor", sum := "0af974c8b77acd975c5a832a89d18b276216b45006c1020ad678e364bf9ccac8", func := "guerdon/guerdonlaw07.MonthPartition", spec := "monthPartition", inPlace := ["internal/abi.NoEscape", "internal/bytealg.MakeNoZero"], named := ["guerdon/date.monthLengths", "internal/strconv.uint64pow10", "math/bits.deBruijn32tab", "math/bits.deBruijn64tab"], apart := false, laid := [("math/bits.deBruijn32tab", laid_math_bits_deBruijn32tab), ("math/bits.deBruijn64tab", laid_math_bits_deBruijn64tab), ("internal/strconv.uint64pow10", laid_internal_strconv_uint64pow10), ("guerdon/date.monthLengths", laid_guerdon_date_monthLengths)], narrowed := true }
def MonthPartitionUptoSaid : Prop := monthPartitionUptoRow.holds Tryd.pinned (OpenSpec.upto monthPartitionSpec)

/-- 'guerdonlaw07.MonthOverlap', WHERE WHAT IT READS IS OF BULK AT MOST 1048576: true; the input reads as it did. -/
def monthOverlapUptoRow : OpenClaim := { program := "ytmlkgfacenajnaadoor", sum := "0af974c8b77acd975c5a832a89d18b276216b45006c1020ad678e364bf9ccac8", func := "guerdon/guerdonlaw07.MonthOverlap", spec := "monthOverlap", inPlace := ["internal/abi.NoEscape", "internal/bytealg.MakeNoZero"], named := ["guerdon/date.monthLengths", "internal/strconv.uint64pow10", "math/bits.deBruijn32tab", "math/bits.deBruijn64tab"], apart := false, laid := [("math/bits.deBruijn32tab", laid_math_bits_deBruijn32tab), ("math/bits.deBruijn64tab", laid_math_bits_deBruijn64tab), ("internal/strconv.uint64pow10", laid_internal_strconv_uint64pow10), ("guerdon/date.monthLengths", laid_guerdon_date_monthLengths)], narrowed := true }
def MonthOverlapUptoSaid : Prop := monthOverlapUptoRow.holds Tryd.pinned (OpenSpec.upto monthOverlapSpec)

end Rows
end Go.Proofs.YtmlkgfacenajnaaDoor
