/-
  NARROWER THAN 'FOR EVERY INPUT', by the rows' own cells (each row's printed sentence says how): FnExactShortReport: laid · FnExactNodeList: laid · FnExactSupplyText: laid · FnExactReportText: laid · FnExactEncodeRecord: laid · FnExactSampleText: laid · FnShares: laid.
  DERIVED. THE GIVEN ROWS OF THIS SEAT. 7 by the template 'for every input the law returns true; each argument reads behind the call as it read before'; 0 by the template 'total and deterministic' (their statements: YtplodidfmdmhdaaDoorTotals.lean).
  GIVEN WITH THE SEED: the statements are not yours to turn. If you find one false, say at which input.
  Laid BY PROGRAM, IN A SANDBOX (cutbox-rows.mjs): the forced cells as the released guide's own fill.sh prints them over the translation 420606b8ea92bd6b… (all of the seat's roots in one cut). By AI agents, Wed Nov 11 2026. No macro, syntax, notation, axiom, sorry.
-/
import Derived.Test.YtplodidfmdmhdaaDoorChecked
import GoSem.Claim
import GoSem.ClaimJoined
import GoSem.ClaimMapViews
import Derived.JoinedTies
import Derived.KernelRfl
namespace Go.Proofs.YtplodidfmdmhdaaDoor
/- THE CELL 'sum', in the pinned program and in every row, IS THE sha256 OF THE DUMP (.gsa) THAT YtplodidfmdmhdaaDoorProg.lean LOADS. Nothing in Lean hashes anything: it is a label: what it is worth is what the hold of that sum in a sandbox is worth. -/
noncomputable def Tryd.pinned : Pinned := { name := "ytplodidfmdmhdaadoor", sum := "420606b8ea92bd6be1fbf53dd1d3894df61c96af2f72bce033b043d228877ada", checked := Tryd.checked }
namespace Rows
def none {H : Type} : Left H := { results := [], args := [] }

/- WHAT THE LISTED PACKAGE-LEVEL VARIABLES READ AS WHEN THE CALL BEGINS. Each datum BY PROGRAM (the guide's laid-datum.mjs) off the statement by which the dump's own 'gosem.cut.vars' lays the variable. In a bare row this is a premise. The card (YtplodidfmdmhdaaDoorCards.lean) ties it to the program's text. -/
def laid_math_bits_deBruijn32tab {H : Type} : DataW H := .agg [.lit (.int .u8 0), .lit (.int .u8 1), .lit (.int .u8 28), .lit (.int .u8 2), .lit (.int .u8 29), .lit (.int .u8 14), .lit (.int .u8 24), .lit (.int .u8 3), .lit (.int .u8 30), .lit (.int .u8 22), .lit (.int .u8 20), .lit (.int .u8 15), .lit (.int .u8 25), .lit (.int .u8 17), .lit (.int .u8 4), .lit (.int .u8 8), .lit (.int .u8 31), .lit (.int .u8 27), .lit (.int .u8 13), .lit (.int .u8 23), .lit (.int .u8 21), .lit (.int .u8 19), .lit (.int .u8 16), .lit (.int .u8 7), .lit (.int .u8 26), .lit (.int .u8 12), .lit (.int .u8 18), .lit (.int .u8 6), .lit (.int .u8 11), .lit (.int .u8 5), .lit (.int .u8 10), .lit (.int .u8 9)]
def laid_math_bits_deBruijn64tab {H : Type} : DataW H := .agg [.lit (.int .u8 0), .lit (.int .u8 1), .lit (.int .u8 56), .lit (.int .u8 2), .lit (.int .u8 57), .lit (.int .u8 49), .lit (.int .u8 28), .lit (.int .u8 3), .lit (.int .u8 61), .lit (.int .u8 58), .lit (.int .u8 42), .lit (.int .u8 50), .lit (.int .u8 38), .lit (.int .u8 29), .lit (.int .u8 17), .lit (.int .u8 4), .lit (.int .u8 62), .lit (.int .u8 47), .lit (.int .u8 59), .lit (.int .u8 36), .lit (.int .u8 45), .lit (.int .u8 43), .lit (.int .u8 51), .lit (.int .u8 22), .lit (.int .u8 53), .lit (.int .u8 39), .lit (.int .u8 33), .lit (.int .u8 30), .lit (.int .u8 24), .lit (.int .u8 18), .lit (.int .u8 12), .lit (.int .u8 5), .lit (.int .u8 63), .lit (.int .u8 55), .lit (.int .u8 48), .lit (.int .u8 27), .lit (.int .u8 60), .lit (.int .u8 41), .lit (.int .u8 37), .lit (.int .u8 16), .lit (.int .u8 46), .lit (.int .u8 35), .lit (.int .u8 44), .lit (.int .u8 21), .lit (.int .u8 52), .lit (.int .u8 32), .lit (.int .u8 23), .lit (.int .u8 11), .lit (.int .u8 54), .lit (.int .u8 26), .lit (.int .u8 40), .lit (.int .u8 15), .lit (.int .u8 34), .lit (.int .u8 20), .lit (.int .u8 31), .lit (.int .u8 10), .lit (.int .u8 25), .lit (.int .u8 14), .lit (.int .u8 19), .lit (.int .u8 9), .lit (.int .u8 13), .lit (.int .u8 8), .lit (.int .u8 7), .lit (.int .u8 6)]
def laid_internal_strconv_uint64pow10 {H : Type} : DataW H := .agg [.lit (.int .u64 1), .lit (.int .u64 10), .lit (.int .u64 100), .lit (.int .u64 1000), .lit (.int .u64 10000), .lit (.int .u64 100000), .lit (.int .u64 1000000), .lit (.int .u64 10000000), .lit (.int .u64 100000000), .lit (.int .u64 1000000000), .lit (.int .u64 10000000000), .lit (.int .u64 100000000000), .lit (.int .u64 1000000000000), .lit (.int .u64 10000000000000), .lit (.int .u64 100000000000000), .lit (.int .u64 1000000000000000), .lit (.int .u64 10000000000000000), .lit (.int .u64 100000000000000000), .lit (.int .u64 1000000000000000000), .lit (.int .u64 10000000000000000000)]
def laid_loop_example_g00853_impl_sampleWords {H : Type} : DataW H := .agg [.lit (.string []), .lit (.string [99, 104, 108, 111, 114, 105, 110, 101]), .lit (.string [110, 105, 116, 114, 97, 116, 101]), .lit (.string [105, 114, 111, 110]), .lit (.string [116, 117, 114, 98, 105, 100, 105, 116, 121])]

/-- 'laws.FnExactShortReport': WHATEVER THE INPUT: true; the input reads as it did. -/
def fnExactShortReportSpec : ChangeSpec := { name := "fnExactShortReport", fn := fun _ => fun
  | [d] => { results := [.lit (.bool true)], args := [d] }
  | _ => none }
def fnExactShortReportRow : OpenClaim := { program := "ytplodidfmdmhdaadoor", sum := "420606b8ea92bd6be1fbf53dd1d3894df61c96af2f72bce033b043d228877ada", func := "loop.example/g00853/laws.FnExactShortReport", spec := "fnExactShortReport", recurses := true, named := ["internal/strconv.uint64pow10", "math/bits.deBruijn32tab", "math/bits.deBruijn64tab"], apart := false, laid := [("math/bits.deBruijn32tab", laid_math_bits_deBruijn32tab), ("math/bits.deBruijn64tab", laid_math_bits_deBruijn64tab), ("internal/strconv.uint64pow10", laid_internal_strconv_uint64pow10)] }
def FnExactShortReportSaid : Prop := fnExactShortReportRow.holds Tryd.pinned (OpenSpec.ofChange fnExactShortReportSpec)

/-- ITS FALSE NEIGHBOUR: 'it returns false'. Refute it at one input. -/
def fnExactShortReportWrong : ChangeSpec := { name := "fnExactShortReport", fn := fun _ => fun
  | [d] => { results := [.lit (.bool false)], args := [d] }
  | _ => none }
def FnExactShortReportWrongFalsely : Prop := fnExactShortReportRow.holds Tryd.pinned (OpenSpec.ofChange fnExactShortReportWrong)

/-- 'laws.FnExactNodeList': WHATEVER THE INPUT: true; the input reads as it did. -/
def fnExactNodeListSpec : ChangeSpec := { name := "fnExactNodeList", fn := fun _ => fun
  | [d] => { results := [.lit (.bool true)], args := [d] }
  | _ => none }
def fnExactNodeListRow : OpenClaim := { program := "ytplodidfmdmhdaadoor", sum := "420606b8ea92bd6be1fbf53dd1d3894df61c96af2f72bce033b043d228877ada", func := "loop.example/g00853/laws.FnExactNodeList", spec := "fnExactNodeList", inPlace := ["internal/abi.NoEscape", "internal/bytealg.MakeNoZero"], recurses := true, named := ["internal/strconv.uint64pow10", "math/bits.deBruijn32tab", "math/bits.deBruijn64tab"], apart := false, laid := [("math/bits.deBruijn32tab", laid_math_bits_deBruijn32tab), ("math/bits.deBruijn64tab", laid_math_bits_deBruijn64tab), ("internal/strconv.uint64pow10", laid_internal_strconv_uint64pow10)] }
def FnExactNodeListSaid : Prop := fnExactNodeListRow.holds Tryd.pinned (OpenSpec.ofChange fnExactNodeListSpec)

/-- ITS FALSE NEIGHBOUR: 'it returns false'. Refute it at one input. -/
def fnExactNodeListWrong : ChangeSpec := { name := "fnExactNodeList", fn := fun _ => fun
  | [d] => { results := [.lit (.bool false)], args := [d] }
  | _ => none }
def FnExactNodeListWrongFalsely : Prop := fnExactNodeListRow.holds Tryd.pinned (OpenSpec.ofChange fnExactNodeListWrong)

/-- 'laws.FnExactSupplyText': WHATEVER THE INPUT: true; the input reads as it did. -/
def fnExactSupplyTextSpec : ChangeSpec := { name := "fnExactSupplyText", fn := fun _ => fun
  | [d] => { results := [.lit (.bool true)], args := [d] }
  | _ => none }
def fnExactSupplyTextRow : OpenClaim := { program := "ytplodidfmdmhdaadoor", sum := "420606b8ea92bd6be1fbf53dd1d3894df61c96af2f72bce033b043d228877ada", func := "loop.example/g00853/laws.FnExactSupplyText", spec := "fnExactSupplyText", recurses := true, named := ["internal/strconv.uint64pow10", "math/bits.deBruijn32tab", "math/bits.deBruijn64tab"], apart := false, laid := [("math/bits.deBruijn32tab", laid_math_bits_deBruijn32tab), ("math/bits.deBruijn64tab", laid_math_bits_deBruijn64tab), ("internal/strconv.uint64pow10", laid_internal_strconv_uint64pow10)] }
def FnExactSupplyTextSaid : Prop := fnExactSupplyTextRow.holds Tryd.pinned (OpenSpec.ofChange fnExactSupplyTextSpec)

/-- ITS FALSE NEIGHBOUR: 'it returns false'. Refute it at one input. -/
def fnExactSupplyTextWrong : ChangeSpec := { name := "fnExactSupplyText", fn := fun _ => fun
  | [d] => { results := [.lit (.bool false)], args := [d] }
  | _ => none }
def FnExactSupplyTextWrongFalsely : Prop := fnExactSupplyTextRow.holds Tryd.pinned (OpenSpec.ofChange fnExactSupplyTextWrong)

/-- 'laws.FnExactReportText': WHATEVER THE INPUT: true; the input reads as it did. -/
def fnExactReportTextSpec : ChangeSpec := { name := "fnExactReportText", fn := fun _ => fun
  | [d] => { results := [.lit (.bool true)], args := [d] }
  | _ => none }
def fnExactReportTextRow : OpenClaim := { program := "ytplodidfmdmhdaadoor", sum := "420606b8ea92bd6be1fbf53dd1d3894df61c96af2f72bce033b043d228877ada", func := "loop.example/g00853/laws.FnExactReportText", spec := "fnExactReportText", inPlace := ["internal/abi.NoEscape", "internal/bytealg.MakeNoZero"], recurses := true, named := ["internal/strconv.uint64pow10", "math/bits.deBruijn32tab", "math/bits.deBruijn64tab"], apart := false, laid := [("math/bits.deBruijn32tab", laid_math_bits_deBruijn32tab), ("math/bits.deBruijn64tab", laid_math_bits_deBruijn64tab), ("internal/strconv.uint64pow10", laid_internal_strconv_uint64pow10)] }
def FnExactReportTextSaid : Prop := fnExactReportTextRow.holds Tryd.pinned (OpenSpec.ofChange fnExactReportTextSpec)

/-- ITS FALSE NEIGHBOUR: 'it returns false'. Refute it at one input. -/
def fnExactReportTextWrong : ChangeSpec := { name := "fnExactReportText", fn := fun _ => fun
  | [d] => { results := [.lit (.bool false)], args := [d] }
  | _ => none }
def FnExactReportTextWrongFalsely : Prop := fnExactReportTextRow.holds Tryd.pinned (OpenSpec.ofChange fnExactReportTextWrong)

/-- 'laws.FnExactEncodeRecord': WHATEVER THE INPUT: true; the input reads as it did. -/
def fnExactEncodeRecordSpec : ChangeSpec := { name := "fnExactEncodeRecord", fn := fun _ => fun
  | [d1, d2] => { results := [.lit (.bool true)], args := [d1, d2] }
  | _ => none }
def fnExactEncodeRecordRow : OpenClaim := { program := "ytplodidfmdmhdaadoor", sum := "420606b8ea92bd6be1fbf53dd1d3894df61c96af2f72bce033b043d228877ada", func := "loop.example/g00853/laws.FnExactEncodeRecord", spec := "fnExactEncodeRecord", inPlace := ["internal/bytealg.IndexByteString", "internal/bytealg.IndexString"], recurses := true, named := ["internal/bytealg.MaxLen", "internal/strconv.uint64pow10", "math/bits.deBruijn32tab", "math/bits.deBruijn64tab"], apart := false, laid := [("math/bits.deBruijn32tab", laid_math_bits_deBruijn32tab), ("math/bits.deBruijn64tab", laid_math_bits_deBruijn64tab), ("internal/strconv.uint64pow10", laid_internal_strconv_uint64pow10)] }
def FnExactEncodeRecordSaid : Prop := fnExactEncodeRecordRow.holds Tryd.pinned (OpenSpec.ofChange fnExactEncodeRecordSpec)

/-- ITS FALSE NEIGHBOUR: 'it returns false'. Refute it at one input. -/
def fnExactEncodeRecordWrong : ChangeSpec := { name := "fnExactEncodeRecord", fn := fun _ => fun
  | [d1, d2] => { results := [.lit (.bool false)], args := [d1, d2] }
  | _ => none }
def FnExactEncodeRecordWrongFalsely : Prop := fnExactEncodeRecordRow.holds Tryd.pinned (OpenSpec.ofChange fnExactEncodeRecordWrong)

/-- 'laws.FnExactSampleText': WHATEVER THE INPUT: true; the input reads as it did. -/
def fnExactSampleTextSpec : ChangeSpec := { name := "fnExactSampleText", vars := ["loop.example/g00853/impl.sampleWords"], fn := fun _ => fun
  | [d, g1] => { results := [.lit (.bool true)], args := [d], vars := [g1] }
  | _ => none }
def fnExactSampleTextRow : OpenClaim := { program := "ytplodidfmdmhdaadoor", sum := "420606b8ea92bd6be1fbf53dd1d3894df61c96af2f72bce033b043d228877ada", func := "loop.example/g00853/laws.FnExactSampleText", spec := "fnExactSampleText", recurses := true, named := ["loop.example/g00853/impl.sampleWords", "internal/strconv.uint64pow10", "math/bits.deBruijn32tab", "math/bits.deBruijn64tab"], apart := false, laid := [("math/bits.deBruijn32tab", laid_math_bits_deBruijn32tab), ("math/bits.deBruijn64tab", laid_math_bits_deBruijn64tab), ("internal/strconv.uint64pow10", laid_internal_strconv_uint64pow10), ("loop.example/g00853/impl.sampleWords", laid_loop_example_g00853_impl_sampleWords)] }
def FnExactSampleTextSaid : Prop := fnExactSampleTextRow.holds Tryd.pinned (OpenSpec.ofChange fnExactSampleTextSpec)

/-- ITS FALSE NEIGHBOUR: 'it returns false'. Refute it at one input. -/
def fnExactSampleTextWrong : ChangeSpec := { name := "fnExactSampleText", vars := ["loop.example/g00853/impl.sampleWords"], fn := fun _ => fun
  | [d, g1] => { results := [.lit (.bool false)], args := [d], vars := [g1] }
  | _ => none }
def FnExactSampleTextWrongFalsely : Prop := fnExactSampleTextRow.holds Tryd.pinned (OpenSpec.ofChange fnExactSampleTextWrong)

/-- 'laws.FnShares': WHATEVER THE INPUT: true; the input reads as it did. -/
def fnSharesSpec : ChangeSpec := { name := "fnShares", fn := fun _ => fun
  | [d] => { results := [.lit (.bool true)], args := [d] }
  | _ => none }
def fnSharesRow : OpenClaim := { program := "ytplodidfmdmhdaadoor", sum := "420606b8ea92bd6be1fbf53dd1d3894df61c96af2f72bce033b043d228877ada", func := "loop.example/g00853/laws.FnShares", spec := "fnShares", unfollowed := true, recurses := true, named := ["internal/strconv.uint64pow10", "math/bits.deBruijn32tab", "math/bits.deBruijn64tab"], apart := false, laid := [("math/bits.deBruijn32tab", laid_math_bits_deBruijn32tab), ("math/bits.deBruijn64tab", laid_math_bits_deBruijn64tab), ("internal/strconv.uint64pow10", laid_internal_strconv_uint64pow10)] }
def FnSharesSaid : Prop := fnSharesRow.holds Tryd.pinned (OpenSpec.ofChange fnSharesSpec)

/-- ITS FALSE NEIGHBOUR: 'it returns false'. Refute it at one input. -/
def fnSharesWrong : ChangeSpec := { name := "fnShares", fn := fun _ => fun
  | [d] => { results := [.lit (.bool false)], args := [d] }
  | _ => none }
def FnSharesWrongFalsely : Prop := fnSharesRow.holds Tryd.pinned (OpenSpec.ofChange fnSharesWrong)

/- THE SECOND FORM. 'bulk': how many values and letters a reading holds, each counted each time it is reached (what is shared counts as often as it is met; a slice's spare places count too). A statement '..UptoSaid' is the law's where the arguments, and the package variables that the reading takes, are together of bulk at most 1048576: NARROWER than '..Said'. Prove '..Said' where nothing that the law and all that it calls make is longer than what came in: it says more and counts as full. Else prove '..UptoSaid'. A law counts once. -/
mutual
def uptoBulk {H : Type} : DataW H → Nat
  | .lit (.string bytes) => bytes.length + 1
  | .lit _ => 1
  | .nil => 1
  | .ptr d => uptoBulk d + 1
  | .slice elems spare => uptoBulkAll elems + uptoBulkAll spare + 1
  | .agg parts => uptoBulkAll parts + 1
  | .iface _ d => uptoBulk d + 1
  | .map entries => uptoBulkEntries entries + 1
  | .held _ => 1
def uptoBulkAll {H : Type} : List (DataW H) → Nat
  | [] => 0
  | d :: r => uptoBulk d + uptoBulkAll r
def uptoBulkEntries {H : Type} : List (Lit × DataW H) → Nat
  | [] => 0
  | x :: r => uptoBulkEntry x + uptoBulkEntries r
def uptoBulkEntry {H : Type} : Lit × DataW H → Nat
  | (.string bytes, d) => bytes.length + uptoBulk d + 1
  | (_, d) => uptoBulk d + 1
 end
def uptoSmall : (H : Type) → List (DataW H) → Bool := fun _ ds => decide (uptoBulkAll ds ≤ 1048576)
def OpenSpec.upto (s : _root_.Go.ChangeSpec) : _root_.Go.OpenSpec := { _root_.Go.OpenSpec.ofChange s with cond := some uptoSmall }

/-- 'laws.FnExactShortReport', WHERE WHAT IT READS IS OF BULK AT MOST 1048576: true; the input reads as it did. -/
def fnExactShortReportUptoRow : OpenClaim := { program := "ytplodidfmdmhdaadoor", sum := "420606b8ea92bd6be1fbf53dd1d3894df61c96af2f72bce033b043d228877ada", func := "loop.example/g00853/laws.FnExactShortReport", spec := "fnExactShortReport", recurses := true, named := ["internal/strconv.uint64pow10", "math/bits.deBruijn32tab", "math/bits.deBruijn64tab"], apart := false, laid := [("math/bits.deBruijn32tab", laid_math_bits_deBruijn32tab), ("math/bits.deBruijn64tab", laid_math_bits_deBruijn64tab), ("internal/strconv.uint64pow10", laid_internal_strconv_uint64pow10)], narrowed := true }
def FnExactShortReportUptoSaid : Prop := fnExactShortReportUptoRow.holds Tryd.pinned (OpenSpec.upto fnExactShortReportSpec)

/-- 'laws.FnExactNodeList', WHERE WHAT IT READS IS OF BULK AT MOST 1048576: true; the input reads as it did. -/
def fnExactNodeListUptoRow : OpenClaim := { program := "ytplodidfmdmhdaadoor", sum := "420606b8ea92bd6be1fbf53dd1d3894df61c96af2f72bce033b043d228877ada", func := "loop.example/g00853/laws.FnExactNodeList", spec := "fnExactNodeList", inPlace := ["internal/abi.NoEscape", "internal/bytealg.MakeNoZero"], recurses := true, named := ["internal/strconv.uint64pow10", "math/bits.deBruijn32tab", "math/bits.deBruijn64tab"], apart := false, laid := [("math/bits.deBruijn32tab", laid_math_bits_deBruijn32tab), ("math/bits.deBruijn64tab", laid_math_bits_deBruijn64tab), ("internal/strconv.uint64pow10", laid_internal_strconv_uint64pow10)], narrowed := true }
def FnExactNodeListUptoSaid : Prop := fnExactNodeListUptoRow.holds Tryd.pinned (OpenSpec.upto fnExactNodeListSpec)

/-- 'laws.FnExactSupplyText', WHERE WHAT IT READS IS OF BULK AT MOST 1048576: true; the input reads as it did. -/
def fnExactSupplyTextUptoRow : OpenClaim := { program := "ytplodidfmdmhdaadoor", sum := "420606b8ea92bd6be1fbf53dd1d3894df61c96af2f72bce033b043d228877ada", func := "loop.example/g00853/laws.FnExactSupplyText", spec := "fnExactSupplyText", recurses := true, named := ["internal/strconv.uint64pow10", "math/bits.deBruijn32tab", "math/bits.deBruijn64tab"], apart := false, laid := [("math/bits.deBruijn32tab", laid_math_bits_deBruijn32tab), ("math/bits.deBruijn64tab", laid_math_bits_deBruijn64tab), ("internal/strconv.uint64pow10", laid_internal_strconv_uint64pow10)], narrowed := true }
def FnExactSupplyTextUptoSaid : Prop := fnExactSupplyTextUptoRow.holds Tryd.pinned (OpenSpec.upto fnExactSupplyTextSpec)

/-- 'laws.FnExactReportText', WHERE WHAT IT READS IS OF BULK AT MOST 1048576: true; the input reads as it did. -/
def fnExactReportTextUptoRow : OpenClaim := { program := "ytplodidfmdmhdaadoor", sum := "420606b8ea92bd6be1fbf53dd1d3894df61c96af2f72bce033b043d228877ada", func := "loop.example/g00853/laws.FnExactReportText", spec := "fnExactReportText", inPlace := ["internal/abi.NoEscape", "internal/bytealg.MakeNoZero"], recurses := true, named := ["internal/strconv.uint64pow10", "math/bits.deBruijn32tab", "math/bits.deBruijn64tab"], apart := false, laid := [("math/bits.deBruijn32tab", laid_math_bits_deBruijn32tab), ("math/bits.deBruijn64tab", laid_math_bits_deBruijn64tab), ("internal/strconv.uint64pow10", laid_internal_strconv_uint64pow10)], narrowed := true }
def FnExactReportTextUptoSaid : Prop := fnExactReportTextUptoRow.holds Tryd.pinned (OpenSpec.upto fnExactReportTextSpec)

/-- 'laws.FnExactEncodeRecord', WHERE WHAT IT READS IS OF BULK AT MOST 1048576: true; the input reads as it did. -/
def fnExactEncodeRecordUptoRow : OpenClaim := { program := "ytplodidfmdmhdaadoor", sum := "420606b8ea92bd6be1fbf53dd1d3894df61c96af2f72bce033b043d228877ada", func := "loop.example/g00853/laws.FnExactEncodeRecord", spec := "fnExactEncodeRecord", inPlace := ["internal/bytealg.IndexByteString", "internal/bytealg.IndexString"], recurses := true, named := ["internal/bytealg.MaxLen", "internal/strconv.uint64pow10", "math/bits.deBruijn32tab", "math/bits.deBruijn64tab"], apart := false, laid := [("math/bits.deBruijn32tab", laid_math_bits_deBruijn32tab), ("math/bits.deBruijn64tab", laid_math_bits_deBruijn64tab), ("internal/strconv.uint64pow10", laid_internal_strconv_uint64pow10)], narrowed := true }
def FnExactEncodeRecordUptoSaid : Prop := fnExactEncodeRecordUptoRow.holds Tryd.pinned (OpenSpec.upto fnExactEncodeRecordSpec)

/-- 'laws.FnExactSampleText', WHERE WHAT IT READS IS OF BULK AT MOST 1048576: true; the input reads as it did. -/
def fnExactSampleTextUptoRow : OpenClaim := { program := "ytplodidfmdmhdaadoor", sum := "420606b8ea92bd6be1fbf53dd1d3894df61c96af2f72bce033b043d228877ada", func := "loop.example/g00853/laws.FnExactSampleText", spec := "fnExactSampleText", recurses := true, named := ["loop.example/g00853/impl.sampleWords", "internal/strconv.uint64pow10", "math/bits.deBruijn32tab", "math/bits.deBruijn64tab"], apart := false, laid := [("math/bits.deBruijn32tab", laid_math_bits_deBruijn32tab), ("math/bits.deBruijn64tab", laid_math_bits_deBruijn64tab), ("internal/strconv.uint64pow10", laid_internal_strconv_uint64pow10), ("loop.example/g00853/impl.sampleWords", laid_loop_example_g00853_impl_sampleWords)], narrowed := true }
def FnExactSampleTextUptoSaid : Prop := fnExactSampleTextUptoRow.holds Tryd.pinned (OpenSpec.upto fnExactSampleTextSpec)

/-- 'laws.FnShares', WHERE WHAT IT READS IS OF BULK AT MOST 1048576: true; the input reads as it did. -/
def fnSharesUptoRow : OpenClaim := { program := "ytplodidfmdmhdaadoor", sum := "420606b8ea92bd6be1fbf53dd1d3894df61c96af2f72bce033b043d228877ada", func := "loop.example/g00853/laws.FnShares", spec := "fnShares", unfollowed := true, recurses := true, named := ["internal/strconv.uint64pow10", "math/bits.deBruijn32tab", "math/bits.deBruijn64tab"], apart := false, laid := [("math/bits.deBruijn32tab", laid_math_bits_deBruijn32tab), ("math/bits.deBruijn64tab", laid_math_bits_deBruijn64tab), ("internal/strconv.uint64pow10", laid_internal_strconv_uint64pow10)], narrowed := true }
def FnSharesUptoSaid : Prop := fnSharesUptoRow.holds Tryd.pinned (OpenSpec.upto fnSharesSpec)

end Rows
end Go.Proofs.YtplodidfmdmhdaaDoor
