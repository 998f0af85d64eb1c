/-
  No cell of these rows narrows 'for every input' (looked for: loops, veiled, ifaces, maps, wideKeys, modest, calm, conditions, laid).
  DERIVED. THE GIVEN ROWS OF THIS SEAT. 12 by the template 'for every input the law returns true; each argument reads behind the call as it read before'; 0 by the template 'total and deterministic' (their statements: YtkeckghlkomjjaaTotals.lean).
  GIVEN WITH THE SEED: the statements are not yours to turn. If you find one false, say at which input.
  Laid BY PROGRAM, IN A SANDBOX (cutbox-rows.mjs): the forced cells as the released guide's own fill.sh prints them over the translation f272a63b12f539e1… (all of the seat's roots in one cut). By AI agents, Wed Nov 11 2026. No macro, syntax, notation, axiom, sorry.
-/
import Derived.Test.YtkeckghlkomjjaaChecked
import GoSem.Claim
import GoSem.ClaimJoined
import GoSem.ClaimMapViews
import Derived.JoinedTies
import Derived.KernelRfl
namespace Go.Proofs.Ytkeckghlkomjjaa
/- THE CELL 'sum', in the pinned program and in every row, IS THE sha256 OF THE DUMP (.gsa) THAT YtkeckghlkomjjaaProg.lean LOADS. Nothing in Lean hashes anything: it is a label: what it is worth is what the hold of that sum in a sandbox is worth. -/
noncomputable def Try.pinned : Pinned := { name := "ytkeckghlkomjjaa", sum := "f272a63b12f539e104ee0c634ad8fbefc5c913d075cd09cc29558a7575bacaf1", checked := Try.checked }
namespace Rows
def none {H : Type} : Left H := { results := [], args := [] }

/-- 'laws.FnExactValueOn': WHATEVER THE INPUT: true; the input reads as it did. -/
def fnExactValueOnSpec : ChangeSpec := { name := "fnExactValueOn", fn := fun _ => fun
  | [d1, d2] => { results := [.lit (.bool true)], args := [d1, d2] }
  | _ => none }
def fnExactValueOnRow : OpenClaim := { program := "ytkeckghlkomjjaa", sum := "f272a63b12f539e104ee0c634ad8fbefc5c913d075cd09cc29558a7575bacaf1", func := "loop.example/g00853/laws.FnExactValueOn", spec := "fnExactValueOn", unfollowed := true, recurses := true, apart := false }
def FnExactValueOnSaid : Prop := fnExactValueOnRow.holds Try.pinned (OpenSpec.ofChange fnExactValueOnSpec)

/-- ITS FALSE NEIGHBOUR: 'it returns false'. Refute it at one input. -/
def fnExactValueOnWrong : ChangeSpec := { name := "fnExactValueOn", fn := fun _ => fun
  | [d1, d2] => { results := [.lit (.bool false)], args := [d1, d2] }
  | _ => none }
def FnExactValueOnWrongFalsely : Prop := fnExactValueOnRow.holds Try.pinned (OpenSpec.ofChange fnExactValueOnWrong)

/-- 'laws.FnExactFromSteps': WHATEVER THE INPUT: true; the input reads as it did. -/
def fnExactFromStepsSpec : ChangeSpec := { name := "fnExactFromSteps", fn := fun _ => fun
  | [d1, d2] => { results := [.lit (.bool true)], args := [d1, d2] }
  | _ => none }
def fnExactFromStepsRow : OpenClaim := { program := "ytkeckghlkomjjaa", sum := "f272a63b12f539e104ee0c634ad8fbefc5c913d075cd09cc29558a7575bacaf1", func := "loop.example/g00853/laws.FnExactFromSteps", spec := "fnExactFromSteps", unfollowed := true, recurses := true, apart := false }
def FnExactFromStepsSaid : Prop := fnExactFromStepsRow.holds Try.pinned (OpenSpec.ofChange fnExactFromStepsSpec)

/-- ITS FALSE NEIGHBOUR: 'it returns false'. Refute it at one input. -/
def fnExactFromStepsWrong : ChangeSpec := { name := "fnExactFromSteps", fn := fun _ => fun
  | [d1, d2] => { results := [.lit (.bool false)], args := [d1, d2] }
  | _ => none }
def FnExactFromStepsWrongFalsely : Prop := fnExactFromStepsRow.holds Try.pinned (OpenSpec.ofChange fnExactFromStepsWrong)

/-- 'laws.FnExactStepsOf': WHATEVER THE INPUT: true; the input reads as it did. -/
def fnExactStepsOfSpec : ChangeSpec := { name := "fnExactStepsOf", fn := fun _ => fun
  | [d] => { results := [.lit (.bool true)], args := [d] }
  | _ => none }
def fnExactStepsOfRow : OpenClaim := { program := "ytkeckghlkomjjaa", sum := "f272a63b12f539e104ee0c634ad8fbefc5c913d075cd09cc29558a7575bacaf1", func := "loop.example/g00853/laws.FnExactStepsOf", spec := "fnExactStepsOf", unfollowed := true, recurses := true, apart := false }
def FnExactStepsOfSaid : Prop := fnExactStepsOfRow.holds Try.pinned (OpenSpec.ofChange fnExactStepsOfSpec)

/-- ITS FALSE NEIGHBOUR: 'it returns false'. Refute it at one input. -/
def fnExactStepsOfWrong : ChangeSpec := { name := "fnExactStepsOf", fn := fun _ => fun
  | [d] => { results := [.lit (.bool false)], args := [d] }
  | _ => none }
def FnExactStepsOfWrongFalsely : Prop := fnExactStepsOfRow.holds Try.pinned (OpenSpec.ofChange fnExactStepsOfWrong)

/-- 'laws.FnExactJoinArchives': WHATEVER THE INPUT: true; the input reads as it did. -/
def fnExactJoinArchivesSpec : ChangeSpec := { name := "fnExactJoinArchives", fn := fun _ => fun
  | [d1, d2] => { results := [.lit (.bool true)], args := [d1, d2] }
  | _ => none }
def fnExactJoinArchivesRow : OpenClaim := { program := "ytkeckghlkomjjaa", sum := "f272a63b12f539e104ee0c634ad8fbefc5c913d075cd09cc29558a7575bacaf1", func := "loop.example/g00853/laws.FnExactJoinArchives", spec := "fnExactJoinArchives", unfollowed := true, recurses := true, apart := false }
def FnExactJoinArchivesSaid : Prop := fnExactJoinArchivesRow.holds Try.pinned (OpenSpec.ofChange fnExactJoinArchivesSpec)

/-- ITS FALSE NEIGHBOUR: 'it returns false'. Refute it at one input. -/
def fnExactJoinArchivesWrong : ChangeSpec := { name := "fnExactJoinArchives", fn := fun _ => fun
  | [d1, d2] => { results := [.lit (.bool false)], args := [d1, d2] }
  | _ => none }
def FnExactJoinArchivesWrongFalsely : Prop := fnExactJoinArchivesRow.holds Try.pinned (OpenSpec.ofChange fnExactJoinArchivesWrong)

/-- 'laws.FnExactCutArchive': WHATEVER THE INPUT: true; the input reads as it did. -/
def fnExactCutArchiveSpec : ChangeSpec := { name := "fnExactCutArchive", fn := fun _ => fun
  | [d1, d2, d3] => { results := [.lit (.bool true)], args := [d1, d2, d3] }
  | _ => none }
def fnExactCutArchiveRow : OpenClaim := { program := "ytkeckghlkomjjaa", sum := "f272a63b12f539e104ee0c634ad8fbefc5c913d075cd09cc29558a7575bacaf1", func := "loop.example/g00853/laws.FnExactCutArchive", spec := "fnExactCutArchive", unfollowed := true, recurses := true, apart := false }
def FnExactCutArchiveSaid : Prop := fnExactCutArchiveRow.holds Try.pinned (OpenSpec.ofChange fnExactCutArchiveSpec)

/-- ITS FALSE NEIGHBOUR: 'it returns false'. Refute it at one input. -/
def fnExactCutArchiveWrong : ChangeSpec := { name := "fnExactCutArchive", fn := fun _ => fun
  | [d1, d2, d3] => { results := [.lit (.bool false)], args := [d1, d2, d3] }
  | _ => none }
def FnExactCutArchiveWrongFalsely : Prop := fnExactCutArchiveRow.holds Try.pinned (OpenSpec.ofChange fnExactCutArchiveWrong)

/-- 'laws.FnExactWeekMeans': WHATEVER THE INPUT: true; the input reads as it did. -/
def fnExactWeekMeansSpec : ChangeSpec := { name := "fnExactWeekMeans", fn := fun _ => fun
  | [d] => { results := [.lit (.bool true)], args := [d] }
  | _ => none }
def fnExactWeekMeansRow : OpenClaim := { program := "ytkeckghlkomjjaa", sum := "f272a63b12f539e104ee0c634ad8fbefc5c913d075cd09cc29558a7575bacaf1", func := "loop.example/g00853/laws.FnExactWeekMeans", spec := "fnExactWeekMeans", unfollowed := true, recurses := true, apart := false }
def FnExactWeekMeansSaid : Prop := fnExactWeekMeansRow.holds Try.pinned (OpenSpec.ofChange fnExactWeekMeansSpec)

/-- ITS FALSE NEIGHBOUR: 'it returns false'. Refute it at one input. -/
def fnExactWeekMeansWrong : ChangeSpec := { name := "fnExactWeekMeans", fn := fun _ => fun
  | [d] => { results := [.lit (.bool false)], args := [d] }
  | _ => none }
def FnExactWeekMeansWrongFalsely : Prop := fnExactWeekMeansRow.holds Try.pinned (OpenSpec.ofChange fnExactWeekMeansWrong)

/-- 'laws.FnExactStoreValue': WHATEVER THE INPUT: true; the input reads as it did. -/
def fnExactStoreValueSpec : ChangeSpec := { name := "fnExactStoreValue", fn := fun _ => fun
  | [d1, d2, d3] => { results := [.lit (.bool true)], args := [d1, d2, d3] }
  | _ => none }
def fnExactStoreValueRow : OpenClaim := { program := "ytkeckghlkomjjaa", sum := "f272a63b12f539e104ee0c634ad8fbefc5c913d075cd09cc29558a7575bacaf1", func := "loop.example/g00853/laws.FnExactStoreValue", spec := "fnExactStoreValue", unfollowed := true, recurses := true, apart := false }
def FnExactStoreValueSaid : Prop := fnExactStoreValueRow.holds Try.pinned (OpenSpec.ofChange fnExactStoreValueSpec)

/-- ITS FALSE NEIGHBOUR: 'it returns false'. Refute it at one input. -/
def fnExactStoreValueWrong : ChangeSpec := { name := "fnExactStoreValue", fn := fun _ => fun
  | [d1, d2, d3] => { results := [.lit (.bool false)], args := [d1, d2, d3] }
  | _ => none }
def FnExactStoreValueWrongFalsely : Prop := fnExactStoreValueRow.holds Try.pinned (OpenSpec.ofChange fnExactStoreValueWrong)

/-- 'laws.FnExactIsValidRecord': WHATEVER THE INPUT: true; the input reads as it did. -/
def fnExactIsValidRecordSpec : ChangeSpec := { name := "fnExactIsValidRecord", fn := fun _ => fun
  | [d] => { results := [.lit (.bool true)], args := [d] }
  | _ => none }
def fnExactIsValidRecordRow : OpenClaim := { program := "ytkeckghlkomjjaa", sum := "f272a63b12f539e104ee0c634ad8fbefc5c913d075cd09cc29558a7575bacaf1", func := "loop.example/g00853/laws.FnExactIsValidRecord", spec := "fnExactIsValidRecord", inPlace := ["internal/bytealg.IndexByteString", "internal/bytealg.IndexString"], named := ["internal/bytealg.MaxLen"], apart := false }
def FnExactIsValidRecordSaid : Prop := fnExactIsValidRecordRow.holds Try.pinned (OpenSpec.ofChange fnExactIsValidRecordSpec)

/-- ITS FALSE NEIGHBOUR: 'it returns false'. Refute it at one input. -/
def fnExactIsValidRecordWrong : ChangeSpec := { name := "fnExactIsValidRecord", fn := fun _ => fun
  | [d] => { results := [.lit (.bool false)], args := [d] }
  | _ => none }
def FnExactIsValidRecordWrongFalsely : Prop := fnExactIsValidRecordRow.holds Try.pinned (OpenSpec.ofChange fnExactIsValidRecordWrong)

/-- 'laws.FnExactFairShare': WHATEVER THE INPUT: true; the input reads as it did. -/
def fnExactFairShareSpec : ChangeSpec := { name := "fnExactFairShare", fn := fun _ => fun
  | [d1, d2] => { results := [.lit (.bool true)], args := [d1, d2] }
  | _ => none }
def fnExactFairShareRow : OpenClaim := { program := "ytkeckghlkomjjaa", sum := "f272a63b12f539e104ee0c634ad8fbefc5c913d075cd09cc29558a7575bacaf1", func := "loop.example/g00853/laws.FnExactFairShare", spec := "fnExactFairShare", unfollowed := true, recurses := true, apart := false }
def FnExactFairShareSaid : Prop := fnExactFairShareRow.holds Try.pinned (OpenSpec.ofChange fnExactFairShareSpec)

/-- ITS FALSE NEIGHBOUR: 'it returns false'. Refute it at one input. -/
def fnExactFairShareWrong : ChangeSpec := { name := "fnExactFairShare", fn := fun _ => fun
  | [d1, d2] => { results := [.lit (.bool false)], args := [d1, d2] }
  | _ => none }
def FnExactFairShareWrongFalsely : Prop := fnExactFairShareRow.holds Try.pinned (OpenSpec.ofChange fnExactFairShareWrong)

/-- 'laws.FnExactPackArchive': WHATEVER THE INPUT: true; the input reads as it did. -/
def fnExactPackArchiveSpec : ChangeSpec := { name := "fnExactPackArchive", fn := fun _ => fun
  | [d] => { results := [.lit (.bool true)], args := [d] }
  | _ => none }
def fnExactPackArchiveRow : OpenClaim := { program := "ytkeckghlkomjjaa", sum := "f272a63b12f539e104ee0c634ad8fbefc5c913d075cd09cc29558a7575bacaf1", func := "loop.example/g00853/laws.FnExactPackArchive", spec := "fnExactPackArchive", unfollowed := true, recurses := true, apart := false }
def FnExactPackArchiveSaid : Prop := fnExactPackArchiveRow.holds Try.pinned (OpenSpec.ofChange fnExactPackArchiveSpec)

/-- ITS FALSE NEIGHBOUR: 'it returns false'. Refute it at one input. -/
def fnExactPackArchiveWrong : ChangeSpec := { name := "fnExactPackArchive", fn := fun _ => fun
  | [d] => { results := [.lit (.bool false)], args := [d] }
  | _ => none }
def FnExactPackArchiveWrongFalsely : Prop := fnExactPackArchiveRow.holds Try.pinned (OpenSpec.ofChange fnExactPackArchiveWrong)

/-- 'laws.FnExactBadSamples': WHATEVER THE INPUT: true; the input reads as it did. -/
def fnExactBadSamplesSpec : ChangeSpec := { name := "fnExactBadSamples", fn := fun _ => fun
  | [d] => { results := [.lit (.bool true)], args := [d] }
  | _ => none }
def fnExactBadSamplesRow : OpenClaim := { program := "ytkeckghlkomjjaa", sum := "f272a63b12f539e104ee0c634ad8fbefc5c913d075cd09cc29558a7575bacaf1", func := "loop.example/g00853/laws.FnExactBadSamples", spec := "fnExactBadSamples", apart := false }
def FnExactBadSamplesSaid : Prop := fnExactBadSamplesRow.holds Try.pinned (OpenSpec.ofChange fnExactBadSamplesSpec)

/-- ITS FALSE NEIGHBOUR: 'it returns false'. Refute it at one input. -/
def fnExactBadSamplesWrong : ChangeSpec := { name := "fnExactBadSamples", fn := fun _ => fun
  | [d] => { results := [.lit (.bool false)], args := [d] }
  | _ => none }
def FnExactBadSamplesWrongFalsely : Prop := fnExactBadSamplesRow.holds Try.pinned (OpenSpec.ofChange fnExactBadSamplesWrong)

/-- 'laws.FnExactGoodShare': WHATEVER THE INPUT: true; the input reads as it did. -/
def fnExactGoodShareSpec : ChangeSpec := { name := "fnExactGoodShare", fn := fun _ => fun
  | [d1, d2, d3] => { results := [.lit (.bool true)], args := [d1, d2, d3] }
  | _ => none }
def fnExactGoodShareRow : OpenClaim := { program := "ytkeckghlkomjjaa", sum := "f272a63b12f539e104ee0c634ad8fbefc5c913d075cd09cc29558a7575bacaf1", func := "loop.example/g00853/laws.FnExactGoodShare", spec := "fnExactGoodShare", apart := false }
def FnExactGoodShareSaid : Prop := fnExactGoodShareRow.holds Try.pinned (OpenSpec.ofChange fnExactGoodShareSpec)

/-- ITS FALSE NEIGHBOUR: 'it returns false'. Refute it at one input. -/
def fnExactGoodShareWrong : ChangeSpec := { name := "fnExactGoodShare", fn := fun _ => fun
  | [d1, d2, d3] => { results := [.lit (.bool false)], args := [d1, d2, d3] }
  | _ => none }
def FnExactGoodShareWrongFalsely : Prop := fnExactGoodShareRow.holds Try.pinned (OpenSpec.ofChange fnExactGoodShareWrong)

/- THE SECOND FORM. 'bulk': how many values and letters a reading holds, each counted each time it is reached (what is shared counts as often as it is met; a slice's spare places count too). A statement '..UptoSaid' is the law's where the arguments, and the package variables that the reading takes, are together of bulk at most 1048576: NARROWER than '..Said'. Prove '..Said' where nothing that the law and all that it calls make is longer than what came in: it says more and counts as full. Else prove '..UptoSaid'. A law counts once. -/
mutual
def uptoBulk {H : Type} : DataW H → Nat
  | .lit (.string bytes) => bytes.length + 1
  | .lit _ => 1
  | .nil => 1
  | .ptr d => uptoBulk d + 1
  | .slice elems spare => uptoBulkAll elems + uptoBulkAll spare + 1
  | .agg parts => uptoBulkAll parts + 1
  | .iface _ d => uptoBulk d + 1
  | .map entries => uptoBulkEntries entries + 1
  | .held _ => 1
def uptoBulkAll {H : Type} : List (DataW H) → Nat
  | [] => 0
  | d :: r => uptoBulk d + uptoBulkAll r
def uptoBulkEntries {H : Type} : List (Lit × DataW H) → Nat
  | [] => 0
  | x :: r => uptoBulkEntry x + uptoBulkEntries r
def uptoBulkEntry {H : Type} : Lit × DataW H → Nat
  | (.string bytes, d) => bytes.length + uptoBulk d + 1
  | (_, d) => uptoBulk d + 1
 end
def uptoSmall : (H : Type) → List (DataW H) → Bool := fun _ ds => decide (uptoBulkAll ds ≤ 1048576)
def OpenSpec.upto (s : _root_.Go.ChangeSpec) : _root_.Go.OpenSpec := { _root_.Go.OpenSpec.ofChange s with cond := some uptoSmall }

/-- 'laws.FnExactValueOn', WHERE WHAT IT READS IS OF BULK AT MOST 1048576: true; the input reads as it did. -/
def fnExactValueOnUptoRow : OpenClaim := { program := "ytkeckghlkomjjaa", sum := "f272a63b12f539e104ee0c634ad8fbefc5c913d075cd09cc29558a7575bacaf1", func := "loop.example/g00853/laws.FnExactValueOn", spec := "fnExactValueOn", unfollowed := true, recurses := true, apart := false, narrowed := true }
def FnExactValueOnUptoSaid : Prop := fnExactValueOnUptoRow.holds Try.pinned (OpenSpec.upto fnExactValueOnSpec)

/-- 'laws.FnExactFromSteps', WHERE WHAT IT READS IS OF BULK AT MOST 1048576: true; the input reads as it did. -/
def fnExactFromStepsUptoRow : OpenClaim := { program := "ytkeckghlkomjjaa", sum := "f272a63b12f539e104ee0c634ad8fbefc5c913d075cd09cc29558a7575bacaf1", func := "loop.example/g00853/laws.FnExactFromSteps", spec := "fnExactFromSteps", unfollowed := true, recurses := true, apart := false, narrowed := true }
def FnExactFromStepsUptoSaid : Prop := fnExactFromStepsUptoRow.holds Try.pinned (OpenSpec.upto fnExactFromStepsSpec)

/-- 'laws.FnExactStepsOf', WHERE WHAT IT READS IS OF BULK AT MOST 1048576: true; the input reads as it did. -/
def fnExactStepsOfUptoRow : OpenClaim := { program := "ytkeckghlkomjjaa", sum := "f272a63b12f539e104ee0c634ad8fbefc5c913d075cd09cc29558a7575bacaf1", func := "loop.example/g00853/laws.FnExactStepsOf", spec := "fnExactStepsOf", unfollowed := true, recurses := true, apart := false, narrowed := true }
def FnExactStepsOfUptoSaid : Prop := fnExactStepsOfUptoRow.holds Try.pinned (OpenSpec.upto fnExactStepsOfSpec)

/-- 'laws.FnExactJoinArchives', WHERE WHAT IT READS IS OF BULK AT MOST 1048576: true; the input reads as it did. -/
def fnExactJoinArchivesUptoRow : OpenClaim := { program := "ytkeckghlkomjjaa", sum := "f272a63b12f539e104ee0c634ad8fbefc5c913d075cd09cc29558a7575bacaf1", func := "loop.example/g00853/laws.FnExactJoinArchives", spec := "fnExactJoinArchives", unfollowed := true, recurses := true, apart := false, narrowed := true }
def FnExactJoinArchivesUptoSaid : Prop := fnExactJoinArchivesUptoRow.holds Try.pinned (OpenSpec.upto fnExactJoinArchivesSpec)

/-- 'laws.FnExactCutArchive', WHERE WHAT IT READS IS OF BULK AT MOST 1048576: true; the input reads as it did. -/
def fnExactCutArchiveUptoRow : OpenClaim := { program := "ytkeckghlkomjjaa", sum := "f272a63b12f539e104ee0c634ad8fbefc5c913d075cd09cc29558a7575bacaf1", func := "loop.example/g00853/laws.FnExactCutArchive", spec := "fnExactCutArchive", unfollowed := true, recurses := true, apart := false, narrowed := true }
def FnExactCutArchiveUptoSaid : Prop := fnExactCutArchiveUptoRow.holds Try.pinned (OpenSpec.upto fnExactCutArchiveSpec)

/-- 'laws.FnExactWeekMeans', WHERE WHAT IT READS IS OF BULK AT MOST 1048576: true; the input reads as it did. -/
def fnExactWeekMeansUptoRow : OpenClaim := { program := "ytkeckghlkomjjaa", sum := "f272a63b12f539e104ee0c634ad8fbefc5c913d075cd09cc29558a7575bacaf1", func := "loop.example/g00853/laws.FnExactWeekMeans", spec := "fnExactWeekMeans", unfollowed := true, recurses := true, apart := false, narrowed := true }
def FnExactWeekMeansUptoSaid : Prop := fnExactWeekMeansUptoRow.holds Try.pinned (OpenSpec.upto fnExactWeekMeansSpec)

/-- 'laws.FnExactStoreValue', WHERE WHAT IT READS IS OF BULK AT MOST 1048576: true; the input reads as it did. -/
def fnExactStoreValueUptoRow : OpenClaim := { program := "ytkeckghlkomjjaa", sum := "f272a63b12f539e104ee0c634ad8fbefc5c913d075cd09cc29558a7575bacaf1", func := "loop.example/g00853/laws.FnExactStoreValue", spec := "fnExactStoreValue", unfollowed := true, recurses := true, apart := false, narrowed := true }
def FnExactStoreValueUptoSaid : Prop := fnExactStoreValueUptoRow.holds Try.pinned (OpenSpec.upto fnExactStoreValueSpec)

/-- 'laws.FnExactIsValidRecord', WHERE WHAT IT READS IS OF BULK AT MOST 1048576: true; the input reads as it did. -/
def fnExactIsValidRecordUptoRow : OpenClaim := { program := "ytkeckghlkomjjaa", sum := "f272a63b12f539e104ee0c634ad8fbefc5c913d075cd09cc29558a7575bacaf1", func := "loop.example/g00853/laws.FnExactIsValidRecord", spec := "fnExactIsValidRecord", inPlace := ["internal/bytealg.IndexByteString", "internal/bytealg.IndexString"], named := ["internal/bytealg.MaxLen"], apart := false, narrowed := true }
def FnExactIsValidRecordUptoSaid : Prop := fnExactIsValidRecordUptoRow.holds Try.pinned (OpenSpec.upto fnExactIsValidRecordSpec)

/-- 'laws.FnExactFairShare', WHERE WHAT IT READS IS OF BULK AT MOST 1048576: true; the input reads as it did. -/
def fnExactFairShareUptoRow : OpenClaim := { program := "ytkeckghlkomjjaa", sum := "f272a63b12f539e104ee0c634ad8fbefc5c913d075cd09cc29558a7575bacaf1", func := "loop.example/g00853/laws.FnExactFairShare", spec := "fnExactFairShare", unfollowed := true, recurses := true, apart := false, narrowed := true }
def FnExactFairShareUptoSaid : Prop := fnExactFairShareUptoRow.holds Try.pinned (OpenSpec.upto fnExactFairShareSpec)

/-- 'laws.FnExactPackArchive', WHERE WHAT IT READS IS OF BULK AT MOST 1048576: true; the input reads as it did. -/
def fnExactPackArchiveUptoRow : OpenClaim := { program := "ytkeckghlkomjjaa", sum := "f272a63b12f539e104ee0c634ad8fbefc5c913d075cd09cc29558a7575bacaf1", func := "loop.example/g00853/laws.FnExactPackArchive", spec := "fnExactPackArchive", unfollowed := true, recurses := true, apart := false, narrowed := true }
def FnExactPackArchiveUptoSaid : Prop := fnExactPackArchiveUptoRow.holds Try.pinned (OpenSpec.upto fnExactPackArchiveSpec)

/-- 'laws.FnExactBadSamples', WHERE WHAT IT READS IS OF BULK AT MOST 1048576: true; the input reads as it did. -/
def fnExactBadSamplesUptoRow : OpenClaim := { program := "ytkeckghlkomjjaa", sum := "f272a63b12f539e104ee0c634ad8fbefc5c913d075cd09cc29558a7575bacaf1", func := "loop.example/g00853/laws.FnExactBadSamples", spec := "fnExactBadSamples", apart := false, narrowed := true }
def FnExactBadSamplesUptoSaid : Prop := fnExactBadSamplesUptoRow.holds Try.pinned (OpenSpec.upto fnExactBadSamplesSpec)

/-- 'laws.FnExactGoodShare', WHERE WHAT IT READS IS OF BULK AT MOST 1048576: true; the input reads as it did. -/
def fnExactGoodShareUptoRow : OpenClaim := { program := "ytkeckghlkomjjaa", sum := "f272a63b12f539e104ee0c634ad8fbefc5c913d075cd09cc29558a7575bacaf1", func := "loop.example/g00853/laws.FnExactGoodShare", spec := "fnExactGoodShare", apart := false, narrowed := true }
def FnExactGoodShareUptoSaid : Prop := fnExactGoodShareUptoRow.holds Try.pinned (OpenSpec.upto fnExactGoodShareSpec)

end Rows
end Go.Proofs.Ytkeckghlkomjjaa
