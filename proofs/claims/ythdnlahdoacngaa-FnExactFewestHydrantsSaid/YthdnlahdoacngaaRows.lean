/-
  No cell of these rows narrows 'for every input' (looked for: loops, veiled, ifaces, maps, wideKeys, modest, calm, conditions, laid).
  DERIVED. THE GIVEN ROWS OF THIS SEAT. 11 by the template 'for every input the law returns true; each argument reads behind the call as it read before'; 0 by the template 'total and deterministic' (their statements: YthdnlahdoacngaaTotals.lean).
  GIVEN WITH THE SEED: the statements are not yours to turn. If you find one false, say at which input.
  Laid BY PROGRAM, IN A SANDBOX (cutbox-rows.mjs): the forced cells as the released guide's own fill.sh prints them over the translation 21d3633c5498a4b1… (all of the seat's roots in one cut). By AI agents, Wed Nov 11 2026. No macro, syntax, notation, axiom, sorry.
-/
import Derived.Test.YthdnlahdoacngaaChecked
import GoSem.Claim
import GoSem.ClaimJoined
import GoSem.ClaimMapViews
import Derived.JoinedTies
import Derived.KernelRfl
namespace Go.Proofs.Ythdnlahdoacngaa
/- THE CELL 'sum', in the pinned program and in every row, IS THE sha256 OF THE DUMP (.gsa) THAT YthdnlahdoacngaaProg.lean LOADS. Nothing in Lean hashes anything: it is a label: what it is worth is what the hold of that sum in a sandbox is worth. -/
noncomputable def Try.pinned : Pinned := { name := "ythdnlahdoacngaa", sum := "21d3633c5498a4b1b95fb4b38e79abb1fd69f34d3a63067994800eda69bd444d", checked := Try.checked }
namespace Rows
def none {H : Type} : Left H := { results := [], args := [] }

/-- 'laws.FnExactJoinArchives': WHATEVER THE INPUT: true; the input reads as it did. -/
def fnExactJoinArchivesSpec : ChangeSpec := { name := "fnExactJoinArchives", fn := fun _ => fun
  | [d1, d2] => { results := [.lit (.bool true)], args := [d1, d2] }
  | _ => none }
def fnExactJoinArchivesRow : OpenClaim := { program := "ythdnlahdoacngaa", sum := "21d3633c5498a4b1b95fb4b38e79abb1fd69f34d3a63067994800eda69bd444d", func := "loop.example/g00853/laws.FnExactJoinArchives", spec := "fnExactJoinArchives", unfollowed := true, recurses := true, apart := false }
def FnExactJoinArchivesSaid : Prop := fnExactJoinArchivesRow.holds Try.pinned (OpenSpec.ofChange fnExactJoinArchivesSpec)

/-- ITS FALSE NEIGHBOUR: 'it returns false'. Refute it at one input. -/
def fnExactJoinArchivesWrong : ChangeSpec := { name := "fnExactJoinArchives", fn := fun _ => fun
  | [d1, d2] => { results := [.lit (.bool false)], args := [d1, d2] }
  | _ => none }
def FnExactJoinArchivesWrongFalsely : Prop := fnExactJoinArchivesRow.holds Try.pinned (OpenSpec.ofChange fnExactJoinArchivesWrong)

/-- 'laws.FnValues': WHATEVER THE INPUT: true; the input reads as it did. -/
def fnValuesSpec : ChangeSpec := { name := "fnValues", fn := fun _ => fun
  | [d] => { results := [.lit (.bool true)], args := [d] }
  | _ => none }
def fnValuesRow : OpenClaim := { program := "ythdnlahdoacngaa", sum := "21d3633c5498a4b1b95fb4b38e79abb1fd69f34d3a63067994800eda69bd444d", func := "loop.example/g00853/laws.FnValues", spec := "fnValues", unfollowed := true, recurses := true, apart := false }
def FnValuesSaid : Prop := fnValuesRow.holds Try.pinned (OpenSpec.ofChange fnValuesSpec)

/-- ITS FALSE NEIGHBOUR: 'it returns false'. Refute it at one input. -/
def fnValuesWrong : ChangeSpec := { name := "fnValues", fn := fun _ => fun
  | [d] => { results := [.lit (.bool false)], args := [d] }
  | _ => none }
def FnValuesWrongFalsely : Prop := fnValuesRow.holds Try.pinned (OpenSpec.ofChange fnValuesWrong)

/-- 'laws.FnArchives': WHATEVER THE INPUT: true; the input reads as it did. -/
def fnArchivesSpec : ChangeSpec := { name := "fnArchives", fn := fun _ => fun
  | [d] => { results := [.lit (.bool true)], args := [d] }
  | _ => none }
def fnArchivesRow : OpenClaim := { program := "ythdnlahdoacngaa", sum := "21d3633c5498a4b1b95fb4b38e79abb1fd69f34d3a63067994800eda69bd444d", func := "loop.example/g00853/laws.FnArchives", spec := "fnArchives", unfollowed := true, recurses := true, apart := false }
def FnArchivesSaid : Prop := fnArchivesRow.holds Try.pinned (OpenSpec.ofChange fnArchivesSpec)

/-- ITS FALSE NEIGHBOUR: 'it returns false'. Refute it at one input. -/
def fnArchivesWrong : ChangeSpec := { name := "fnArchives", fn := fun _ => fun
  | [d] => { results := [.lit (.bool false)], args := [d] }
  | _ => none }
def FnArchivesWrongFalsely : Prop := fnArchivesRow.holds Try.pinned (OpenSpec.ofChange fnArchivesWrong)

/-- 'laws.FnExactMergeSamples': WHATEVER THE INPUT: true; the input reads as it did. -/
def fnExactMergeSamplesSpec : ChangeSpec := { name := "fnExactMergeSamples", fn := fun _ => fun
  | [d1, d2] => { results := [.lit (.bool true)], args := [d1, d2] }
  | _ => none }
def fnExactMergeSamplesRow : OpenClaim := { program := "ythdnlahdoacngaa", sum := "21d3633c5498a4b1b95fb4b38e79abb1fd69f34d3a63067994800eda69bd444d", func := "loop.example/g00853/laws.FnExactMergeSamples", spec := "fnExactMergeSamples", unfollowed := true, recurses := true, apart := false }
def FnExactMergeSamplesSaid : Prop := fnExactMergeSamplesRow.holds Try.pinned (OpenSpec.ofChange fnExactMergeSamplesSpec)

/-- ITS FALSE NEIGHBOUR: 'it returns false'. Refute it at one input. -/
def fnExactMergeSamplesWrong : ChangeSpec := { name := "fnExactMergeSamples", fn := fun _ => fun
  | [d1, d2] => { results := [.lit (.bool false)], args := [d1, d2] }
  | _ => none }
def FnExactMergeSamplesWrongFalsely : Prop := fnExactMergeSamplesRow.holds Try.pinned (OpenSpec.ofChange fnExactMergeSamplesWrong)

/-- 'laws.FnExactFlowFor': WHATEVER THE INPUT: true; the input reads as it did. -/
def fnExactFlowForSpec : ChangeSpec := { name := "fnExactFlowFor", fn := fun _ => fun
  | [d1, d2, d3, d4] => { results := [.lit (.bool true)], args := [d1, d2, d3, d4] }
  | _ => none }
def fnExactFlowForRow : OpenClaim := { program := "ythdnlahdoacngaa", sum := "21d3633c5498a4b1b95fb4b38e79abb1fd69f34d3a63067994800eda69bd444d", func := "loop.example/g00853/laws.FnExactFlowFor", spec := "fnExactFlowFor", unfollowed := true, recurses := true, apart := false }
def FnExactFlowForSaid : Prop := fnExactFlowForRow.holds Try.pinned (OpenSpec.ofChange fnExactFlowForSpec)

/-- ITS FALSE NEIGHBOUR: 'it returns false'. Refute it at one input. -/
def fnExactFlowForWrong : ChangeSpec := { name := "fnExactFlowFor", fn := fun _ => fun
  | [d1, d2, d3, d4] => { results := [.lit (.bool false)], args := [d1, d2, d3, d4] }
  | _ => none }
def FnExactFlowForWrongFalsely : Prop := fnExactFlowForRow.holds Try.pinned (OpenSpec.ofChange fnExactFlowForWrong)

/-- 'laws.FnExactBestHydrant': WHATEVER THE INPUT: true; the input reads as it did. -/
def fnExactBestHydrantSpec : ChangeSpec := { name := "fnExactBestHydrant", fn := fun _ => fun
  | [d1, d2, d3, d4, d5] => { results := [.lit (.bool true)], args := [d1, d2, d3, d4, d5] }
  | _ => none }
def fnExactBestHydrantRow : OpenClaim := { program := "ythdnlahdoacngaa", sum := "21d3633c5498a4b1b95fb4b38e79abb1fd69f34d3a63067994800eda69bd444d", func := "loop.example/g00853/laws.FnExactBestHydrant", spec := "fnExactBestHydrant", unfollowed := true, recurses := true, apart := false }
def FnExactBestHydrantSaid : Prop := fnExactBestHydrantRow.holds Try.pinned (OpenSpec.ofChange fnExactBestHydrantSpec)

/-- ITS FALSE NEIGHBOUR: 'it returns false'. Refute it at one input. -/
def fnExactBestHydrantWrong : ChangeSpec := { name := "fnExactBestHydrant", fn := fun _ => fun
  | [d1, d2, d3, d4, d5] => { results := [.lit (.bool false)], args := [d1, d2, d3, d4, d5] }
  | _ => none }
def FnExactBestHydrantWrongFalsely : Prop := fnExactBestHydrantRow.holds Try.pinned (OpenSpec.ofChange fnExactBestHydrantWrong)

/-- 'laws.FnExactHydrantsFor': WHATEVER THE INPUT: true; the input reads as it did. -/
def fnExactHydrantsForSpec : ChangeSpec := { name := "fnExactHydrantsFor", fn := fun _ => fun
  | [d1, d2, d3, d4] => { results := [.lit (.bool true)], args := [d1, d2, d3, d4] }
  | _ => none }
def fnExactHydrantsForRow : OpenClaim := { program := "ythdnlahdoacngaa", sum := "21d3633c5498a4b1b95fb4b38e79abb1fd69f34d3a63067994800eda69bd444d", func := "loop.example/g00853/laws.FnExactHydrantsFor", spec := "fnExactHydrantsFor", unfollowed := true, recurses := true, apart := false }
def FnExactHydrantsForSaid : Prop := fnExactHydrantsForRow.holds Try.pinned (OpenSpec.ofChange fnExactHydrantsForSpec)

/-- ITS FALSE NEIGHBOUR: 'it returns false'. Refute it at one input. -/
def fnExactHydrantsForWrong : ChangeSpec := { name := "fnExactHydrantsFor", fn := fun _ => fun
  | [d1, d2, d3, d4] => { results := [.lit (.bool false)], args := [d1, d2, d3, d4] }
  | _ => none }
def FnExactHydrantsForWrongFalsely : Prop := fnExactHydrantsForRow.holds Try.pinned (OpenSpec.ofChange fnExactHydrantsForWrong)

/-- 'laws.FnExactThirstyNodes': WHATEVER THE INPUT: true; the input reads as it did. -/
def fnExactThirstyNodesSpec : ChangeSpec := { name := "fnExactThirstyNodes", fn := fun _ => fun
  | [d1, d2, d3, d4] => { results := [.lit (.bool true)], args := [d1, d2, d3, d4] }
  | _ => none }
def fnExactThirstyNodesRow : OpenClaim := { program := "ythdnlahdoacngaa", sum := "21d3633c5498a4b1b95fb4b38e79abb1fd69f34d3a63067994800eda69bd444d", func := "loop.example/g00853/laws.FnExactThirstyNodes", spec := "fnExactThirstyNodes", unfollowed := true, recurses := true, apart := false }
def FnExactThirstyNodesSaid : Prop := fnExactThirstyNodesRow.holds Try.pinned (OpenSpec.ofChange fnExactThirstyNodesSpec)

/-- ITS FALSE NEIGHBOUR: 'it returns false'. Refute it at one input. -/
def fnExactThirstyNodesWrong : ChangeSpec := { name := "fnExactThirstyNodes", fn := fun _ => fun
  | [d1, d2, d3, d4] => { results := [.lit (.bool false)], args := [d1, d2, d3, d4] }
  | _ => none }
def FnExactThirstyNodesWrongFalsely : Prop := fnExactThirstyNodesRow.holds Try.pinned (OpenSpec.ofChange fnExactThirstyNodesWrong)

/-- 'laws.FnSampling': WHATEVER THE INPUT: true; the input reads as it did. -/
def fnSamplingSpec : ChangeSpec := { name := "fnSampling", fn := fun _ => fun
  | [d] => { results := [.lit (.bool true)], args := [d] }
  | _ => none }
def fnSamplingRow : OpenClaim := { program := "ythdnlahdoacngaa", sum := "21d3633c5498a4b1b95fb4b38e79abb1fd69f34d3a63067994800eda69bd444d", func := "loop.example/g00853/laws.FnSampling", spec := "fnSampling", unfollowed := true, recurses := true, apart := false }
def FnSamplingSaid : Prop := fnSamplingRow.holds Try.pinned (OpenSpec.ofChange fnSamplingSpec)

/-- ITS FALSE NEIGHBOUR: 'it returns false'. Refute it at one input. -/
def fnSamplingWrong : ChangeSpec := { name := "fnSampling", fn := fun _ => fun
  | [d] => { results := [.lit (.bool false)], args := [d] }
  | _ => none }
def FnSamplingWrongFalsely : Prop := fnSamplingRow.holds Try.pinned (OpenSpec.ofChange fnSamplingWrong)

/-- 'laws.FnExactFewestHydrants': WHATEVER THE INPUT: true; the input reads as it did. -/
def fnExactFewestHydrantsSpec : ChangeSpec := { name := "fnExactFewestHydrants", fn := fun _ => fun
  | [d1, d2, d3, d4] => { results := [.lit (.bool true)], args := [d1, d2, d3, d4] }
  | _ => none }
def fnExactFewestHydrantsRow : OpenClaim := { program := "ythdnlahdoacngaa", sum := "21d3633c5498a4b1b95fb4b38e79abb1fd69f34d3a63067994800eda69bd444d", func := "loop.example/g00853/laws.FnExactFewestHydrants", spec := "fnExactFewestHydrants", unfollowed := true, recurses := true, apart := false }
def FnExactFewestHydrantsSaid : Prop := fnExactFewestHydrantsRow.holds Try.pinned (OpenSpec.ofChange fnExactFewestHydrantsSpec)

/-- ITS FALSE NEIGHBOUR: 'it returns false'. Refute it at one input. -/
def fnExactFewestHydrantsWrong : ChangeSpec := { name := "fnExactFewestHydrants", fn := fun _ => fun
  | [d1, d2, d3, d4] => { results := [.lit (.bool false)], args := [d1, d2, d3, d4] }
  | _ => none }
def FnExactFewestHydrantsWrongFalsely : Prop := fnExactFewestHydrantsRow.holds Try.pinned (OpenSpec.ofChange fnExactFewestHydrantsWrong)

/-- 'laws.FnHydrants': WHATEVER THE INPUT: true; the input reads as it did. -/
def fnHydrantsSpec : ChangeSpec := { name := "fnHydrants", fn := fun _ => fun
  | [d] => { results := [.lit (.bool true)], args := [d] }
  | _ => none }
def fnHydrantsRow : OpenClaim := { program := "ythdnlahdoacngaa", sum := "21d3633c5498a4b1b95fb4b38e79abb1fd69f34d3a63067994800eda69bd444d", func := "loop.example/g00853/laws.FnHydrants", spec := "fnHydrants", unfollowed := true, recurses := true, apart := false }
def FnHydrantsSaid : Prop := fnHydrantsRow.holds Try.pinned (OpenSpec.ofChange fnHydrantsSpec)

/-- ITS FALSE NEIGHBOUR: 'it returns false'. Refute it at one input. -/
def fnHydrantsWrong : ChangeSpec := { name := "fnHydrants", fn := fun _ => fun
  | [d] => { results := [.lit (.bool false)], args := [d] }
  | _ => none }
def FnHydrantsWrongFalsely : Prop := fnHydrantsRow.holds Try.pinned (OpenSpec.ofChange fnHydrantsWrong)

/- THE SECOND FORM. 'bulk': how many values and letters a reading holds, each counted each time it is reached (what is shared counts as often as it is met; a slice's spare places count too). A statement '..UptoSaid' is the law's where the arguments, and the package variables that the reading takes, are together of bulk at most 1048576: NARROWER than '..Said'. Prove '..Said' where nothing that the law and all that it calls make is longer than what came in: it says more and counts as full. Else prove '..UptoSaid'. A law counts once. -/
mutual
def uptoBulk {H : Type} : DataW H → Nat
  | .lit (.string bytes) => bytes.length + 1
  | .lit _ => 1
  | .nil => 1
  | .ptr d => uptoBulk d + 1
  | .slice elems spare => uptoBulkAll elems + uptoBulkAll spare + 1
  | .agg parts => uptoBulkAll parts + 1
  | .iface _ d => uptoBulk d + 1
  | .map entries => uptoBulkEntries entries + 1
  | .held _ => 1
def uptoBulkAll {H : Type} : List (DataW H) → Nat
  | [] => 0
  | d :: r => uptoBulk d + uptoBulkAll r
def uptoBulkEntries {H : Type} : List (Lit × DataW H) → Nat
  | [] => 0
  | x :: r => uptoBulkEntry x + uptoBulkEntries r
def uptoBulkEntry {H : Type} : Lit × DataW H → Nat
  | (.string bytes, d) => bytes.length + uptoBulk d + 1
  | (_, d) => uptoBulk d + 1
 end
def uptoSmall : (H : Type) → List (DataW H) → Bool := fun _ ds => decide (uptoBulkAll ds ≤ 1048576)
def OpenSpec.upto (s : _root_.Go.ChangeSpec) : _root_.Go.OpenSpec := { _root_.Go.OpenSpec.ofChange s with cond := some uptoSmall }

/-- 'laws.FnExactJoinArchives', WHERE WHAT IT READS IS OF BULK AT MOST 1048576: true; the input reads as it did. -/
def fnExactJoinArchivesUptoRow : OpenClaim := { program := "ythdnlahdoacngaa", sum := "21d3633c5498a4b1b95fb4b38e79abb1fd69f34d3a63067994800eda69bd444d", func := "loop.example/g00853/laws.FnExactJoinArchives", spec := "fnExactJoinArchives", unfollowed := true, recurses := true, apart := false, narrowed := true }
def FnExactJoinArchivesUptoSaid : Prop := fnExactJoinArchivesUptoRow.holds Try.pinned (OpenSpec.upto fnExactJoinArchivesSpec)

/-- 'laws.FnValues', WHERE WHAT IT READS IS OF BULK AT MOST 1048576: true; the input reads as it did. -/
def fnValuesUptoRow : OpenClaim := { program := "ythdnlahdoacngaa", sum := "21d3633c5498a4b1b95fb4b38e79abb1fd69f34d3a63067994800eda69bd444d", func := "loop.example/g00853/laws.FnValues", spec := "fnValues", unfollowed := true, recurses := true, apart := false, narrowed := true }
def FnValuesUptoSaid : Prop := fnValuesUptoRow.holds Try.pinned (OpenSpec.upto fnValuesSpec)

/-- 'laws.FnArchives', WHERE WHAT IT READS IS OF BULK AT MOST 1048576: true; the input reads as it did. -/
def fnArchivesUptoRow : OpenClaim := { program := "ythdnlahdoacngaa", sum := "21d3633c5498a4b1b95fb4b38e79abb1fd69f34d3a63067994800eda69bd444d", func := "loop.example/g00853/laws.FnArchives", spec := "fnArchives", unfollowed := true, recurses := true, apart := false, narrowed := true }
def FnArchivesUptoSaid : Prop := fnArchivesUptoRow.holds Try.pinned (OpenSpec.upto fnArchivesSpec)

/-- 'laws.FnExactMergeSamples', WHERE WHAT IT READS IS OF BULK AT MOST 1048576: true; the input reads as it did. -/
def fnExactMergeSamplesUptoRow : OpenClaim := { program := "ythdnlahdoacngaa", sum := "21d3633c5498a4b1b95fb4b38e79abb1fd69f34d3a63067994800eda69bd444d", func := "loop.example/g00853/laws.FnExactMergeSamples", spec := "fnExactMergeSamples", unfollowed := true, recurses := true, apart := false, narrowed := true }
def FnExactMergeSamplesUptoSaid : Prop := fnExactMergeSamplesUptoRow.holds Try.pinned (OpenSpec.upto fnExactMergeSamplesSpec)

/-- 'laws.FnExactFlowFor', WHERE WHAT IT READS IS OF BULK AT MOST 1048576: true; the input reads as it did. -/
def fnExactFlowForUptoRow : OpenClaim := { program := "ythdnlahdoacngaa", sum := "21d3633c5498a4b1b95fb4b38e79abb1fd69f34d3a63067994800eda69bd444d", func := "loop.example/g00853/laws.FnExactFlowFor", spec := "fnExactFlowFor", unfollowed := true, recurses := true, apart := false, narrowed := true }
def FnExactFlowForUptoSaid : Prop := fnExactFlowForUptoRow.holds Try.pinned (OpenSpec.upto fnExactFlowForSpec)

/-- 'laws.FnExactBestHydrant', WHERE WHAT IT READS IS OF BULK AT MOST 1048576: true; the input reads as it did. -/
def fnExactBestHydrantUptoRow : OpenClaim := { program := "ythdnlahdoacngaa", sum := "21d3633c5498a4b1b95fb4b38e79abb1fd69f34d3a63067994800eda69bd444d", func := "loop.example/g00853/laws.FnExactBestHydrant", spec := "fnExactBestHydrant", unfollowed := true, recurses := true, apart := false, narrowed := true }
def FnExactBestHydrantUptoSaid : Prop := fnExactBestHydrantUptoRow.holds Try.pinned (OpenSpec.upto fnExactBestHydrantSpec)

/-- 'laws.FnExactHydrantsFor', WHERE WHAT IT READS IS OF BULK AT MOST 1048576: true; the input reads as it did. -/
def fnExactHydrantsForUptoRow : OpenClaim := { program := "ythdnlahdoacngaa", sum := "21d3633c5498a4b1b95fb4b38e79abb1fd69f34d3a63067994800eda69bd444d", func := "loop.example/g00853/laws.FnExactHydrantsFor", spec := "fnExactHydrantsFor", unfollowed := true, recurses := true, apart := false, narrowed := true }
def FnExactHydrantsForUptoSaid : Prop := fnExactHydrantsForUptoRow.holds Try.pinned (OpenSpec.upto fnExactHydrantsForSpec)

/-- 'laws.FnExactThirstyNodes', WHERE WHAT IT READS IS OF BULK AT MOST 1048576: true; the input reads as it did. -/
def fnExactThirstyNodesUptoRow : OpenClaim := { program := "ythdnlahdoacngaa", sum := "21d3633c5498a4b1b95fb4b38e79abb1fd69f34d3a63067994800eda69bd444d", func := "loop.example/g00853/laws.FnExactThirstyNodes", spec := "fnExactThirstyNodes", unfollowed := true, recurses := true, apart := false, narrowed := true }
def FnExactThirstyNodesUptoSaid : Prop := fnExactThirstyNodesUptoRow.holds Try.pinned (OpenSpec.upto fnExactThirstyNodesSpec)

/-- 'laws.FnSampling', WHERE WHAT IT READS IS OF BULK AT MOST 1048576: true; the input reads as it did. -/
def fnSamplingUptoRow : OpenClaim := { program := "ythdnlahdoacngaa", sum := "21d3633c5498a4b1b95fb4b38e79abb1fd69f34d3a63067994800eda69bd444d", func := "loop.example/g00853/laws.FnSampling", spec := "fnSampling", unfollowed := true, recurses := true, apart := false, narrowed := true }
def FnSamplingUptoSaid : Prop := fnSamplingUptoRow.holds Try.pinned (OpenSpec.upto fnSamplingSpec)

/-- 'laws.FnExactFewestHydrants', WHERE WHAT IT READS IS OF BULK AT MOST 1048576: true; the input reads as it did. -/
def fnExactFewestHydrantsUptoRow : OpenClaim := { program := "ythdnlahdoacngaa", sum := "21d3633c5498a4b1b95fb4b38e79abb1fd69f34d3a63067994800eda69bd444d", func := "loop.example/g00853/laws.FnExactFewestHydrants", spec := "fnExactFewestHydrants", unfollowed := true, recurses := true, apart := false, narrowed := true }
def FnExactFewestHydrantsUptoSaid : Prop := fnExactFewestHydrantsUptoRow.holds Try.pinned (OpenSpec.upto fnExactFewestHydrantsSpec)

/-- 'laws.FnHydrants', WHERE WHAT IT READS IS OF BULK AT MOST 1048576: true; the input reads as it did. -/
def fnHydrantsUptoRow : OpenClaim := { program := "ythdnlahdoacngaa", sum := "21d3633c5498a4b1b95fb4b38e79abb1fd69f34d3a63067994800eda69bd444d", func := "loop.example/g00853/laws.FnHydrants", spec := "fnHydrants", unfollowed := true, recurses := true, apart := false, narrowed := true }
def FnHydrantsUptoSaid : Prop := fnHydrantsUptoRow.holds Try.pinned (OpenSpec.upto fnHydrantsSpec)

end Rows
end Go.Proofs.Ythdnlahdoacngaa
