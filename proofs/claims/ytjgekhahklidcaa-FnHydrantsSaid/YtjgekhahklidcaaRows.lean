/-
  No cell of these rows narrows 'for every input' (looked for: loops, veiled, ifaces, maps, wideKeys, modest, calm, conditions, laid).
  DERIVED. THE GIVEN ROWS OF THIS SEAT. 4 by the template 'for every input the law returns true; each argument reads behind the call as it read before'; 0 by the template 'total and deterministic' (their statements: YtjgekhahklidcaaTotals.lean).
  GIVEN WITH THE SEED: the statements are not yours to turn. If you find one false, say at which input.
  Laid BY PROGRAM, IN A SANDBOX (cutbox-rows.mjs): the forced cells as the released guide's own fill.sh prints them over the translation 4a59b736b5c8f558… (all of the seat's roots in one cut). By AI agents, Wed Nov 11 2026. No macro, syntax, notation, axiom, sorry.
-/
import Derived.Test.YtjgekhahklidcaaChecked
import GoSem.Claim
import GoSem.ClaimJoined
import GoSem.ClaimMapViews
import Derived.JoinedTies
import Derived.KernelRfl
namespace Go.Proofs.Ytjgekhahklidcaa
/- THE CELL 'sum', in the pinned program and in every row, IS THE sha256 OF THE DUMP (.gsa) THAT YtjgekhahklidcaaProg.lean LOADS. Nothing in Lean hashes anything: it is a label: what it is worth is what the hold of that sum in a sandbox is worth. -/
noncomputable def Try.pinned : Pinned := { name := "ytjgekhahklidcaa", sum := "4a59b736b5c8f5581c76d5a52c1beb3871fdd1c023e9bed6fb1ba4458857f7cc", checked := Try.checked }
namespace Rows
def none {H : Type} : Left H := { results := [], args := [] }

/-- 'laws.FnExactJoinArchives': WHATEVER THE INPUT: true; the input reads as it did. -/
def fnExactJoinArchivesSpec : ChangeSpec := { name := "fnExactJoinArchives", fn := fun _ => fun
  | [d1, d2] => { results := [.lit (.bool true)], args := [d1, d2] }
  | _ => none }
def fnExactJoinArchivesRow : OpenClaim := { program := "ytjgekhahklidcaa", sum := "4a59b736b5c8f5581c76d5a52c1beb3871fdd1c023e9bed6fb1ba4458857f7cc", func := "loop.example/g00853/laws.FnExactJoinArchives", spec := "fnExactJoinArchives", unfollowed := true, recurses := true, apart := false }
def FnExactJoinArchivesSaid : Prop := fnExactJoinArchivesRow.holds Try.pinned (OpenSpec.ofChange fnExactJoinArchivesSpec)

/-- ITS FALSE NEIGHBOUR: 'it returns false'. Refute it at one input. -/
def fnExactJoinArchivesWrong : ChangeSpec := { name := "fnExactJoinArchives", fn := fun _ => fun
  | [d1, d2] => { results := [.lit (.bool false)], args := [d1, d2] }
  | _ => none }
def FnExactJoinArchivesWrongFalsely : Prop := fnExactJoinArchivesRow.holds Try.pinned (OpenSpec.ofChange fnExactJoinArchivesWrong)

/-- 'laws.FnArchives': WHATEVER THE INPUT: true; the input reads as it did. -/
def fnArchivesSpec : ChangeSpec := { name := "fnArchives", fn := fun _ => fun
  | [d] => { results := [.lit (.bool true)], args := [d] }
  | _ => none }
def fnArchivesRow : OpenClaim := { program := "ytjgekhahklidcaa", sum := "4a59b736b5c8f5581c76d5a52c1beb3871fdd1c023e9bed6fb1ba4458857f7cc", func := "loop.example/g00853/laws.FnArchives", spec := "fnArchives", unfollowed := true, recurses := true, apart := false }
def FnArchivesSaid : Prop := fnArchivesRow.holds Try.pinned (OpenSpec.ofChange fnArchivesSpec)

/-- ITS FALSE NEIGHBOUR: 'it returns false'. Refute it at one input. -/
def fnArchivesWrong : ChangeSpec := { name := "fnArchives", fn := fun _ => fun
  | [d] => { results := [.lit (.bool false)], args := [d] }
  | _ => none }
def FnArchivesWrongFalsely : Prop := fnArchivesRow.holds Try.pinned (OpenSpec.ofChange fnArchivesWrong)

/-- 'laws.FnValues': WHATEVER THE INPUT: true; the input reads as it did. -/
def fnValuesSpec : ChangeSpec := { name := "fnValues", fn := fun _ => fun
  | [d] => { results := [.lit (.bool true)], args := [d] }
  | _ => none }
def fnValuesRow : OpenClaim := { program := "ytjgekhahklidcaa", sum := "4a59b736b5c8f5581c76d5a52c1beb3871fdd1c023e9bed6fb1ba4458857f7cc", func := "loop.example/g00853/laws.FnValues", spec := "fnValues", unfollowed := true, recurses := true, apart := false }
def FnValuesSaid : Prop := fnValuesRow.holds Try.pinned (OpenSpec.ofChange fnValuesSpec)

/-- ITS FALSE NEIGHBOUR: 'it returns false'. Refute it at one input. -/
def fnValuesWrong : ChangeSpec := { name := "fnValues", fn := fun _ => fun
  | [d] => { results := [.lit (.bool false)], args := [d] }
  | _ => none }
def FnValuesWrongFalsely : Prop := fnValuesRow.holds Try.pinned (OpenSpec.ofChange fnValuesWrong)

/-- 'laws.FnHydrants': WHATEVER THE INPUT: true; the input reads as it did. -/
def fnHydrantsSpec : ChangeSpec := { name := "fnHydrants", fn := fun _ => fun
  | [d] => { results := [.lit (.bool true)], args := [d] }
  | _ => none }
def fnHydrantsRow : OpenClaim := { program := "ytjgekhahklidcaa", sum := "4a59b736b5c8f5581c76d5a52c1beb3871fdd1c023e9bed6fb1ba4458857f7cc", func := "loop.example/g00853/laws.FnHydrants", spec := "fnHydrants", unfollowed := true, recurses := true, apart := false }
def FnHydrantsSaid : Prop := fnHydrantsRow.holds Try.pinned (OpenSpec.ofChange fnHydrantsSpec)

/-- ITS FALSE NEIGHBOUR: 'it returns false'. Refute it at one input. -/
def fnHydrantsWrong : ChangeSpec := { name := "fnHydrants", fn := fun _ => fun
  | [d] => { results := [.lit (.bool false)], args := [d] }
  | _ => none }
def FnHydrantsWrongFalsely : Prop := fnHydrantsRow.holds Try.pinned (OpenSpec.ofChange fnHydrantsWrong)

/- THE SECOND FORM. 'bulk': how many values and letters a reading holds, each counted each time it is reached (what is shared counts as often as it is met; a slice's spare places count too). A statement '..UptoSaid' is the law's where the arguments, and the package variables that the reading takes, are together of bulk at most 1048576: NARROWER than '..Said'. Prove '..Said' where nothing that the law and all that it calls make is longer than what came in: it says more and counts as full. Else prove '..UptoSaid'. A law counts once. -/
mutual
def uptoBulk {H : Type} : DataW H → Nat
  | .lit (.string bytes) => bytes.length + 1
  | .lit _ => 1
  | .nil => 1
  | .ptr d => uptoBulk d + 1
  | .slice elems spare => uptoBulkAll elems + uptoBulkAll spare + 1
  | .agg parts => uptoBulkAll parts + 1
  | .iface _ d => uptoBulk d + 1
  | .map entries => uptoBulkEntries entries + 1
  | .held _ => 1
def uptoBulkAll {H : Type} : List (DataW H) → Nat
  | [] => 0
  | d :: r => uptoBulk d + uptoBulkAll r
def uptoBulkEntries {H : Type} : List (Lit × DataW H) → Nat
  | [] => 0
  | x :: r => uptoBulkEntry x + uptoBulkEntries r
def uptoBulkEntry {H : Type} : Lit × DataW H → Nat
  | (.string bytes, d) => bytes.length + uptoBulk d + 1
  | (_, d) => uptoBulk d + 1
 end
def uptoSmall : (H : Type) → List (DataW H) → Bool := fun _ ds => decide (uptoBulkAll ds ≤ 1048576)
def OpenSpec.upto (s : _root_.Go.ChangeSpec) : _root_.Go.OpenSpec := { _root_.Go.OpenSpec.ofChange s with cond := some uptoSmall }

/-- 'laws.FnExactJoinArchives', WHERE WHAT IT READS IS OF BULK AT MOST 1048576: true; the input reads as it did. -/
def fnExactJoinArchivesUptoRow : OpenClaim := { program := "ytjgekhahklidcaa", sum := "4a59b736b5c8f5581c76d5a52c1beb3871fdd1c023e9bed6fb1ba4458857f7cc", func := "loop.example/g00853/laws.FnExactJoinArchives", spec := "fnExactJoinArchives", unfollowed := true, recurses := true, apart := false, narrowed := true }
def FnExactJoinArchivesUptoSaid : Prop := fnExactJoinArchivesUptoRow.holds Try.pinned (OpenSpec.upto fnExactJoinArchivesSpec)

/-- 'laws.FnArchives', WHERE WHAT IT READS IS OF BULK AT MOST 1048576: true; the input reads as it did. -/
def fnArchivesUptoRow : OpenClaim := { program := "ytjgekhahklidcaa", sum := "4a59b736b5c8f5581c76d5a52c1beb3871fdd1c023e9bed6fb1ba4458857f7cc", func := "loop.example/g00853/laws.FnArchives", spec := "fnArchives", unfollowed := true, recurses := true, apart := false, narrowed := true }
def FnArchivesUptoSaid : Prop := fnArchivesUptoRow.holds Try.pinned (OpenSpec.upto fnArchivesSpec)

/-- 'laws.FnValues', WHERE WHAT IT READS IS OF BULK AT MOST 1048576: true; the input reads as it did. -/
def fnValuesUptoRow : OpenClaim := { program := "ytjgekhahklidcaa", sum := "4a59b736b5c8f5581c76d5a52c1beb3871fdd1c023e9bed6fb1ba4458857f7cc", func := "loop.example/g00853/laws.FnValues", spec := "fnValues", unfollowed := true, recurses := true, apart := false, narrowed := true }
def FnValuesUptoSaid : Prop := fnValuesUptoRow.holds Try.pinned (OpenSpec.upto fnValuesSpec)

/-- 'laws.FnHydrants', WHERE WHAT IT READS IS OF BULK AT MOST 1048576: true; the input reads as it did. -/
def fnHydrantsUptoRow : OpenClaim := { program := "ytjgekhahklidcaa", sum := "4a59b736b5c8f5581c76d5a52c1beb3871fdd1c023e9bed6fb1ba4458857f7cc", func := "loop.example/g00853/laws.FnHydrants", spec := "fnHydrants", unfollowed := true, recurses := true, apart := false, narrowed := true }
def FnHydrantsUptoSaid : Prop := fnHydrantsUptoRow.holds Try.pinned (OpenSpec.upto fnHydrantsSpec)

end Rows
end Go.Proofs.Ytjgekhahklidcaa
