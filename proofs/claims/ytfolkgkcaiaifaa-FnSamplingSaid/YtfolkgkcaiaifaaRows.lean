/-
  No cell of these rows narrows 'for every input' (looked for: loops, veiled, ifaces, maps, wideKeys, modest, calm, conditions, laid).
  DERIVED. THE GIVEN ROWS OF THIS SEAT. 2 by the template 'for every input the law returns true; each argument reads behind the call as it read before'; 0 by the template 'total and deterministic' (their statements: YtfolkgkcaiaifaaTotals.lean).
  GIVEN WITH THE SEED: the statements are not yours to turn. If you find one false, say at which input.
  Laid BY PROGRAM, IN A SANDBOX (cutbox-rows.mjs): the forced cells as the released guide's own fill.sh prints them over the translation a9e27f5dd9b1588e… (all of the seat's roots in one cut). By AI agents, Wed Nov 11 2026. No macro, syntax, notation, axiom, sorry.
-/
import Derived.Test.YtfolkgkcaiaifaaChecked
import GoSem.Claim
import GoSem.ClaimJoined
import GoSem.ClaimMapViews
import Derived.JoinedTies
import Derived.KernelRfl
namespace Go.Proofs.Ytfolkgkcaiaifaa
/- THE CELL 'sum', in the pinned program and in every row, IS THE sha256 OF THE DUMP (.gsa) THAT YtfolkgkcaiaifaaProg.lean LOADS. Nothing in Lean hashes anything: it is a label: what it is worth is what the hold of that sum in a sandbox is worth. -/
noncomputable def Try.pinned : Pinned := { name := "ytfolkgkcaiaifaa", sum := "a9e27f5dd9b1588ed477b7ded3b2c19190e78c8e407f6230c337eee4c16a28b0", checked := Try.checked }
namespace Rows
def none {H : Type} : Left H := { results := [], args := [] }

/-- 'laws.FnExactMergeSamples': WHATEVER THE INPUT: true; the input reads as it did. -/
def fnExactMergeSamplesSpec : ChangeSpec := { name := "fnExactMergeSamples", fn := fun _ => fun
  | [d1, d2] => { results := [.lit (.bool true)], args := [d1, d2] }
  | _ => none }
def fnExactMergeSamplesRow : OpenClaim := { program := "ytfolkgkcaiaifaa", sum := "a9e27f5dd9b1588ed477b7ded3b2c19190e78c8e407f6230c337eee4c16a28b0", func := "loop.example/g00853/laws.FnExactMergeSamples", spec := "fnExactMergeSamples", unfollowed := true, recurses := true, apart := false }
def FnExactMergeSamplesSaid : Prop := fnExactMergeSamplesRow.holds Try.pinned (OpenSpec.ofChange fnExactMergeSamplesSpec)

/-- ITS FALSE NEIGHBOUR: 'it returns false'. Refute it at one input. -/
def fnExactMergeSamplesWrong : ChangeSpec := { name := "fnExactMergeSamples", fn := fun _ => fun
  | [d1, d2] => { results := [.lit (.bool false)], args := [d1, d2] }
  | _ => none }
def FnExactMergeSamplesWrongFalsely : Prop := fnExactMergeSamplesRow.holds Try.pinned (OpenSpec.ofChange fnExactMergeSamplesWrong)

/-- 'laws.FnSampling': WHATEVER THE INPUT: true; the input reads as it did. -/
def fnSamplingSpec : ChangeSpec := { name := "fnSampling", fn := fun _ => fun
  | [d] => { results := [.lit (.bool true)], args := [d] }
  | _ => none }
def fnSamplingRow : OpenClaim := { program := "ytfolkgkcaiaifaa", sum := "a9e27f5dd9b1588ed477b7ded3b2c19190e78c8e407f6230c337eee4c16a28b0", func := "loop.example/g00853/laws.FnSampling", spec := "fnSampling", unfollowed := true, recurses := true, apart := false }
def FnSamplingSaid : Prop := fnSamplingRow.holds Try.pinned (OpenSpec.ofChange fnSamplingSpec)

/-- ITS FALSE NEIGHBOUR: 'it returns false'. Refute it at one input. -/
def fnSamplingWrong : ChangeSpec := { name := "fnSampling", fn := fun _ => fun
  | [d] => { results := [.lit (.bool false)], args := [d] }
  | _ => none }
def FnSamplingWrongFalsely : Prop := fnSamplingRow.holds Try.pinned (OpenSpec.ofChange fnSamplingWrong)

/- THE SECOND FORM. 'bulk': how many values and letters a reading holds, each counted each time it is reached (what is shared counts as often as it is met; a slice's spare places count too). A statement '..UptoSaid' is the law's where the arguments, and the package variables that the reading takes, are together of bulk at most 1048576: NARROWER than '..Said'. Prove '..Said' where nothing that the law and all that it calls make is longer than what came in: it says more and counts as full. Else prove '..UptoSaid'. A law counts once. -/
mutual
def uptoBulk {H : Type} : DataW H → Nat
  | .lit (.string bytes) => bytes.length + 1
  | .lit _ => 1
  | .nil => 1
  | .ptr d => uptoBulk d + 1
  | .slice elems spare => uptoBulkAll elems + uptoBulkAll spare + 1
  | .agg parts => uptoBulkAll parts + 1
  | .iface _ d => uptoBulk d + 1
  | .map entries => uptoBulkEntries entries + 1
  | .held _ => 1
def uptoBulkAll {H : Type} : List (DataW H) → Nat
  | [] => 0
  | d :: r => uptoBulk d + uptoBulkAll r
def uptoBulkEntries {H : Type} : List (Lit × DataW H) → Nat
  | [] => 0
  | x :: r => uptoBulkEntry x + uptoBulkEntries r
def uptoBulkEntry {H : Type} : Lit × DataW H → Nat
  | (.string bytes, d) => bytes.length + uptoBulk d + 1
  | (_, d) => uptoBulk d + 1
 end
def uptoSmall : (H : Type) → List (DataW H) → Bool := fun _ ds => decide (uptoBulkAll ds ≤ 1048576)
def OpenSpec.upto (s : _root_.Go.ChangeSpec) : _root_.Go.OpenSpec := { _root_.Go.OpenSpec.ofChange s with cond := some uptoSmall }

/-- 'laws.FnExactMergeSamples', WHERE WHAT IT READS IS OF BULK AT MOST 1048576: true; the input reads as it did. -/
def fnExactMergeSamplesUptoRow : OpenClaim := { program := "ytfolkgkcaiaifaa", sum := "a9e27f5dd9b1588ed477b7ded3b2c19190e78c8e407f6230c337eee4c16a28b0", func := "loop.example/g00853/laws.FnExactMergeSamples", spec := "fnExactMergeSamples", unfollowed := true, recurses := true, apart := false, narrowed := true }
def FnExactMergeSamplesUptoSaid : Prop := fnExactMergeSamplesUptoRow.holds Try.pinned (OpenSpec.upto fnExactMergeSamplesSpec)

/-- 'laws.FnSampling', WHERE WHAT IT READS IS OF BULK AT MOST 1048576: true; the input reads as it did. -/
def fnSamplingUptoRow : OpenClaim := { program := "ytfolkgkcaiaifaa", sum := "a9e27f5dd9b1588ed477b7ded3b2c19190e78c8e407f6230c337eee4c16a28b0", func := "loop.example/g00853/laws.FnSampling", spec := "fnSampling", unfollowed := true, recurses := true, apart := false, narrowed := true }
def FnSamplingUptoSaid : Prop := fnSamplingUptoRow.holds Try.pinned (OpenSpec.upto fnSamplingSpec)

end Rows
end Go.Proofs.Ytfolkgkcaiaifaa
