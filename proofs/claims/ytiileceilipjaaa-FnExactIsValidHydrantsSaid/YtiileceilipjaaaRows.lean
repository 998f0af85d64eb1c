/-
  No cell of these rows narrows 'for every input' (looked for: loops, veiled, ifaces, maps, wideKeys, modest, calm, conditions, laid).
  DERIVED. THE GIVEN ROWS OF THIS SEAT. 6 by the template 'for every input the law returns true; each argument reads behind the call as it read before'; 0 by the template 'total and deterministic' (their statements: YtiileceilipjaaaTotals.lean).
  GIVEN WITH THE SEED: the statements are not yours to turn. If you find one false, say at which input.
  Laid BY PROGRAM, IN A SANDBOX (cutbox-rows.mjs): the forced cells as the released guide's own fill.sh prints them over the translation beb8593c64412967… (all of the seat's roots in one cut). By AI agents, Wed Nov 11 2026. No macro, syntax, notation, axiom, sorry.
-/
import Derived.Test.YtiileceilipjaaaChecked
import GoSem.Claim
import GoSem.ClaimJoined
import GoSem.ClaimMapViews
import Derived.JoinedTies
import Derived.KernelRfl
namespace Go.Proofs.Ytiileceilipjaaa
/- THE CELL 'sum', in the pinned program and in every row, IS THE sha256 OF THE DUMP (.gsa) THAT YtiileceilipjaaaProg.lean LOADS. Nothing in Lean hashes anything: it is a label: what it is worth is what the hold of that sum in a sandbox is worth. -/
noncomputable def Try.pinned : Pinned := { name := "ytiileceilipjaaa", sum := "beb8593c6441296745b886a2c63dcd429f1249b0b45630fac2c642349cea5972", checked := Try.checked }
namespace Rows
def none {H : Type} : Left H := { results := [], args := [] }

/-- 'laws.FnExactMinutesLeft': WHATEVER THE INPUT: true; the input reads as it did. -/
def fnExactMinutesLeftSpec : ChangeSpec := { name := "fnExactMinutesLeft", fn := fun _ => fun
  | [d1, d2, d3] => { results := [.lit (.bool true)], args := [d1, d2, d3] }
  | _ => none }
def fnExactMinutesLeftRow : OpenClaim := { program := "ytiileceilipjaaa", sum := "beb8593c6441296745b886a2c63dcd429f1249b0b45630fac2c642349cea5972", func := "loop.example/g00853/laws.FnExactMinutesLeft", spec := "fnExactMinutesLeft", apart := false }
def FnExactMinutesLeftSaid : Prop := fnExactMinutesLeftRow.holds Try.pinned (OpenSpec.ofChange fnExactMinutesLeftSpec)

/-- ITS FALSE NEIGHBOUR: 'it returns false'. Refute it at one input. -/
def fnExactMinutesLeftWrong : ChangeSpec := { name := "fnExactMinutesLeft", fn := fun _ => fun
  | [d1, d2, d3] => { results := [.lit (.bool false)], args := [d1, d2, d3] }
  | _ => none }
def FnExactMinutesLeftWrongFalsely : Prop := fnExactMinutesLeftRow.holds Try.pinned (OpenSpec.ofChange fnExactMinutesLeftWrong)

/-- 'laws.FnExactIsValidSupply': WHATEVER THE INPUT: true; the input reads as it did. -/
def fnExactIsValidSupplySpec : ChangeSpec := { name := "fnExactIsValidSupply", fn := fun _ => fun
  | [d] => { results := [.lit (.bool true)], args := [d] }
  | _ => none }
def fnExactIsValidSupplyRow : OpenClaim := { program := "ytiileceilipjaaa", sum := "beb8593c6441296745b886a2c63dcd429f1249b0b45630fac2c642349cea5972", func := "loop.example/g00853/laws.FnExactIsValidSupply", spec := "fnExactIsValidSupply", apart := false }
def FnExactIsValidSupplySaid : Prop := fnExactIsValidSupplyRow.holds Try.pinned (OpenSpec.ofChange fnExactIsValidSupplySpec)

/-- ITS FALSE NEIGHBOUR: 'it returns false'. Refute it at one input. -/
def fnExactIsValidSupplyWrong : ChangeSpec := { name := "fnExactIsValidSupply", fn := fun _ => fun
  | [d] => { results := [.lit (.bool false)], args := [d] }
  | _ => none }
def FnExactIsValidSupplyWrongFalsely : Prop := fnExactIsValidSupplyRow.holds Try.pinned (OpenSpec.ofChange fnExactIsValidSupplyWrong)

/-- 'laws.FnExactReserveFor': WHATEVER THE INPUT: true; the input reads as it did. -/
def fnExactReserveForSpec : ChangeSpec := { name := "fnExactReserveFor", fn := fun _ => fun
  | [d] => { results := [.lit (.bool true)], args := [d] }
  | _ => none }
def fnExactReserveForRow : OpenClaim := { program := "ytiileceilipjaaa", sum := "beb8593c6441296745b886a2c63dcd429f1249b0b45630fac2c642349cea5972", func := "loop.example/g00853/laws.FnExactReserveFor", spec := "fnExactReserveFor", apart := false }
def FnExactReserveForSaid : Prop := fnExactReserveForRow.holds Try.pinned (OpenSpec.ofChange fnExactReserveForSpec)

/-- ITS FALSE NEIGHBOUR: 'it returns false'. Refute it at one input. -/
def fnExactReserveForWrong : ChangeSpec := { name := "fnExactReserveFor", fn := fun _ => fun
  | [d] => { results := [.lit (.bool false)], args := [d] }
  | _ => none }
def FnExactReserveForWrongFalsely : Prop := fnExactReserveForRow.holds Try.pinned (OpenSpec.ofChange fnExactReserveForWrong)

/-- 'laws.FnExactStoreFor': WHATEVER THE INPUT: true; the input reads as it did. -/
def fnExactStoreForSpec : ChangeSpec := { name := "fnExactStoreFor", fn := fun _ => fun
  | [d1, d2, d3] => { results := [.lit (.bool true)], args := [d1, d2, d3] }
  | _ => none }
def fnExactStoreForRow : OpenClaim := { program := "ytiileceilipjaaa", sum := "beb8593c6441296745b886a2c63dcd429f1249b0b45630fac2c642349cea5972", func := "loop.example/g00853/laws.FnExactStoreFor", spec := "fnExactStoreFor", apart := false }
def FnExactStoreForSaid : Prop := fnExactStoreForRow.holds Try.pinned (OpenSpec.ofChange fnExactStoreForSpec)

/-- ITS FALSE NEIGHBOUR: 'it returns false'. Refute it at one input. -/
def fnExactStoreForWrong : ChangeSpec := { name := "fnExactStoreFor", fn := fun _ => fun
  | [d1, d2, d3] => { results := [.lit (.bool false)], args := [d1, d2, d3] }
  | _ => none }
def FnExactStoreForWrongFalsely : Prop := fnExactStoreForRow.holds Try.pinned (OpenSpec.ofChange fnExactStoreForWrong)

/-- 'laws.FnExactIsValidHydrants': WHATEVER THE INPUT: true; the input reads as it did. -/
def fnExactIsValidHydrantsSpec : ChangeSpec := { name := "fnExactIsValidHydrants", fn := fun _ => fun
  | [d] => { results := [.lit (.bool true)], args := [d] }
  | _ => none }
def fnExactIsValidHydrantsRow : OpenClaim := { program := "ytiileceilipjaaa", sum := "beb8593c6441296745b886a2c63dcd429f1249b0b45630fac2c642349cea5972", func := "loop.example/g00853/laws.FnExactIsValidHydrants", spec := "fnExactIsValidHydrants", apart := false }
def FnExactIsValidHydrantsSaid : Prop := fnExactIsValidHydrantsRow.holds Try.pinned (OpenSpec.ofChange fnExactIsValidHydrantsSpec)

/-- ITS FALSE NEIGHBOUR: 'it returns false'. Refute it at one input. -/
def fnExactIsValidHydrantsWrong : ChangeSpec := { name := "fnExactIsValidHydrants", fn := fun _ => fun
  | [d] => { results := [.lit (.bool false)], args := [d] }
  | _ => none }
def FnExactIsValidHydrantsWrongFalsely : Prop := fnExactIsValidHydrantsRow.holds Try.pinned (OpenSpec.ofChange fnExactIsValidHydrantsWrong)

/-- 'laws.FnReserves': WHATEVER THE INPUT: true; the input reads as it did. -/
def fnReservesSpec : ChangeSpec := { name := "fnReserves", fn := fun _ => fun
  | [d] => { results := [.lit (.bool true)], args := [d] }
  | _ => none }
def fnReservesRow : OpenClaim := { program := "ytiileceilipjaaa", sum := "beb8593c6441296745b886a2c63dcd429f1249b0b45630fac2c642349cea5972", func := "loop.example/g00853/laws.FnReserves", spec := "fnReserves", apart := false }
def FnReservesSaid : Prop := fnReservesRow.holds Try.pinned (OpenSpec.ofChange fnReservesSpec)

/-- ITS FALSE NEIGHBOUR: 'it returns false'. Refute it at one input. -/
def fnReservesWrong : ChangeSpec := { name := "fnReserves", fn := fun _ => fun
  | [d] => { results := [.lit (.bool false)], args := [d] }
  | _ => none }
def FnReservesWrongFalsely : Prop := fnReservesRow.holds Try.pinned (OpenSpec.ofChange fnReservesWrong)

/- THE SECOND FORM. 'bulk': how many values and letters a reading holds, each counted each time it is reached (what is shared counts as often as it is met; a slice's spare places count too). A statement '..UptoSaid' is the law's where the arguments, and the package variables that the reading takes, are together of bulk at most 1048576: NARROWER than '..Said'. Prove '..Said' where nothing that the law and all that it calls make is longer than what came in: it says more and counts as full. Else prove '..UptoSaid'. A law counts once. -/
mutual
def uptoBulk {H : Type} : DataW H → Nat
  | .lit (.string bytes) => bytes.length + 1
  | .lit _ => 1
  | .nil => 1
  | .ptr d => uptoBulk d + 1
  | .slice elems spare => uptoBulkAll elems + uptoBulkAll spare + 1
  | .agg parts => uptoBulkAll parts + 1
  | .iface _ d => uptoBulk d + 1
  | .map entries => uptoBulkEntries entries + 1
  | .held _ => 1
def uptoBulkAll {H : Type} : List (DataW H) → Nat
  | [] => 0
  | d :: r => uptoBulk d + uptoBulkAll r
def uptoBulkEntries {H : Type} : List (Lit × DataW H) → Nat
  | [] => 0
  | x :: r => uptoBulkEntry x + uptoBulkEntries r
def uptoBulkEntry {H : Type} : Lit × DataW H → Nat
  | (.string bytes, d) => bytes.length + uptoBulk d + 1
  | (_, d) => uptoBulk d + 1
 end
def uptoSmall : (H : Type) → List (DataW H) → Bool := fun _ ds => decide (uptoBulkAll ds ≤ 1048576)
def OpenSpec.upto (s : _root_.Go.ChangeSpec) : _root_.Go.OpenSpec := { _root_.Go.OpenSpec.ofChange s with cond := some uptoSmall }

/-- 'laws.FnExactMinutesLeft', WHERE WHAT IT READS IS OF BULK AT MOST 1048576: true; the input reads as it did. -/
def fnExactMinutesLeftUptoRow : OpenClaim := { program := "ytiileceilipjaaa", sum := "beb8593c6441296745b886a2c63dcd429f1249b0b45630fac2c642349cea5972", func := "loop.example/g00853/laws.FnExactMinutesLeft", spec := "fnExactMinutesLeft", apart := false, narrowed := true }
def FnExactMinutesLeftUptoSaid : Prop := fnExactMinutesLeftUptoRow.holds Try.pinned (OpenSpec.upto fnExactMinutesLeftSpec)

/-- 'laws.FnExactIsValidSupply', WHERE WHAT IT READS IS OF BULK AT MOST 1048576: true; the input reads as it did. -/
def fnExactIsValidSupplyUptoRow : OpenClaim := { program := "ytiileceilipjaaa", sum := "beb8593c6441296745b886a2c63dcd429f1249b0b45630fac2c642349cea5972", func := "loop.example/g00853/laws.FnExactIsValidSupply", spec := "fnExactIsValidSupply", apart := false, narrowed := true }
def FnExactIsValidSupplyUptoSaid : Prop := fnExactIsValidSupplyUptoRow.holds Try.pinned (OpenSpec.upto fnExactIsValidSupplySpec)

/-- 'laws.FnExactReserveFor', WHERE WHAT IT READS IS OF BULK AT MOST 1048576: true; the input reads as it did. -/
def fnExactReserveForUptoRow : OpenClaim := { program := "ytiileceilipjaaa", sum := "beb8593c6441296745b886a2c63dcd429f1249b0b45630fac2c642349cea5972", func := "loop.example/g00853/laws.FnExactReserveFor", spec := "fnExactReserveFor", apart := false, narrowed := true }
def FnExactReserveForUptoSaid : Prop := fnExactReserveForUptoRow.holds Try.pinned (OpenSpec.upto fnExactReserveForSpec)

/-- 'laws.FnExactStoreFor', WHERE WHAT IT READS IS OF BULK AT MOST 1048576: true; the input reads as it did. -/
def fnExactStoreForUptoRow : OpenClaim := { program := "ytiileceilipjaaa", sum := "beb8593c6441296745b886a2c63dcd429f1249b0b45630fac2c642349cea5972", func := "loop.example/g00853/laws.FnExactStoreFor", spec := "fnExactStoreFor", apart := false, narrowed := true }
def FnExactStoreForUptoSaid : Prop := fnExactStoreForUptoRow.holds Try.pinned (OpenSpec.upto fnExactStoreForSpec)

/-- 'laws.FnExactIsValidHydrants', WHERE WHAT IT READS IS OF BULK AT MOST 1048576: true; the input reads as it did. -/
def fnExactIsValidHydrantsUptoRow : OpenClaim := { program := "ytiileceilipjaaa", sum := "beb8593c6441296745b886a2c63dcd429f1249b0b45630fac2c642349cea5972", func := "loop.example/g00853/laws.FnExactIsValidHydrants", spec := "fnExactIsValidHydrants", apart := false, narrowed := true }
def FnExactIsValidHydrantsUptoSaid : Prop := fnExactIsValidHydrantsUptoRow.holds Try.pinned (OpenSpec.upto fnExactIsValidHydrantsSpec)

/-- 'laws.FnReserves', WHERE WHAT IT READS IS OF BULK AT MOST 1048576: true; the input reads as it did. -/
def fnReservesUptoRow : OpenClaim := { program := "ytiileceilipjaaa", sum := "beb8593c6441296745b886a2c63dcd429f1249b0b45630fac2c642349cea5972", func := "loop.example/g00853/laws.FnReserves", spec := "fnReserves", apart := false, narrowed := true }
def FnReservesUptoSaid : Prop := fnReservesUptoRow.holds Try.pinned (OpenSpec.upto fnReservesSpec)

end Rows
end Go.Proofs.Ytiileceilipjaaa
