
/- Fair shares: what both programs compute. No condition. -/
import Derived.Test.YtfolkgkcaiaifaaSupplies
namespace Go.Proofs.Ytfolkgkcaiaifaa
open Go.HH
set_option linter.unusedSimpArgs false
set_option linter.unusedVariables false

def sup0 : Sup := (0, 0, 0)
theorem getDp {l : List Sup} {i : Nat} (hi : i < l.length) : l.getD i sup0 = l[i] := by simp [List.getD, hi]
def supOk (x : Sup) : Prop := supplyOk x.1 x.2.1 x.2.2
instance {x : Sup} : Decidable (supOk x) := by unfold supOk; infer_instance
def supAt (l : List Sup) (i : Nat) : Prop := supOk (l.getD i sup0) ∧ (0 < i → (l.getD (i - 1) sup0).1 < (l.getD i sup0).1)
instance {l : List Sup} {i : Nat} : Decidable (supAt l i) := by unfold supAt; infer_instance
def supGood (l : List Sup) : Prop := ∀ i, i < l.length → supAt l i
instance {l : List Sup} : Decidable (supGood l) := by unfold supGood; infer_instance

section
variable {h : Heap} {M : Nat → Prop}

end
end Go.Proofs.Ytfolkgkcaiaifaa
