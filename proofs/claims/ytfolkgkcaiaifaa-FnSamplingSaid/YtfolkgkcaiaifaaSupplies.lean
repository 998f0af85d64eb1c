
/- Supplies in lists: how they are copied, compared, marked and measured. No condition. -/
import Derived.Test.YtfolkgkcaiaifaaSupply
import Derived.Test.YtfolkgkcaiaifaaInts
namespace Go.Proofs.Ytfolkgkcaiaifaa
open Go.HH
set_option linter.unusedSimpArgs false
set_option linter.unusedVariables false

/-- Node, what it got and what it wants. -/
abbrev Sup := Int × Int × Int
/-- What a mark leaves in one supply. -/
def mk3 (k : Int) (i : Nat) : List Value := [.int .i64 (k + 3 * i), .int .i64 (k + 3 * i + 1), .int .i64 (k + 3 * i + 1 + 1)]
def mks3 (k : Int) (n : Nat) : List (List Value) := (List.range n).map (mk3 k)
theorem mks3_len {k : Int} {n : Nat} : (mks3 k n).length = n := by simp [mks3]
theorem mks3_succ {k : Int} {n : Nat} : mks3 k (n + 1) = mks3 k n ++ [mk3 k n] := by simp [mks3, List.range_succ]
theorem mks3_row {k : Int} {n : Nat} : ∀ r ∈ mks3 k n, r.length = 3 := by
  intro r hr
  obtain ⟨x, _, rfl⟩ := List.mem_map.1 hr
  rfl
theorem mks3_at {k : Int} {n i : Nat} (hi : i < (mks3 k n).length) : (mks3 k n)[i] = mk3 k i := by simp [mks3]
theorem set3 {P Q : List Value} {x y z a b c : Value} {n : Nat} (hn : P.length = n) : setRange (setRange (setRange (P ++ x :: y :: z :: Q) n [a]) (n + 1) [b]) (n + 2) [c] = P ++ a :: b :: c :: Q := by
  have one : ∀ (P : List Value) (x a : Value) (Q : List Value) (n : Nat), P.length = n → setRange (P ++ x :: Q) n [a] = P ++ a :: Q := fun P x a Q n hn => by
    subst hn
    rw [setRange, List.take_left' rfl, List.length_singleton, ← List.drop_drop, List.drop_left' rfl]
    simp
  rw [one P x a _ n hn]
  have e1 : P ++ a :: y :: z :: Q = (P ++ [a]) ++ y :: z :: Q := by simp
  rw [e1, one (P ++ [a]) y b _ (n + 1) (by simp [hn])]
  have e2 : P ++ [a] ++ b :: z :: Q = (P ++ [a, b]) ++ z :: Q := by simp
  rw [e2, one (P ++ [a, b]) z c _ (n + 2) (by simp [hn])]
  simp

section
variable {h : Heap} {M : Nat → Prop}

/-- A supply's cells. -/
def sup (x : Sup) : List Value := [.int .i64 x.1, .int .i64 x.2.1, .int .i64 x.2.2]
theorem sup_len {l : List Sup} : ∀ r ∈ l.map sup, r.length = 3 := by
  intro r hr
  obtain ⟨x, _, rfl⟩ := List.mem_map.1 hr
  rfl

end
end Go.Proofs.Ytfolkgkcaiaifaa
