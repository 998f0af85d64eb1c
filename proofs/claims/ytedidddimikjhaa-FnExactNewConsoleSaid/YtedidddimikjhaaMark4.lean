
/- Marks of rows of four cells. No condition. -/
import Derived.Test.YtedidddimikjhaaH3
namespace Go.Proofs.Ytedidddimikjhaa
open Go.HH
set_option linter.unusedSimpArgs false
set_option linter.unusedVariables false

/-- A slice of its own, or an empty one. -/
def FQs (lo hi sz : Nat) (h : Heap) (v : Value) (rows : List (List Value)) : Prop := FR lo hi sz h v rows ∨ (rows = [] ∧ ∃ a, v = .slice a 0 0)
theorem FQs.mono {lo hi sz : Nat} {h h' : Heap} {v : Value} {rows : List (List Value)} (s : FQs lo hi sz h v rows) (hp : h <+: h') : FQs lo hi sz h' v rows := s.imp (fun s => s.mono hp) id
theorem FQs.agr {lo hi a b sz : Nat} {h h' : Heap} {v : Value} {rows : List (List Value)} (s : FQs lo hi sz h v rows) (g : Agr a b h h') (hn : hi ≤ a ∨ b ≤ lo) : FQs lo hi sz h' v rows :=
  s.imp (fun ⟨id, e, e1, e2, e3, e4⟩ => ⟨id, e, e1, e2, by rw [g.2 id (hget_lt e3) (by omega)]; exact e3, e4⟩) id
theorem FQs.sl {lo hi sz : Nat} {h : Heap} {v : Value} {rows : List (List Value)} (s : FQs lo hi sz h v rows) : Sl h sz v rows := by
  rcases s with s | ⟨rfl, a, rfl⟩
  · exact s.sl
  · exact ⟨a, rfl, fun r hr => by simp at hr, fun h0 => absurd rfl h0⟩
theorem FQs.wide {lo hi lo' hi' sz : Nat} {h : Heap} {v : Value} {rows : List (List Value)} (s : FQs lo hi sz h v rows) (h1 : lo' ≤ lo) (h2 : hi ≤ hi') : FQs lo' hi' sz h v rows :=
  s.imp (fun ⟨id, e, e1, e2, e3⟩ => ⟨id, e, by omega, by omega, e3⟩) id
/-- The marks of row i, of four numbers. -/
def mk4 (k : Int) (i : Nat) : List Value := [.int .i64 (k + 4 * i), .int .i64 (k + 4 * i + 1), .int .i64 (k + 4 * i + 1 + 1), .int .i64 (k + 4 * i + 1 + 1 + 1)]
def mks4 (k : Int) (n : Nat) : List (List Value) := (List.range n).map (mk4 k)
theorem mks4_len {k : Int} {n : Nat} : (mks4 k n).length = n := by simp [mks4]
theorem mks4_succ {k : Int} {n : Nat} : mks4 k (n + 1) = mks4 k n ++ [mk4 k n] := by simp [mks4, List.range_succ]
theorem mks4_row {k : Int} {n : Nat} : ∀ r ∈ mks4 k n, r.length = 4 := by
  intro r hr
  obtain ⟨x, _, rfl⟩ := List.mem_map.1 hr
  rfl
theorem mks4_at {k : Int} {n i : Nat} (hi : i < (mks4 k n).length) : (mks4 k n)[i] = mk4 k i := by simp [mks4]
/-- The marks of row i, of three numbers and a switch. -/
def mkV (k : Int) (i : Nat) : List Value := [.int .i64 (k + 4 * i), .int .i64 (k + 4 * i + 1), .int .i64 (k + 4 * i + 1 + 1), .bool ((k + 4 * i + 1 + 1 + 1).tmod 3 == 0)]
def mksV (k : Int) (n : Nat) : List (List Value) := (List.range n).map (mkV k)
theorem mksV_len {k : Int} {n : Nat} : (mksV k n).length = n := by simp [mksV]
theorem mksV_succ {k : Int} {n : Nat} : mksV k (n + 1) = mksV k n ++ [mkV k n] := by simp [mksV, List.range_succ]
theorem mksV_row {k : Int} {n : Nat} : ∀ r ∈ mksV k n, r.length = 4 := by
  intro r hr
  obtain ⟨x, _, rfl⟩ := List.mem_map.1 hr
  rfl
theorem mksV_at {k : Int} {n i : Nat} (hi : i < (mksV k n).length) : (mksV k n)[i] = mkV k i := by simp [mksV]
theorem set4 {P Q : List Value} {x y z w a b c d : Value} {n : Nat} (hn : P.length = n) : setRange (setRange (setRange (setRange (P ++ x :: y :: z :: w :: Q) n [a]) (n + 1) [b]) (n + 2) [c]) (n + 3) [d] = P ++ a :: b :: c :: d :: Q := by
  have one : ∀ (P : List Value) (x a : Value) (Q : List Value) (n : Nat), P.length = n → setRange (P ++ x :: Q) n [a] = P ++ a :: Q := fun P x a Q n hn => by
    subst hn
    rw [setRange, List.take_left' rfl, List.length_singleton, ← List.drop_drop, List.drop_left' rfl]
    simp
  rw [one P x a _ n hn]
  have e1 : P ++ a :: y :: z :: w :: Q = (P ++ [a]) ++ y :: z :: w :: Q := by simp
  rw [e1, one (P ++ [a]) y b _ (n + 1) (by simp [hn])]
  have e2 : P ++ [a] ++ b :: z :: w :: Q = (P ++ [a, b]) ++ z :: w :: Q := by simp
  rw [e2, one (P ++ [a, b]) z c _ (n + 2) (by simp [hn])]
  have e3 : P ++ [a, b] ++ c :: w :: Q = (P ++ [a, b, c]) ++ w :: Q := by simp
  rw [e3, one (P ++ [a, b, c]) w d _ (n + 3) (by simp [hn])]
  simp
end Go.Proofs.Ytedidddimikjhaa
