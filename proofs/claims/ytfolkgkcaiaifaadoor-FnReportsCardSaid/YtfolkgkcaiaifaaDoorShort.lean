
/- The short report of a list of supplies: what both programs say. No condition. -/
import Derived.Test.YtfolkgkcaiaifaaDoorFairShare
import Derived.Test.YtfolkgkcaiaifaaDoorNum
import Derived.Test.YtfolkgkcaiaifaaDoorH3
namespace Go.Proofs.YtfolkgkcaiaifaaDoor
open Go.HH
set_option linter.unusedSimpArgs false
set_option linter.unusedVariables false

def fulls (l : List Sup) : Nat := (l.filter fun x => x.2.1 == x.2.2).length
theorem fulls_le (l : List Sup) : fulls l ≤ l.length := List.length_filter_le _ _
theorem fulls_yes {l : List Sup} {i : Nat} (hi : i < l.length) (h : l[i].2.1 = l[i].2.2) : fulls (l.take (i + 1)) = fulls (l.take i) + 1 := by
  unfold fulls
  rw [List.take_add_one, List.getElem?_eq_getElem hi, List.filter_append, List.length_append]
  simp [h]
theorem fulls_no {l : List Sup} {i : Nat} (hi : i < l.length) (h : ¬ l[i].2.1 = l[i].2.2) : fulls (l.take (i + 1)) = fulls (l.take i) := by
  unfold fulls
  rw [List.take_add_one, List.getElem?_eq_getElem hi, List.filter_append, List.length_append]
  simp [h]
/-- A good list has eight elements at most. -/
theorem supGood_len {l : List Sup} (g : supGood l) : l.length ≤ 8 := by
  have key : ∀ i, i < l.length → (i : Int) + 1 ≤ (l.getD i sup0).1 := by
    intro i
    induction i with
    | zero => intro hi; have := (g 0 hi).1; unfold supOk supplyOk at this; omega
    | succ i ih =>
      intro hi
      have h1 := ih (by omega)
      have h2 := (g (i + 1) hi).2 (by omega)
      rw [Nat.add_sub_cancel] at h2
      omega
  rcases Nat.lt_or_ge 8 l.length with h | h
  · have h1 := key (l.length - 1) (by omega)
    have h2 := (g (l.length - 1) (by omega)).1
    unfold supOk supplyOk at h2
    omega
  · exact h

def wNodes : ByteArray := ⟨#[32, 110, 111, 100, 101, 115]⟩
def wNode : ByteArray := ⟨#[32, 110, 111, 100, 101]⟩
def wOf : ByteArray := ⟨#[32, 111, 102, 32]⟩
def wGot : ByteArray := ⟨#[32, 103, 111, 116, 32, 97, 108, 108, 32, 116, 104, 101, 121, 32, 119, 97, 110, 116, 101, 100, 46]⟩
def shortS (l : List Sup) : ByteArray := num (fulls l) ++ wOf ++ num l.length ++ (if l.length = 1 then wNode else wNodes) ++ wGot
def shortV (l : List Sup) : Value := if supGood l then .tuple #[.string (shortS l), .bool true] else .tuple #[.string ⟨#[]⟩, .bool false]
theorem s_add {a b : ByteArray} {n m : Nat} (h1 : a.size ≤ n) (h2 : b.size ≤ m) (h : n + m ≤ 9223372036854775807) : hBin .add (.string a) (.string b) = some (.string (a ++ b)) := hBin_sadd (by omega)
theorem s_size {a b : ByteArray} {n m : Nat} (h1 : a.size ≤ n) (h2 : b.size ≤ m) : (a ++ b).size ≤ n + m := by rw [ByteArray.size_append]; omega

section
variable {h : Heap} {M : Nat → Prop}

end

theorem FitV.sups {h : Heap} {v : Value} (f : FitV h (.slice (.struct (.pair (.int .i64) (.pair (.int .i64) (.pair (.int .i64) .unit))))) v) : ∃ l : List Sup, SB h.length 3 h v (l.map sup) ∧ l.length ≤ 9223372036854775807 := by
  obtain ⟨rows, s, hl, hf⟩ := Fits.sb f
  obtain ⟨l, rfl⟩ := rows_map (f := sup) (rows := rows) (fun r hr => by
    have f' : Fits h (.pair (.int .i64) (.pair (.int .i64) (.pair (.int .i64) .unit))) r := hf r hr
    obtain ⟨_, _, rfl, f0, r0⟩ := f'.pair
    obtain ⟨_, _, rfl, f1, r1⟩ := r0.pair
    obtain ⟨_, _, rfl, f2, r2⟩ := r1.pair
    obtain rfl := r2.unit
    obtain ⟨a0, rfl, _⟩ := f0.int
    obtain ⟨a1, rfl, _⟩ := f1.int
    obtain ⟨a2, rfl, _⟩ := f2.int
    exact ⟨(a0, a1, a2), rfl⟩)
  exact ⟨l, s, by rw [List.length_map] at hl; exact hl⟩

end Go.Proofs.YtfolkgkcaiaifaaDoor
