
/- Slices of numbers: how the laws copy, compare, mark and measure them. No condition. -/
import Derived.Test.YtedidddimikjhaaScalar
import Derived.Test.YtedidddimikjhaaH3
namespace Go.Proofs.Ytedidddimikjhaa
open Go.HH
set_option linter.unusedSimpArgs false
set_option linter.unusedVariables false

/-- The sum of the first numbers. -/
def psum (l : List Int) (i : Nat) : Int := (l.take i).sum
theorem psum_succ {l : List Int} {i : Nat} (hi : i < l.length) : psum l (i + 1) = psum l i + l[i] := by
  rw [psum, psum, List.take_add_one, List.getElem?_eq_getElem hi, List.sum_append]; simp
theorem psum_bound {l : List Int} : ∀ {i : Nat}, i ≤ l.length → (∀ x ∈ l.take i, -200000 ≤ x ∧ x ≤ 200000) → -200000 * (i : Int) ≤ psum l i ∧ psum l i ≤ 200000 * (i : Int)
  | 0, _, _ => by simp [psum]
  | i + 1, hi, hb => by
    have hlt : i < l.length := hi
    have b := psum_bound (l := l) (i := i) (by omega) (fun x hx => hb x (by rw [List.take_add_one]; exact List.mem_append_left _ hx))
    have c := hb l[i] (by rw [List.take_add_one, List.getElem?_eq_getElem hlt]; exact List.mem_append_right _ (by simp))
    rw [psum_succ hlt]
    omega

theorem getD_of {l : List Int} {i : Nat} (hi : i < l.length) : l.getD i 0 = l[i] := by simp [List.getD, hi]
section
variable {h : Heap} {M : Nat → Prop}

theorem ints_len {l : List Int} : ∀ r ∈ l.map (fun x => [iv x]), r.length = 1 := by
  intro r hr
  obtain ⟨x, _, rfl⟩ := List.mem_map.1 hr
  rfl

end
end Go.Proofs.Ytedidddimikjhaa
