
/- Numbers: contracts of the functions that only reckon with integers. No condition. -/
import Derived.Test.YtedidddimikjhaaTypes
namespace Go.Proofs.Ytedidddimikjhaa
open Go.HH
set_option linter.unusedSimpArgs false
set_option linter.unusedVariables false

section
variable {h : Heap} {M : Nat → Prop}

theorem c_inside (n a b : Int) : vCall [] Try.prog M 35 [.int .i64 n, .int .i64 a, .int .i64 b] h (fun r h' => r = .bool (decide (a ≤ n ∧ n ≤ b)) ∧ h = h') := by
  refine body_of mo Try.func35 rfl (by kernel_rfl) (Nat.le_of_ble_eq_true (by kernel_rfl)) rfl ?_
  simp only [go_sem, Nat.reduceBEq, Nat.reduceAdd, Nat.reduceMul, Nat.reduceSub, Nat.reduceLeDiff, Nat.le_refl, implies_true, Nat.reduceLT, reduceIte, decide_true, decide_false, true_and, and_true, reduceCtorEq, Nat.mul_one, Int.reduceToNat, Int.reduceLE, Int.reduceLT, Int.reduceAdd, Int.reduceSub, Int.reduceMul, Int.cast_ofNat_Int, cast_zero_int, cast_one_int, Nat.reducePow, Nat.reduceEqDiff, Nat.reduceMod, Nat.zero_add, Nat.sub_zero, Nat.add_zero]
  refine .intro (fun h1 => ?_) (fun h1 => ?_) <;> simp only [go_sem, Nat.reduceBEq, Nat.reduceAdd, Nat.reduceMul, Nat.reduceSub, Nat.reduceLeDiff, Nat.le_refl, implies_true, Nat.reduceLT, reduceIte, decide_true, decide_false, true_and, and_true, reduceCtorEq, Nat.mul_one, Int.reduceToNat, Int.reduceLE, Int.reduceLT, Int.reduceAdd, Int.reduceSub, Int.reduceMul, Int.cast_ofNat_Int, cast_zero_int, cast_one_int, Nat.reducePow, Nat.reduceEqDiff, Nat.reduceMod, Nat.zero_add, Nat.sub_zero, Nat.add_zero, h1] <;> simp at h1 ⊢ <;> omega

theorem c_l1In (n a b : Int) : vCall [] Try.prog M 27 [.int .i64 n, .int .i64 a, .int .i64 b] h (fun r h' => r = .bool (decide (a ≤ n ∧ n ≤ b)) ∧ h = h') := by
  refine body_of mo Try.func27 rfl (by kernel_rfl) (Nat.le_of_ble_eq_true (by kernel_rfl)) rfl ?_
  simp only [go_sem, Nat.reduceBEq, Nat.reduceAdd, Nat.reduceMul, Nat.reduceSub, Nat.reduceLeDiff, Nat.le_refl, implies_true, Nat.reduceLT, reduceIte, decide_true, decide_false, true_and, and_true, reduceCtorEq, Nat.mul_one, Int.reduceToNat, Int.reduceLE, Int.reduceLT, Int.reduceAdd, Int.reduceSub, Int.reduceMul, Int.cast_ofNat_Int, cast_zero_int, cast_one_int, Nat.reducePow, Nat.reduceEqDiff, Nat.reduceMod, Nat.zero_add, Nat.sub_zero, Nat.add_zero]
  refine .intro (fun h1 => ?_) (fun h1 => ?_) <;> simp only [go_sem, Nat.reduceBEq, Nat.reduceAdd, Nat.reduceMul, Nat.reduceSub, Nat.reduceLeDiff, Nat.le_refl, implies_true, Nat.reduceLT, reduceIte, decide_true, decide_false, true_and, and_true, reduceCtorEq, Nat.mul_one, Int.reduceToNat, Int.reduceLE, Int.reduceLT, Int.reduceAdd, Int.reduceSub, Int.reduceMul, Int.cast_ofNat_Int, cast_zero_int, cast_one_int, Nat.reducePow, Nat.reduceEqDiff, Nat.reduceMod, Nat.zero_add, Nat.sub_zero, Nat.add_zero, h1] <;> simp at h1 ⊢ <;> omega

/-- How long a store lasts. -/
def minutes (a b c : Int) : Value := if 0 ≤ a ∧ a ≤ 1000000000 ∧ 0 ≤ b ∧ b ≤ 100000 ∧ 0 ≤ c ∧ c ≤ 100000 ∧ c < b then .tuple #[.int .i64 (a / (b - c)), .bool true] else .tuple #[.int .i64 0, .bool false]

theorem minutes_shape (a b c : Int) : ∃ m g, minutes a b c = .tuple #[.int .i64 m, .bool g] := by
  unfold minutes
  split
  · exact ⟨_, _, rfl⟩
  · exact ⟨_, _, rfl⟩

end
end Go.Proofs.Ytedidddimikjhaa
