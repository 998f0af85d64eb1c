
/- Reserves for fires: contracts of the functions that only reckon with integers. No condition. -/
import Derived.Test.YtgipdicdbgdkbaaScalar
namespace Go.Proofs.Ytgipdicdbgdkbaa
open Go.HH
set_option linter.unusedSimpArgs false
set_option linter.unusedVariables false

section
variable {h : Heap} {M : Nat → Prop}

theorem c_isClass (n : Int) : vCall [] Try.prog M 21 [.int .i64 n] h (fun r h' => r = .bool (decide (1 ≤ n ∧ n ≤ 3)) ∧ h = h') := by
  refine body_of mo Try.func21 rfl (by kernel_rfl) (Nat.le_of_ble_eq_true (by kernel_rfl)) rfl ?_
  simp only [go_sem, Nat.reduceBEq, Nat.reduceAdd, Nat.reduceMul, Nat.reduceSub, Nat.reduceLeDiff, Nat.le_refl, implies_true, Nat.reduceLT, reduceIte, decide_true, decide_false, true_and, and_true, reduceCtorEq, Nat.mul_one, Int.reduceToNat, Int.reduceLE, Int.reduceLT, Int.reduceAdd, Int.reduceSub, Int.reduceMul, Int.cast_ofNat_Int, cast_zero_int, cast_one_int, Nat.reducePow, Nat.reduceEqDiff, Nat.reduceMod, Nat.zero_add, Nat.sub_zero, Nat.add_zero]
  refine ⟨by kernel_rfl, (c_inside _ _ _).use (fun _ m => m) ?_⟩
  rintro _ _ ⟨rfl, rfl⟩
  simp only [go_sem, Nat.reduceBEq, Nat.reduceAdd, Nat.reduceMul, Nat.reduceSub, Nat.reduceLeDiff, Nat.le_refl, implies_true, Nat.reduceLT, reduceIte, decide_true, decide_false, true_and, and_true, reduceCtorEq, Nat.mul_one, Int.reduceToNat, Int.reduceLE, Int.reduceLT, Int.reduceAdd, Int.reduceSub, Int.reduceMul, Int.cast_ofNat_Int, cast_zero_int, cast_one_int, Nat.reducePow, Nat.reduceEqDiff, Nat.reduceMod, Nat.zero_add, Nat.sub_zero, Nat.add_zero]
  all_goals first | exact rfl | exact ⟨rfl, rfl⟩ | exact List.prefix_append _ _ | exact ⟨rfl, List.prefix_append _ _⟩ | assumption | exact ⟨rfl, by assumption⟩ | exact List.prefix_rfl | exact ⟨rfl, List.prefix_rfl⟩ | exact List.IsPrefix.trans (by assumption) (by assumption) | exact ⟨rfl, List.IsPrefix.trans (by assumption) (by assumption)⟩

theorem c_l24Class (n : Int) : vCall [] Try.prog M 23 [.int .i64 n] h (fun r h' => r = .bool (decide (1 ≤ n ∧ n ≤ 3)) ∧ h = h') := by
  refine body_of mo Try.func23 rfl (by kernel_rfl) (Nat.le_of_ble_eq_true (by kernel_rfl)) rfl ?_
  simp only [go_sem, Nat.reduceBEq, Nat.reduceAdd, Nat.reduceMul, Nat.reduceSub, Nat.reduceLeDiff, Nat.le_refl, implies_true, Nat.reduceLT, reduceIte, decide_true, decide_false, true_and, and_true, reduceCtorEq, Nat.mul_one, Int.reduceToNat, Int.reduceLE, Int.reduceLT, Int.reduceAdd, Int.reduceSub, Int.reduceMul, Int.cast_ofNat_Int, cast_zero_int, cast_one_int, Nat.reducePow, Nat.reduceEqDiff, Nat.reduceMod, Nat.zero_add, Nat.sub_zero, Nat.add_zero]
  refine ⟨by kernel_rfl, (c_l1In _ _ _).use (fun _ m => m) ?_⟩
  rintro _ _ ⟨rfl, rfl⟩
  simp only [go_sem, Nat.reduceBEq, Nat.reduceAdd, Nat.reduceMul, Nat.reduceSub, Nat.reduceLeDiff, Nat.le_refl, implies_true, Nat.reduceLT, reduceIte, decide_true, decide_false, true_and, and_true, reduceCtorEq, Nat.mul_one, Int.reduceToNat, Int.reduceLE, Int.reduceLT, Int.reduceAdd, Int.reduceSub, Int.reduceMul, Int.cast_ofNat_Int, cast_zero_int, cast_one_int, Nat.reducePow, Nat.reduceEqDiff, Nat.reduceMod, Nat.zero_add, Nat.sub_zero, Nat.add_zero]
  all_goals first | exact rfl | exact ⟨rfl, rfl⟩ | exact List.prefix_append _ _ | exact ⟨rfl, List.prefix_append _ _⟩ | assumption | exact ⟨rfl, by assumption⟩ | exact List.prefix_rfl | exact ⟨rfl, List.prefix_rfl⟩ | exact List.IsPrefix.trans (by assumption) (by assumption) | exact ⟨rfl, List.IsPrefix.trans (by assumption) (by assumption)⟩

/-- Liters per minute of a class. -/
def need (n : Int) : Int := if n = 1 then 800 else if n = 2 then 1600 else 3200

theorem c_needOf (n : Int) (hn : 1 ≤ n ∧ n ≤ 3) : vCall [] Try.prog M 22 [.int .i64 n] h (fun r h' => r = .tuple #[.int .i64 (need n), .int .i64 (60 * n)] ∧ h = h') := by
  refine body_of mo Try.func22 rfl (by kernel_rfl) (Nat.le_of_ble_eq_true (by kernel_rfl)) rfl ?_
  simp only [go_sem, Nat.reduceBEq, Nat.reduceAdd, Nat.reduceMul, Nat.reduceSub, Nat.reduceLeDiff, Nat.le_refl, implies_true, Nat.reduceLT, reduceIte, decide_true, decide_false, true_and, and_true, reduceCtorEq, Nat.mul_one, Int.reduceToNat, Int.reduceLE, Int.reduceLT, Int.reduceAdd, Int.reduceSub, Int.reduceMul, Int.cast_ofNat_Int, cast_zero_int, cast_one_int, Nat.reducePow, Nat.reduceEqDiff, Nat.reduceMod, Nat.zero_add, Nat.sub_zero, Nat.add_zero]
  rw [hBin_shl (by omega)]
  simp only [go_sem, Nat.reduceBEq, Nat.reduceAdd, Nat.reduceMul, Nat.reduceSub, Nat.reduceLeDiff, Nat.le_refl, implies_true, Nat.reduceLT, reduceIte, decide_true, decide_false, true_and, and_true, reduceCtorEq, Nat.mul_one, Int.reduceToNat, Int.reduceLE, Int.reduceLT, Int.reduceAdd, Int.reduceSub, Int.reduceMul, Int.cast_ofNat_Int, cast_zero_int, cast_one_int, Nat.reducePow, Nat.reduceEqDiff, Nat.reduceMod, Nat.zero_add, Nat.sub_zero, Nat.add_zero]
  have : n = 1 ∨ n = 2 ∨ n = 3 := by omega
  rcases this with rfl | rfl | rfl <;> all_goals first | exact rfl | exact ⟨rfl, rfl⟩ | exact List.prefix_append _ _ | exact ⟨rfl, List.prefix_append _ _⟩ | assumption | exact ⟨rfl, by assumption⟩ | exact List.prefix_rfl | exact ⟨rfl, List.prefix_rfl⟩ | exact List.IsPrefix.trans (by assumption) (by assumption) | exact ⟨rfl, List.IsPrefix.trans (by assumption) (by assumption)⟩

theorem c_l24Need (n : Int) (hn : 1 ≤ n ∧ n ≤ 3) : vCall [] Try.prog M 24 [.int .i64 n] h (fun r h' => r = .int .i64 (need n) ∧ h <+: h') := by
  have : n = 1 ∨ n = 2 ∨ n = 3 := by omega
  rcases this with rfl | rfl | rfl
  · refine body_of mo Try.func24 rfl (by kernel_rfl) (Nat.le_of_ble_eq_true (by kernel_rfl)) rfl ?_
    simp only [go_sem, Nat.reduceBEq, Nat.reduceAdd, Nat.reduceMul, Nat.reduceSub, Nat.reduceLeDiff, Nat.le_refl, implies_true, Nat.reduceLT, reduceIte, decide_true, decide_false, true_and, and_true, reduceCtorEq, Nat.mul_one, Int.reduceToNat, Int.reduceLE, Int.reduceLT, Int.reduceAdd, Int.reduceSub, Int.reduceMul, Int.cast_ofNat_Int, cast_zero_int, cast_one_int, Nat.reducePow, Nat.reduceEqDiff, Nat.reduceMod, Nat.zero_add, Nat.sub_zero, Nat.add_zero]
    all_goals first | exact rfl | exact ⟨rfl, rfl⟩ | exact List.prefix_append _ _ | exact ⟨rfl, List.prefix_append _ _⟩ | assumption | exact ⟨rfl, by assumption⟩ | exact List.prefix_rfl | exact ⟨rfl, List.prefix_rfl⟩ | exact List.IsPrefix.trans (by assumption) (by assumption) | exact ⟨rfl, List.IsPrefix.trans (by assumption) (by assumption)⟩
  · refine body_of mo Try.func24 rfl (by kernel_rfl) (Nat.le_of_ble_eq_true (by kernel_rfl)) rfl ?_
    simp only [go_sem, Nat.reduceBEq, Nat.reduceAdd, Nat.reduceMul, Nat.reduceSub, Nat.reduceLeDiff, Nat.le_refl, implies_true, Nat.reduceLT, reduceIte, decide_true, decide_false, true_and, and_true, reduceCtorEq, Nat.mul_one, Int.reduceToNat, Int.reduceLE, Int.reduceLT, Int.reduceAdd, Int.reduceSub, Int.reduceMul, Int.cast_ofNat_Int, cast_zero_int, cast_one_int, Nat.reducePow, Nat.reduceEqDiff, Nat.reduceMod, Nat.zero_add, Nat.sub_zero, Nat.add_zero]
    all_goals first | exact rfl | exact ⟨rfl, rfl⟩ | exact List.prefix_append _ _ | exact ⟨rfl, List.prefix_append _ _⟩ | assumption | exact ⟨rfl, by assumption⟩ | exact List.prefix_rfl | exact ⟨rfl, List.prefix_rfl⟩ | exact List.IsPrefix.trans (by assumption) (by assumption) | exact ⟨rfl, List.IsPrefix.trans (by assumption) (by assumption)⟩
  · refine body_of mo Try.func24 rfl (by kernel_rfl) (Nat.le_of_ble_eq_true (by kernel_rfl)) rfl ?_
    simp only [go_sem, Nat.reduceBEq, Nat.reduceAdd, Nat.reduceMul, Nat.reduceSub, Nat.reduceLeDiff, Nat.le_refl, implies_true, Nat.reduceLT, reduceIte, decide_true, decide_false, true_and, and_true, reduceCtorEq, Nat.mul_one, Int.reduceToNat, Int.reduceLE, Int.reduceLT, Int.reduceAdd, Int.reduceSub, Int.reduceMul, Int.cast_ofNat_Int, cast_zero_int, cast_one_int, Nat.reducePow, Nat.reduceEqDiff, Nat.reduceMod, Nat.zero_add, Nat.sub_zero, Nat.add_zero]
    all_goals first | exact rfl | exact ⟨rfl, rfl⟩ | exact List.prefix_append _ _ | exact ⟨rfl, List.prefix_append _ _⟩ | assumption | exact ⟨rfl, by assumption⟩ | exact List.prefix_rfl | exact ⟨rfl, List.prefix_rfl⟩ | exact List.IsPrefix.trans (by assumption) (by assumption) | exact ⟨rfl, List.IsPrefix.trans (by assumption) (by assumption)⟩

theorem need_range (n : Int) : 800 ≤ need n ∧ need n ≤ 3200 := by
  unfold need
  split
  · omega
  · split <;> omega

theorem c_l1Most (a b : Int) : vCall [] Try.prog M 30 [.int .i64 a, .int .i64 b] h (fun r h' => r = .int .i64 (if b < a then a else b) ∧ h = h') := by
  refine body_of mo Try.func30 rfl (by kernel_rfl) (Nat.le_of_ble_eq_true (by kernel_rfl)) rfl ?_
  simp only [go_sem, Nat.reduceBEq, Nat.reduceAdd, Nat.reduceMul, Nat.reduceSub, Nat.reduceLeDiff, Nat.le_refl, implies_true, Nat.reduceLT, reduceIte, decide_true, decide_false, true_and, and_true, reduceCtorEq, Nat.mul_one, Int.reduceToNat, Int.reduceLE, Int.reduceLT, Int.reduceAdd, Int.reduceSub, Int.reduceMul, Int.cast_ofNat_Int, cast_zero_int, cast_one_int, Nat.reducePow, Nat.reduceEqDiff, Nat.reduceMod, Nat.zero_add, Nat.sub_zero, Nat.add_zero]
  refine .intro (fun h1 => ?_) (fun h1 => ?_)
  · simp only [go_sem, Nat.reduceBEq, Nat.reduceAdd, Nat.reduceMul, Nat.reduceSub, Nat.reduceLeDiff, Nat.le_refl, implies_true, Nat.reduceLT, reduceIte, decide_true, decide_false, true_and, and_true, reduceCtorEq, Nat.mul_one, Int.reduceToNat, Int.reduceLE, Int.reduceLT, Int.reduceAdd, Int.reduceSub, Int.reduceMul, Int.cast_ofNat_Int, cast_zero_int, cast_one_int, Nat.reducePow, Nat.reduceEqDiff, Nat.reduceMod, Nat.zero_add, Nat.sub_zero, Nat.add_zero]
    all_goals first | (rw [if_pos (by simpa using h1)]; done) | exact ⟨by rw [if_pos (by simpa using h1)], rfl⟩ | exact ⟨by rw [if_pos (by simpa using h1)], List.prefix_rfl⟩ | exact ⟨by rw [if_pos (by simpa using h1)], List.prefix_append _ _⟩ | exact ⟨by rw [if_pos (by simpa using h1)], by assumption⟩
  · simp only [go_sem, Nat.reduceBEq, Nat.reduceAdd, Nat.reduceMul, Nat.reduceSub, Nat.reduceLeDiff, Nat.le_refl, implies_true, Nat.reduceLT, reduceIte, decide_true, decide_false, true_and, and_true, reduceCtorEq, Nat.mul_one, Int.reduceToNat, Int.reduceLE, Int.reduceLT, Int.reduceAdd, Int.reduceSub, Int.reduceMul, Int.cast_ofNat_Int, cast_zero_int, cast_one_int, Nat.reducePow, Nat.reduceEqDiff, Nat.reduceMod, Nat.zero_add, Nat.sub_zero, Nat.add_zero]
    all_goals first | (rw [if_neg (by simpa using h1)]; done) | exact ⟨by rw [if_neg (by simpa using h1)], rfl⟩ | exact ⟨by rw [if_neg (by simpa using h1)], List.prefix_rfl⟩ | exact ⟨by rw [if_neg (by simpa using h1)], List.prefix_append _ _⟩ | exact ⟨by rw [if_neg (by simpa using h1)], by assumption⟩

/-- What a class needs, as the reference tells it. -/
def reserve (n : Int) : Value := if 1 ≤ n ∧ n ≤ 3 then .tuple #[.int .i64 (need n), .int .i64 (need n * (60 * n)), .bool true] else .tuple #[.int .i64 0, .int .i64 0, .bool false]

theorem reserve_shape (n : Int) : ∃ a b g, reserve n = .tuple #[.int .i64 a, .int .i64 b, .bool g] := by
  unfold reserve
  split
  · exact ⟨_, _, _, rfl⟩
  · exact ⟨_, _, _, rfl⟩

theorem c_ReserveFor (n : Int) : vCall [] Try.prog M 7 [.int .i64 n] h (fun r h' => r = reserve n ∧ h = h') := by
  refine body_of mo Try.func7 rfl (by kernel_rfl) (Nat.le_of_ble_eq_true (by kernel_rfl)) rfl ?_
  simp only [go_sem, Nat.reduceBEq, Nat.reduceAdd, Nat.reduceMul, Nat.reduceSub, Nat.reduceLeDiff, Nat.le_refl, implies_true, Nat.reduceLT, reduceIte, decide_true, decide_false, true_and, and_true, reduceCtorEq, Nat.mul_one, Int.reduceToNat, Int.reduceLE, Int.reduceLT, Int.reduceAdd, Int.reduceSub, Int.reduceMul, Int.cast_ofNat_Int, cast_zero_int, cast_one_int, Nat.reducePow, Nat.reduceEqDiff, Nat.reduceMod, Nat.zero_add, Nat.sub_zero, Nat.add_zero]
  refine ⟨by kernel_rfl, (c_isClass _).use (fun _ m => m) ?_⟩
  rintro _ _ ⟨rfl, rfl⟩
  simp only [go_sem, Nat.reduceBEq, Nat.reduceAdd, Nat.reduceMul, Nat.reduceSub, Nat.reduceLeDiff, Nat.le_refl, implies_true, Nat.reduceLT, reduceIte, decide_true, decide_false, true_and, and_true, reduceCtorEq, Nat.mul_one, Int.reduceToNat, Int.reduceLE, Int.reduceLT, Int.reduceAdd, Int.reduceSub, Int.reduceMul, Int.cast_ofNat_Int, cast_zero_int, cast_one_int, Nat.reducePow, Nat.reduceEqDiff, Nat.reduceMod, Nat.zero_add, Nat.sub_zero, Nat.add_zero]
  by_cases h1 : 1 ≤ n ∧ n ≤ 3
  · simp only [go_sem, Nat.reduceBEq, Nat.reduceAdd, Nat.reduceMul, Nat.reduceSub, Nat.reduceLeDiff, Nat.le_refl, implies_true, Nat.reduceLT, reduceIte, decide_true, decide_false, true_and, and_true, reduceCtorEq, Nat.mul_one, Int.reduceToNat, Int.reduceLE, Int.reduceLT, Int.reduceAdd, Int.reduceSub, Int.reduceMul, Int.cast_ofNat_Int, cast_zero_int, cast_one_int, Nat.reducePow, Nat.reduceEqDiff, Nat.reduceMod, Nat.zero_add, Nat.sub_zero, Nat.add_zero, decb h1]
    refine ⟨by kernel_rfl, (c_needOf _ h1).use (fun _ m => m) ?_⟩
    rintro _ _ ⟨rfl, rfl⟩
    simp only [go_sem, Nat.reduceBEq, Nat.reduceAdd, Nat.reduceMul, Nat.reduceSub, Nat.reduceLeDiff, Nat.le_refl, implies_true, Nat.reduceLT, reduceIte, decide_true, decide_false, true_and, and_true, reduceCtorEq, Nat.mul_one, Int.reduceToNat, Int.reduceLE, Int.reduceLT, Int.reduceAdd, Int.reduceSub, Int.reduceMul, Int.cast_ofNat_Int, cast_zero_int, cast_one_int, Nat.reducePow, Nat.reduceEqDiff, Nat.reduceMod, Nat.zero_add, Nat.sub_zero, Nat.add_zero]
    have hr := need_range n
    have h2 : 0 ≤ need n * (60 * n) := Int.mul_nonneg (by omega) (by omega)
    have h3 : need n * (60 * n) ≤ 3200 * 180 := Int.mul_le_mul (by omega) (by omega) (by omega) (by omega)
    rw [wrap64 (by omega)]
    all_goals first | (rw [reserve, if_pos h1]; done) | exact ⟨by rw [reserve, if_pos h1], rfl⟩ | exact ⟨by rw [reserve, if_pos h1], List.prefix_rfl⟩ | exact ⟨by rw [reserve, if_pos h1], List.prefix_append _ _⟩ | exact ⟨by rw [reserve, if_pos h1], by assumption⟩
  · simp only [go_sem, Nat.reduceBEq, Nat.reduceAdd, Nat.reduceMul, Nat.reduceSub, Nat.reduceLeDiff, Nat.le_refl, implies_true, Nat.reduceLT, reduceIte, decide_true, decide_false, true_and, and_true, reduceCtorEq, Nat.mul_one, Int.reduceToNat, Int.reduceLE, Int.reduceLT, Int.reduceAdd, Int.reduceSub, Int.reduceMul, Int.cast_ofNat_Int, cast_zero_int, cast_one_int, Nat.reducePow, Nat.reduceEqDiff, Nat.reduceMod, Nat.zero_add, Nat.sub_zero, Nat.add_zero, dect h1]
    all_goals first | (rw [reserve, if_neg h1]; done) | exact ⟨by rw [reserve, if_neg h1], rfl⟩ | exact ⟨by rw [reserve, if_neg h1], List.prefix_rfl⟩ | exact ⟨by rw [reserve, if_neg h1], List.prefix_append _ _⟩ | exact ⟨by rw [reserve, if_neg h1], by assumption⟩

theorem c_sReserveFor (n : Int) : vCall [] Try.prog M 8 [.int .i64 n] h (fun r h' => r = reserve n ∧ h <+: h') := by
  refine body_of mo Try.func8 rfl (by kernel_rfl) (Nat.le_of_ble_eq_true (by kernel_rfl)) rfl ?_
  simp only [go_sem, Nat.reduceBEq, Nat.reduceAdd, Nat.reduceMul, Nat.reduceSub, Nat.reduceLeDiff, Nat.le_refl, implies_true, Nat.reduceLT, reduceIte, decide_true, decide_false, true_and, and_true, reduceCtorEq, Nat.mul_one, Int.reduceToNat, Int.reduceLE, Int.reduceLT, Int.reduceAdd, Int.reduceSub, Int.reduceMul, Int.cast_ofNat_Int, cast_zero_int, cast_one_int, Nat.reducePow, Nat.reduceEqDiff, Nat.reduceMod, Nat.zero_add, Nat.sub_zero, Nat.add_zero]
  refine ⟨by kernel_rfl, (c_l24Class _).use (fun _ m => m) ?_⟩
  rintro _ _ ⟨rfl, rfl⟩
  simp only [go_sem, Nat.reduceBEq, Nat.reduceAdd, Nat.reduceMul, Nat.reduceSub, Nat.reduceLeDiff, Nat.le_refl, implies_true, Nat.reduceLT, reduceIte, decide_true, decide_false, true_and, and_true, reduceCtorEq, Nat.mul_one, Int.reduceToNat, Int.reduceLE, Int.reduceLT, Int.reduceAdd, Int.reduceSub, Int.reduceMul, Int.cast_ofNat_Int, cast_zero_int, cast_one_int, Nat.reducePow, Nat.reduceEqDiff, Nat.reduceMod, Nat.zero_add, Nat.sub_zero, Nat.add_zero]
  by_cases h1 : 1 ≤ n ∧ n ≤ 3
  · simp only [go_sem, Nat.reduceBEq, Nat.reduceAdd, Nat.reduceMul, Nat.reduceSub, Nat.reduceLeDiff, Nat.le_refl, implies_true, Nat.reduceLT, reduceIte, decide_true, decide_false, true_and, and_true, reduceCtorEq, Nat.mul_one, Int.reduceToNat, Int.reduceLE, Int.reduceLT, Int.reduceAdd, Int.reduceSub, Int.reduceMul, Int.cast_ofNat_Int, cast_zero_int, cast_one_int, Nat.reducePow, Nat.reduceEqDiff, Nat.reduceMod, Nat.zero_add, Nat.sub_zero, Nat.add_zero, decb h1]
    refine ⟨by kernel_rfl, (c_l24Need _ h1).use (fun _ m => m) ?_⟩
    rintro _ h2 ⟨rfl, hp2⟩
    refine ⟨by kernel_rfl, (c_l24Need _ h1).use (fun _ m => m) ?_⟩
    rintro _ h3 ⟨rfl, hp3⟩
    simp only [go_sem, Nat.reduceBEq, Nat.reduceAdd, Nat.reduceMul, Nat.reduceSub, Nat.reduceLeDiff, Nat.le_refl, implies_true, Nat.reduceLT, reduceIte, decide_true, decide_false, true_and, and_true, reduceCtorEq, Nat.mul_one, Int.reduceToNat, Int.reduceLE, Int.reduceLT, Int.reduceAdd, Int.reduceSub, Int.reduceMul, Int.cast_ofNat_Int, cast_zero_int, cast_one_int, Nat.reducePow, Nat.reduceEqDiff, Nat.reduceMod, Nat.zero_add, Nat.sub_zero, Nat.add_zero]
    have hr := need_range n
    have h5 : 0 ≤ need n * (60 * n) := Int.mul_nonneg (by omega) (by omega)
    have h6 : need n * (60 * n) ≤ 3200 * 180 := Int.mul_le_mul (by omega) (by omega) (by omega) (by omega)
    have h7 : need n * 60 * n = need n * (60 * n) := Int.mul_assoc _ _ _
    have e1 : IntKind.i64.wrap (need n * 60) = need n * 60 := wrap64 (by omega)
    have e2 : IntKind.i64.wrap (need n * 60 * n) = need n * (60 * n) := by rw [h7]; exact wrap64 (by omega)
    rw [e1, e2]
    refine ⟨by rw [reserve, if_pos h1], hp2.trans hp3⟩
  · simp only [go_sem, Nat.reduceBEq, Nat.reduceAdd, Nat.reduceMul, Nat.reduceSub, Nat.reduceLeDiff, Nat.le_refl, implies_true, Nat.reduceLT, reduceIte, decide_true, decide_false, true_and, and_true, reduceCtorEq, Nat.mul_one, Int.reduceToNat, Int.reduceLE, Int.reduceLT, Int.reduceAdd, Int.reduceSub, Int.reduceMul, Int.cast_ofNat_Int, cast_zero_int, cast_one_int, Nat.reducePow, Nat.reduceEqDiff, Nat.reduceMod, Nat.zero_add, Nat.sub_zero, Nat.add_zero, dect h1]
    all_goals first | (rw [reserve, if_neg h1]; done) | exact ⟨by rw [reserve, if_neg h1], rfl⟩ | exact ⟨by rw [reserve, if_neg h1], List.prefix_rfl⟩ | exact ⟨by rw [reserve, if_neg h1], List.prefix_append _ _⟩ | exact ⟨by rw [reserve, if_neg h1], by assumption⟩

/-- What store a class asks for beside an inflow. -/
def store (c i f : Int) : Value := if (1 ≤ c ∧ c ≤ 3) ∧ (0 ≤ i ∧ i ≤ 100000) ∧ 1 ≤ f ∧ f ≤ 5 then .tuple #[.int .i64 ((if 0 < f * need c - i then f * need c - i else 0) * (60 * c)), .bool true] else .tuple #[.int .i64 0, .bool false]

theorem store_pos {c i f : Int} (hc : (1 ≤ c ∧ c ≤ 3) ∧ (0 ≤ i ∧ i ≤ 100000) ∧ 1 ≤ f ∧ f ≤ 5) :
    store c i f = .tuple #[.int .i64 ((if 0 < f * need c - i then f * need c - i else 0) * (60 * c)), .bool true] := if_pos hc

theorem store_shape (c i f : Int) : ∃ a g, store c i f = .tuple #[.int .i64 a, .bool g] := by
  unfold store
  split
  · exact ⟨_, _, rfl⟩
  · exact ⟨_, _, rfl⟩

theorem c_StoreFor (c i f : Int) : vCall [] Try.prog M 10 [.int .i64 c, .int .i64 i, .int .i64 f] h (fun r h' => r = store c i f ∧ h = h') := by
  refine body_of mo Try.func10 rfl (by kernel_rfl) (Nat.le_of_ble_eq_true (by kernel_rfl)) rfl ?_
  simp only [go_sem, Nat.reduceBEq, Nat.reduceAdd, Nat.reduceMul, Nat.reduceSub, Nat.reduceLeDiff, Nat.le_refl, implies_true, Nat.reduceLT, reduceIte, decide_true, decide_false, true_and, and_true, reduceCtorEq, Nat.mul_one, Int.reduceToNat, Int.reduceLE, Int.reduceLT, Int.reduceAdd, Int.reduceSub, Int.reduceMul, Int.cast_ofNat_Int, cast_zero_int, cast_one_int, Nat.reducePow, Nat.reduceEqDiff, Nat.reduceMod, Nat.zero_add, Nat.sub_zero, Nat.add_zero]
  refine ⟨by kernel_rfl, (c_isClass _).use (fun _ m => m) ?_⟩
  rintro _ _ ⟨rfl, rfl⟩
  simp only [go_sem, Nat.reduceBEq, Nat.reduceAdd, Nat.reduceMul, Nat.reduceSub, Nat.reduceLeDiff, Nat.le_refl, implies_true, Nat.reduceLT, reduceIte, decide_true, decide_false, true_and, and_true, reduceCtorEq, Nat.mul_one, Int.reduceToNat, Int.reduceLE, Int.reduceLT, Int.reduceAdd, Int.reduceSub, Int.reduceMul, Int.cast_ofNat_Int, cast_zero_int, cast_one_int, Nat.reducePow, Nat.reduceEqDiff, Nat.reduceMod, Nat.zero_add, Nat.sub_zero, Nat.add_zero]
  by_cases h1 : 1 ≤ c ∧ c ≤ 3
  · simp only [go_sem, Nat.reduceBEq, Nat.reduceAdd, Nat.reduceMul, Nat.reduceSub, Nat.reduceLeDiff, Nat.le_refl, implies_true, Nat.reduceLT, reduceIte, decide_true, decide_false, true_and, and_true, reduceCtorEq, Nat.mul_one, Int.reduceToNat, Int.reduceLE, Int.reduceLT, Int.reduceAdd, Int.reduceSub, Int.reduceMul, Int.cast_ofNat_Int, cast_zero_int, cast_one_int, Nat.reducePow, Nat.reduceEqDiff, Nat.reduceMod, Nat.zero_add, Nat.sub_zero, Nat.add_zero, decb h1]
    refine ⟨by kernel_rfl, (c_isPerMinute _).use (fun _ m => m) ?_⟩
    rintro _ _ ⟨rfl, rfl⟩
    simp only [go_sem, Nat.reduceBEq, Nat.reduceAdd, Nat.reduceMul, Nat.reduceSub, Nat.reduceLeDiff, Nat.le_refl, implies_true, Nat.reduceLT, reduceIte, decide_true, decide_false, true_and, and_true, reduceCtorEq, Nat.mul_one, Int.reduceToNat, Int.reduceLE, Int.reduceLT, Int.reduceAdd, Int.reduceSub, Int.reduceMul, Int.cast_ofNat_Int, cast_zero_int, cast_one_int, Nat.reducePow, Nat.reduceEqDiff, Nat.reduceMod, Nat.zero_add, Nat.sub_zero, Nat.add_zero]
    by_cases h2 : 0 ≤ i ∧ i ≤ 100000
    · simp only [go_sem, Nat.reduceBEq, Nat.reduceAdd, Nat.reduceMul, Nat.reduceSub, Nat.reduceLeDiff, Nat.le_refl, implies_true, Nat.reduceLT, reduceIte, decide_true, decide_false, true_and, and_true, reduceCtorEq, Nat.mul_one, Int.reduceToNat, Int.reduceLE, Int.reduceLT, Int.reduceAdd, Int.reduceSub, Int.reduceMul, Int.cast_ofNat_Int, cast_zero_int, cast_one_int, Nat.reducePow, Nat.reduceEqDiff, Nat.reduceMod, Nat.zero_add, Nat.sub_zero, Nat.add_zero, decb h1, decb h2]
      refine ⟨by kernel_rfl, (c_inside _ _ _).use (fun _ m => m) ?_⟩
      rintro _ _ ⟨rfl, rfl⟩
      simp only [go_sem, Nat.reduceBEq, Nat.reduceAdd, Nat.reduceMul, Nat.reduceSub, Nat.reduceLeDiff, Nat.le_refl, implies_true, Nat.reduceLT, reduceIte, decide_true, decide_false, true_and, and_true, reduceCtorEq, Nat.mul_one, Int.reduceToNat, Int.reduceLE, Int.reduceLT, Int.reduceAdd, Int.reduceSub, Int.reduceMul, Int.cast_ofNat_Int, cast_zero_int, cast_one_int, Nat.reducePow, Nat.reduceEqDiff, Nat.reduceMod, Nat.zero_add, Nat.sub_zero, Nat.add_zero]
      by_cases h3 : 1 ≤ f ∧ f ≤ 5
      · simp only [go_sem, Nat.reduceBEq, Nat.reduceAdd, Nat.reduceMul, Nat.reduceSub, Nat.reduceLeDiff, Nat.le_refl, implies_true, Nat.reduceLT, reduceIte, decide_true, decide_false, true_and, and_true, reduceCtorEq, Nat.mul_one, Int.reduceToNat, Int.reduceLE, Int.reduceLT, Int.reduceAdd, Int.reduceSub, Int.reduceMul, Int.cast_ofNat_Int, cast_zero_int, cast_one_int, Nat.reducePow, Nat.reduceEqDiff, Nat.reduceMod, Nat.zero_add, Nat.sub_zero, Nat.add_zero, decb h1, decb h2, decb h3]
        refine ⟨by kernel_rfl, (c_needOf _ h1).use (fun _ m => m) ?_⟩
        rintro _ _ ⟨rfl, rfl⟩
        simp only [go_sem, Nat.reduceBEq, Nat.reduceAdd, Nat.reduceMul, Nat.reduceSub, Nat.reduceLeDiff, Nat.le_refl, implies_true, Nat.reduceLT, reduceIte, decide_true, decide_false, true_and, and_true, reduceCtorEq, Nat.mul_one, Int.reduceToNat, Int.reduceLE, Int.reduceLT, Int.reduceAdd, Int.reduceSub, Int.reduceMul, Int.cast_ofNat_Int, cast_zero_int, cast_one_int, Nat.reducePow, Nat.reduceEqDiff, Nat.reduceMod, Nat.zero_add, Nat.sub_zero, Nat.add_zero]
        have hr := need_range c
        have a1 : 0 ≤ f * need c := Int.mul_nonneg (by omega) (by omega)
        have a2 : f * need c ≤ 5 * 3200 := Int.mul_le_mul (by omega) (by omega) (by omega) (by omega)
        have e1 : IntKind.i64.wrap (f * need c) = f * need c := wrap64 (by omega)
        have e2 : IntKind.i64.wrap (f * need c - i) = f * need c - i := wrap64 (by omega)
        rw [e1, e2]
        have e3 : (if 0 > f * need c - i then 0 else f * need c - i) = (if 0 < f * need c - i then f * need c - i else 0) := by split <;> split <;> omega
        rw [e3]
        have b1 : 0 ≤ (if 0 < f * need c - i then f * need c - i else 0) ∧ (if 0 < f * need c - i then f * need c - i else 0) ≤ 16000 := by split <;> omega
        have b2 : 0 ≤ (if 0 < f * need c - i then f * need c - i else 0) * (60 * c) := Int.mul_nonneg b1.1 (by omega)
        have b3 : (if 0 < f * need c - i then f * need c - i else 0) * (60 * c) ≤ 16000 * 180 := Int.mul_le_mul b1.2 (by omega) (by omega) (by omega)
        rw [wrap64 (by omega), store_pos ⟨h1, h2, h3⟩]
      · simp only [go_sem, Nat.reduceBEq, Nat.reduceAdd, Nat.reduceMul, Nat.reduceSub, Nat.reduceLeDiff, Nat.le_refl, implies_true, Nat.reduceLT, reduceIte, decide_true, decide_false, true_and, and_true, reduceCtorEq, Nat.mul_one, Int.reduceToNat, Int.reduceLE, Int.reduceLT, Int.reduceAdd, Int.reduceSub, Int.reduceMul, Int.cast_ofNat_Int, cast_zero_int, cast_one_int, Nat.reducePow, Nat.reduceEqDiff, Nat.reduceMod, Nat.zero_add, Nat.sub_zero, Nat.add_zero, decb h1, decb h2, dect h3]
        all_goals first | (rw [store, if_neg (by omega)]; done) | exact ⟨by rw [store, if_neg (by omega)], rfl⟩ | exact ⟨by rw [store, if_neg (by omega)], List.prefix_rfl⟩ | exact ⟨by rw [store, if_neg (by omega)], List.prefix_append _ _⟩ | exact ⟨by rw [store, if_neg (by omega)], by assumption⟩
    · simp only [go_sem, Nat.reduceBEq, Nat.reduceAdd, Nat.reduceMul, Nat.reduceSub, Nat.reduceLeDiff, Nat.le_refl, implies_true, Nat.reduceLT, reduceIte, decide_true, decide_false, true_and, and_true, reduceCtorEq, Nat.mul_one, Int.reduceToNat, Int.reduceLE, Int.reduceLT, Int.reduceAdd, Int.reduceSub, Int.reduceMul, Int.cast_ofNat_Int, cast_zero_int, cast_one_int, Nat.reducePow, Nat.reduceEqDiff, Nat.reduceMod, Nat.zero_add, Nat.sub_zero, Nat.add_zero, decb h1, dect h2]
      all_goals first | (rw [store, if_neg (by omega)]; done) | exact ⟨by rw [store, if_neg (by omega)], rfl⟩ | exact ⟨by rw [store, if_neg (by omega)], List.prefix_rfl⟩ | exact ⟨by rw [store, if_neg (by omega)], List.prefix_append _ _⟩ | exact ⟨by rw [store, if_neg (by omega)], by assumption⟩
  · simp only [go_sem, Nat.reduceBEq, Nat.reduceAdd, Nat.reduceMul, Nat.reduceSub, Nat.reduceLeDiff, Nat.le_refl, implies_true, Nat.reduceLT, reduceIte, decide_true, decide_false, true_and, and_true, reduceCtorEq, Nat.mul_one, Int.reduceToNat, Int.reduceLE, Int.reduceLT, Int.reduceAdd, Int.reduceSub, Int.reduceMul, Int.cast_ofNat_Int, cast_zero_int, cast_one_int, Nat.reducePow, Nat.reduceEqDiff, Nat.reduceMod, Nat.zero_add, Nat.sub_zero, Nat.add_zero, dect h1]
    all_goals first | (rw [store, if_neg (by omega)]; done) | exact ⟨by rw [store, if_neg (by omega)], rfl⟩ | exact ⟨by rw [store, if_neg (by omega)], List.prefix_rfl⟩ | exact ⟨by rw [store, if_neg (by omega)], List.prefix_append _ _⟩ | exact ⟨by rw [store, if_neg (by omega)], by assumption⟩

theorem c_sStoreFor (c i f : Int) : vCall [] Try.prog M 14 [.int .i64 c, .int .i64 i, .int .i64 f] h (fun r h' => r = store c i f ∧ h <+: h') := by
  refine body_of mo Try.func14 rfl (by kernel_rfl) (Nat.le_of_ble_eq_true (by kernel_rfl)) rfl ?_
  simp only [go_sem, Nat.reduceBEq, Nat.reduceAdd, Nat.reduceMul, Nat.reduceSub, Nat.reduceLeDiff, Nat.le_refl, implies_true, Nat.reduceLT, reduceIte, decide_true, decide_false, true_and, and_true, reduceCtorEq, Nat.mul_one, Int.reduceToNat, Int.reduceLE, Int.reduceLT, Int.reduceAdd, Int.reduceSub, Int.reduceMul, Int.cast_ofNat_Int, cast_zero_int, cast_one_int, Nat.reducePow, Nat.reduceEqDiff, Nat.reduceMod, Nat.zero_add, Nat.sub_zero, Nat.add_zero]
  refine ⟨by kernel_rfl, (c_l24Class _).use (fun _ m => m) ?_⟩
  rintro _ _ ⟨rfl, rfl⟩
  simp only [go_sem, Nat.reduceBEq, Nat.reduceAdd, Nat.reduceMul, Nat.reduceSub, Nat.reduceLeDiff, Nat.le_refl, implies_true, Nat.reduceLT, reduceIte, decide_true, decide_false, true_and, and_true, reduceCtorEq, Nat.mul_one, Int.reduceToNat, Int.reduceLE, Int.reduceLT, Int.reduceAdd, Int.reduceSub, Int.reduceMul, Int.cast_ofNat_Int, cast_zero_int, cast_one_int, Nat.reducePow, Nat.reduceEqDiff, Nat.reduceMod, Nat.zero_add, Nat.sub_zero, Nat.add_zero]
  by_cases h1 : 1 ≤ c ∧ c ≤ 3
  · simp only [go_sem, Nat.reduceBEq, Nat.reduceAdd, Nat.reduceMul, Nat.reduceSub, Nat.reduceLeDiff, Nat.le_refl, implies_true, Nat.reduceLT, reduceIte, decide_true, decide_false, true_and, and_true, reduceCtorEq, Nat.mul_one, Int.reduceToNat, Int.reduceLE, Int.reduceLT, Int.reduceAdd, Int.reduceSub, Int.reduceMul, Int.cast_ofNat_Int, cast_zero_int, cast_one_int, Nat.reducePow, Nat.reduceEqDiff, Nat.reduceMod, Nat.zero_add, Nat.sub_zero, Nat.add_zero, decb h1]
    refine ⟨by kernel_rfl, (c_l1In _ _ _).use (fun _ m => m) ?_⟩
    rintro _ _ ⟨rfl, rfl⟩
    simp only [go_sem, Nat.reduceBEq, Nat.reduceAdd, Nat.reduceMul, Nat.reduceSub, Nat.reduceLeDiff, Nat.le_refl, implies_true, Nat.reduceLT, reduceIte, decide_true, decide_false, true_and, and_true, reduceCtorEq, Nat.mul_one, Int.reduceToNat, Int.reduceLE, Int.reduceLT, Int.reduceAdd, Int.reduceSub, Int.reduceMul, Int.cast_ofNat_Int, cast_zero_int, cast_one_int, Nat.reducePow, Nat.reduceEqDiff, Nat.reduceMod, Nat.zero_add, Nat.sub_zero, Nat.add_zero]
    by_cases h2 : 0 ≤ i ∧ i ≤ 100000
    · simp only [go_sem, Nat.reduceBEq, Nat.reduceAdd, Nat.reduceMul, Nat.reduceSub, Nat.reduceLeDiff, Nat.le_refl, implies_true, Nat.reduceLT, reduceIte, decide_true, decide_false, true_and, and_true, reduceCtorEq, Nat.mul_one, Int.reduceToNat, Int.reduceLE, Int.reduceLT, Int.reduceAdd, Int.reduceSub, Int.reduceMul, Int.cast_ofNat_Int, cast_zero_int, cast_one_int, Nat.reducePow, Nat.reduceEqDiff, Nat.reduceMod, Nat.zero_add, Nat.sub_zero, Nat.add_zero, decb h1, decb h2]
      refine ⟨by kernel_rfl, (c_l1In _ _ _).use (fun _ m => m) ?_⟩
      rintro _ _ ⟨rfl, rfl⟩
      simp only [go_sem, Nat.reduceBEq, Nat.reduceAdd, Nat.reduceMul, Nat.reduceSub, Nat.reduceLeDiff, Nat.le_refl, implies_true, Nat.reduceLT, reduceIte, decide_true, decide_false, true_and, and_true, reduceCtorEq, Nat.mul_one, Int.reduceToNat, Int.reduceLE, Int.reduceLT, Int.reduceAdd, Int.reduceSub, Int.reduceMul, Int.cast_ofNat_Int, cast_zero_int, cast_one_int, Nat.reducePow, Nat.reduceEqDiff, Nat.reduceMod, Nat.zero_add, Nat.sub_zero, Nat.add_zero]
      by_cases h3 : 1 ≤ f ∧ f ≤ 5
      · simp only [go_sem, Nat.reduceBEq, Nat.reduceAdd, Nat.reduceMul, Nat.reduceSub, Nat.reduceLeDiff, Nat.le_refl, implies_true, Nat.reduceLT, reduceIte, decide_true, decide_false, true_and, and_true, reduceCtorEq, Nat.mul_one, Int.reduceToNat, Int.reduceLE, Int.reduceLT, Int.reduceAdd, Int.reduceSub, Int.reduceMul, Int.cast_ofNat_Int, cast_zero_int, cast_one_int, Nat.reducePow, Nat.reduceEqDiff, Nat.reduceMod, Nat.zero_add, Nat.sub_zero, Nat.add_zero, decb h1, decb h2, decb h3]
        refine ⟨by kernel_rfl, (c_l24Need _ h1).use (fun _ m => m) ?_⟩
        rintro _ h5 ⟨rfl, hp5⟩
        simp only [go_sem, Nat.reduceBEq, Nat.reduceAdd, Nat.reduceMul, Nat.reduceSub, Nat.reduceLeDiff, Nat.le_refl, implies_true, Nat.reduceLT, reduceIte, decide_true, decide_false, true_and, and_true, reduceCtorEq, Nat.mul_one, Int.reduceToNat, Int.reduceLE, Int.reduceLT, Int.reduceAdd, Int.reduceSub, Int.reduceMul, Int.cast_ofNat_Int, cast_zero_int, cast_one_int, Nat.reducePow, Nat.reduceEqDiff, Nat.reduceMod, Nat.zero_add, Nat.sub_zero, Nat.add_zero]
        have hr := need_range c
        have a1 : 0 ≤ f * need c := Int.mul_nonneg (by omega) (by omega)
        have a2 : f * need c ≤ 5 * 3200 := Int.mul_le_mul (by omega) (by omega) (by omega) (by omega)
        have e1 : IntKind.i64.wrap (f * need c) = f * need c := wrap64 (by omega)
        have e2 : IntKind.i64.wrap (f * need c - i) = f * need c - i := wrap64 (by omega)
        rw [e1, e2]
        refine ⟨by kernel_rfl, (c_l1Most _ _).use (fun _ m => m) ?_⟩
        rintro _ _ ⟨rfl, rfl⟩
        simp only [go_sem, Nat.reduceBEq, Nat.reduceAdd, Nat.reduceMul, Nat.reduceSub, Nat.reduceLeDiff, Nat.le_refl, implies_true, Nat.reduceLT, reduceIte, decide_true, decide_false, true_and, and_true, reduceCtorEq, Nat.mul_one, Int.reduceToNat, Int.reduceLE, Int.reduceLT, Int.reduceAdd, Int.reduceSub, Int.reduceMul, Int.cast_ofNat_Int, cast_zero_int, cast_one_int, Nat.reducePow, Nat.reduceEqDiff, Nat.reduceMod, Nat.zero_add, Nat.sub_zero, Nat.add_zero]
        have b1 : 0 ≤ (if 0 < f * need c - i then f * need c - i else 0) ∧ (if 0 < f * need c - i then f * need c - i else 0) ≤ 16000 := by split <;> omega
        have b2 : 0 ≤ (if 0 < f * need c - i then f * need c - i else 0) * (60 * c) := Int.mul_nonneg b1.1 (by omega)
        have b3 : (if 0 < f * need c - i then f * need c - i else 0) * (60 * c) ≤ 16000 * 180 := Int.mul_le_mul b1.2 (by omega) (by omega) (by omega)
        have e3 : (if f * need c - i < 0 then 0 else f * need c - i) = (if 0 < f * need c - i then f * need c - i else 0) := by split <;> split <;> omega
        rw [e3]
        have b4 : (if 0 < f * need c - i then f * need c - i else 0) * 60 * c = (if 0 < f * need c - i then f * need c - i else 0) * (60 * c) := Int.mul_assoc _ _ _
        have e4 : IntKind.i64.wrap ((if 0 < f * need c - i then f * need c - i else 0) * 60) = (if 0 < f * need c - i then f * need c - i else 0) * 60 := wrap64 (by omega)
        rw [e4, b4, wrap64 (by omega)]
        exact ⟨(store_pos ⟨h1, h2, h3⟩).symm, hp5⟩
      · simp only [go_sem, Nat.reduceBEq, Nat.reduceAdd, Nat.reduceMul, Nat.reduceSub, Nat.reduceLeDiff, Nat.le_refl, implies_true, Nat.reduceLT, reduceIte, decide_true, decide_false, true_and, and_true, reduceCtorEq, Nat.mul_one, Int.reduceToNat, Int.reduceLE, Int.reduceLT, Int.reduceAdd, Int.reduceSub, Int.reduceMul, Int.cast_ofNat_Int, cast_zero_int, cast_one_int, Nat.reducePow, Nat.reduceEqDiff, Nat.reduceMod, Nat.zero_add, Nat.sub_zero, Nat.add_zero, decb h1, decb h2, dect h3]
        all_goals first | (rw [store, if_neg (by omega)]; done) | exact ⟨by rw [store, if_neg (by omega)], rfl⟩ | exact ⟨by rw [store, if_neg (by omega)], List.prefix_rfl⟩ | exact ⟨by rw [store, if_neg (by omega)], List.prefix_append _ _⟩ | exact ⟨by rw [store, if_neg (by omega)], by assumption⟩
    · simp only [go_sem, Nat.reduceBEq, Nat.reduceAdd, Nat.reduceMul, Nat.reduceSub, Nat.reduceLeDiff, Nat.le_refl, implies_true, Nat.reduceLT, reduceIte, decide_true, decide_false, true_and, and_true, reduceCtorEq, Nat.mul_one, Int.reduceToNat, Int.reduceLE, Int.reduceLT, Int.reduceAdd, Int.reduceSub, Int.reduceMul, Int.cast_ofNat_Int, cast_zero_int, cast_one_int, Nat.reducePow, Nat.reduceEqDiff, Nat.reduceMod, Nat.zero_add, Nat.sub_zero, Nat.add_zero, decb h1, dect h2]
      all_goals first | (rw [store, if_neg (by omega)]; done) | exact ⟨by rw [store, if_neg (by omega)], rfl⟩ | exact ⟨by rw [store, if_neg (by omega)], List.prefix_rfl⟩ | exact ⟨by rw [store, if_neg (by omega)], List.prefix_append _ _⟩ | exact ⟨by rw [store, if_neg (by omega)], by assumption⟩
  · simp only [go_sem, Nat.reduceBEq, Nat.reduceAdd, Nat.reduceMul, Nat.reduceSub, Nat.reduceLeDiff, Nat.le_refl, implies_true, Nat.reduceLT, reduceIte, decide_true, decide_false, true_and, and_true, reduceCtorEq, Nat.mul_one, Int.reduceToNat, Int.reduceLE, Int.reduceLT, Int.reduceAdd, Int.reduceSub, Int.reduceMul, Int.cast_ofNat_Int, cast_zero_int, cast_one_int, Nat.reducePow, Nat.reduceEqDiff, Nat.reduceMod, Nat.zero_add, Nat.sub_zero, Nat.add_zero, dect h1]
    all_goals first | (rw [store, if_neg (by omega)]; done) | exact ⟨by rw [store, if_neg (by omega)], rfl⟩ | exact ⟨by rw [store, if_neg (by omega)], List.prefix_rfl⟩ | exact ⟨by rw [store, if_neg (by omega)], List.prefix_append _ _⟩ | exact ⟨by rw [store, if_neg (by omega)], by assumption⟩

end
end Go.Proofs.Ytgipdicdbgdkbaa
