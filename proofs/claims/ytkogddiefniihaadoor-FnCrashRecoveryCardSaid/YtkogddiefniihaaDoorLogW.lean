
/- Laws about logs: both programs return the same. No condition. -/
import Derived.Test.YtkogddiefniihaaDoorLogF
import Derived.Test.YtkogddiefniihaaDoorH3
namespace Go.Proofs.YtkogddiefniihaaDoor
open Go.HH Go.Proofs
set_option linter.unusedSimpArgs false
set_option linter.unusedVariables false

theorem eqs {s : ByteArray} : (s.toList == s.toList) = true := beq_self_eq_true _

section
variable {G : List (Nat × Nat)} {h : Heap} {M : Nat → Prop}

theorem c_toLog (D P : ByteArray) (n : Int) : vCall [] Tryd.prog M 24 [.agg #[.string D, .string P, .int .i64 n]] h (fun v h' => v = .agg #[.string D, .string P, .int .i64 n] ∧ h <+: h') := by
  refine body_of mo Tryd.func24 rfl (by kernel_rfl) (Nat.le_of_ble_eq_true (by kernel_rfl)) rfl ?_
  simp only [go_sem, Nat.reduceBEq, Nat.reduceAdd, Nat.reduceMul, Nat.reduceSub, Nat.reduceLeDiff, Nat.le_refl, implies_true, Nat.reduceLT, reduceIte, decide_true, decide_false, true_and, and_true, reduceCtorEq, Nat.mul_one, Int.reduceToNat, Int.reduceLE, Int.reduceLT, Int.reduceAdd, Int.reduceSub, Int.reduceMul, Int.cast_ofNat_Int, cast_zero_int, cast_one_int, Nat.reducePow, Nat.reduceEqDiff, Nat.reduceMod, Nat.zero_add, Nat.sub_zero, Nat.add_zero]
  try all_goals first | exact rfl | exact ⟨rfl, rfl⟩ | exact List.prefix_append _ _ | exact ⟨rfl, List.prefix_append _ _⟩ | assumption | exact ⟨rfl, by assumption⟩ | exact List.prefix_rfl | exact ⟨rfl, List.prefix_rfl⟩ | exact List.IsPrefix.trans (by assumption) (by assumption) | exact ⟨rfl, List.IsPrefix.trans (by assumption) (by assumption)⟩
theorem c_szLog (D P : ByteArray) (k n : Int) (hk : 0 ≤ k ∧ k ≤ 1048576) (hD : D.size ≤ 9223372036854775807) (hP : P.size ≤ 9223372036854775807) : vCall [] Tryd.prog M 22 [.agg #[.string D, .string P, .int .i64 n], .int .i64 k] h
    (fun v h' => (v = .int .i64 (if k - D.size < 0 ∨ k - D.size - P.size < 0 then -1 else k - D.size - P.size)) ∧ h <+: h') := by
  refine body_of mo Tryd.func22 rfl (by kernel_rfl) (Nat.le_of_ble_eq_true (by kernel_rfl)) rfl ?_
  simp only [go_sem, Nat.reduceBEq, Nat.reduceAdd, Nat.reduceMul, Nat.reduceSub, Nat.reduceLeDiff, Nat.le_refl, implies_true, Nat.reduceLT, reduceIte, decide_true, decide_false, true_and, and_true, reduceCtorEq, Nat.mul_one, Int.reduceToNat, Int.reduceLE, Int.reduceLT, Int.reduceAdd, Int.reduceSub, Int.reduceMul, Int.cast_ofNat_Int, cast_zero_int, cast_one_int, Nat.reducePow, Nat.reduceEqDiff, Nat.reduceMod, Nat.zero_add, Nat.sub_zero, Nat.add_zero]
  rw [wrap64 (show _ ∧ _ by omega)]
  by_cases h1 : k - D.size < 0
  · simp only [go_sem, Nat.reduceBEq, Nat.reduceAdd, Nat.reduceMul, Nat.reduceSub, Nat.reduceLeDiff, Nat.le_refl, implies_true, Nat.reduceLT, reduceIte, decide_true, decide_false, true_and, and_true, reduceCtorEq, Nat.mul_one, Int.reduceToNat, Int.reduceLE, Int.reduceLT, Int.reduceAdd, Int.reduceSub, Int.reduceMul, Int.cast_ofNat_Int, cast_zero_int, cast_one_int, Nat.reducePow, Nat.reduceEqDiff, Nat.reduceMod, Nat.zero_add, Nat.sub_zero, Nat.add_zero, h1, true_or]
    try all_goals first | exact rfl | exact ⟨rfl, rfl⟩ | exact List.prefix_append _ _ | exact ⟨rfl, List.prefix_append _ _⟩ | assumption | exact ⟨rfl, by assumption⟩ | exact List.prefix_rfl | exact ⟨rfl, List.prefix_rfl⟩ | exact List.IsPrefix.trans (by assumption) (by assumption) | exact ⟨rfl, List.IsPrefix.trans (by assumption) (by assumption)⟩
  · simp only [go_sem, Nat.reduceBEq, Nat.reduceAdd, Nat.reduceMul, Nat.reduceSub, Nat.reduceLeDiff, Nat.le_refl, implies_true, Nat.reduceLT, reduceIte, decide_true, decide_false, true_and, and_true, reduceCtorEq, Nat.mul_one, Int.reduceToNat, Int.reduceLE, Int.reduceLT, Int.reduceAdd, Int.reduceSub, Int.reduceMul, Int.cast_ofNat_Int, cast_zero_int, cast_one_int, Nat.reducePow, Nat.reduceEqDiff, Nat.reduceMod, Nat.zero_add, Nat.sub_zero, Nat.add_zero, h1, false_or]
    rw [wrap64 (show _ ∧ _ by omega)]
    by_cases h2 : k - D.size - P.size < 0
    · simp only [go_sem, Nat.reduceBEq, Nat.reduceAdd, Nat.reduceMul, Nat.reduceSub, Nat.reduceLeDiff, Nat.le_refl, implies_true, Nat.reduceLT, reduceIte, decide_true, decide_false, true_and, and_true, reduceCtorEq, Nat.mul_one, Int.reduceToNat, Int.reduceLE, Int.reduceLT, Int.reduceAdd, Int.reduceSub, Int.reduceMul, Int.cast_ofNat_Int, cast_zero_int, cast_one_int, Nat.reducePow, Nat.reduceEqDiff, Nat.reduceMod, Nat.zero_add, Nat.sub_zero, Nat.add_zero, h2, or_true]
      try all_goals first | exact rfl | exact ⟨rfl, rfl⟩ | exact List.prefix_append _ _ | exact ⟨rfl, List.prefix_append _ _⟩ | assumption | exact ⟨rfl, by assumption⟩ | exact List.prefix_rfl | exact ⟨rfl, List.prefix_rfl⟩ | exact List.IsPrefix.trans (by assumption) (by assumption) | exact ⟨rfl, List.IsPrefix.trans (by assumption) (by assumption)⟩
    · simp only [go_sem, Nat.reduceBEq, Nat.reduceAdd, Nat.reduceMul, Nat.reduceSub, Nat.reduceLeDiff, Nat.le_refl, implies_true, Nat.reduceLT, reduceIte, decide_true, decide_false, true_and, and_true, reduceCtorEq, Nat.mul_one, Int.reduceToNat, Int.reduceLE, Int.reduceLT, Int.reduceAdd, Int.reduceSub, Int.reduceMul, Int.cast_ofNat_Int, cast_zero_int, cast_one_int, Nat.reducePow, Nat.reduceEqDiff, Nat.reduceMod, Nat.zero_add, Nat.sub_zero, Nat.add_zero, h2, h1, or_self]
      try all_goals first | exact rfl | exact ⟨rfl, rfl⟩ | exact List.prefix_append _ _ | exact ⟨rfl, List.prefix_append _ _⟩ | assumption | exact ⟨rfl, by assumption⟩ | exact List.prefix_rfl | exact ⟨rfl, List.prefix_rfl⟩ | exact List.IsPrefix.trans (by assumption) (by assumption) | exact ⟨rfl, List.IsPrefix.trans (by assumption) (by assumption)⟩
theorem c_eqLog (D P : ByteArray) (n : Int) : vCall [] Tryd.prog M 21 [.agg #[.string D, .string P, .int .i64 n], .agg #[.string D, .string P, .int .i64 n]] h (fun v h' => v = .bool true ∧ h <+: h') := by
  refine body_of mo Tryd.func21 rfl (by kernel_rfl) (Nat.le_of_ble_eq_true (by kernel_rfl)) rfl ?_
  simp only [go_sem, Nat.reduceBEq, Nat.reduceAdd, Nat.reduceMul, Nat.reduceSub, Nat.reduceLeDiff, Nat.le_refl, implies_true, Nat.reduceLT, reduceIte, decide_true, decide_false, true_and, and_true, reduceCtorEq, Nat.mul_one, Int.reduceToNat, Int.reduceLE, Int.reduceLT, Int.reduceAdd, Int.reduceSub, Int.reduceMul, Int.cast_ofNat_Int, cast_zero_int, cast_one_int, Nat.reducePow, Nat.reduceEqDiff, Nat.reduceMod, Nat.zero_add, Nat.sub_zero, Nat.add_zero, eqs, Bool.not_true, bne_self_eq_false]
  try all_goals first | exact rfl | exact ⟨rfl, rfl⟩ | exact List.prefix_append _ _ | exact ⟨rfl, List.prefix_append _ _⟩ | assumption | exact ⟨rfl, by assumption⟩ | exact List.prefix_rfl | exact ⟨rfl, List.prefix_rfl⟩ | exact List.IsPrefix.trans (by assumption) (by assumption) | exact ⟨rfl, List.IsPrefix.trans (by assumption) (by assumption)⟩

theorem c_szLogN (D P : ByteArray) (k n : Int) (hk : 0 ≤ k ∧ k ≤ 1048576) (hD : D.size ≤ 9223372036854775807) (hP : P.size ≤ 9223372036854775807) (hno : k < D.size + P.size) : vCall [] Tryd.prog M 22 [.agg #[.string D, .string P, .int .i64 n], .int .i64 k] h
    (fun v h' => v = .int .i64 (-1) ∧ h <+: h') := by
  refine (c_szLog D P k n hk hD hP).use (fun _ m => m) ?_
  rintro _ _ ⟨rfl, hp⟩
  rw [if_pos (by omega)]
  exact ⟨rfl, hp⟩
theorem c_szLogY (D P : ByteArray) (k n : Int) (hk : 0 ≤ k ∧ k ≤ 1048576) (hD : D.size ≤ 9223372036854775807) (hP : P.size ≤ 9223372036854775807) (hok : ¬ k < D.size + P.size) : vCall [] Tryd.prog M 22 [.agg #[.string D, .string P, .int .i64 n], .int .i64 k] h
    (fun v h' => v = .int .i64 (k - D.size - P.size) ∧ h <+: h') := by
  refine (c_szLog D P k n hk hD hP).use (fun _ m => m) ?_
  rintro _ _ ⟨rfl, hp⟩
  rw [if_neg (by omega)]
  exact ⟨rfl, hp⟩
theorem c_szRecN (c r : ByteArray) (n : Int) (hn : 0 ≤ n ∧ n ≤ 1048576) (hc : c.size ≤ 9223372036854775807) (hr : r.size ≤ 9223372036854775807) (hno : n < c.size + r.size) : vCall [] Tryd.prog M 15 [.agg #[.string c, .string r], .int .i64 n] h
    (fun v h' => v = .int .i64 (-1) ∧ h <+: h') := by
  refine (c_szLogRecord c r n hn hc hr).use (fun _ m => m) ?_
  rintro _ _ ⟨rfl, hp⟩
  rw [if_pos (by omega)]
  exact ⟨rfl, hp⟩
theorem c_szRecY (c r : ByteArray) (n : Int) (hn : 0 ≤ n ∧ n ≤ 1048576) (hc : c.size ≤ 9223372036854775807) (hr : r.size ≤ 9223372036854775807) (hok : ¬ n < c.size + r.size) : vCall [] Tryd.prog M 15 [.agg #[.string c, .string r], .int .i64 n] h
    (fun v h' => v = .int .i64 (n - c.size - r.size) ∧ h <+: h') := by
  refine (c_szLogRecord c r n hn hc hr).use (fun _ m => m) ?_
  rintro _ _ ⟨rfl, hp⟩
  rw [if_neg (by omega)]
  exact ⟨rfl, hp⟩
theorem c_sIsValidLog (D P : ByteArray) (n : Int) (hz : D.size + P.size ≤ 9000000) : vCall [] Tryd.prog M 23 [.agg #[.string D, .string P, .int .i64 n]] h (fun r h' => r = .bool (decide (logOk (bl D) (bl P) n)) ∧ h <+: h') := by
  refine body_of mo Tryd.func23 rfl (by kernel_rfl) (Nat.le_of_ble_eq_true (by kernel_rfl)) rfl ?_
  simp only [go_sem, Nat.reduceBEq, Nat.reduceAdd, Nat.reduceMul, Nat.reduceSub, Nat.reduceLeDiff, Nat.le_refl, implies_true, Nat.reduceLT, reduceIte, decide_true, decide_false, true_and, and_true, reduceCtorEq, Nat.mul_one, Int.reduceToNat, Int.reduceLE, Int.reduceLT, Int.reduceAdd, Int.reduceSub, Int.reduceMul, Int.cast_ofNat_Int, cast_zero_int, cast_one_int, Nat.reducePow, Nat.reduceEqDiff, Nat.reduceMod, Nat.zero_add, Nat.sub_zero, Nat.add_zero]
  refine ⟨by kernel_rfl, (c_l27Log D P n hz).use (fun _ m => m) ?_⟩
  rintro _ _ ⟨rfl, ⟨t, rfl⟩⟩
  simp only [go_sem, Nat.reduceBEq, Nat.reduceAdd, Nat.reduceMul, Nat.reduceSub, Nat.reduceLeDiff, Nat.le_refl, implies_true, Nat.reduceLT, reduceIte, decide_true, decide_false, true_and, and_true, reduceCtorEq, Nat.mul_one, Int.reduceToNat, Int.reduceLE, Int.reduceLT, Int.reduceAdd, Int.reduceSub, Int.reduceMul, Int.cast_ofNat_Int, cast_zero_int, cast_one_int, Nat.reducePow, Nat.reduceEqDiff, Nat.reduceMod, Nat.zero_add, Nat.sub_zero, Nat.add_zero]
  try all_goals first | exact rfl | exact ⟨rfl, rfl⟩ | exact List.prefix_append _ _ | exact ⟨rfl, List.prefix_append _ _⟩ | assumption | exact ⟨rfl, by assumption⟩ | exact List.prefix_rfl | exact ⟨rfl, List.prefix_rfl⟩ | exact List.IsPrefix.trans (by assumption) (by assumption) | exact ⟨rfl, List.IsPrefix.trans (by assumption) (by assumption)⟩

theorem l_IsValidLog (pw : PowAt G h) (D P : ByteArray) (n : Int) (hD : D.size ≤ 9223372036854775807) (hP : P.size ≤ 9223372036854775807) : vCall G Tryd.prog M 5 [.agg #[.string D, .string P, .int .i64 n]] h (fun v h' => v = .bool true) := by
  refine body_of mo Tryd.func5 rfl (by kernel_rfl) (Nat.le_of_ble_eq_true (by kernel_rfl)) rfl ?_
  simp only [go_sem, Nat.reduceBEq, Nat.reduceAdd, Nat.reduceMul, Nat.reduceSub, Nat.reduceLeDiff, Nat.le_refl, implies_true, Nat.reduceLT, reduceIte, decide_true, decide_false, true_and, and_true, reduceCtorEq, Nat.mul_one, Int.reduceToNat, Int.reduceLE, Int.reduceLT, Int.reduceAdd, Int.reduceSub, Int.reduceMul, Int.cast_ofNat_Int, cast_zero_int, cast_one_int, Nat.reducePow, Nat.reduceEqDiff, Nat.reduceMod, Nat.zero_add, Nat.sub_zero, Nat.add_zero]
  by_cases h1 : (1048576 : Int) < D.size + P.size
  · refine ⟨by kernel_rfl, ((c_szLogN D P _ n (by omega) hD hP h1).addG).use (fun _ m => m) ?_⟩
    rintro _ _ ⟨rfl, ⟨t, rfl⟩⟩
    simp only [go_sem, Nat.reduceBEq, Nat.reduceAdd, Nat.reduceMul, Nat.reduceSub, Nat.reduceLeDiff, Nat.le_refl, implies_true, Nat.reduceLT, reduceIte, decide_true, decide_false, true_and, and_true, reduceCtorEq, Nat.mul_one, Int.reduceToNat, Int.reduceLE, Int.reduceLT, Int.reduceAdd, Int.reduceSub, Int.reduceMul, Int.cast_ofNat_Int, cast_zero_int, cast_one_int, Nat.reducePow, Nat.reduceEqDiff, Nat.reduceMod, Nat.zero_add, Nat.sub_zero, Nat.add_zero]
  · refine ⟨by kernel_rfl, ((c_szLogY D P _ n (by omega) hD hP h1).addG).use (fun _ m => m) ?_⟩
    rintro _ _ ⟨rfl, ⟨t, rfl⟩⟩
    simp only [go_sem, Nat.reduceBEq, Nat.reduceAdd, Nat.reduceMul, Nat.reduceSub, Nat.reduceLeDiff, Nat.le_refl, implies_true, Nat.reduceLT, reduceIte, decide_true, decide_false, true_and, and_true, reduceCtorEq, Nat.mul_one, Int.reduceToNat, Int.reduceLE, Int.reduceLT, Int.reduceAdd, Int.reduceSub, Int.reduceMul, Int.cast_ofNat_Int, cast_zero_int, cast_one_int, Nat.reducePow, Nat.reduceEqDiff, Nat.reduceMod, Nat.zero_add, Nat.sub_zero, Nat.add_zero, show ¬ ((1048576 : Int) - D.size - P.size < 0) by omega]
    refine ⟨by kernel_rfl, ((c_toLog D P n).addG).use (fun _ m => m) ?_⟩
    rintro _ _ ⟨rfl, ⟨t1, rfl⟩⟩
    try simp only [go_sem, Nat.reduceBEq, Nat.reduceAdd, Nat.reduceMul, Nat.reduceSub, Nat.reduceLeDiff, Nat.le_refl, implies_true, Nat.reduceLT, reduceIte, decide_true, decide_false, true_and, and_true, reduceCtorEq, Nat.mul_one, Int.reduceToNat, Int.reduceLE, Int.reduceLT, Int.reduceAdd, Int.reduceSub, Int.reduceMul, Int.cast_ofNat_Int, cast_zero_int, cast_one_int, Nat.reducePow, Nat.reduceEqDiff, Nat.reduceMod, Nat.zero_add, Nat.sub_zero, Nat.add_zero]
    refine ⟨by kernel_rfl, ((c_sIsValidLog D P n (by omega)).addG).use (fun _ m => m) ?_⟩
    rintro _ _ ⟨rfl, ⟨t2, rfl⟩⟩
    try simp only [go_sem, Nat.reduceBEq, Nat.reduceAdd, Nat.reduceMul, Nat.reduceSub, Nat.reduceLeDiff, Nat.le_refl, implies_true, Nat.reduceLT, reduceIte, decide_true, decide_false, true_and, and_true, reduceCtorEq, Nat.mul_one, Int.reduceToNat, Int.reduceLE, Int.reduceLT, Int.reduceAdd, Int.reduceSub, Int.reduceMul, Int.cast_ofNat_Int, cast_zero_int, cast_one_int, Nat.reducePow, Nat.reduceEqDiff, Nat.reduceMod, Nat.zero_add, Nat.sub_zero, Nat.add_zero]
    refine ⟨by kernel_rfl, ((c_toLog D P n).addG).use (fun _ m => m) ?_⟩
    rintro _ _ ⟨rfl, ⟨t3, rfl⟩⟩
    try simp only [go_sem, Nat.reduceBEq, Nat.reduceAdd, Nat.reduceMul, Nat.reduceSub, Nat.reduceLeDiff, Nat.le_refl, implies_true, Nat.reduceLT, reduceIte, decide_true, decide_false, true_and, and_true, reduceCtorEq, Nat.mul_one, Int.reduceToNat, Int.reduceLE, Int.reduceLT, Int.reduceAdd, Int.reduceSub, Int.reduceMul, Int.cast_ofNat_Int, cast_zero_int, cast_one_int, Nat.reducePow, Nat.reduceEqDiff, Nat.reduceMod, Nat.zero_add, Nat.sub_zero, Nat.add_zero]
    refine ⟨by kernel_rfl, (c_IsValidLog (pw.mono (by simp)) D P n (by omega)).use (fun _ m => m) ?_⟩
    rintro _ _ ⟨rfl, ⟨t4, rfl⟩⟩
    simp only [go_sem, Nat.reduceBEq, Nat.reduceAdd, Nat.reduceMul, Nat.reduceSub, Nat.reduceLeDiff, Nat.le_refl, implies_true, Nat.reduceLT, reduceIte, decide_true, decide_false, true_and, and_true, reduceCtorEq, Nat.mul_one, Int.reduceToNat, Int.reduceLE, Int.reduceLT, Int.reduceAdd, Int.reduceSub, Int.reduceMul, Int.cast_ofNat_Int, cast_zero_int, cast_one_int, Nat.reducePow, Nat.reduceEqDiff, Nat.reduceMod, Nat.zero_add, Nat.sub_zero, Nat.add_zero, bne_self_eq_false]

theorem syncV_shape (D P : ByteArray) (n : Int) : ∃ a b c g, syncV D P n = .tuple #[.agg #[.string a, .string b, .int .i64 c], .bool g] := by
  unfold syncV
  split <;> exact ⟨_, _, _, _, rfl⟩
theorem l_SyncLog (pw : PowAt G h) (D P : ByteArray) (n : Int) (hD : D.size ≤ 9223372036854775807) (hP : P.size ≤ 9223372036854775807) : vCall G Tryd.prog M 7 [.agg #[.string D, .string P, .int .i64 n]] h (fun v h' => v = .bool true) := by
  obtain ⟨a, b, c, g, hs⟩ := syncV_shape D P n
  refine body_of mo Tryd.func7 rfl (by kernel_rfl) (Nat.le_of_ble_eq_true (by kernel_rfl)) rfl ?_
  simp only [go_sem, Nat.reduceBEq, Nat.reduceAdd, Nat.reduceMul, Nat.reduceSub, Nat.reduceLeDiff, Nat.le_refl, implies_true, Nat.reduceLT, reduceIte, decide_true, decide_false, true_and, and_true, reduceCtorEq, Nat.mul_one, Int.reduceToNat, Int.reduceLE, Int.reduceLT, Int.reduceAdd, Int.reduceSub, Int.reduceMul, Int.cast_ofNat_Int, cast_zero_int, cast_one_int, Nat.reducePow, Nat.reduceEqDiff, Nat.reduceMod, Nat.zero_add, Nat.sub_zero, Nat.add_zero]
  by_cases h1 : (1048576 : Int) < D.size + P.size
  · refine ⟨by kernel_rfl, ((c_szLogN D P _ n (by omega) hD hP h1).addG).use (fun _ m => m) ?_⟩
    rintro _ _ ⟨rfl, ⟨t, rfl⟩⟩
    simp only [go_sem, Nat.reduceBEq, Nat.reduceAdd, Nat.reduceMul, Nat.reduceSub, Nat.reduceLeDiff, Nat.le_refl, implies_true, Nat.reduceLT, reduceIte, decide_true, decide_false, true_and, and_true, reduceCtorEq, Nat.mul_one, Int.reduceToNat, Int.reduceLE, Int.reduceLT, Int.reduceAdd, Int.reduceSub, Int.reduceMul, Int.cast_ofNat_Int, cast_zero_int, cast_one_int, Nat.reducePow, Nat.reduceEqDiff, Nat.reduceMod, Nat.zero_add, Nat.sub_zero, Nat.add_zero]
  · refine ⟨by kernel_rfl, ((c_szLogY D P _ n (by omega) hD hP h1).addG).use (fun _ m => m) ?_⟩
    rintro _ _ ⟨rfl, ⟨t, rfl⟩⟩
    simp only [go_sem, Nat.reduceBEq, Nat.reduceAdd, Nat.reduceMul, Nat.reduceSub, Nat.reduceLeDiff, Nat.le_refl, implies_true, Nat.reduceLT, reduceIte, decide_true, decide_false, true_and, and_true, reduceCtorEq, Nat.mul_one, Int.reduceToNat, Int.reduceLE, Int.reduceLT, Int.reduceAdd, Int.reduceSub, Int.reduceMul, Int.cast_ofNat_Int, cast_zero_int, cast_one_int, Nat.reducePow, Nat.reduceEqDiff, Nat.reduceMod, Nat.zero_add, Nat.sub_zero, Nat.add_zero, show ¬ ((1048576 : Int) - D.size - P.size < 0) by omega]
    refine ⟨by kernel_rfl, ((c_toLog D P n).addG).use (fun _ m => m) ?_⟩
    rintro _ _ ⟨rfl, ⟨t1, rfl⟩⟩
    try simp only [go_sem, Nat.reduceBEq, Nat.reduceAdd, Nat.reduceMul, Nat.reduceSub, Nat.reduceLeDiff, Nat.le_refl, implies_true, Nat.reduceLT, reduceIte, decide_true, decide_false, true_and, and_true, reduceCtorEq, Nat.mul_one, Int.reduceToNat, Int.reduceLE, Int.reduceLT, Int.reduceAdd, Int.reduceSub, Int.reduceMul, Int.cast_ofNat_Int, cast_zero_int, cast_one_int, Nat.reducePow, Nat.reduceEqDiff, Nat.reduceMod, Nat.zero_add, Nat.sub_zero, Nat.add_zero]
    refine ⟨by kernel_rfl, ((c_sSyncLog D P n (by omega)).addG).use (fun _ m => m) ?_⟩
    rintro _ _ ⟨rfl, ⟨t2, rfl⟩⟩
    rw [hs]
    try simp only [go_sem, Nat.reduceBEq, Nat.reduceAdd, Nat.reduceMul, Nat.reduceSub, Nat.reduceLeDiff, Nat.le_refl, implies_true, Nat.reduceLT, reduceIte, decide_true, decide_false, true_and, and_true, reduceCtorEq, Nat.mul_one, Int.reduceToNat, Int.reduceLE, Int.reduceLT, Int.reduceAdd, Int.reduceSub, Int.reduceMul, Int.cast_ofNat_Int, cast_zero_int, cast_one_int, Nat.reducePow, Nat.reduceEqDiff, Nat.reduceMod, Nat.zero_add, Nat.sub_zero, Nat.add_zero]
    refine ⟨by kernel_rfl, ((c_toLog D P n).addG).use (fun _ m => m) ?_⟩
    rintro _ _ ⟨rfl, ⟨t3, rfl⟩⟩
    try simp only [go_sem, Nat.reduceBEq, Nat.reduceAdd, Nat.reduceMul, Nat.reduceSub, Nat.reduceLeDiff, Nat.le_refl, implies_true, Nat.reduceLT, reduceIte, decide_true, decide_false, true_and, and_true, reduceCtorEq, Nat.mul_one, Int.reduceToNat, Int.reduceLE, Int.reduceLT, Int.reduceAdd, Int.reduceSub, Int.reduceMul, Int.cast_ofNat_Int, cast_zero_int, cast_one_int, Nat.reducePow, Nat.reduceEqDiff, Nat.reduceMod, Nat.zero_add, Nat.sub_zero, Nat.add_zero]
    refine ⟨by kernel_rfl, (c_SyncLog (pw.mono (by simp)) D P n (by omega)).use (fun _ m => m) ?_⟩
    rintro _ _ ⟨rfl, ⟨t4, rfl⟩⟩
    rw [hs]
    simp only [go_sem, Nat.reduceBEq, Nat.reduceAdd, Nat.reduceMul, Nat.reduceSub, Nat.reduceLeDiff, Nat.le_refl, implies_true, Nat.reduceLT, reduceIte, decide_true, decide_false, true_and, and_true, reduceCtorEq, Nat.mul_one, Int.reduceToNat, Int.reduceLE, Int.reduceLT, Int.reduceAdd, Int.reduceSub, Int.reduceMul, Int.cast_ofNat_Int, cast_zero_int, cast_one_int, Nat.reducePow, Nat.reduceEqDiff, Nat.reduceMod, Nat.zero_add, Nat.sub_zero, Nat.add_zero]
    refine ⟨by kernel_rfl, ((c_eqLog a b c).addG).use (fun _ m => m) ?_⟩
    rintro _ _ ⟨rfl, ⟨t5, rfl⟩⟩
    simp only [go_sem, Nat.reduceBEq, Nat.reduceAdd, Nat.reduceMul, Nat.reduceSub, Nat.reduceLeDiff, Nat.le_refl, implies_true, Nat.reduceLT, reduceIte, decide_true, decide_false, true_and, and_true, reduceCtorEq, Nat.mul_one, Int.reduceToNat, Int.reduceLE, Int.reduceLT, Int.reduceAdd, Int.reduceSub, Int.reduceMul, Int.cast_ofNat_Int, cast_zero_int, cast_one_int, Nat.reducePow, Nat.reduceEqDiff, Nat.reduceMod, Nat.zero_add, Nat.sub_zero, Nat.add_zero, bne_self_eq_false]

theorem encV_shape (k : Int) (c r : ByteArray) : ∃ a g, encV k c r = .tuple #[.string a, .bool g] := by
  unfold encV
  split <;> exact ⟨_, _, rfl⟩
theorem l_EncodeRecord (pw : PowAt G h) (k : Int) (c r : ByteArray) (hc : c.size ≤ 9223372036854775807) (hr : r.size ≤ 9223372036854775807) : vCall G Tryd.prog M 3 [.int .i64 k, .agg #[.string c, .string r]] h (fun v h' => v = .bool true) := by
  obtain ⟨a, g, hs⟩ := encV_shape k c r
  refine body_of mo Tryd.func3 rfl (by kernel_rfl) (Nat.le_of_ble_eq_true (by kernel_rfl)) rfl ?_
  simp only [go_sem, Nat.reduceBEq, Nat.reduceAdd, Nat.reduceMul, Nat.reduceSub, Nat.reduceLeDiff, Nat.le_refl, implies_true, Nat.reduceLT, reduceIte, decide_true, decide_false, true_and, and_true, reduceCtorEq, Nat.mul_one, Int.reduceToNat, Int.reduceLE, Int.reduceLT, Int.reduceAdd, Int.reduceSub, Int.reduceMul, Int.cast_ofNat_Int, cast_zero_int, cast_one_int, Nat.reducePow, Nat.reduceEqDiff, Nat.reduceMod, Nat.zero_add, Nat.sub_zero, Nat.add_zero]
  by_cases h1 : (1048576 : Int) < c.size + r.size
  · refine ⟨by kernel_rfl, ((c_szRecN c r _ (by omega) hc hr h1).addG).use (fun _ m => m) ?_⟩
    rintro _ _ ⟨rfl, ⟨t, rfl⟩⟩
    simp only [go_sem, Nat.reduceBEq, Nat.reduceAdd, Nat.reduceMul, Nat.reduceSub, Nat.reduceLeDiff, Nat.le_refl, implies_true, Nat.reduceLT, reduceIte, decide_true, decide_false, true_and, and_true, reduceCtorEq, Nat.mul_one, Int.reduceToNat, Int.reduceLE, Int.reduceLT, Int.reduceAdd, Int.reduceSub, Int.reduceMul, Int.cast_ofNat_Int, cast_zero_int, cast_one_int, Nat.reducePow, Nat.reduceEqDiff, Nat.reduceMod, Nat.zero_add, Nat.sub_zero, Nat.add_zero]
  · refine ⟨by kernel_rfl, ((c_szRecY c r _ (by omega) hc hr h1).addG).use (fun _ m => m) ?_⟩
    rintro _ _ ⟨rfl, ⟨t, rfl⟩⟩
    simp only [go_sem, Nat.reduceBEq, Nat.reduceAdd, Nat.reduceMul, Nat.reduceSub, Nat.reduceLeDiff, Nat.le_refl, implies_true, Nat.reduceLT, reduceIte, decide_true, decide_false, true_and, and_true, reduceCtorEq, Nat.mul_one, Int.reduceToNat, Int.reduceLE, Int.reduceLT, Int.reduceAdd, Int.reduceSub, Int.reduceMul, Int.cast_ofNat_Int, cast_zero_int, cast_one_int, Nat.reducePow, Nat.reduceEqDiff, Nat.reduceMod, Nat.zero_add, Nat.sub_zero, Nat.add_zero, show ¬ ((1048576 : Int) - c.size - r.size < 0) by omega]
    refine ⟨by kernel_rfl, ((c_toLogRecord c r).addG).use (fun _ m => m) ?_⟩
    rintro _ _ ⟨rfl, ⟨t1, rfl⟩⟩
    try simp only [go_sem, Nat.reduceBEq, Nat.reduceAdd, Nat.reduceMul, Nat.reduceSub, Nat.reduceLeDiff, Nat.le_refl, implies_true, Nat.reduceLT, reduceIte, decide_true, decide_false, true_and, and_true, reduceCtorEq, Nat.mul_one, Int.reduceToNat, Int.reduceLE, Int.reduceLT, Int.reduceAdd, Int.reduceSub, Int.reduceMul, Int.cast_ofNat_Int, cast_zero_int, cast_one_int, Nat.reducePow, Nat.reduceEqDiff, Nat.reduceMod, Nat.zero_add, Nat.sub_zero, Nat.add_zero]
    refine ⟨by kernel_rfl, ((c_sEncodeRecord k c r (by omega) (by omega)).addG).use (fun _ m => m) ?_⟩
    rintro _ _ ⟨rfl, ⟨t2, rfl⟩⟩
    rw [hs]
    try simp only [go_sem, Nat.reduceBEq, Nat.reduceAdd, Nat.reduceMul, Nat.reduceSub, Nat.reduceLeDiff, Nat.le_refl, implies_true, Nat.reduceLT, reduceIte, decide_true, decide_false, true_and, and_true, reduceCtorEq, Nat.mul_one, Int.reduceToNat, Int.reduceLE, Int.reduceLT, Int.reduceAdd, Int.reduceSub, Int.reduceMul, Int.cast_ofNat_Int, cast_zero_int, cast_one_int, Nat.reducePow, Nat.reduceEqDiff, Nat.reduceMod, Nat.zero_add, Nat.sub_zero, Nat.add_zero]
    refine ⟨by kernel_rfl, ((c_toLogRecord c r).addG).use (fun _ m => m) ?_⟩
    rintro _ _ ⟨rfl, ⟨t3, rfl⟩⟩
    try simp only [go_sem, Nat.reduceBEq, Nat.reduceAdd, Nat.reduceMul, Nat.reduceSub, Nat.reduceLeDiff, Nat.le_refl, implies_true, Nat.reduceLT, reduceIte, decide_true, decide_false, true_and, and_true, reduceCtorEq, Nat.mul_one, Int.reduceToNat, Int.reduceLE, Int.reduceLT, Int.reduceAdd, Int.reduceSub, Int.reduceMul, Int.cast_ofNat_Int, cast_zero_int, cast_one_int, Nat.reducePow, Nat.reduceEqDiff, Nat.reduceMod, Nat.zero_add, Nat.sub_zero, Nat.add_zero]
    refine ⟨by kernel_rfl, (c_EncodeRecord (pw.mono (by simp)) k c r (by omega) (by omega)).use (fun _ m => m) ?_⟩
    rintro _ _ ⟨rfl, ⟨t4, rfl⟩⟩
    rw [hs]
    simp only [go_sem, Nat.reduceBEq, Nat.reduceAdd, Nat.reduceMul, Nat.reduceSub, Nat.reduceLeDiff, Nat.le_refl, implies_true, Nat.reduceLT, reduceIte, decide_true, decide_false, true_and, and_true, reduceCtorEq, Nat.mul_one, Int.reduceToNat, Int.reduceLE, Int.reduceLT, Int.reduceAdd, Int.reduceSub, Int.reduceMul, Int.cast_ofNat_Int, cast_zero_int, cast_one_int, Nat.reducePow, Nat.reduceEqDiff, Nat.reduceMod, Nat.zero_add, Nat.sub_zero, Nat.add_zero, eqs, Bool.not_true, bne_self_eq_false]

theorem recoV_shape (s : ByteArray) : ∃ a b c n g, recoV s = .tuple #[.agg #[.string a, .string b, .int .i64 c], .int .i64 n, .bool g] := by
  unfold recoV
  split <;> exact ⟨_, _, _, _, _, rfl⟩
theorem l_RecoverLog (pw : PowAt G h) (s : ByteArray) (hs : s.size ≤ 9223372036854775807) : vCall G Tryd.prog M 4 [.string s] h (fun v h' => v = .bool true) := by
  obtain ⟨a, b, c, n, g, hv⟩ := recoV_shape s
  refine body_of mo Tryd.func4 rfl (by kernel_rfl) (Nat.le_of_ble_eq_true (by kernel_rfl)) rfl ?_
  by_cases h1 : (1048576 : Int) < s.size
  · simp only [go_sem, Nat.reduceBEq, Nat.reduceAdd, Nat.reduceMul, Nat.reduceSub, Nat.reduceLeDiff, Nat.le_refl, implies_true, Nat.reduceLT, reduceIte, decide_true, decide_false, true_and, and_true, reduceCtorEq, Nat.mul_one, Int.reduceToNat, Int.reduceLE, Int.reduceLT, Int.reduceAdd, Int.reduceSub, Int.reduceMul, Int.cast_ofNat_Int, cast_zero_int, cast_one_int, Nat.reducePow, Nat.reduceEqDiff, Nat.reduceMod, Nat.zero_add, Nat.sub_zero, Nat.add_zero, h1]
  · simp only [go_sem, Nat.reduceBEq, Nat.reduceAdd, Nat.reduceMul, Nat.reduceSub, Nat.reduceLeDiff, Nat.le_refl, implies_true, Nat.reduceLT, reduceIte, decide_true, decide_false, true_and, and_true, reduceCtorEq, Nat.mul_one, Int.reduceToNat, Int.reduceLE, Int.reduceLT, Int.reduceAdd, Int.reduceSub, Int.reduceMul, Int.cast_ofNat_Int, cast_zero_int, cast_one_int, Nat.reducePow, Nat.reduceEqDiff, Nat.reduceMod, Nat.zero_add, Nat.sub_zero, Nat.add_zero, h1]
    refine ⟨by kernel_rfl, ((c_sRecoverLog s (by omega)).addG).use (fun _ m => m) ?_⟩
    rintro _ _ ⟨rfl, ⟨t1, rfl⟩⟩
    rw [hv]
    try simp only [go_sem, Nat.reduceBEq, Nat.reduceAdd, Nat.reduceMul, Nat.reduceSub, Nat.reduceLeDiff, Nat.le_refl, implies_true, Nat.reduceLT, reduceIte, decide_true, decide_false, true_and, and_true, reduceCtorEq, Nat.mul_one, Int.reduceToNat, Int.reduceLE, Int.reduceLT, Int.reduceAdd, Int.reduceSub, Int.reduceMul, Int.cast_ofNat_Int, cast_zero_int, cast_one_int, Nat.reducePow, Nat.reduceEqDiff, Nat.reduceMod, Nat.zero_add, Nat.sub_zero, Nat.add_zero]
    refine ⟨by kernel_rfl, (c_RecoverLog (pw.mono (by simp)) s (by omega)).use (fun _ m => m) ?_⟩
    rintro _ _ ⟨rfl, ⟨t2, rfl⟩⟩
    rw [hv]
    simp only [go_sem, Nat.reduceBEq, Nat.reduceAdd, Nat.reduceMul, Nat.reduceSub, Nat.reduceLeDiff, Nat.le_refl, implies_true, Nat.reduceLT, reduceIte, decide_true, decide_false, true_and, and_true, reduceCtorEq, Nat.mul_one, Int.reduceToNat, Int.reduceLE, Int.reduceLT, Int.reduceAdd, Int.reduceSub, Int.reduceMul, Int.cast_ofNat_Int, cast_zero_int, cast_one_int, Nat.reducePow, Nat.reduceEqDiff, Nat.reduceMod, Nat.zero_add, Nat.sub_zero, Nat.add_zero]
    refine ⟨by kernel_rfl, ((c_eqLog a b c).addG).use (fun _ m => m) ?_⟩
    rintro _ _ ⟨rfl, ⟨t5, rfl⟩⟩
    simp only [go_sem, Nat.reduceBEq, Nat.reduceAdd, Nat.reduceMul, Nat.reduceSub, Nat.reduceLeDiff, Nat.le_refl, implies_true, Nat.reduceLT, reduceIte, decide_true, decide_false, true_and, and_true, reduceCtorEq, Nat.mul_one, Int.reduceToNat, Int.reduceLE, Int.reduceLT, Int.reduceAdd, Int.reduceSub, Int.reduceMul, Int.cast_ofNat_Int, cast_zero_int, cast_one_int, Nat.reducePow, Nat.reduceEqDiff, Nat.reduceMod, Nat.zero_add, Nat.sub_zero, Nat.add_zero, bne_self_eq_false]

theorem appV_shape (D P : ByteArray) (n : Int) (c r : ByteArray) : ∃ a b m g, appV D P n c r = .tuple #[.agg #[.string a, .string b, .int .i64 m], .int .i64 g] := by
  unfold appV
  split
  · split <;> exact ⟨_, _, _, _, rfl⟩
  · exact ⟨_, _, _, _, rfl⟩
theorem l_AppendRecord (pw : PowAt G h) (D P : ByteArray) (n : Int) (c r : ByteArray) (hD : D.size ≤ 9223372036854775807) (hP : P.size ≤ 9223372036854775807) (hc : c.size ≤ 9223372036854775807) (hr : r.size ≤ 9223372036854775807) :
    vCall G Tryd.prog M 8 [.agg #[.string D, .string P, .int .i64 n], .agg #[.string c, .string r]] h (fun v h' => v = .bool true) := by
  obtain ⟨a, b, m, g, hv⟩ := appV_shape D P n c r
  refine body_ofR ([(8,[]),(9,[])]) mo Tryd.func8 rfl (by kernel_rfl) (Nat.le_of_ble_eq_true (by kernel_rfl)) rfl ?_
  simp only [go_sem, Nat.reduceBEq, Nat.reduceAdd, Nat.reduceMul, Nat.reduceSub, Nat.reduceLeDiff, Nat.le_refl, implies_true, Nat.reduceLT, reduceIte, decide_true, decide_false, true_and, and_true, reduceCtorEq, Nat.mul_one, Int.reduceToNat, Int.reduceLE, Int.reduceLT, Int.reduceAdd, Int.reduceSub, Int.reduceMul, Int.cast_ofNat_Int, cast_zero_int, cast_one_int, Nat.reducePow, Nat.reduceEqDiff, Nat.reduceMod, Nat.zero_add, Nat.sub_zero, Nat.add_zero]
  by_cases h1 : (1048576 : Int) < D.size + P.size
  · refine ⟨by kernel_rfl, ((c_szLogN D P _ n (by omega) hD hP h1).addG).use (fun _ m => m) ?_⟩
    rintro _ _ ⟨rfl, ⟨t, rfl⟩⟩
    simp only [go_sem, Nat.reduceBEq, Nat.reduceAdd, Nat.reduceMul, Nat.reduceSub, Nat.reduceLeDiff, Nat.le_refl, implies_true, Nat.reduceLT, reduceIte, decide_true, decide_false, true_and, and_true, reduceCtorEq, Nat.mul_one, Int.reduceToNat, Int.reduceLE, Int.reduceLT, Int.reduceAdd, Int.reduceSub, Int.reduceMul, Int.cast_ofNat_Int, cast_zero_int, cast_one_int, Nat.reducePow, Nat.reduceEqDiff, Nat.reduceMod, Nat.zero_add, Nat.sub_zero, Nat.add_zero]
  · refine ⟨by kernel_rfl, ((c_szLogY D P _ n (by omega) hD hP h1).addG).use (fun _ m => m) ?_⟩
    rintro _ _ ⟨rfl, ⟨t, rfl⟩⟩
    simp only [go_sem, Nat.reduceBEq, Nat.reduceAdd, Nat.reduceMul, Nat.reduceSub, Nat.reduceLeDiff, Nat.le_refl, implies_true, Nat.reduceLT, reduceIte, decide_true, decide_false, true_and, and_true, reduceCtorEq, Nat.mul_one, Int.reduceToNat, Int.reduceLE, Int.reduceLT, Int.reduceAdd, Int.reduceSub, Int.reduceMul, Int.cast_ofNat_Int, cast_zero_int, cast_one_int, Nat.reducePow, Nat.reduceEqDiff, Nat.reduceMod, Nat.zero_add, Nat.sub_zero, Nat.add_zero, show ¬ ((1048576 : Int) - D.size - P.size < 0) by omega]
    by_cases h2 : (1048576 : Int) - D.size - P.size < c.size + r.size
    · refine ⟨by kernel_rfl, ((c_szRecN c r _ (by omega) hc hr h2).addG).use (fun _ m => m) ?_⟩
      rintro _ _ ⟨rfl, ⟨t, rfl⟩⟩
      simp only [go_sem, Nat.reduceBEq, Nat.reduceAdd, Nat.reduceMul, Nat.reduceSub, Nat.reduceLeDiff, Nat.le_refl, implies_true, Nat.reduceLT, reduceIte, decide_true, decide_false, true_and, and_true, reduceCtorEq, Nat.mul_one, Int.reduceToNat, Int.reduceLE, Int.reduceLT, Int.reduceAdd, Int.reduceSub, Int.reduceMul, Int.cast_ofNat_Int, cast_zero_int, cast_one_int, Nat.reducePow, Nat.reduceEqDiff, Nat.reduceMod, Nat.zero_add, Nat.sub_zero, Nat.add_zero]
    · refine ⟨by kernel_rfl, ((c_szRecY c r _ (by omega) hc hr h2).addG).use (fun _ m => m) ?_⟩
      rintro _ _ ⟨rfl, ⟨t, rfl⟩⟩
      simp only [go_sem, Nat.reduceBEq, Nat.reduceAdd, Nat.reduceMul, Nat.reduceSub, Nat.reduceLeDiff, Nat.le_refl, implies_true, Nat.reduceLT, reduceIte, decide_true, decide_false, true_and, and_true, reduceCtorEq, Nat.mul_one, Int.reduceToNat, Int.reduceLE, Int.reduceLT, Int.reduceAdd, Int.reduceSub, Int.reduceMul, Int.cast_ofNat_Int, cast_zero_int, cast_one_int, Nat.reducePow, Nat.reduceEqDiff, Nat.reduceMod, Nat.zero_add, Nat.sub_zero, Nat.add_zero, show ¬ ((1048576 : Int) - D.size - P.size - c.size - r.size < 0) by omega]
      refine ⟨by kernel_rfl, ((c_toLog D P n).addG).use (fun _ m => m) ?_⟩
      rintro _ _ ⟨rfl, ⟨t1, rfl⟩⟩
      try simp only [go_sem, Nat.reduceBEq, Nat.reduceAdd, Nat.reduceMul, Nat.reduceSub, Nat.reduceLeDiff, Nat.le_refl, implies_true, Nat.reduceLT, reduceIte, decide_true, decide_false, true_and, and_true, reduceCtorEq, Nat.mul_one, Int.reduceToNat, Int.reduceLE, Int.reduceLT, Int.reduceAdd, Int.reduceSub, Int.reduceMul, Int.cast_ofNat_Int, cast_zero_int, cast_one_int, Nat.reducePow, Nat.reduceEqDiff, Nat.reduceMod, Nat.zero_add, Nat.sub_zero, Nat.add_zero]
      refine ⟨by kernel_rfl, ((c_toLogRecord c r).addG).use (fun _ m => m) ?_⟩
      rintro _ _ ⟨rfl, ⟨t1, rfl⟩⟩
      try simp only [go_sem, Nat.reduceBEq, Nat.reduceAdd, Nat.reduceMul, Nat.reduceSub, Nat.reduceLeDiff, Nat.le_refl, implies_true, Nat.reduceLT, reduceIte, decide_true, decide_false, true_and, and_true, reduceCtorEq, Nat.mul_one, Int.reduceToNat, Int.reduceLE, Int.reduceLT, Int.reduceAdd, Int.reduceSub, Int.reduceMul, Int.cast_ofNat_Int, cast_zero_int, cast_one_int, Nat.reducePow, Nat.reduceEqDiff, Nat.reduceMod, Nat.zero_add, Nat.sub_zero, Nat.add_zero]
      refine ⟨by kernel_rfl, ((c_sAppendRecord D P n c r (by omega) (by omega) (by omega)).addG).use (fun _ m => m) ?_⟩
      rintro _ _ ⟨rfl, ⟨t2, rfl⟩⟩
      rw [hv]
      try simp only [go_sem, Nat.reduceBEq, Nat.reduceAdd, Nat.reduceMul, Nat.reduceSub, Nat.reduceLeDiff, Nat.le_refl, implies_true, Nat.reduceLT, reduceIte, decide_true, decide_false, true_and, and_true, reduceCtorEq, Nat.mul_one, Int.reduceToNat, Int.reduceLE, Int.reduceLT, Int.reduceAdd, Int.reduceSub, Int.reduceMul, Int.cast_ofNat_Int, cast_zero_int, cast_one_int, Nat.reducePow, Nat.reduceEqDiff, Nat.reduceMod, Nat.zero_add, Nat.sub_zero, Nat.add_zero]
      refine ⟨by kernel_rfl, ((c_toLog D P n).addG).use (fun _ m => m) ?_⟩
      rintro _ _ ⟨rfl, ⟨t1, rfl⟩⟩
      try simp only [go_sem, Nat.reduceBEq, Nat.reduceAdd, Nat.reduceMul, Nat.reduceSub, Nat.reduceLeDiff, Nat.le_refl, implies_true, Nat.reduceLT, reduceIte, decide_true, decide_false, true_and, and_true, reduceCtorEq, Nat.mul_one, Int.reduceToNat, Int.reduceLE, Int.reduceLT, Int.reduceAdd, Int.reduceSub, Int.reduceMul, Int.cast_ofNat_Int, cast_zero_int, cast_one_int, Nat.reducePow, Nat.reduceEqDiff, Nat.reduceMod, Nat.zero_add, Nat.sub_zero, Nat.add_zero]
      refine ⟨by kernel_rfl, ((c_toLogRecord c r).addG).use (fun _ m => m) ?_⟩
      rintro _ _ ⟨rfl, ⟨t1, rfl⟩⟩
      try simp only [go_sem, Nat.reduceBEq, Nat.reduceAdd, Nat.reduceMul, Nat.reduceSub, Nat.reduceLeDiff, Nat.le_refl, implies_true, Nat.reduceLT, reduceIte, decide_true, decide_false, true_and, and_true, reduceCtorEq, Nat.mul_one, Int.reduceToNat, Int.reduceLE, Int.reduceLT, Int.reduceAdd, Int.reduceSub, Int.reduceMul, Int.cast_ofNat_Int, cast_zero_int, cast_one_int, Nat.reducePow, Nat.reduceEqDiff, Nat.reduceMod, Nat.zero_add, Nat.sub_zero, Nat.add_zero]
      refine ⟨by kernel_rfl, (c_AppendRecord (pw.mono (by simp)) D P n c r (by omega) (by omega) (by omega)).use (fun _ m => m) ?_⟩
      rintro _ _ ⟨rfl, ⟨t4, rfl⟩⟩
      rw [hv]
      simp only [go_sem, Nat.reduceBEq, Nat.reduceAdd, Nat.reduceMul, Nat.reduceSub, Nat.reduceLeDiff, Nat.le_refl, implies_true, Nat.reduceLT, reduceIte, decide_true, decide_false, true_and, and_true, reduceCtorEq, Nat.mul_one, Int.reduceToNat, Int.reduceLE, Int.reduceLT, Int.reduceAdd, Int.reduceSub, Int.reduceMul, Int.cast_ofNat_Int, cast_zero_int, cast_one_int, Nat.reducePow, Nat.reduceEqDiff, Nat.reduceMod, Nat.zero_add, Nat.sub_zero, Nat.add_zero]
      refine ⟨by kernel_rfl, ((c_eqLog a b m).addG).use (fun _ m => m) ?_⟩
      rintro _ _ ⟨rfl, ⟨t5, rfl⟩⟩
      simp only [go_sem, Nat.reduceBEq, Nat.reduceAdd, Nat.reduceMul, Nat.reduceSub, Nat.reduceLeDiff, Nat.le_refl, implies_true, Nat.reduceLT, reduceIte, decide_true, decide_false, true_and, and_true, reduceCtorEq, Nat.mul_one, Int.reduceToNat, Int.reduceLE, Int.reduceLT, Int.reduceAdd, Int.reduceSub, Int.reduceMul, Int.cast_ofNat_Int, cast_zero_int, cast_one_int, Nat.reducePow, Nat.reduceEqDiff, Nat.reduceMod, Nat.zero_add, Nat.sub_zero, Nat.add_zero, bne_self_eq_false]
end

theorem FitV.log {h : Heap} {v : Value} (f : FitV h (.struct (.pair .str (.pair .str (.pair (.int .i64) .unit)))) v) : ∃ D P n, v = .agg #[.string D, .string P, .int .i64 n] ∧ D.size ≤ 9223372036854775807 ∧ P.size ≤ 9223372036854775807 := by
  obtain ⟨cs, rfl, g⟩ := f.struct
  obtain ⟨_, _, rfl, g0, r0⟩ := g.pair
  obtain ⟨_, _, rfl, g1, r1⟩ := r0.pair
  obtain ⟨_, _, rfl, g2, r2⟩ := r1.pair
  obtain rfl := r2.unit
  obtain ⟨D, rfl, hD⟩ := g0
  obtain ⟨P, rfl, hP⟩ := g1
  obtain ⟨n, rfl, _⟩ := g2.int
  exact ⟨D, P, n, rfl, Nat.le_trans hD (by decide), Nat.le_trans hP (by decide)⟩
theorem FitV.rec {h : Heap} {v : Value} (f : FitV h (.struct (.pair .str (.pair .str .unit))) v) : ∃ c r, v = .agg #[.string c, .string r] ∧ c.size ≤ 9223372036854775807 ∧ r.size ≤ 9223372036854775807 := by
  obtain ⟨cs, rfl, g⟩ := f.struct
  obtain ⟨_, _, rfl, g0, r0⟩ := g.pair
  obtain ⟨_, _, rfl, g1, r1⟩ := r0.pair
  obtain rfl := r1.unit
  obtain ⟨c, rfl, hc⟩ := g0
  obtain ⟨r, rfl, hr⟩ := g1
  exact ⟨c, r, rfl, Nat.le_trans hc (by decide), Nat.le_trans hr (by decide)⟩

theorem a_FnExactIsValidLog (h : Heap) (a : List Value) (hp : glH <+: h) (ft : FitsAll h [.struct (.pair .str (.pair .str (.pair (.int .i64) .unit)))] a) : vCall glG Tryd.prog (fun _ => False) 5 a h (fun r _ => r = .bool true) := by
  obtain ⟨v, vs, rfl, f, g⟩ := ft.cons
  obtain rfl := g.nil
  obtain ⟨D, P, n, rfl, hD, hP⟩ := FitV.log f
  exact l_IsValidLog (glH_at hp) D P n hD hP
theorem a_FnExactSyncLog (h : Heap) (a : List Value) (hp : glH <+: h) (ft : FitsAll h [.struct (.pair .str (.pair .str (.pair (.int .i64) .unit)))] a) : vCall glG Tryd.prog (fun _ => False) 7 a h (fun r _ => r = .bool true) := by
  obtain ⟨v, vs, rfl, f, g⟩ := ft.cons
  obtain rfl := g.nil
  obtain ⟨D, P, n, rfl, hD, hP⟩ := FitV.log f
  exact l_SyncLog (glH_at hp) D P n hD hP
theorem a_FnExactEncodeRecord (h : Heap) (a : List Value) (hp : glH <+: h) (ft : FitsAll h [.int .i64, .struct (.pair .str (.pair .str .unit))] a) : vCall glG Tryd.prog (fun _ => False) 3 a h (fun r _ => r = .bool true) := by
  obtain ⟨v, vs, rfl, f, g⟩ := ft.cons
  obtain ⟨v2, vs, rfl, f2, g⟩ := g.cons
  obtain rfl := g.nil
  obtain ⟨k, rfl, _⟩ := f.int
  obtain ⟨c, r, rfl, hc, hr⟩ := FitV.rec f2
  exact l_EncodeRecord (glH_at hp) k c r hc hr
theorem a_FnExactRecoverLog (h : Heap) (a : List Value) (hp : glH <+: h) (ft : FitsAll h [.str] a) : vCall glG Tryd.prog (fun _ => False) 4 a h (fun r _ => r = .bool true) := by
  obtain ⟨v, vs, rfl, f, g⟩ := ft.cons
  obtain rfl := g.nil
  obtain ⟨s, hse, hs⟩ := f
  obtain rfl : v = .string s := by simpa using hse
  exact l_RecoverLog (glH_at hp) s (Nat.le_trans hs (by decide))
theorem a_FnExactAppendRecord (h : Heap) (a : List Value) (hp : glH <+: h) (ft : FitsAll h [.struct (.pair .str (.pair .str (.pair (.int .i64) .unit))), .struct (.pair .str (.pair .str .unit))] a) : vCall glG Tryd.prog (fun _ => False) 8 a h (fun r _ => r = .bool true) := by
  obtain ⟨v, vs, rfl, f, g⟩ := ft.cons
  obtain ⟨v2, vs, rfl, f2, g⟩ := g.cons
  obtain rfl := g.nil
  obtain ⟨D, P, n, rfl, hD, hP⟩ := FitV.log f
  obtain ⟨c, r, rfl, hc, hr⟩ := FitV.rec f2
  exact l_AppendRecord (glH_at hp) D P n c r hD hP hc hr
end Go.Proofs.YtkogddiefniihaaDoor
