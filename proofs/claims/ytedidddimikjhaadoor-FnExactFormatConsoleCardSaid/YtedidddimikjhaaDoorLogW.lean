
/- Laws about logs: both programs return the same. No condition. -/
import Derived.Test.YtedidddimikjhaaDoorLogF
import Derived.Test.YtedidddimikjhaaDoorH3
namespace Go.Proofs.YtedidddimikjhaaDoor
open Go.HH Go.Proofs
set_option linter.unusedSimpArgs false
set_option linter.unusedVariables false

theorem eqs {s : ByteArray} : (s.toList == s.toList) = true := beq_self_eq_true _

section
variable {G : List (Nat × Nat)} {h : Heap} {M : Nat → Prop}

theorem c_toLog (D P : ByteArray) (n : Int) : vCall [] Tryd.prog M 18 [.agg #[.string D, .string P, .int .i64 n]] h (fun v h' => v = .agg #[.string D, .string P, .int .i64 n] ∧ h <+: h') := by
  refine body_of mo Tryd.func18 rfl (by kernel_rfl) (Nat.le_of_ble_eq_true (by kernel_rfl)) rfl ?_
  simp only [go_sem, Nat.reduceBEq, Nat.reduceAdd, Nat.reduceMul, Nat.reduceSub, Nat.reduceLeDiff, Nat.le_refl, implies_true, Nat.reduceLT, reduceIte, decide_true, decide_false, true_and, and_true, reduceCtorEq, Nat.mul_one, Int.reduceToNat, Int.reduceLE, Int.reduceLT, Int.reduceAdd, Int.reduceSub, Int.reduceMul, Int.cast_ofNat_Int, cast_zero_int, cast_one_int, Nat.reducePow, Nat.reduceEqDiff, Nat.reduceMod, Nat.zero_add, Nat.sub_zero, Nat.add_zero]
  try all_goals first | exact rfl | exact ⟨rfl, rfl⟩ | exact List.prefix_append _ _ | exact ⟨rfl, List.prefix_append _ _⟩ | assumption | exact ⟨rfl, by assumption⟩ | exact List.prefix_rfl | exact ⟨rfl, List.prefix_rfl⟩ | exact List.IsPrefix.trans (by assumption) (by assumption) | exact ⟨rfl, List.IsPrefix.trans (by assumption) (by assumption)⟩
theorem c_szLog (D P : ByteArray) (k n : Int) (hk : 0 ≤ k ∧ k ≤ 1048576) (hD : D.size ≤ 9223372036854775807) (hP : P.size ≤ 9223372036854775807) : vCall [] Tryd.prog M 14 [.agg #[.string D, .string P, .int .i64 n], .int .i64 k] h
    (fun v h' => (v = .int .i64 (if k - D.size < 0 ∨ k - D.size - P.size < 0 then -1 else k - D.size - P.size)) ∧ h <+: h') := by
  refine body_of mo Tryd.func14 rfl (by kernel_rfl) (Nat.le_of_ble_eq_true (by kernel_rfl)) rfl ?_
  simp only [go_sem, Nat.reduceBEq, Nat.reduceAdd, Nat.reduceMul, Nat.reduceSub, Nat.reduceLeDiff, Nat.le_refl, implies_true, Nat.reduceLT, reduceIte, decide_true, decide_false, true_and, and_true, reduceCtorEq, Nat.mul_one, Int.reduceToNat, Int.reduceLE, Int.reduceLT, Int.reduceAdd, Int.reduceSub, Int.reduceMul, Int.cast_ofNat_Int, cast_zero_int, cast_one_int, Nat.reducePow, Nat.reduceEqDiff, Nat.reduceMod, Nat.zero_add, Nat.sub_zero, Nat.add_zero]
  rw [wrap64 (show _ ∧ _ by omega)]
  by_cases h1 : k - D.size < 0
  · simp only [go_sem, Nat.reduceBEq, Nat.reduceAdd, Nat.reduceMul, Nat.reduceSub, Nat.reduceLeDiff, Nat.le_refl, implies_true, Nat.reduceLT, reduceIte, decide_true, decide_false, true_and, and_true, reduceCtorEq, Nat.mul_one, Int.reduceToNat, Int.reduceLE, Int.reduceLT, Int.reduceAdd, Int.reduceSub, Int.reduceMul, Int.cast_ofNat_Int, cast_zero_int, cast_one_int, Nat.reducePow, Nat.reduceEqDiff, Nat.reduceMod, Nat.zero_add, Nat.sub_zero, Nat.add_zero, h1, true_or]
    try all_goals first | exact rfl | exact ⟨rfl, rfl⟩ | exact List.prefix_append _ _ | exact ⟨rfl, List.prefix_append _ _⟩ | assumption | exact ⟨rfl, by assumption⟩ | exact List.prefix_rfl | exact ⟨rfl, List.prefix_rfl⟩ | exact List.IsPrefix.trans (by assumption) (by assumption) | exact ⟨rfl, List.IsPrefix.trans (by assumption) (by assumption)⟩
  · simp only [go_sem, Nat.reduceBEq, Nat.reduceAdd, Nat.reduceMul, Nat.reduceSub, Nat.reduceLeDiff, Nat.le_refl, implies_true, Nat.reduceLT, reduceIte, decide_true, decide_false, true_and, and_true, reduceCtorEq, Nat.mul_one, Int.reduceToNat, Int.reduceLE, Int.reduceLT, Int.reduceAdd, Int.reduceSub, Int.reduceMul, Int.cast_ofNat_Int, cast_zero_int, cast_one_int, Nat.reducePow, Nat.reduceEqDiff, Nat.reduceMod, Nat.zero_add, Nat.sub_zero, Nat.add_zero, h1, false_or]
    rw [wrap64 (show _ ∧ _ by omega)]
    by_cases h2 : k - D.size - P.size < 0
    · simp only [go_sem, Nat.reduceBEq, Nat.reduceAdd, Nat.reduceMul, Nat.reduceSub, Nat.reduceLeDiff, Nat.le_refl, implies_true, Nat.reduceLT, reduceIte, decide_true, decide_false, true_and, and_true, reduceCtorEq, Nat.mul_one, Int.reduceToNat, Int.reduceLE, Int.reduceLT, Int.reduceAdd, Int.reduceSub, Int.reduceMul, Int.cast_ofNat_Int, cast_zero_int, cast_one_int, Nat.reducePow, Nat.reduceEqDiff, Nat.reduceMod, Nat.zero_add, Nat.sub_zero, Nat.add_zero, h2, or_true]
      try all_goals first | exact rfl | exact ⟨rfl, rfl⟩ | exact List.prefix_append _ _ | exact ⟨rfl, List.prefix_append _ _⟩ | assumption | exact ⟨rfl, by assumption⟩ | exact List.prefix_rfl | exact ⟨rfl, List.prefix_rfl⟩ | exact List.IsPrefix.trans (by assumption) (by assumption) | exact ⟨rfl, List.IsPrefix.trans (by assumption) (by assumption)⟩
    · simp only [go_sem, Nat.reduceBEq, Nat.reduceAdd, Nat.reduceMul, Nat.reduceSub, Nat.reduceLeDiff, Nat.le_refl, implies_true, Nat.reduceLT, reduceIte, decide_true, decide_false, true_and, and_true, reduceCtorEq, Nat.mul_one, Int.reduceToNat, Int.reduceLE, Int.reduceLT, Int.reduceAdd, Int.reduceSub, Int.reduceMul, Int.cast_ofNat_Int, cast_zero_int, cast_one_int, Nat.reducePow, Nat.reduceEqDiff, Nat.reduceMod, Nat.zero_add, Nat.sub_zero, Nat.add_zero, h2, h1, or_self]
      try all_goals first | exact rfl | exact ⟨rfl, rfl⟩ | exact List.prefix_append _ _ | exact ⟨rfl, List.prefix_append _ _⟩ | assumption | exact ⟨rfl, by assumption⟩ | exact List.prefix_rfl | exact ⟨rfl, List.prefix_rfl⟩ | exact List.IsPrefix.trans (by assumption) (by assumption) | exact ⟨rfl, List.IsPrefix.trans (by assumption) (by assumption)⟩
theorem c_eqLog (D P : ByteArray) (n : Int) : vCall [] Tryd.prog M 24 [.agg #[.string D, .string P, .int .i64 n], .agg #[.string D, .string P, .int .i64 n]] h (fun v h' => v = .bool true ∧ h <+: h') := by
  refine body_of mo Tryd.func24 rfl (by kernel_rfl) (Nat.le_of_ble_eq_true (by kernel_rfl)) rfl ?_
  simp only [go_sem, Nat.reduceBEq, Nat.reduceAdd, Nat.reduceMul, Nat.reduceSub, Nat.reduceLeDiff, Nat.le_refl, implies_true, Nat.reduceLT, reduceIte, decide_true, decide_false, true_and, and_true, reduceCtorEq, Nat.mul_one, Int.reduceToNat, Int.reduceLE, Int.reduceLT, Int.reduceAdd, Int.reduceSub, Int.reduceMul, Int.cast_ofNat_Int, cast_zero_int, cast_one_int, Nat.reducePow, Nat.reduceEqDiff, Nat.reduceMod, Nat.zero_add, Nat.sub_zero, Nat.add_zero, eqs, Bool.not_true, bne_self_eq_false]
  try all_goals first | exact rfl | exact ⟨rfl, rfl⟩ | exact List.prefix_append _ _ | exact ⟨rfl, List.prefix_append _ _⟩ | assumption | exact ⟨rfl, by assumption⟩ | exact List.prefix_rfl | exact ⟨rfl, List.prefix_rfl⟩ | exact List.IsPrefix.trans (by assumption) (by assumption) | exact ⟨rfl, List.IsPrefix.trans (by assumption) (by assumption)⟩

theorem c_szLogN (D P : ByteArray) (k n : Int) (hk : 0 ≤ k ∧ k ≤ 1048576) (hD : D.size ≤ 9223372036854775807) (hP : P.size ≤ 9223372036854775807) (hno : k < D.size + P.size) : vCall [] Tryd.prog M 14 [.agg #[.string D, .string P, .int .i64 n], .int .i64 k] h
    (fun v h' => v = .int .i64 (-1) ∧ h <+: h') := by
  refine (c_szLog D P k n hk hD hP).use (fun _ m => m) ?_
  rintro _ _ ⟨rfl, hp⟩
  rw [if_pos (by omega)]
  exact ⟨rfl, hp⟩
theorem c_szLogY (D P : ByteArray) (k n : Int) (hk : 0 ≤ k ∧ k ≤ 1048576) (hD : D.size ≤ 9223372036854775807) (hP : P.size ≤ 9223372036854775807) (hok : ¬ k < D.size + P.size) : vCall [] Tryd.prog M 14 [.agg #[.string D, .string P, .int .i64 n], .int .i64 k] h
    (fun v h' => v = .int .i64 (k - D.size - P.size) ∧ h <+: h') := by
  refine (c_szLog D P k n hk hD hP).use (fun _ m => m) ?_
  rintro _ _ ⟨rfl, hp⟩
  rw [if_neg (by omega)]
  exact ⟨rfl, hp⟩
theorem syncV_shape (D P : ByteArray) (n : Int) : ∃ a b c g, syncV D P n = .tuple #[.agg #[.string a, .string b, .int .i64 c], .bool g] := by
  unfold syncV
  split <;> exact ⟨_, _, _, _, rfl⟩
theorem encV_shape (k : Int) (c r : ByteArray) : ∃ a g, encV k c r = .tuple #[.string a, .bool g] := by
  unfold encV
  split <;> exact ⟨_, _, rfl⟩
theorem recoV_shape (s : ByteArray) : ∃ a b c n g, recoV s = .tuple #[.agg #[.string a, .string b, .int .i64 c], .int .i64 n, .bool g] := by
  unfold recoV
  split <;> exact ⟨_, _, _, _, _, rfl⟩
theorem appV_shape (D P : ByteArray) (n : Int) (c r : ByteArray) : ∃ a b m g, appV D P n c r = .tuple #[.agg #[.string a, .string b, .int .i64 m], .int .i64 g] := by
  unfold appV
  split
  · split <;> exact ⟨_, _, _, _, rfl⟩
  · exact ⟨_, _, _, _, rfl⟩
end

theorem FitV.log {h : Heap} {v : Value} (f : FitV h (.struct (.pair .str (.pair .str (.pair (.int .i64) .unit)))) v) : ∃ D P n, v = .agg #[.string D, .string P, .int .i64 n] ∧ D.size ≤ 9223372036854775807 ∧ P.size ≤ 9223372036854775807 := by
  obtain ⟨cs, rfl, g⟩ := f.struct
  obtain ⟨_, _, rfl, g0, r0⟩ := g.pair
  obtain ⟨_, _, rfl, g1, r1⟩ := r0.pair
  obtain ⟨_, _, rfl, g2, r2⟩ := r1.pair
  obtain rfl := r2.unit
  obtain ⟨D, rfl, hD⟩ := g0
  obtain ⟨P, rfl, hP⟩ := g1
  obtain ⟨n, rfl, _⟩ := g2.int
  exact ⟨D, P, n, rfl, Nat.le_trans hD (by decide), Nat.le_trans hP (by decide)⟩
theorem FitV.rec {h : Heap} {v : Value} (f : FitV h (.struct (.pair .str (.pair .str .unit))) v) : ∃ c r, v = .agg #[.string c, .string r] ∧ c.size ≤ 9223372036854775807 ∧ r.size ≤ 9223372036854775807 := by
  obtain ⟨cs, rfl, g⟩ := f.struct
  obtain ⟨_, _, rfl, g0, r0⟩ := g.pair
  obtain ⟨_, _, rfl, g1, r1⟩ := r0.pair
  obtain rfl := r1.unit
  obtain ⟨c, rfl, hc⟩ := g0
  obtain ⟨r, rfl, hr⟩ := g1
  exact ⟨c, r, rfl, Nat.le_trans hc (by decide), Nat.le_trans hr (by decide)⟩

end Go.Proofs.YtedidddimikjhaaDoor
