
/- The law of the reserves: a store lasts as long as is told. No condition. -/
import Derived.Test.YtgipdicdbgdkbaaReserve
import Derived.Test.YtgipdicdbgdkbaaCur
namespace Go.Proofs.Ytgipdicdbgdkbaa
open Go.HH
set_option linter.unusedSimpArgs false
set_option linter.unusedVariables false

section
variable {h : Heap} {M : Nat → Prop}

theorem c_rBig (b : Option Addr) (n : Nat) : vCall [] Try.prog M 5 [.slice b n 0] h (fun r h' => r = .bool (decide ((65536 : Int) < n)) ∧ h = h') := by
  refine body_of mo Try.func5 rfl (by kernel_rfl) (Nat.le_of_ble_eq_true (by kernel_rfl)) rfl ?_
  simp only [go_sem, Nat.reduceBEq, Nat.reduceAdd, Nat.reduceMul, Nat.reduceSub, Nat.reduceLeDiff, Nat.le_refl, implies_true, Nat.reduceLT, reduceIte, decide_true, decide_false, true_and, and_true, reduceCtorEq, Nat.mul_one, Int.reduceToNat, Int.reduceLE, Int.reduceLT, Int.reduceAdd, Int.reduceSub, Int.reduceMul, Int.cast_ofNat_Int, cast_zero_int, cast_one_int, Nat.reducePow, Nat.reduceEqDiff, Nat.reduceMod, Nat.zero_add, Nat.sub_zero, Nat.add_zero]
  all_goals first | exact rfl | exact ⟨rfl, rfl⟩ | exact List.prefix_append _ _ | exact ⟨rfl, List.prefix_append _ _⟩ | assumption | exact ⟨rfl, by assumption⟩ | exact List.prefix_rfl | exact ⟨rfl, List.prefix_rfl⟩ | exact List.IsPrefix.trans (by assumption) (by assumption) | exact ⟨rfl, List.IsPrefix.trans (by assumption) (by assumption)⟩

theorem reserve_pos {n : Int} (hn : 1 ≤ n ∧ n ≤ 3) : reserve n = .tuple #[.int .i64 (need n), .int .i64 (need n * (60 * n)), .bool true] := by rw [reserve, if_pos hn]
theorem reserve_neg {n : Int} (hn : ¬ (1 ≤ n ∧ n ≤ 3)) : reserve n = .tuple #[.int .i64 0, .int .i64 0, .bool false] := by rw [reserve, if_neg hn]

theorem minutes_own {m : Int} (hm : 1 ≤ m ∧ m ≤ 3) : minutes (need m * (60 * m)) (need m) 0 = .tuple #[.int .i64 (60 * m), .bool true] := by
  have hr := need_range m
  have a1 : 0 ≤ need m * (60 * m) := Int.mul_nonneg (by omega) (by omega)
  have a2 : need m * (60 * m) ≤ 3200 * 180 := Int.mul_le_mul (by omega) (by omega) (by omega) (by omega)
  rw [minutes, if_pos (by omega), Int.sub_zero, Int.mul_ediv_cancel_left _ (by omega)]
theorem store_own {m : Int} (hm : 1 ≤ m ∧ m ≤ 3) : store m 0 1 = .tuple #[.int .i64 (need m * (60 * m)), .bool true] := by
  have hr := need_range m
  rw [store_pos (by omega), if_pos (by omega), Int.one_mul, Int.sub_zero]
theorem minutes_fine {a b c q : Int} (e : minutes a b c = .tuple #[.int .i64 q, .bool true]) :
    IntKind.i64.wrap (c - b) = c - b ∧ IntKind.i64.wrap (q + 1) = q + 1 ∧ 
    decide (IntKind.i64.wrap (a + IntKind.i64.wrap (q * (c - b))) < 0) = false ∧ decide (0 ≤ IntKind.i64.wrap (a + IntKind.i64.wrap ((q + 1) * (c - b)))) = false := by
  unfold minutes at e
  split at e
  · rename_i hh
    obtain rfl : a / (b - c) = q := by simpa using e
    obtain ⟨a0, a1, b0, b1, c0, c1, hlt⟩ := hh
    have hd : 0 < b - c := by omega
    have h7 := Int.ediv_nonneg a0 (Int.le_of_lt hd)
    have h6 := Int.ediv_le_self (b - c) a0
    have e0 := Int.mul_ediv_add_emod a (b - c)
    have m0 := Int.emod_nonneg a (show b - c ≠ 0 by omega)
    have m1 := Int.emod_lt_of_pos a hd
    have e1 : a / (b - c) * (c - b) = - ((b - c) * (a / (b - c))) := by rw [show c - b = -(b - c) by omega, Int.mul_neg, Int.mul_comm]
    have e2 : (a / (b - c) + 1) * (c - b) = - ((b - c) * (a / (b - c))) - (b - c) := by rw [Int.add_mul, e1]; omega
    refine ⟨wrap64 (by omega), wrap64 (by omega), ?_, ?_⟩
    · rw [e1, wrap64 (n := -((b - c) * (a / (b - c)))) (by omega), wrap64 (by omega)]; simp; omega
    · rw [e2, wrap64 (n := -((b - c) * (a / (b - c))) - (b - c)) (by omega), wrap64 (by omega)]; simp; omega
  · simp at e
theorem store_told {c i f L : Int} (e : store c i f = .tuple #[.int .i64 L, .bool true]) :
    (1 ≤ c ∧ c ≤ 3) ∧ IntKind.i64.wrap (f * need c) = f * need c ∧ ((∃ q, minutes L (f * need c) i = .tuple #[.int .i64 q, .bool true] ∧ q = 60 * c) ∨ (minutes L (f * need c) i = .tuple #[.int .i64 0, .bool false] ∧ L = 0)) := by
  unfold store at e
  split at e
  · rename_i hh
    obtain rfl : (if 0 < f * need c - i then f * need c - i else 0) * (60 * c) = L := by simpa using e
    obtain ⟨hc, hi, hf⟩ := hh
    have hr := need_range c
    have a1 : 0 ≤ f * need c := Int.mul_nonneg (by omega) (by omega)
    have a2 : f * need c ≤ 5 * 3200 := Int.mul_le_mul (by omega) (by omega) (by omega) (by omega)
    refine ⟨hc, wrap64 (by omega), ?_⟩
    by_cases h1 : 0 < f * need c - i
    · have b2 : 0 ≤ (f * need c - i) * (60 * c) := Int.mul_nonneg (by omega) (by omega)
      have b3 : (f * need c - i) * (60 * c) ≤ 16000 * 180 := Int.mul_le_mul (by omega) (by omega) (by omega) (by omega)
      rw [if_pos h1]
      refine .inl ⟨60 * c, ?_, rfl⟩
      rw [minutes, if_pos (by omega), Int.mul_ediv_cancel_left _ (by omega)]
    · rw [if_neg h1, Int.zero_mul]
      refine .inr ⟨?_, rfl⟩
      rw [minutes, if_neg (by omega)]
  · simp at e
set_option maxRecDepth 4000 in
theorem l_FnReserves (b : Option Addr) (n : Nat) (hcode : CodeOk h b n) : vCall [] Try.prog M 3 [.slice b n 0] h (fun r _ => r = .bool true) := by
  refine body_of mo Try.func3 rfl (by kernel_rfl) (Nat.le_of_ble_eq_true (by kernel_rfl)) rfl ?_
  simp only [go_sem, Nat.reduceBEq, Nat.reduceAdd, Nat.reduceMul, Nat.reduceSub, Nat.reduceLeDiff, Nat.le_refl, implies_true, Nat.reduceLT, reduceIte, decide_true, decide_false, true_and, and_true, reduceCtorEq, Nat.mul_one, Int.reduceToNat, Int.reduceLE, Int.reduceLT, Int.reduceAdd, Int.reduceSub, Int.reduceMul, Int.cast_ofNat_Int, cast_zero_int, cast_one_int, Nat.reducePow, Nat.reduceEqDiff, Nat.reduceMod, Nat.zero_add, Nat.sub_zero, Nat.add_zero]
  refine ⟨by kernel_rfl, (c_rBig _ _).use (fun _ m => m) ?_⟩
  rintro _ _ ⟨rfl, rfl⟩
  simp only [go_sem, Nat.reduceBEq, Nat.reduceAdd, Nat.reduceMul, Nat.reduceSub, Nat.reduceLeDiff, Nat.le_refl, implies_true, Nat.reduceLT, reduceIte, decide_true, decide_false, true_and, and_true, reduceCtorEq, Nat.mul_one, Int.reduceToNat, Int.reduceLE, Int.reduceLT, Int.reduceAdd, Int.reduceSub, Int.reduceMul, Int.cast_ofNat_Int, cast_zero_int, cast_one_int, Nat.reducePow, Nat.reduceEqDiff, Nat.reduceMod, Nat.zero_add, Nat.sub_zero, Nat.add_zero]
  by_cases h0 : (65536 : Int) < n
  · simp only [go_sem, Nat.reduceBEq, Nat.reduceAdd, Nat.reduceMul, Nat.reduceSub, Nat.reduceLeDiff, Nat.le_refl, implies_true, Nat.reduceLT, reduceIte, decide_true, decide_false, true_and, and_true, reduceCtorEq, Nat.mul_one, Int.reduceToNat, Int.reduceLE, Int.reduceLT, Int.reduceAdd, Int.reduceSub, Int.reduceMul, Int.cast_ofNat_Int, cast_zero_int, cast_one_int, Nat.reducePow, Nat.reduceEqDiff, Nat.reduceMod, Nat.zero_add, Nat.sub_zero, Nat.add_zero, h0]
  · simp only [go_sem, Nat.reduceBEq, Nat.reduceAdd, Nat.reduceMul, Nat.reduceSub, Nat.reduceLeDiff, Nat.le_refl, implies_true, Nat.reduceLT, reduceIte, decide_true, decide_false, true_and, and_true, reduceCtorEq, Nat.mul_one, Int.reduceToNat, Int.reduceLE, Int.reduceLT, Int.reduceAdd, Int.reduceSub, Int.reduceMul, Int.cast_ofNat_Int, cast_zero_int, cast_one_int, Nat.reducePow, Nat.reduceEqDiff, Nat.reduceMod, Nat.zero_add, Nat.sub_zero, Nat.add_zero, h0]
    refine ⟨by kernel_rfl, (c_DrawReserveFor b n hcode).use (fun _ m => m) ?_⟩
    rintro _ _ ⟨⟨m, rfl⟩, ⟨t, rfl⟩⟩
    try simp only [go_sem, Nat.reduceBEq, Nat.reduceAdd, Nat.reduceMul, Nat.reduceSub, Nat.reduceLeDiff, Nat.le_refl, implies_true, Nat.reduceLT, reduceIte, decide_true, decide_false, true_and, and_true, reduceCtorEq, Nat.mul_one, Int.reduceToNat, Int.reduceLE, Int.reduceLT, Int.reduceAdd, Int.reduceSub, Int.reduceMul, Int.cast_ofNat_Int, cast_zero_int, cast_one_int, Nat.reducePow, Nat.reduceEqDiff, Nat.reduceMod, Nat.zero_add, Nat.sub_zero, Nat.add_zero]
    refine ⟨by kernel_rfl, (c_ReserveFor _).use (fun _ m => m) ?_⟩
    rintro r _ ⟨hr, rfl⟩
    obtain ⟨a, b', g, er⟩ := reserve_shape m
    rw [er] at hr
    subst hr
    simp only [go_sem, Nat.reduceBEq, Nat.reduceAdd, Nat.reduceMul, Nat.reduceSub, Nat.reduceLeDiff, Nat.le_refl, implies_true, Nat.reduceLT, reduceIte, decide_true, decide_false, true_and, and_true, reduceCtorEq, Nat.mul_one, Int.reduceToNat, Int.reduceLE, Int.reduceLT, Int.reduceAdd, Int.reduceSub, Int.reduceMul, Int.cast_ofNat_Int, cast_zero_int, cast_one_int, Nat.reducePow, Nat.reduceEqDiff, Nat.reduceMod, Nat.zero_add, Nat.sub_zero, Nat.add_zero]
    refine ⟨by kernel_rfl, (c_sReserveFor _).use (fun _ m => m) ?_⟩
    rintro r _ ⟨hr, ⟨t2, rfl⟩⟩
    rw [er] at hr
    subst hr
    simp only [go_sem, Nat.reduceBEq, Nat.reduceAdd, Nat.reduceMul, Nat.reduceSub, Nat.reduceLeDiff, Nat.le_refl, implies_true, Nat.reduceLT, reduceIte, decide_true, decide_false, true_and, and_true, reduceCtorEq, Nat.mul_one, Int.reduceToNat, Int.reduceLE, Int.reduceLT, Int.reduceAdd, Int.reduceSub, Int.reduceMul, Int.cast_ofNat_Int, cast_zero_int, cast_one_int, Nat.reducePow, Nat.reduceEqDiff, Nat.reduceMod, Nat.zero_add, Nat.sub_zero, Nat.add_zero]
    by_cases h1 : 1 ≤ m ∧ m ≤ 3
    all_goals first
      | (have h1 : 1 ≤ m ∧ m ≤ 3 := by assumption
         rw [reserve_pos h1] at er
         obtain ⟨rfl, rfl, rfl⟩ : need m = a ∧ need m * (60 * m) = b' ∧ true = g := by simpa using er
         simp only [go_sem, Nat.reduceBEq, Nat.reduceAdd, Nat.reduceMul, Nat.reduceSub, Nat.reduceLeDiff, Nat.le_refl, implies_true, Nat.reduceLT, reduceIte, decide_true, decide_false, true_and, and_true, reduceCtorEq, Nat.mul_one, Int.reduceToNat, Int.reduceLE, Int.reduceLT, Int.reduceAdd, Int.reduceSub, Int.reduceMul, Int.cast_ofNat_Int, cast_zero_int, cast_one_int, Nat.reducePow, Nat.reduceEqDiff, Nat.reduceMod, Nat.zero_add, Nat.sub_zero, Nat.add_zero]
         refine ⟨by kernel_rfl, (c_MinutesLeft _ _ _).use (fun _ m => m) ?_⟩
         rintro r _ ⟨hr, rfl⟩
         rw [minutes_own h1] at hr
         subst hr
         simp only [go_sem, Nat.reduceBEq, Nat.reduceAdd, Nat.reduceMul, Nat.reduceSub, Nat.reduceLeDiff, Nat.le_refl, implies_true, Nat.reduceLT, reduceIte, decide_true, decide_false, true_and, and_true, reduceCtorEq, Nat.mul_one, Int.reduceToNat, Int.reduceLE, Int.reduceLT, Int.reduceAdd, Int.reduceSub, Int.reduceMul, Int.cast_ofNat_Int, cast_zero_int, cast_one_int, Nat.reducePow, Nat.reduceEqDiff, Nat.reduceMod, Nat.zero_add, Nat.sub_zero, Nat.add_zero]
         refine ⟨by kernel_rfl, (c_StoreFor _ _ _).use (fun _ m => m) ?_⟩
         rintro r _ ⟨hr, rfl⟩
         rw [store_own h1] at hr
         subst hr
         simp only [go_sem, Nat.reduceBEq, Nat.reduceAdd, Nat.reduceMul, Nat.reduceSub, Nat.reduceLeDiff, Nat.le_refl, implies_true, Nat.reduceLT, reduceIte, decide_true, decide_false, true_and, and_true, reduceCtorEq, Nat.mul_one, Int.reduceToNat, Int.reduceLE, Int.reduceLT, Int.reduceAdd, Int.reduceSub, Int.reduceMul, Int.cast_ofNat_Int, cast_zero_int, cast_one_int, Nat.reducePow, Nat.reduceEqDiff, Nat.reduceMod, Nat.zero_add, Nat.sub_zero, Nat.add_zero, show IntKind.i64.wrap (60 * m) = 60 * m from wrap64 (by omega)])
      | (have h1 : ¬ (1 ≤ m ∧ m ≤ 3) := by assumption
         rw [reserve_neg h1] at er
         obtain ⟨rfl, rfl, rfl⟩ : 0 = a ∧ 0 = b' ∧ false = g := by simpa using er
         simp only [go_sem, Nat.reduceBEq, Nat.reduceAdd, Nat.reduceMul, Nat.reduceSub, Nat.reduceLeDiff, Nat.le_refl, implies_true, Nat.reduceLT, reduceIte, decide_true, decide_false, true_and, and_true, reduceCtorEq, Nat.mul_one, Int.reduceToNat, Int.reduceLE, Int.reduceLT, Int.reduceAdd, Int.reduceSub, Int.reduceMul, Int.cast_ofNat_Int, cast_zero_int, cast_one_int, Nat.reducePow, Nat.reduceEqDiff, Nat.reduceMod, Nat.zero_add, Nat.sub_zero, Nat.add_zero])
    all_goals
      refine ⟨by kernel_rfl, (c_DrawMinutesLeft b n hcode.app).use (fun _ m => m) ?_⟩
      rintro _ _ ⟨⟨x, y, z, rfl⟩, ⟨t3, rfl⟩⟩
      simp only [go_sem, Nat.reduceBEq, Nat.reduceAdd, Nat.reduceMul, Nat.reduceSub, Nat.reduceLeDiff, Nat.le_refl, implies_true, Nat.reduceLT, reduceIte, decide_true, decide_false, true_and, and_true, reduceCtorEq, Nat.mul_one, Int.reduceToNat, Int.reduceLE, Int.reduceLT, Int.reduceAdd, Int.reduceSub, Int.reduceMul, Int.cast_ofNat_Int, cast_zero_int, cast_one_int, Nat.reducePow, Nat.reduceEqDiff, Nat.reduceMod, Nat.zero_add, Nat.sub_zero, Nat.add_zero]
      refine ⟨by kernel_rfl, (c_MinutesLeft _ _ _).use (fun _ m => m) ?_⟩
      rintro r _ ⟨hr, rfl⟩
      obtain ⟨q, w, eq⟩ := minutes_shape x y z
      rw [eq] at hr
      subst hr
      simp only [go_sem, Nat.reduceBEq, Nat.reduceAdd, Nat.reduceMul, Nat.reduceSub, Nat.reduceLeDiff, Nat.le_refl, implies_true, Nat.reduceLT, reduceIte, decide_true, decide_false, true_and, and_true, reduceCtorEq, Nat.mul_one, Int.reduceToNat, Int.reduceLE, Int.reduceLT, Int.reduceAdd, Int.reduceSub, Int.reduceMul, Int.cast_ofNat_Int, cast_zero_int, cast_one_int, Nat.reducePow, Nat.reduceEqDiff, Nat.reduceMod, Nat.zero_add, Nat.sub_zero, Nat.add_zero]
      refine ⟨by kernel_rfl, (c_sMinutesLeft _ _ _).use (fun _ m => m) ?_⟩
      rintro r _ ⟨hr, rfl⟩
      rw [eq] at hr
      subst hr
      simp only [go_sem, Nat.reduceBEq, Nat.reduceAdd, Nat.reduceMul, Nat.reduceSub, Nat.reduceLeDiff, Nat.le_refl, implies_true, Nat.reduceLT, reduceIte, decide_true, decide_false, true_and, and_true, reduceCtorEq, Nat.mul_one, Int.reduceToNat, Int.reduceLE, Int.reduceLT, Int.reduceAdd, Int.reduceSub, Int.reduceMul, Int.cast_ofNat_Int, cast_zero_int, cast_one_int, Nat.reducePow, Nat.reduceEqDiff, Nat.reduceMod, Nat.zero_add, Nat.sub_zero, Nat.add_zero]
      cases w
    all_goals first
      | (obtain ⟨g1, g2, g3, g4⟩ := minutes_fine eq
         simp only [go_sem, Nat.reduceBEq, Nat.reduceAdd, Nat.reduceMul, Nat.reduceSub, Nat.reduceLeDiff, Nat.le_refl, implies_true, Nat.reduceLT, reduceIte, decide_true, decide_false, true_and, and_true, reduceCtorEq, Nat.mul_one, Int.reduceToNat, Int.reduceLE, Int.reduceLT, Int.reduceAdd, Int.reduceSub, Int.reduceMul, Int.cast_ofNat_Int, cast_zero_int, cast_one_int, Nat.reducePow, Nat.reduceEqDiff, Nat.reduceMod, Nat.zero_add, Nat.sub_zero, Nat.add_zero, g1, g2, g3, g4])
      | simp only [go_sem, Nat.reduceBEq, Nat.reduceAdd, Nat.reduceMul, Nat.reduceSub, Nat.reduceLeDiff, Nat.le_refl, implies_true, Nat.reduceLT, reduceIte, decide_true, decide_false, true_and, and_true, reduceCtorEq, Nat.mul_one, Int.reduceToNat, Int.reduceLE, Int.reduceLT, Int.reduceAdd, Int.reduceSub, Int.reduceMul, Int.cast_ofNat_Int, cast_zero_int, cast_one_int, Nat.reducePow, Nat.reduceEqDiff, Nat.reduceMod, Nat.zero_add, Nat.sub_zero, Nat.add_zero]
    all_goals
      refine ⟨by kernel_rfl, (c_DrawStoreFor b n hcode.app).use (fun _ m => m) ?_⟩
      rintro _ _ ⟨⟨c, i, f, rfl⟩, ⟨t4, rfl⟩⟩
      simp only [go_sem, Nat.reduceBEq, Nat.reduceAdd, Nat.reduceMul, Nat.reduceSub, Nat.reduceLeDiff, Nat.le_refl, implies_true, Nat.reduceLT, reduceIte, decide_true, decide_false, true_and, and_true, reduceCtorEq, Nat.mul_one, Int.reduceToNat, Int.reduceLE, Int.reduceLT, Int.reduceAdd, Int.reduceSub, Int.reduceMul, Int.cast_ofNat_Int, cast_zero_int, cast_one_int, Nat.reducePow, Nat.reduceEqDiff, Nat.reduceMod, Nat.zero_add, Nat.sub_zero, Nat.add_zero]
      refine ⟨by kernel_rfl, (c_StoreFor _ _ _).use (fun _ m => m) ?_⟩
      rintro r _ ⟨hr, rfl⟩
      obtain ⟨L, w, eL⟩ := store_shape c i f
      rw [eL] at hr
      subst hr
      simp only [go_sem, Nat.reduceBEq, Nat.reduceAdd, Nat.reduceMul, Nat.reduceSub, Nat.reduceLeDiff, Nat.le_refl, implies_true, Nat.reduceLT, reduceIte, decide_true, decide_false, true_and, and_true, reduceCtorEq, Nat.mul_one, Int.reduceToNat, Int.reduceLE, Int.reduceLT, Int.reduceAdd, Int.reduceSub, Int.reduceMul, Int.cast_ofNat_Int, cast_zero_int, cast_one_int, Nat.reducePow, Nat.reduceEqDiff, Nat.reduceMod, Nat.zero_add, Nat.sub_zero, Nat.add_zero]
      refine ⟨by kernel_rfl, (c_sStoreFor _ _ _).use (fun _ m => m) ?_⟩
      rintro r _ ⟨hr, ⟨t5, rfl⟩⟩
      rw [eL] at hr
      subst hr
      simp only [go_sem, Nat.reduceBEq, Nat.reduceAdd, Nat.reduceMul, Nat.reduceSub, Nat.reduceLeDiff, Nat.le_refl, implies_true, Nat.reduceLT, reduceIte, decide_true, decide_false, true_and, and_true, reduceCtorEq, Nat.mul_one, Int.reduceToNat, Int.reduceLE, Int.reduceLT, Int.reduceAdd, Int.reduceSub, Int.reduceMul, Int.cast_ofNat_Int, cast_zero_int, cast_one_int, Nat.reducePow, Nat.reduceEqDiff, Nat.reduceMod, Nat.zero_add, Nat.sub_zero, Nat.add_zero]
      cases w
    all_goals first
      | (have eL : store c i f = .tuple #[.int .i64 L, .bool false] := by assumption
         simp only [go_sem, Nat.reduceBEq, Nat.reduceAdd, Nat.reduceMul, Nat.reduceSub, Nat.reduceLeDiff, Nat.le_refl, implies_true, Nat.reduceLT, reduceIte, decide_true, decide_false, true_and, and_true, reduceCtorEq, Nat.mul_one, Int.reduceToNat, Int.reduceLE, Int.reduceLT, Int.reduceAdd, Int.reduceSub, Int.reduceMul, Int.cast_ofNat_Int, cast_zero_int, cast_one_int, Nat.reducePow, Nat.reduceEqDiff, Nat.reduceMod, Nat.zero_add, Nat.sub_zero, Nat.add_zero]
         done)
      | simp only [go_sem, Nat.reduceBEq, Nat.reduceAdd, Nat.reduceMul, Nat.reduceSub, Nat.reduceLeDiff, Nat.le_refl, implies_true, Nat.reduceLT, reduceIte, decide_true, decide_false, true_and, and_true, reduceCtorEq, Nat.mul_one, Int.reduceToNat, Int.reduceLE, Int.reduceLT, Int.reduceAdd, Int.reduceSub, Int.reduceMul, Int.cast_ofNat_Int, cast_zero_int, cast_one_int, Nat.reducePow, Nat.reduceEqDiff, Nat.reduceMod, Nat.zero_add, Nat.sub_zero, Nat.add_zero]
    all_goals
      obtain ⟨hc, hin, hL⟩ := store_told eL
      refine ⟨by kernel_rfl, (c_ReserveFor _).use (fun _ m => m) ?_⟩
      rintro r _ ⟨hr, rfl⟩
      rw [reserve_pos hc] at hr
      subst hr
      simp only [go_sem, Nat.reduceBEq, Nat.reduceAdd, Nat.reduceMul, Nat.reduceSub, Nat.reduceLeDiff, Nat.le_refl, implies_true, Nat.reduceLT, reduceIte, decide_true, decide_false, true_and, and_true, reduceCtorEq, Nat.mul_one, Int.reduceToNat, Int.reduceLE, Int.reduceLT, Int.reduceAdd, Int.reduceSub, Int.reduceMul, Int.cast_ofNat_Int, cast_zero_int, cast_one_int, Nat.reducePow, Nat.reduceEqDiff, Nat.reduceMod, Nat.zero_add, Nat.sub_zero, Nat.add_zero]
      rw [hin]
      rcases hL with ⟨q', e, rfl⟩ | ⟨e, rfl⟩
    all_goals
      refine ⟨by kernel_rfl, (c_MinutesLeft _ _ _).use (fun _ m => m) ?_⟩
      rintro r _ ⟨hr, rfl⟩
      rw [e] at hr
      subst hr
      simp only [go_sem, Nat.reduceBEq, Nat.reduceAdd, Nat.reduceMul, Nat.reduceSub, Nat.reduceLeDiff, Nat.le_refl, implies_true, Nat.reduceLT, reduceIte, decide_true, decide_false, true_and, and_true, reduceCtorEq, Nat.mul_one, Int.reduceToNat, Int.reduceLE, Int.reduceLT, Int.reduceAdd, Int.reduceSub, Int.reduceMul, Int.cast_ofNat_Int, cast_zero_int, cast_one_int, Nat.reducePow, Nat.reduceEqDiff, Nat.reduceMod, Nat.zero_add, Nat.sub_zero, Nat.add_zero, show IntKind.i64.wrap (60 * c) = 60 * c from wrap64 (by omega)]
end

theorem flat_one {α : Type} {f : α → Value} : ∀ {l : List α}, (l.map fun x => [f x]).flatten = l.map f
  | [] => rfl
  | x :: l => by rw [List.map_cons, List.flatten_cons, flat_one]; rfl
theorem Fits.code {h : Heap} {v : Value} (f : FitV h (.slice (.int .u8)) v) : ∃ b n, v = .slice b n 0 ∧ CodeOk h b n := by
  rcases f.slice with rfl | ⟨id, rows, rfl, hg, hl, hf⟩
  · exact ⟨none, 0, rfl, by omega, by omega⟩
  · obtain ⟨l, rfl⟩ := rows_map (f := fun x : {n : Int // (Lit.int .u8 n).wf = true} => [Value.int .u8 x.1]) (rows := rows) (fun r hr => by
      obtain ⟨n, rfl, hw⟩ := hf r hr
      exact ⟨⟨n, hw⟩, rfl⟩)
    rw [List.length_map] at hl ⊢
    refine ⟨_, _, rfl, hl, fun _ => ⟨id, 0, _, rfl, hg, rfl, fun i hi => ?_⟩⟩
    have e := @flat_one {n : Int // (Lit.int .u8 n).wf = true} (fun x => Value.int .u8 x.1) l
    refine ⟨l[i].1, ?_, ?_⟩
    · simp only [e, Nat.zero_add]
      rw [List.getElem?_map, List.getElem?_eq_getElem hi]; rfl
    · have := l[i].2
      have h2 : decide (IntKind.u8.min ≤ l[i].val) = true ∧ decide (l[i].val ≤ IntKind.u8.max) = true := by simpa [Lit.wf] using this
      exact ⟨of_decide_eq_true h2.1, of_decide_eq_true h2.2⟩

theorem a_FnReserves (h : Heap) (a : List Value) (ft : FitsAll h [.slice (.int .u8)] a) : vCall [] Try.prog (fun _ => False) 3 a h (fun r _ => r = .bool true) := by
  obtain ⟨v, vs, rfl, f, g⟩ := ft.cons
  obtain rfl := g.nil
  obtain ⟨b, n, rfl, hc⟩ := Fits.code f
  exact l_FnReserves b n hc
end Go.Proofs.Ytgipdicdbgdkbaa
