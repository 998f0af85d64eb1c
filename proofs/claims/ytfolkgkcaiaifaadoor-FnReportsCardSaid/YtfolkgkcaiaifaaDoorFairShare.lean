
/- Fair shares: what both programs compute. No condition. -/
import Derived.Test.YtfolkgkcaiaifaaDoorSupplies
namespace Go.Proofs.YtfolkgkcaiaifaaDoor
open Go.HH
set_option linter.unusedSimpArgs false
set_option linter.unusedVariables false

def sup0 : Sup := (0, 0, 0)
theorem getDp {l : List Sup} {i : Nat} (hi : i < l.length) : l.getD i sup0 = l[i] := by simp [List.getD, hi]
def supOk (x : Sup) : Prop := supplyOk x.1 x.2.1 x.2.2
instance {x : Sup} : Decidable (supOk x) := by unfold supOk; infer_instance
def supAt (l : List Sup) (i : Nat) : Prop := supOk (l.getD i sup0) ∧ (0 < i → (l.getD (i - 1) sup0).1 < (l.getD i sup0).1)
instance {l : List Sup} {i : Nat} : Decidable (supAt l i) := by unfold supAt; infer_instance
def supGood (l : List Sup) : Prop := ∀ i, i < l.length → supAt l i
instance {l : List Sup} : Decidable (supGood l) := by unfold supGood; infer_instance

section
variable {h : Heap} {M : Nat → Prop}

theorem c_l25Good (v : Value) (l : List Sup) (s : Sl h 3 v (l.map sup)) (hmax : l.length ≤ 1048576) : vCall [] Tryd.prog M 32 [v] h (fun r h' => r = .bool (decide (supGood l)) ∧ h <+: h') := by
  obtain ⟨a, hv, _, _⟩ := id s
  rw [List.length_map] at hv
  refine body_of mo Tryd.func32 rfl (by kernel_rfl) (Nat.le_of_ble_eq_true (by kernel_rfl)) rfl ?_
  subst hv
  simp only [go_sem, Nat.reduceBEq, Nat.reduceAdd, Nat.reduceMul, Nat.reduceSub, Nat.reduceLeDiff, Nat.le_refl, implies_true, Nat.reduceLT, reduceIte, decide_true, decide_false, true_and, and_true, reduceCtorEq, Nat.mul_one, Int.reduceToNat, Int.reduceLE, Int.reduceLT, Int.reduceAdd, Int.reduceSub, Int.reduceMul, Int.cast_ofNat_Int, cast_zero_int, cast_one_int, Nat.reducePow, Nat.reduceEqDiff, Nat.reduceMod, Nat.zero_add, Nat.sub_zero, Nat.add_zero]
  refine vLoop.count mo l.length (fun i e h' => ∃ t : Heap, e 0 = .slice a l.length 0 ∧ e 3 = .int .i64 i ∧ h' = h ++ t ∧ ∀ j, j < i → supAt l j) ?_ ?_
  · refine ⟨[], ?_⟩
    simp only [go_sem, Nat.reduceBEq, Nat.reduceAdd, Nat.reduceMul, Nat.reduceSub, Nat.reduceLeDiff, Nat.le_refl, implies_true, Nat.reduceLT, reduceIte, decide_true, decide_false, true_and, and_true, reduceCtorEq, Nat.mul_one, Int.reduceToNat, Int.reduceLE, Int.reduceLT, Int.reduceAdd, Int.reduceSub, Int.reduceMul, Int.cast_ofNat_Int, cast_zero_int, cast_one_int, Nat.reducePow, Nat.reduceEqDiff, Nat.reduceMod, Nat.zero_add, Nat.sub_zero, Nat.add_zero]
    all_goals simp
  · rintro i e _ hi ⟨t, e0, e3, rfl, hj⟩
    simp only [go_sem, Nat.reduceBEq, Nat.reduceAdd, Nat.reduceMul, Nat.reduceSub, Nat.reduceLeDiff, Nat.le_refl, implies_true, Nat.reduceLT, reduceIte, decide_true, decide_false, true_and, and_true, reduceCtorEq, Nat.mul_one, Int.reduceToNat, Int.reduceLE, Int.reduceLT, Int.reduceAdd, Int.reduceSub, Int.reduceMul, Int.cast_ofNat_Int, cast_zero_int, cast_one_int, Nat.reducePow, Nat.reduceEqDiff, Nat.reduceMod, Nat.zero_add, Nat.sub_zero, Nat.add_zero, e0, e3]
    refine .intro (fun h1 => ?_) (fun h1 => ?_)
    · have hlt : i < l.length := by simpa using h1
      have hlt' : i < (l.map sup).length := by simpa using hlt
      obtain ⟨id, off, k, hv, hk, _, hd, hall⟩ := s.all (Nat.zero_lt_of_lt hlt')
      obtain rfl : a = some ⟨id, off, none⟩ := by simpa using hv
      have hz : (i : Int) < l.length := by omega
      obtain ⟨hb, hrow, hcell⟩ := hall i hlt'
      have g0 := hcell 0 (by omega)
      rw [List.getElem_map] at g0 hrow
      simp only [sup, List.getElem?_cons_zero, Nat.add_zero] at g0 hrow
      have gd : l.getD i sup0 = l[i] := getDp hlt
      simp only [go_sem, Nat.reduceBEq, Nat.reduceAdd, Nat.reduceMul, Nat.reduceSub, Nat.reduceLeDiff, Nat.le_refl, implies_true, Nat.reduceLT, reduceIte, decide_true, decide_false, true_and, and_true, reduceCtorEq, Nat.mul_one, Int.reduceToNat, Int.reduceLE, Int.reduceLT, Int.reduceAdd, Int.reduceSub, Int.reduceMul, Int.cast_ofNat_Int, cast_zero_int, cast_one_int, Nat.reducePow, Nat.reduceEqDiff, Nat.reduceMod, Nat.zero_add, Nat.sub_zero, Nat.add_zero, e0, e3, hk, hz, hd, g0, hrow, hb]
      refine ⟨by kernel_rfl, (c_l25One _ _ _).use (fun _ m => m) ?_⟩
      rintro _ _ ⟨rfl, ⟨t2, rfl⟩⟩
      simp only [go_sem, Nat.reduceBEq, Nat.reduceAdd, Nat.reduceMul, Nat.reduceSub, Nat.reduceLeDiff, Nat.le_refl, implies_true, Nat.reduceLT, reduceIte, decide_true, decide_false, true_and, and_true, reduceCtorEq, Nat.mul_one, Int.reduceToNat, Int.reduceLE, Int.reduceLT, Int.reduceAdd, Int.reduceSub, Int.reduceMul, Int.cast_ofNat_Int, cast_zero_int, cast_one_int, Nat.reducePow, Nat.reduceEqDiff, Nat.reduceMod, Nat.zero_add, Nat.sub_zero, Nat.add_zero, e0, e3]
      by_cases h2 : supplyOk l[i].1 l[i].2.1 l[i].2.2
      · simp only [go_sem, Nat.reduceBEq, Nat.reduceAdd, Nat.reduceMul, Nat.reduceSub, Nat.reduceLeDiff, Nat.le_refl, implies_true, Nat.reduceLT, reduceIte, decide_true, decide_false, true_and, and_true, reduceCtorEq, Nat.mul_one, Int.reduceToNat, Int.reduceLE, Int.reduceLT, Int.reduceAdd, Int.reduceSub, Int.reduceMul, Int.cast_ofNat_Int, cast_zero_int, cast_one_int, Nat.reducePow, Nat.reduceEqDiff, Nat.reduceMod, Nat.zero_add, Nat.sub_zero, Nat.add_zero, e0, e3, decb h2]
        by_cases h4 : 0 < i
        · have hp : i - 1 < (l.map sup).length := by omega
          have g2 := (hall (i - 1) hp).2.2 0 (by omega)
          rw [List.getElem_map] at g2
          simp only [sup, List.getElem?_cons_zero, Nat.add_zero] at g2
          have gd2 : l.getD (i - 1) sup0 = l[i - 1] := getDp (by omega)
          have q1 : (0 : Int) < i := by omega
          have q2 : IntKind.i64.wrap ((i : Int) - 1) = ((i - 1 : Nat) : Int) := by rw [wrap64 (by omega)]; omega
          have q3 : ((i - 1 : Nat) : Int) < l.length := by omega
          simp only [go_sem, Nat.reduceBEq, Nat.reduceAdd, Nat.reduceMul, Nat.reduceSub, Nat.reduceLeDiff, Nat.le_refl, implies_true, Nat.reduceLT, reduceIte, decide_true, decide_false, true_and, and_true, reduceCtorEq, Nat.mul_one, Int.reduceToNat, Int.reduceLE, Int.reduceLT, Int.reduceAdd, Int.reduceSub, Int.reduceMul, Int.cast_ofNat_Int, cast_zero_int, cast_one_int, Nat.reducePow, Nat.reduceEqDiff, Nat.reduceMod, Nat.zero_add, Nat.sub_zero, Nat.add_zero, e0, e3, hk, hz, hd, g0, g2, q1, q2, q3, hrow, decb h2]
          by_cases h5 : l[i].1 ≤ l[i - 1].1
          · simp only [go_sem, Nat.reduceBEq, Nat.reduceAdd, Nat.reduceMul, Nat.reduceSub, Nat.reduceLeDiff, Nat.le_refl, implies_true, Nat.reduceLT, reduceIte, decide_true, decide_false, true_and, and_true, reduceCtorEq, Nat.mul_one, Int.reduceToNat, Int.reduceLE, Int.reduceLT, Int.reduceAdd, Int.reduceSub, Int.reduceMul, Int.cast_ofNat_Int, cast_zero_int, cast_one_int, Nat.reducePow, Nat.reduceEqDiff, Nat.reduceMod, Nat.zero_add, Nat.sub_zero, Nat.add_zero, e0, e3, h5]
            try exact congrArg Value.bool (decide_eq_false (fun hh : supGood l => by have := (hh i hlt).2 h4; rw [gd, gd2] at this; omega)).symm
          · simp only [go_sem, Nat.reduceBEq, Nat.reduceAdd, Nat.reduceMul, Nat.reduceSub, Nat.reduceLeDiff, Nat.le_refl, implies_true, Nat.reduceLT, reduceIte, decide_true, decide_false, true_and, and_true, reduceCtorEq, Nat.mul_one, Int.reduceToNat, Int.reduceLE, Int.reduceLT, Int.reduceAdd, Int.reduceSub, Int.reduceMul, Int.cast_ofNat_Int, cast_zero_int, cast_one_int, Nat.reducePow, Nat.reduceEqDiff, Nat.reduceMod, Nat.zero_add, Nat.sub_zero, Nat.add_zero, e0, e3, h5]
            refine ⟨hlt, _, by rw [wrap64 (by omega)]; rfl, rfl, fun j hji => ?_⟩
            by_cases hje : j = i
            · subst hje; exact ⟨by rw [gd]; exact h2, fun _ => by rw [gd, gd2]; omega⟩
            · exact hj j (by omega)
        · simp only [go_sem, Nat.reduceBEq, Nat.reduceAdd, Nat.reduceMul, Nat.reduceSub, Nat.reduceLeDiff, Nat.le_refl, implies_true, Nat.reduceLT, reduceIte, decide_true, decide_false, true_and, and_true, reduceCtorEq, Nat.mul_one, Int.reduceToNat, Int.reduceLE, Int.reduceLT, Int.reduceAdd, Int.reduceSub, Int.reduceMul, Int.cast_ofNat_Int, cast_zero_int, cast_one_int, Nat.reducePow, Nat.reduceEqDiff, Nat.reduceMod, Nat.zero_add, Nat.sub_zero, Nat.add_zero, e0, e3, hk, hz, hd, g0, hrow, decb h2, show ¬ ((0 : Int) < i) by omega]
          refine ⟨hlt, _, by rw [wrap64 (by omega)]; rfl, rfl, fun j hji => ?_⟩
          by_cases hje : j = i
          · subst hje; exact ⟨by rw [gd]; exact h2, fun h0 => absurd h0 h4⟩
          · exact hj j (by omega)
      · simp only [go_sem, Nat.reduceBEq, Nat.reduceAdd, Nat.reduceMul, Nat.reduceSub, Nat.reduceLeDiff, Nat.le_refl, implies_true, Nat.reduceLT, reduceIte, decide_true, decide_false, true_and, and_true, reduceCtorEq, Nat.mul_one, Int.reduceToNat, Int.reduceLE, Int.reduceLT, Int.reduceAdd, Int.reduceSub, Int.reduceMul, Int.cast_ofNat_Int, cast_zero_int, cast_one_int, Nat.reducePow, Nat.reduceEqDiff, Nat.reduceMod, Nat.zero_add, Nat.sub_zero, Nat.add_zero, e0, e3, dect h2]
        try exact congrArg Value.bool (decide_eq_false (fun hh : supGood l => h2 (by rw [← gd]; exact (hh i hlt).1))).symm
    · simp only [go_sem, Nat.reduceBEq, Nat.reduceAdd, Nat.reduceMul, Nat.reduceSub, Nat.reduceLeDiff, Nat.le_refl, implies_true, Nat.reduceLT, reduceIte, decide_true, decide_false, true_and, and_true, reduceCtorEq, Nat.mul_one, Int.reduceToNat, Int.reduceLE, Int.reduceLT, Int.reduceAdd, Int.reduceSub, Int.reduceMul, Int.cast_ofNat_Int, cast_zero_int, cast_one_int, Nat.reducePow, Nat.reduceEqDiff, Nat.reduceMod, Nat.zero_add, Nat.sub_zero, Nat.add_zero, e0, e3]
      obtain rfl : i = l.length := by have : ¬ i < l.length := by simpa using h1
                                      omega
      exact congrArg Value.bool (decide_eq_true (show supGood l from hj)).symm

theorem c_areSupplies (v : Value) (l : List Sup) (s : Sl h 3 v (l.map sup)) (hmax : l.length ≤ 1048576) : vCall [] Tryd.prog M 36 [v] h (fun r h' => r = .bool (decide (supGood l)) ∧ h <+: h') := by
  obtain ⟨a, hv, _, _⟩ := id s
  rw [List.length_map] at hv
  refine body_of mo Tryd.func36 rfl (by kernel_rfl) (Nat.le_of_ble_eq_true (by kernel_rfl)) rfl ?_
  subst hv
  simp only [go_sem, Nat.reduceBEq, Nat.reduceAdd, Nat.reduceMul, Nat.reduceSub, Nat.reduceLeDiff, Nat.le_refl, implies_true, Nat.reduceLT, reduceIte, decide_true, decide_false, true_and, and_true, reduceCtorEq, Nat.mul_one, Int.reduceToNat, Int.reduceLE, Int.reduceLT, Int.reduceAdd, Int.reduceSub, Int.reduceMul, Int.cast_ofNat_Int, cast_zero_int, cast_one_int, Nat.reducePow, Nat.reduceEqDiff, Nat.reduceMod, Nat.zero_add, Nat.sub_zero, Nat.add_zero]
  refine vLoop.count mo l.length (fun i e h' => ∃ t : Heap, e 0 = .slice a l.length 0 ∧ e 5 = .slice a l.length 0 ∧ e 6 = .int .i64 l.length ∧ e 7 = .int .i64 i ∧ h' = h ++ t ∧ ∀ j, j < i → supAt l j) ?_ ?_
  · refine ⟨[], ?_⟩
    simp only [go_sem, Nat.reduceBEq, Nat.reduceAdd, Nat.reduceMul, Nat.reduceSub, Nat.reduceLeDiff, Nat.le_refl, implies_true, Nat.reduceLT, reduceIte, decide_true, decide_false, true_and, and_true, reduceCtorEq, Nat.mul_one, Int.reduceToNat, Int.reduceLE, Int.reduceLT, Int.reduceAdd, Int.reduceSub, Int.reduceMul, Int.cast_ofNat_Int, cast_zero_int, cast_one_int, Nat.reducePow, Nat.reduceEqDiff, Nat.reduceMod, Nat.zero_add, Nat.sub_zero, Nat.add_zero]
    all_goals simp
  · rintro i e _ hi ⟨t, e0, e5, e6, e7, rfl, hj⟩
    simp only [go_sem, Nat.reduceBEq, Nat.reduceAdd, Nat.reduceMul, Nat.reduceSub, Nat.reduceLeDiff, Nat.le_refl, implies_true, Nat.reduceLT, reduceIte, decide_true, decide_false, true_and, and_true, reduceCtorEq, Nat.mul_one, Int.reduceToNat, Int.reduceLE, Int.reduceLT, Int.reduceAdd, Int.reduceSub, Int.reduceMul, Int.cast_ofNat_Int, cast_zero_int, cast_one_int, Nat.reducePow, Nat.reduceEqDiff, Nat.reduceMod, Nat.zero_add, Nat.sub_zero, Nat.add_zero, e0, e5, e6, e7]
    refine .intro (fun h1 => ?_) (fun h1 => ?_)
    · have hlt : i < l.length := by simpa using h1
      have hlt' : i < (l.map sup).length := by simpa using hlt
      obtain ⟨id, off, k, hv, hk, _, hd, hall⟩ := s.all (Nat.zero_lt_of_lt hlt')
      obtain rfl : a = some ⟨id, off, none⟩ := by simpa using hv
      have hz : (i : Int) < l.length := by omega
      obtain ⟨hb, hrow, hcell⟩ := hall i hlt'
      have g0 := hcell 0 (by omega)
      rw [List.getElem_map] at g0 hrow
      simp only [sup, List.getElem?_cons_zero, Nat.add_zero] at g0 hrow
      have gd : l.getD i sup0 = l[i] := getDp hlt
      simp only [go_sem, Nat.reduceBEq, Nat.reduceAdd, Nat.reduceMul, Nat.reduceSub, Nat.reduceLeDiff, Nat.le_refl, implies_true, Nat.reduceLT, reduceIte, decide_true, decide_false, true_and, and_true, reduceCtorEq, Nat.mul_one, Int.reduceToNat, Int.reduceLE, Int.reduceLT, Int.reduceAdd, Int.reduceSub, Int.reduceMul, Int.cast_ofNat_Int, cast_zero_int, cast_one_int, Nat.reducePow, Nat.reduceEqDiff, Nat.reduceMod, Nat.zero_add, Nat.sub_zero, Nat.add_zero, e0, e5, e6, e7, hk, hz, hd, g0, hrow, hb]
      refine ⟨by kernel_rfl, (c_IsValidSupply _ _ _).use (fun _ m => m) ?_⟩
      rintro _ _ ⟨rfl, ⟨t2, rfl⟩⟩
      simp only [go_sem, Nat.reduceBEq, Nat.reduceAdd, Nat.reduceMul, Nat.reduceSub, Nat.reduceLeDiff, Nat.le_refl, implies_true, Nat.reduceLT, reduceIte, decide_true, decide_false, true_and, and_true, reduceCtorEq, Nat.mul_one, Int.reduceToNat, Int.reduceLE, Int.reduceLT, Int.reduceAdd, Int.reduceSub, Int.reduceMul, Int.cast_ofNat_Int, cast_zero_int, cast_one_int, Nat.reducePow, Nat.reduceEqDiff, Nat.reduceMod, Nat.zero_add, Nat.sub_zero, Nat.add_zero, e0, e5, e6, e7]
      by_cases h2 : supplyOk l[i].1 l[i].2.1 l[i].2.2
      · simp only [go_sem, Nat.reduceBEq, Nat.reduceAdd, Nat.reduceMul, Nat.reduceSub, Nat.reduceLeDiff, Nat.le_refl, implies_true, Nat.reduceLT, reduceIte, decide_true, decide_false, true_and, and_true, reduceCtorEq, Nat.mul_one, Int.reduceToNat, Int.reduceLE, Int.reduceLT, Int.reduceAdd, Int.reduceSub, Int.reduceMul, Int.cast_ofNat_Int, cast_zero_int, cast_one_int, Nat.reducePow, Nat.reduceEqDiff, Nat.reduceMod, Nat.zero_add, Nat.sub_zero, Nat.add_zero, e0, e5, e6, e7, decb h2]
        by_cases h4 : 0 < i
        · have hp : i - 1 < (l.map sup).length := by omega
          have g2 := (hall (i - 1) hp).2.2 0 (by omega)
          rw [List.getElem_map] at g2
          simp only [sup, List.getElem?_cons_zero, Nat.add_zero] at g2
          have gd2 : l.getD (i - 1) sup0 = l[i - 1] := getDp (by omega)
          have q1 : (0 : Int) < i := by omega
          have q2 : IntKind.i64.wrap ((i : Int) - 1) = ((i - 1 : Nat) : Int) := by rw [wrap64 (by omega)]; omega
          have q3 : ((i - 1 : Nat) : Int) < l.length := by omega
          simp only [go_sem, Nat.reduceBEq, Nat.reduceAdd, Nat.reduceMul, Nat.reduceSub, Nat.reduceLeDiff, Nat.le_refl, implies_true, Nat.reduceLT, reduceIte, decide_true, decide_false, true_and, and_true, reduceCtorEq, Nat.mul_one, Int.reduceToNat, Int.reduceLE, Int.reduceLT, Int.reduceAdd, Int.reduceSub, Int.reduceMul, Int.cast_ofNat_Int, cast_zero_int, cast_one_int, Nat.reducePow, Nat.reduceEqDiff, Nat.reduceMod, Nat.zero_add, Nat.sub_zero, Nat.add_zero, e0, e5, e6, e7, hk, hz, hd, g0, g2, q1, q2, q3, hrow, decb h2]
          by_cases h5 : l[i].1 ≤ l[i - 1].1
          · simp only [go_sem, Nat.reduceBEq, Nat.reduceAdd, Nat.reduceMul, Nat.reduceSub, Nat.reduceLeDiff, Nat.le_refl, implies_true, Nat.reduceLT, reduceIte, decide_true, decide_false, true_and, and_true, reduceCtorEq, Nat.mul_one, Int.reduceToNat, Int.reduceLE, Int.reduceLT, Int.reduceAdd, Int.reduceSub, Int.reduceMul, Int.cast_ofNat_Int, cast_zero_int, cast_one_int, Nat.reducePow, Nat.reduceEqDiff, Nat.reduceMod, Nat.zero_add, Nat.sub_zero, Nat.add_zero, e0, e5, e6, e7, h5]
            try exact congrArg Value.bool (decide_eq_false (fun hh : supGood l => by have := (hh i hlt).2 h4; rw [gd, gd2] at this; omega)).symm
          · simp only [go_sem, Nat.reduceBEq, Nat.reduceAdd, Nat.reduceMul, Nat.reduceSub, Nat.reduceLeDiff, Nat.le_refl, implies_true, Nat.reduceLT, reduceIte, decide_true, decide_false, true_and, and_true, reduceCtorEq, Nat.mul_one, Int.reduceToNat, Int.reduceLE, Int.reduceLT, Int.reduceAdd, Int.reduceSub, Int.reduceMul, Int.cast_ofNat_Int, cast_zero_int, cast_one_int, Nat.reducePow, Nat.reduceEqDiff, Nat.reduceMod, Nat.zero_add, Nat.sub_zero, Nat.add_zero, e0, e5, e6, e7, h5]
            refine ⟨hlt, _, by rw [wrap64 (by omega)]; rfl, rfl, fun j hji => ?_⟩
            by_cases hje : j = i
            · subst hje; exact ⟨by rw [gd]; exact h2, fun _ => by rw [gd, gd2]; omega⟩
            · exact hj j (by omega)
        · simp only [go_sem, Nat.reduceBEq, Nat.reduceAdd, Nat.reduceMul, Nat.reduceSub, Nat.reduceLeDiff, Nat.le_refl, implies_true, Nat.reduceLT, reduceIte, decide_true, decide_false, true_and, and_true, reduceCtorEq, Nat.mul_one, Int.reduceToNat, Int.reduceLE, Int.reduceLT, Int.reduceAdd, Int.reduceSub, Int.reduceMul, Int.cast_ofNat_Int, cast_zero_int, cast_one_int, Nat.reducePow, Nat.reduceEqDiff, Nat.reduceMod, Nat.zero_add, Nat.sub_zero, Nat.add_zero, e0, e5, e6, e7, hk, hz, hd, g0, hrow, decb h2, show ¬ ((0 : Int) < i) by omega]
          refine ⟨hlt, _, by rw [wrap64 (by omega)]; rfl, rfl, fun j hji => ?_⟩
          by_cases hje : j = i
          · subst hje; exact ⟨by rw [gd]; exact h2, fun h0 => absurd h0 h4⟩
          · exact hj j (by omega)
      · simp only [go_sem, Nat.reduceBEq, Nat.reduceAdd, Nat.reduceMul, Nat.reduceSub, Nat.reduceLeDiff, Nat.le_refl, implies_true, Nat.reduceLT, reduceIte, decide_true, decide_false, true_and, and_true, reduceCtorEq, Nat.mul_one, Int.reduceToNat, Int.reduceLE, Int.reduceLT, Int.reduceAdd, Int.reduceSub, Int.reduceMul, Int.cast_ofNat_Int, cast_zero_int, cast_one_int, Nat.reducePow, Nat.reduceEqDiff, Nat.reduceMod, Nat.zero_add, Nat.sub_zero, Nat.add_zero, e0, e5, e6, e7, dect h2]
        try exact congrArg Value.bool (decide_eq_false (fun hh : supGood l => h2 (by rw [← gd]; exact (hh i hlt).1))).symm
    · simp only [go_sem, Nat.reduceBEq, Nat.reduceAdd, Nat.reduceMul, Nat.reduceSub, Nat.reduceLeDiff, Nat.le_refl, implies_true, Nat.reduceLT, reduceIte, decide_true, decide_false, true_and, and_true, reduceCtorEq, Nat.mul_one, Int.reduceToNat, Int.reduceLE, Int.reduceLT, Int.reduceAdd, Int.reduceSub, Int.reduceMul, Int.cast_ofNat_Int, cast_zero_int, cast_one_int, Nat.reducePow, Nat.reduceEqDiff, Nat.reduceMod, Nat.zero_add, Nat.sub_zero, Nat.add_zero, e0, e5, e6, e7]
      obtain rfl : i = l.length := by have : ¬ i < l.length := by simpa using h1
                                      omega
      exact congrArg Value.bool (decide_eq_true (show supGood l from hj)).symm

end
end Go.Proofs.YtfolkgkcaiaifaaDoor
