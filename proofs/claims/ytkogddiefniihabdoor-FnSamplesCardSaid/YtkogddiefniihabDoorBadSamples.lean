
/- The bad samples of a list. No condition. -/
import Derived.Test.YtkogddiefniihabDoorSamples
namespace Go.Proofs.YtkogddiefniihabDoor
open Go.HH
set_option linter.unusedSimpArgs false
set_option linter.unusedVariables false

/-- The places of the bad ones among the first. -/
def badN (l : List Smp) : Nat → List Int
  | 0 => []
  | i + 1 => if off (l.getD i smp0) = 0 then badN l i else badN l i ++ [(i : Int)]
theorem badN_len {l : List Smp} : ∀ i, (badN l i).length ≤ i
  | 0 => by simp [badN]
  | i + 1 => by
    have := badN_len (l := l) i
    rw [badN]; split
    · omega
    · rw [List.length_append, List.length_singleton]; omega
theorem badN_no {l : List Smp} {i : Nat} (h : off (l.getD i smp0) = 0) : badN l (i + 1) = badN l i := by rw [badN, if_pos h]
theorem badN_yes {l : List Smp} {i : Nat} (h : ¬ off (l.getD i smp0) = 0) : badN l (i + 1) = badN l i ++ [(i : Int)] := by rw [badN, if_neg h]
theorem off_nn (x : Smp) : 0 ≤ off x := by unfold off; omega
def badSamples (l : List Smp) : List Int := if smpGood l then badN l l.length else []
theorem badSamples_len {l : List Smp} (hm : l.length ≤ 1048576) : (badSamples l).length ≤ 1048576 := by unfold badSamples; split; exact Nat.le_trans (badN_len _) hm; simp

theorem new_end {u : Heap} {K b : Blk} {j n : Nat} (hn : n = u.length) : (u.set j b ++ [K])[n]? = some K := by
  subst hn
  rw [List.getElem?_append_right (by simp), List.length_set, Nat.sub_self]; rfl

section
variable {h : Heap} {M : Nat → Prop}

theorem c_BadSamples (v : Value) (l : List Smp) (s : Sl h 4 v (l.map smp)) (hmax : l.length ≤ 1048576) : vCall [] Tryd.prog M 32 [v] h (fun r h' => (∃ w, r = .tuple #[w, .bool (decide (smpGood l))] ∧ FI h.length h'.length h' w (badSamples l)) ∧ h <+: h') := by
  obtain ⟨a, hv, _, _⟩ := id s
  rw [List.length_map] at hv
  refine body_of mo Tryd.func32 rfl (by kernel_rfl) (Nat.le_of_ble_eq_true (by kernel_rfl)) rfl ?_
  subst hv
  simp only [go_sem, Nat.reduceBEq, Nat.reduceAdd, Nat.reduceMul, Nat.reduceSub, Nat.reduceLeDiff, Nat.le_refl, implies_true, Nat.reduceLT, reduceIte, decide_true, decide_false, true_and, and_true, reduceCtorEq, Nat.mul_one, Int.reduceToNat, Int.reduceLE, Int.reduceLT, Int.reduceAdd, Int.reduceSub, Int.reduceMul, Int.cast_ofNat_Int, cast_zero_int, cast_one_int, Nat.reducePow, Nat.reduceEqDiff, Nat.reduceMod, Nat.zero_add, Nat.sub_zero, Nat.add_zero]
  refine ⟨by kernel_rfl, (c_areSamples _ l s hmax).use (fun _ m => m) ?_⟩
  rintro _ _ ⟨rfl, ⟨t, rfl⟩⟩
  simp only [go_sem, Nat.reduceBEq, Nat.reduceAdd, Nat.reduceMul, Nat.reduceSub, Nat.reduceLeDiff, Nat.le_refl, implies_true, Nat.reduceLT, reduceIte, decide_true, decide_false, true_and, and_true, reduceCtorEq, Nat.mul_one, Int.reduceToNat, Int.reduceLE, Int.reduceLT, Int.reduceAdd, Int.reduceSub, Int.reduceMul, Int.cast_ofNat_Int, cast_zero_int, cast_one_int, Nat.reducePow, Nat.reduceEqDiff, Nat.reduceMod, Nat.zero_add, Nat.sub_zero, Nat.add_zero]
  by_cases h1 : smpGood l
  · simp only [go_sem, Nat.reduceBEq, Nat.reduceAdd, Nat.reduceMul, Nat.reduceSub, Nat.reduceLeDiff, Nat.le_refl, implies_true, Nat.reduceLT, reduceIte, decide_true, decide_false, true_and, and_true, reduceCtorEq, Nat.mul_one, Int.reduceToNat, Int.reduceLE, Int.reduceLT, Int.reduceAdd, Int.reduceSub, Int.reduceMul, Int.cast_ofNat_Int, cast_zero_int, cast_one_int, Nat.reducePow, Nat.reduceEqDiff, Nat.reduceMod, Nat.zero_add, Nat.sub_zero, Nat.add_zero, decb h1]
    refine vLoop.count mo l.length (fun i e h' => ∃ (t : Heap) (j : Nat), e 11 = .slice a l.length 0 ∧ e 12 = .int .i64 l.length ∧ e 13 = .int .i64 i ∧
      e 4 = .slice (some ⟨h.length + j, 0, none⟩) (badN l i).length 0 ∧ h' = h ++ t ∧ t[j]? = some ⟨(badN l i).map iv, 1, .rw⟩) ?_ ?_
    · exact ⟨t ++ [⟨[], 1, .rw⟩], t.length, rfl, rfl, rfl, by simp [upd, badN], by simp, by simp [badN]⟩
    · rintro i e _ hi ⟨t, j, e11, e12, e13, e4, rfl, hj⟩
      simp only [go_sem, Nat.reduceBEq, Nat.reduceAdd, Nat.reduceMul, Nat.reduceSub, Nat.reduceLeDiff, Nat.le_refl, implies_true, Nat.reduceLT, reduceIte, decide_true, decide_false, true_and, and_true, reduceCtorEq, Nat.mul_one, Int.reduceToNat, Int.reduceLE, Int.reduceLT, Int.reduceAdd, Int.reduceSub, Int.reduceMul, Int.cast_ofNat_Int, cast_zero_int, cast_one_int, Nat.reducePow, Nat.reduceEqDiff, Nat.reduceMod, Nat.zero_add, Nat.sub_zero, Nat.add_zero, e11, e12, e13]
      refine .intro (fun h2 => ?_) (fun h2 => ?_)
      · have hlt : i < l.length := by simpa using h2
        have hlt' : i < (l.map smp).length := by simpa using hlt
        obtain ⟨id, o, k, hv, hk, _, hd, hall⟩ := s.all (Nat.zero_lt_of_lt hlt')
        obtain rfl : a = some ⟨id, o, none⟩ := by simpa using hv
        have hz : (i : Int) < l.length := by omega
        obtain ⟨hb, hrow, hcell⟩ := hall i hlt'
        rw [List.getElem_map] at hrow
        simp only [smp] at hrow
        have gd : l.getD i smp0 = l[i] := getDs hlt
        simp only [go_sem, Nat.reduceBEq, Nat.reduceAdd, Nat.reduceMul, Nat.reduceSub, Nat.reduceLeDiff, Nat.le_refl, implies_true, Nat.reduceLT, reduceIte, decide_true, decide_false, true_and, and_true, reduceCtorEq, Nat.mul_one, Int.reduceToNat, Int.reduceLE, Int.reduceLT, Int.reduceAdd, Int.reduceSub, Int.reduceMul, Int.cast_ofNat_Int, cast_zero_int, cast_one_int, Nat.reducePow, Nat.reduceEqDiff, Nat.reduceMod, Nat.zero_add, Nat.sub_zero, Nat.add_zero, e11, e12, e13, hk, hz, hd, hrow, hb]
        refine ⟨by kernel_rfl, (c_isGood _ (h1.ok hlt)).use (fun _ m => m) ?_⟩
        rintro _ _ ⟨rfl, ⟨t2, rfl⟩⟩
        have hbl := badN_len (l := l) i
        by_cases h3 : off l[i] = 0
        · simp only [go_sem, Nat.reduceBEq, Nat.reduceAdd, Nat.reduceMul, Nat.reduceSub, Nat.reduceLeDiff, Nat.le_refl, implies_true, Nat.reduceLT, reduceIte, decide_true, decide_false, true_and, and_true, reduceCtorEq, Nat.mul_one, Int.reduceToNat, Int.reduceLE, Int.reduceLT, Int.reduceAdd, Int.reduceSub, Int.reduceMul, Int.cast_ofNat_Int, cast_zero_int, cast_one_int, Nat.reducePow, Nat.reduceEqDiff, Nat.reduceMod, Nat.zero_add, Nat.sub_zero, Nat.add_zero, e11, e12, e13, e4, decb h3]
          rw [← gd] at h3
          exact ⟨hlt, _, j, by rw [wrap64 (by omega)]; rfl, by rw [badN_no h3], rfl, by rw [badN_no h3]; exact app_old hj _⟩
        · simp only [go_sem, Nat.reduceBEq, Nat.reduceAdd, Nat.reduceMul, Nat.reduceSub, Nat.reduceLeDiff, Nat.le_refl, implies_true, Nat.reduceLT, reduceIte, decide_true, decide_false, true_and, and_true, reduceCtorEq, Nat.mul_one, Int.reduceToNat, Int.reduceLE, Int.reduceLT, Int.reduceAdd, Int.reduceSub, Int.reduceMul, Int.cast_ofNat_Int, cast_zero_int, cast_one_int, Nat.reducePow, Nat.reduceEqDiff, Nat.reduceMod, Nat.zero_add, Nat.sub_zero, Nat.add_zero, e11, e12, e13, e4, dect h3, app_old hj, List.length_map, show (badN l i).length ≤ 9223372036854775806 by omega, show ((badN l i).length + 1) * 8 ≤ 140737488355328 by omega]
          rw [← gd] at h3
          exact ⟨hlt, _, t.length + (t2.length + 1 + 1), by rw [wrap64 (by omega)]; rfl, by rw [badN_yes h3, List.length_append]; rfl, rfl, by rw [badN_yes h3, List.map_append]; exact new_end (by simp)⟩
      · simp only [go_sem, Nat.reduceBEq, Nat.reduceAdd, Nat.reduceMul, Nat.reduceSub, Nat.reduceLeDiff, Nat.le_refl, implies_true, Nat.reduceLT, reduceIte, decide_true, decide_false, true_and, and_true, reduceCtorEq, Nat.mul_one, Int.reduceToNat, Int.reduceLE, Int.reduceLT, Int.reduceAdd, Int.reduceSub, Int.reduceMul, Int.cast_ofNat_Int, cast_zero_int, cast_one_int, Nat.reducePow, Nat.reduceEqDiff, Nat.reduceMod, Nat.zero_add, Nat.sub_zero, Nat.add_zero, e11, e12, e13, e4, decb h1]
        obtain rfl : i = l.length := by have : ¬ i < l.length := by simpa using h2
                                        omega
        have hl : (badSamples l) = badN l l.length := by rw [badSamples, if_pos h1]
        refine ⟨_, rfl, ?_⟩
        rw [hl]
        exact FI.at (by omega) (by have := (List.getElem?_eq_some_iff.1 hj).1; omega) (by rw [hget_app, hj])
  · simp only [go_sem, Nat.reduceBEq, Nat.reduceAdd, Nat.reduceMul, Nat.reduceSub, Nat.reduceLeDiff, Nat.le_refl, implies_true, Nat.reduceLT, reduceIte, decide_true, decide_false, true_and, and_true, reduceCtorEq, Nat.mul_one, Int.reduceToNat, Int.reduceLE, Int.reduceLT, Int.reduceAdd, Int.reduceSub, Int.reduceMul, Int.cast_ofNat_Int, cast_zero_int, cast_one_int, Nat.reducePow, Nat.reduceEqDiff, Nat.reduceMod, Nat.zero_add, Nat.sub_zero, Nat.add_zero, dect h1]
    exact ⟨_, rfl, by rw [badSamples, if_neg h1]; exact .nil⟩

theorem c_sBadSamples (v : Value) (l : List Smp) (s : Sl h 4 v (l.map smp)) (hmax : l.length ≤ 1048576) : vCall [] Tryd.prog M 33 [v] h (fun r h' => (∃ w, r = .tuple #[w, .bool (decide (smpGood l))] ∧ FI h.length h'.length h' w (badSamples l)) ∧ h <+: h') := by
  obtain ⟨a, hv, _, _⟩ := id s
  rw [List.length_map] at hv
  refine body_of mo Tryd.func33 rfl (by kernel_rfl) (Nat.le_of_ble_eq_true (by kernel_rfl)) rfl ?_
  subst hv
  simp only [go_sem, Nat.reduceBEq, Nat.reduceAdd, Nat.reduceMul, Nat.reduceSub, Nat.reduceLeDiff, Nat.le_refl, implies_true, Nat.reduceLT, reduceIte, decide_true, decide_false, true_and, and_true, reduceCtorEq, Nat.mul_one, Int.reduceToNat, Int.reduceLE, Int.reduceLT, Int.reduceAdd, Int.reduceSub, Int.reduceMul, Int.cast_ofNat_Int, cast_zero_int, cast_one_int, Nat.reducePow, Nat.reduceEqDiff, Nat.reduceMod, Nat.zero_add, Nat.sub_zero, Nat.add_zero]
  refine ⟨by kernel_rfl, (c_l23Good _ l (s.mono (List.prefix_append _ _)) hmax).use (fun _ m => m) ?_⟩
  rintro _ _ ⟨rfl, ⟨t, rfl⟩⟩
  simp only [go_sem, Nat.reduceBEq, Nat.reduceAdd, Nat.reduceMul, Nat.reduceSub, Nat.reduceLeDiff, Nat.le_refl, implies_true, Nat.reduceLT, reduceIte, decide_true, decide_false, true_and, and_true, reduceCtorEq, Nat.mul_one, Int.reduceToNat, Int.reduceLE, Int.reduceLT, Int.reduceAdd, Int.reduceSub, Int.reduceMul, Int.cast_ofNat_Int, cast_zero_int, cast_one_int, Nat.reducePow, Nat.reduceEqDiff, Nat.reduceMod, Nat.zero_add, Nat.sub_zero, Nat.add_zero]
  by_cases h1 : smpGood l
  · simp only [go_sem, Nat.reduceBEq, Nat.reduceAdd, Nat.reduceMul, Nat.reduceSub, Nat.reduceLeDiff, Nat.le_refl, implies_true, Nat.reduceLT, reduceIte, decide_true, decide_false, true_and, and_true, reduceCtorEq, Nat.mul_one, Int.reduceToNat, Int.reduceLE, Int.reduceLT, Int.reduceAdd, Int.reduceSub, Int.reduceMul, Int.cast_ofNat_Int, cast_zero_int, cast_one_int, Nat.reducePow, Nat.reduceEqDiff, Nat.reduceMod, Nat.zero_add, Nat.sub_zero, Nat.add_zero, decb h1]
    refine vLoop.count mo l.length (fun i e h' => ∃ (t : Heap) (j : Nat), e 0 = .slice a l.length 0 ∧ e 5 = .int .i64 i ∧
      e 4 = .slice (some ⟨h.length + j, 0, none⟩) (badN l i).length 0 ∧ h' = h ++ t ∧ t[j]? = some ⟨(badN l i).map iv, 1, .rw⟩) ?_ ?_
    · exact ⟨[⟨[], 1, .rw⟩] ++ t, 0, rfl, rfl, rfl, by simp, by simp [badN]⟩
    · rintro i e _ hi ⟨t, j, e0, e5, e4, rfl, hj⟩
      simp only [go_sem, Nat.reduceBEq, Nat.reduceAdd, Nat.reduceMul, Nat.reduceSub, Nat.reduceLeDiff, Nat.le_refl, implies_true, Nat.reduceLT, reduceIte, decide_true, decide_false, true_and, and_true, reduceCtorEq, Nat.mul_one, Int.reduceToNat, Int.reduceLE, Int.reduceLT, Int.reduceAdd, Int.reduceSub, Int.reduceMul, Int.cast_ofNat_Int, cast_zero_int, cast_one_int, Nat.reducePow, Nat.reduceEqDiff, Nat.reduceMod, Nat.zero_add, Nat.sub_zero, Nat.add_zero, e0, e5]
      refine .intro (fun h2 => ?_) (fun h2 => ?_)
      · have hlt : i < l.length := by simpa using h2
        have hlt' : i < (l.map smp).length := by simpa using hlt
        obtain ⟨id, o, k, hv, hk, _, hd, hall⟩ := s.all (Nat.zero_lt_of_lt hlt')
        obtain rfl : a = some ⟨id, o, none⟩ := by simpa using hv
        have hz : (i : Int) < l.length := by omega
        obtain ⟨hb, hrow, hcell⟩ := hall i hlt'
        rw [List.getElem_map] at hrow
        simp only [smp] at hrow
        have gd : l.getD i smp0 = l[i] := getDs hlt
        simp only [go_sem, Nat.reduceBEq, Nat.reduceAdd, Nat.reduceMul, Nat.reduceSub, Nat.reduceLeDiff, Nat.le_refl, implies_true, Nat.reduceLT, reduceIte, decide_true, decide_false, true_and, and_true, reduceCtorEq, Nat.mul_one, Int.reduceToNat, Int.reduceLE, Int.reduceLT, Int.reduceAdd, Int.reduceSub, Int.reduceMul, Int.cast_ofNat_Int, cast_zero_int, cast_one_int, Nat.reducePow, Nat.reduceEqDiff, Nat.reduceMod, Nat.zero_add, Nat.sub_zero, Nat.add_zero, e0, e5, hk, hz, hd, hrow, hb]
        refine ⟨by kernel_rfl, (c_l23Off _ (h1.ok hlt)).use (fun _ m => m) ?_⟩
        rintro _ _ ⟨rfl, ⟨t2, rfl⟩⟩
        have hbl := badN_len (l := l) i
        have hnn := off_nn l[i]
        simp only [go_sem, Nat.reduceBEq, Nat.reduceAdd, Nat.reduceMul, Nat.reduceSub, Nat.reduceLeDiff, Nat.le_refl, implies_true, Nat.reduceLT, reduceIte, decide_true, decide_false, true_and, and_true, reduceCtorEq, Nat.mul_one, Int.reduceToNat, Int.reduceLE, Int.reduceLT, Int.reduceAdd, Int.reduceSub, Int.reduceMul, Int.cast_ofNat_Int, cast_zero_int, cast_one_int, Nat.reducePow, Nat.reduceEqDiff, Nat.reduceMod, Nat.zero_add, Nat.sub_zero, Nat.add_zero]
        by_cases h3 : off l[i] = 0
        · simp only [go_sem, Nat.reduceBEq, Nat.reduceAdd, Nat.reduceMul, Nat.reduceSub, Nat.reduceLeDiff, Nat.le_refl, implies_true, Nat.reduceLT, reduceIte, decide_true, decide_false, true_and, and_true, reduceCtorEq, Nat.mul_one, Int.reduceToNat, Int.reduceLE, Int.reduceLT, Int.reduceAdd, Int.reduceSub, Int.reduceMul, Int.cast_ofNat_Int, cast_zero_int, cast_one_int, Nat.reducePow, Nat.reduceEqDiff, Nat.reduceMod, Nat.zero_add, Nat.sub_zero, Nat.add_zero, e0, e5, e4, show ¬ (0 < off l[i]) by omega]
          rw [← gd] at h3
          exact ⟨hlt, _, j, by rw [wrap64 (by omega)]; rfl, by rw [badN_no h3], rfl, by rw [badN_no h3]; exact app_old hj _⟩
        · simp only [go_sem, Nat.reduceBEq, Nat.reduceAdd, Nat.reduceMul, Nat.reduceSub, Nat.reduceLeDiff, Nat.le_refl, implies_true, Nat.reduceLT, reduceIte, decide_true, decide_false, true_and, and_true, reduceCtorEq, Nat.mul_one, Int.reduceToNat, Int.reduceLE, Int.reduceLT, Int.reduceAdd, Int.reduceSub, Int.reduceMul, Int.cast_ofNat_Int, cast_zero_int, cast_one_int, Nat.reducePow, Nat.reduceEqDiff, Nat.reduceMod, Nat.zero_add, Nat.sub_zero, Nat.add_zero, e0, e5, e4, show 0 < off l[i] by omega, app_old hj, List.length_map, show (badN l i).length ≤ 9223372036854775806 by omega, show ((badN l i).length + 1) * 8 ≤ 140737488355328 by omega]
          rw [← gd] at h3
          exact ⟨hlt, _, t.length + (t2.length + 1), by rw [wrap64 (by omega)]; rfl, by rw [badN_yes h3, List.length_append]; rfl, rfl, by rw [badN_yes h3, List.map_append]; exact new_end (by simp)⟩
      · simp only [go_sem, Nat.reduceBEq, Nat.reduceAdd, Nat.reduceMul, Nat.reduceSub, Nat.reduceLeDiff, Nat.le_refl, implies_true, Nat.reduceLT, reduceIte, decide_true, decide_false, true_and, and_true, reduceCtorEq, Nat.mul_one, Int.reduceToNat, Int.reduceLE, Int.reduceLT, Int.reduceAdd, Int.reduceSub, Int.reduceMul, Int.cast_ofNat_Int, cast_zero_int, cast_one_int, Nat.reducePow, Nat.reduceEqDiff, Nat.reduceMod, Nat.zero_add, Nat.sub_zero, Nat.add_zero, e0, e5, e4, decb h1]
        obtain rfl : i = l.length := by have : ¬ i < l.length := by simpa using h2
                                        omega
        have hl : (badSamples l) = badN l l.length := by rw [badSamples, if_pos h1]
        refine ⟨_, rfl, ?_⟩
        rw [hl]
        exact FI.at (by omega) (by have := (List.getElem?_eq_some_iff.1 hj).1; omega) (by rw [hget_app, hj])
  · simp only [go_sem, Nat.reduceBEq, Nat.reduceAdd, Nat.reduceMul, Nat.reduceSub, Nat.reduceLeDiff, Nat.le_refl, implies_true, Nat.reduceLT, reduceIte, decide_true, decide_false, true_and, and_true, reduceCtorEq, Nat.mul_one, Int.reduceToNat, Int.reduceLE, Int.reduceLT, Int.reduceAdd, Int.reduceSub, Int.reduceMul, Int.cast_ofNat_Int, cast_zero_int, cast_one_int, Nat.reducePow, Nat.reduceEqDiff, Nat.reduceMod, Nat.zero_add, Nat.sub_zero, Nat.add_zero, dect h1]
    exact ⟨_, rfl, by rw [badSamples, if_neg h1]; exact .nil⟩

end


end Go.Proofs.YtkogddiefniihabDoor
