
/- The steps of an archive. No condition. -/
import Derived.Test.YtkeckghlkomjjaaArchive
namespace Go.Proofs.Ytkeckghlkomjjaa
open Go.HH
set_option linter.unusedSimpArgs false
set_option linter.unusedVariables false

/-- One step: a value less the value before it. -/
def stepAt (l : List Int) (i : Nat) : Int := l.getD i 0 - (if i = 0 then 0 else l.getD (i - 1) 0)
def steps (l : List Int) (i : Nat) : List Int := (List.range i).map (stepAt l)
theorem steps_len {l : List Int} {i : Nat} : (steps l i).length = i := by simp [steps]
theorem steps_succ {l : List Int} {i : Nat} : steps l (i + 1) = steps l i ++ [stepAt l i] := by simp [steps, List.range_succ]
def stepsOf (f : Int) (l : List Int) : List Int := if arGood f l then steps l l.length else []
theorem getD_of {l : List Int} {i : Nat} (hi : i < l.length) : l.getD i 0 = l[i] := by simp [List.getD, hi]

section
variable {h : Heap} {M : Nat → Prop}

theorem c_StepsOf {n : Nat} (v : Value) (f : Int) (l : List Int) (s : AA n h v f l) (hmax : l.length ≤ 1048576) : vCall [] Try.prog M 28 [v] h (fun r h' => (∃ w, r = .tuple #[w, .bool (decide (arGood f l))] ∧ FI h.length h'.length h' w (stepsOf f l)) ∧ h <+: h') := by
  obtain ⟨w, rfl, s'⟩ := id s
  obtain ⟨a, rfl⟩ := s'.len
  refine body_of mo Try.func28 rfl (by kernel_rfl) (Nat.le_of_ble_eq_true (by kernel_rfl)) rfl ?_
  simp only [go_sem, Nat.reduceBEq, Nat.reduceAdd, Nat.reduceMul, Nat.reduceSub, Nat.reduceLeDiff, Nat.le_refl, implies_true, Nat.reduceLT, reduceIte, decide_true, decide_false, true_and, and_true, reduceCtorEq, Nat.mul_one, Int.reduceToNat, Int.reduceLE, Int.reduceLT, Int.reduceAdd, Int.reduceSub, Int.reduceMul, Int.cast_ofNat_Int, cast_zero_int, cast_one_int, Nat.reducePow, Nat.reduceEqDiff, Nat.reduceMod, Nat.zero_add, Nat.sub_zero, Nat.add_zero]
  refine ⟨by kernel_rfl, (c_IsValidArchive _ f l (s.mono (List.prefix_append _ _)) hmax).use (fun _ m => m) ?_⟩
  rintro _ _ ⟨rfl, ⟨t, rfl⟩⟩
  simp only [go_sem, Nat.reduceBEq, Nat.reduceAdd, Nat.reduceMul, Nat.reduceSub, Nat.reduceLeDiff, Nat.le_refl, implies_true, Nat.reduceLT, reduceIte, decide_true, decide_false, true_and, and_true, reduceCtorEq, Nat.mul_one, Int.reduceToNat, Int.reduceLE, Int.reduceLT, Int.reduceAdd, Int.reduceSub, Int.reduceMul, Int.cast_ofNat_Int, cast_zero_int, cast_one_int, Nat.reducePow, Nat.reduceEqDiff, Nat.reduceMod, Nat.zero_add, Nat.sub_zero, Nat.add_zero]
  by_cases h1 : arGood f l
  · obtain ⟨g1, g2, g3, g4⟩ := id h1
    simp only [go_sem, Nat.reduceBEq, Nat.reduceAdd, Nat.reduceMul, Nat.reduceSub, Nat.reduceLeDiff, Nat.le_refl, implies_true, Nat.reduceLT, reduceIte, decide_true, decide_false, true_and, and_true, reduceCtorEq, Nat.mul_one, Int.reduceToNat, Int.reduceLE, Int.reduceLT, Int.reduceAdd, Int.reduceSub, Int.reduceMul, Int.cast_ofNat_Int, cast_zero_int, cast_one_int, Nat.reducePow, Nat.reduceEqDiff, Nat.reduceMod, Nat.zero_add, Nat.sub_zero, Nat.add_zero, decb h1]
    refine vLoop.count mo l.length (fun i e h' => ∃ (t : Heap) (j : Nat), e 13 = .slice a l.length 0 ∧ e 14 = .int .i64 l.length ∧ e 15 = .int .i64 i ∧ e 5 = .int .i64 (if i = 0 then 0 else l.getD (i - 1) 0) ∧
      e 4 = .slice (some ⟨h.length + (j + 1), 0, none⟩) i 0 ∧ h' = h ++ ⟨[.int .i64 f, .slice a l.length 0], 2, .rw⟩ :: t ∧ t[j]? = some ⟨(steps l i).map iv, 1, .rw⟩) ?_ ?_
    · exact ⟨t ++ [⟨[], 1, .rw⟩], t.length, rfl, rfl, rfl, rfl, by simp [upd], by simp, by simp [steps]⟩
    · rintro i e _ hi ⟨t, j, e13, e14, e15, e5, e4, rfl, hj⟩
      simp only [go_sem, Nat.reduceBEq, Nat.reduceAdd, Nat.reduceMul, Nat.reduceSub, Nat.reduceLeDiff, Nat.le_refl, implies_true, Nat.reduceLT, reduceIte, decide_true, decide_false, true_and, and_true, reduceCtorEq, Nat.mul_one, Int.reduceToNat, Int.reduceLE, Int.reduceLT, Int.reduceAdd, Int.reduceSub, Int.reduceMul, Int.cast_ofNat_Int, cast_zero_int, cast_one_int, Nat.reducePow, Nat.reduceEqDiff, Nat.reduceMod, Nat.zero_add, Nat.sub_zero, Nat.add_zero, e13, e14, e15]
      refine .intro (fun h2 => ?_) (fun h2 => ?_)
      · have hlt : i < l.length := by simpa using h2
        obtain ⟨id, off, k, hv, _, hk, _, hd, _, _, _, hat⟩ := s'.at (Nat.zero_lt_of_lt hlt)
        obtain rfl : a = some ⟨id, off, none⟩ := by simpa using hv
        have hz : (i : Int) < l.length := by omega
        have hj1 : ∀ x, (t ++ x)[j]? = some ⟨(steps l i).map iv, 1, .rw⟩ := fun x => by rw [List.getElem?_append_left (List.getElem?_eq_some_iff.1 hj).1]; exact hj
        simp only [go_sem, Nat.reduceBEq, Nat.reduceAdd, Nat.reduceMul, Nat.reduceSub, Nat.reduceLeDiff, Nat.le_refl, implies_true, Nat.reduceLT, reduceIte, decide_true, decide_false, true_and, and_true, reduceCtorEq, Nat.mul_one, Int.reduceToNat, Int.reduceLE, Int.reduceLT, Int.reduceAdd, Int.reduceSub, Int.reduceMul, Int.cast_ofNat_Int, cast_zero_int, cast_one_int, Nat.reducePow, Nat.reduceEqDiff, Nat.reduceMod, Nat.zero_add, Nat.sub_zero, Nat.add_zero, e13, e14, e15, e5, e4, hz, hk, hd, hat i hlt, hj1]
        have b1 := g1 _ (List.getElem_mem hlt)
        have b2 : -100000 ≤ (if i = 0 then 0 else l.getD (i - 1) 0) ∧ (if i = 0 then 0 else l.getD (i - 1) 0) ≤ 100000 := by
          split
          · omega
          · have hp : i - 1 < l.length := by omega
            rw [getD_of hp]
            exact g1 _ (List.getElem_mem hp)
        have e6 : IntKind.i64.wrap (l[i] - if i = 0 then 0 else l.getD (i - 1) 0) = stepAt l i := by
          rw [wrap64 (by omega), stepAt, getD_of hlt]
        rw [e6]
        refine ⟨by rw [List.length_map, steps_len], by omega, by omega, hlt, _, t.length + 1, by rw [wrap64 (by omega)]; rfl, by rw [Nat.add_sub_cancel, getD_of hlt], rfl, rfl, ?_⟩
        rw [List.getElem?_append_right (by simp), List.length_set, List.length_append, List.length_singleton, Nat.sub_self, steps_succ, List.map_append]
        rfl
      · simp only [go_sem, Nat.reduceBEq, Nat.reduceAdd, Nat.reduceMul, Nat.reduceSub, Nat.reduceLeDiff, Nat.le_refl, implies_true, Nat.reduceLT, reduceIte, decide_true, decide_false, true_and, and_true, reduceCtorEq, Nat.mul_one, Int.reduceToNat, Int.reduceLE, Int.reduceLT, Int.reduceAdd, Int.reduceSub, Int.reduceMul, Int.cast_ofNat_Int, cast_zero_int, cast_one_int, Nat.reducePow, Nat.reduceEqDiff, Nat.reduceMod, Nat.zero_add, Nat.sub_zero, Nat.add_zero, e13, e14, e15, e4, decb h1]
        obtain rfl : i = l.length := by have : ¬ i < l.length := by simpa using h2
                                        omega
        have hl : (stepsOf f l).length = l.length := by rw [stepsOf, if_pos h1, steps_len]
        refine ⟨_, rfl, ?_⟩
        rw [← hl]
        refine FI.at (by omega) (by have := (List.getElem?_eq_some_iff.1 hj).1; omega) ?_
        rw [hget_app, List.getElem?_cons_succ, hj, stepsOf, if_pos h1]
  · simp only [go_sem, Nat.reduceBEq, Nat.reduceAdd, Nat.reduceMul, Nat.reduceSub, Nat.reduceLeDiff, Nat.le_refl, implies_true, Nat.reduceLT, reduceIte, decide_true, decide_false, true_and, and_true, reduceCtorEq, Nat.mul_one, Int.reduceToNat, Int.reduceLE, Int.reduceLT, Int.reduceAdd, Int.reduceSub, Int.reduceMul, Int.cast_ofNat_Int, cast_zero_int, cast_one_int, Nat.reducePow, Nat.reduceEqDiff, Nat.reduceMod, Nat.zero_add, Nat.sub_zero, Nat.add_zero, dect h1]
    exact ⟨_, rfl, by rw [stepsOf, if_neg h1]; exact .nil⟩

theorem c_sStepsOf {n : Nat} (v : Value) (f : Int) (l : List Int) (s : AA n h v f l) (hmax : l.length ≤ 1048576) : vCall [] Try.prog M 27 [v] h (fun r h' => (∃ w, r = .tuple #[w, .bool (decide (arGood f l))] ∧ FI h.length h'.length h' w (stepsOf f l)) ∧ h <+: h') := by
  obtain ⟨w, rfl, s'⟩ := id s
  obtain ⟨a, rfl⟩ := s'.len
  refine body_of mo Try.func27 rfl (by kernel_rfl) (Nat.le_of_ble_eq_true (by kernel_rfl)) rfl ?_
  simp only [go_sem, Nat.reduceBEq, Nat.reduceAdd, Nat.reduceMul, Nat.reduceSub, Nat.reduceLeDiff, Nat.le_refl, implies_true, Nat.reduceLT, reduceIte, decide_true, decide_false, true_and, and_true, reduceCtorEq, Nat.mul_one, Int.reduceToNat, Int.reduceLE, Int.reduceLT, Int.reduceAdd, Int.reduceSub, Int.reduceMul, Int.cast_ofNat_Int, cast_zero_int, cast_one_int, Nat.reducePow, Nat.reduceEqDiff, Nat.reduceMod, Nat.zero_add, Nat.sub_zero, Nat.add_zero]
  refine ⟨by kernel_rfl, (c_l26Good _ f l (s.mono (List.prefix_append _ _)) hmax).use (fun _ m => m) ?_⟩
  rintro _ _ ⟨rfl, ⟨t, rfl⟩⟩
  simp only [go_sem, Nat.reduceBEq, Nat.reduceAdd, Nat.reduceMul, Nat.reduceSub, Nat.reduceLeDiff, Nat.le_refl, implies_true, Nat.reduceLT, reduceIte, decide_true, decide_false, true_and, and_true, reduceCtorEq, Nat.mul_one, Int.reduceToNat, Int.reduceLE, Int.reduceLT, Int.reduceAdd, Int.reduceSub, Int.reduceMul, Int.cast_ofNat_Int, cast_zero_int, cast_one_int, Nat.reducePow, Nat.reduceEqDiff, Nat.reduceMod, Nat.zero_add, Nat.sub_zero, Nat.add_zero]
  by_cases h1 : arGood f l
  · obtain ⟨g1, g2, g3, g4⟩ := id h1
    simp only [go_sem, Nat.reduceBEq, Nat.reduceAdd, Nat.reduceMul, Nat.reduceSub, Nat.reduceLeDiff, Nat.le_refl, implies_true, Nat.reduceLT, reduceIte, decide_true, decide_false, true_and, and_true, reduceCtorEq, Nat.mul_one, Int.reduceToNat, Int.reduceLE, Int.reduceLT, Int.reduceAdd, Int.reduceSub, Int.reduceMul, Int.cast_ofNat_Int, cast_zero_int, cast_one_int, Nat.reducePow, Nat.reduceEqDiff, Nat.reduceMod, Nat.zero_add, Nat.sub_zero, Nat.add_zero, decb h1]
    refine vLoop.count mo l.length (fun i e h' => ∃ (t : Heap) (j : Nat), e 1 = .pointer (some ⟨h.length, 0, none⟩) ∧ e 6 = .int .i64 i ∧ e 5 = .int .i64 (if i = 0 then 0 else l.getD (i - 1) 0) ∧
      e 4 = .slice (some ⟨h.length + (j + 1), 0, none⟩) i 0 ∧ h' = h ++ ⟨[.int .i64 f, .slice a l.length 0], 2, .rw⟩ :: t ∧ t[j]? = some ⟨(steps l i).map iv, 1, .rw⟩) ?_ ?_
    · exact ⟨[⟨[], 1, .rw⟩] ++ t, 0, rfl, rfl, rfl, rfl, by simp, by simp [steps]⟩
    · rintro i e _ hi ⟨t, j, e1, e6, e5, e4, rfl, hj⟩
      simp only [go_sem, Nat.reduceBEq, Nat.reduceAdd, Nat.reduceMul, Nat.reduceSub, Nat.reduceLeDiff, Nat.le_refl, implies_true, Nat.reduceLT, reduceIte, decide_true, decide_false, true_and, and_true, reduceCtorEq, Nat.mul_one, Int.reduceToNat, Int.reduceLE, Int.reduceLT, Int.reduceAdd, Int.reduceSub, Int.reduceMul, Int.cast_ofNat_Int, cast_zero_int, cast_one_int, Nat.reducePow, Nat.reduceEqDiff, Nat.reduceMod, Nat.zero_add, Nat.sub_zero, Nat.add_zero, e1, e6]
      refine .intro (fun h2 => ?_) (fun h2 => ?_)
      · have hlt : i < l.length := by simpa using h2
        obtain ⟨id, off, k, hv, _, hk, _, hd, _, _, _, hat⟩ := s'.at (Nat.zero_lt_of_lt hlt)
        obtain rfl : a = some ⟨id, off, none⟩ := by simpa using hv
        have hz : (i : Int) < l.length := by omega
        have hj1 : ∀ x, (t ++ x)[j]? = some ⟨(steps l i).map iv, 1, .rw⟩ := fun x => by rw [List.getElem?_append_left (List.getElem?_eq_some_iff.1 hj).1]; exact hj
        simp only [go_sem, Nat.reduceBEq, Nat.reduceAdd, Nat.reduceMul, Nat.reduceSub, Nat.reduceLeDiff, Nat.le_refl, implies_true, Nat.reduceLT, reduceIte, decide_true, decide_false, true_and, and_true, reduceCtorEq, Nat.mul_one, Int.reduceToNat, Int.reduceLE, Int.reduceLT, Int.reduceAdd, Int.reduceSub, Int.reduceMul, Int.cast_ofNat_Int, cast_zero_int, cast_one_int, Nat.reducePow, Nat.reduceEqDiff, Nat.reduceMod, Nat.zero_add, Nat.sub_zero, Nat.add_zero, e1, e6, e5, e4, hz, hk, hd, hat i hlt, hj1]
        have b1 := g1 _ (List.getElem_mem hlt)
        have b2 : -100000 ≤ (if i = 0 then 0 else l.getD (i - 1) 0) ∧ (if i = 0 then 0 else l.getD (i - 1) 0) ≤ 100000 := by
          split
          · omega
          · have hp : i - 1 < l.length := by omega
            rw [getD_of hp]
            exact g1 _ (List.getElem_mem hp)
        have e8 : IntKind.i64.wrap (l[i] - if i = 0 then 0 else l.getD (i - 1) 0) = stepAt l i := by
          rw [wrap64 (by omega), stepAt, getD_of hlt]
        rw [e8]
        refine ⟨by rw [List.length_map, steps_len], by omega, by omega, hlt, _, t.length + 1, by rw [wrap64 (by omega)]; rfl, by rw [Nat.add_sub_cancel, getD_of hlt], rfl, rfl, ?_⟩
        rw [List.getElem?_append_right (by simp), List.length_set, List.length_append, List.length_singleton, Nat.sub_self, steps_succ, List.map_append]
        rfl
      · simp only [go_sem, Nat.reduceBEq, Nat.reduceAdd, Nat.reduceMul, Nat.reduceSub, Nat.reduceLeDiff, Nat.le_refl, implies_true, Nat.reduceLT, reduceIte, decide_true, decide_false, true_and, and_true, reduceCtorEq, Nat.mul_one, Int.reduceToNat, Int.reduceLE, Int.reduceLT, Int.reduceAdd, Int.reduceSub, Int.reduceMul, Int.cast_ofNat_Int, cast_zero_int, cast_one_int, Nat.reducePow, Nat.reduceEqDiff, Nat.reduceMod, Nat.zero_add, Nat.sub_zero, Nat.add_zero, e1, e6, e4, decb h1]
        obtain rfl : i = l.length := by have : ¬ i < l.length := by simpa using h2
                                        omega
        have hl : (stepsOf f l).length = l.length := by rw [stepsOf, if_pos h1, steps_len]
        refine ⟨_, rfl, ?_⟩
        rw [← hl]
        refine FI.at (by omega) (by have := (List.getElem?_eq_some_iff.1 hj).1; omega) ?_
        rw [hget_app, List.getElem?_cons_succ, hj, stepsOf, if_pos h1]
  · simp only [go_sem, Nat.reduceBEq, Nat.reduceAdd, Nat.reduceMul, Nat.reduceSub, Nat.reduceLeDiff, Nat.le_refl, implies_true, Nat.reduceLT, reduceIte, decide_true, decide_false, true_and, and_true, reduceCtorEq, Nat.mul_one, Int.reduceToNat, Int.reduceLE, Int.reduceLT, Int.reduceAdd, Int.reduceSub, Int.reduceMul, Int.cast_ofNat_Int, cast_zero_int, cast_one_int, Nat.reducePow, Nat.reduceEqDiff, Nat.reduceMod, Nat.zero_add, Nat.sub_zero, Nat.add_zero, dect h1]
    exact ⟨_, rfl, by rw [stepsOf, if_neg h1]; exact .nil⟩

theorem l_StepsOf (v : Value) (f : Int) (l : List Int) (s : AA h.length h v f l) (hmax : l.length ≤ 9223372036854775807) : vCall [] Try.prog M 5 [v] h (fun r h' => r = .bool true) := by
  obtain ⟨w, rfl, s'⟩ := id s
  refine body_of mo Try.func5 rfl (by kernel_rfl) (Nat.le_of_ble_eq_true (by kernel_rfl)) rfl ?_
  simp only [go_sem, Nat.reduceBEq, Nat.reduceAdd, Nat.reduceMul, Nat.reduceSub, Nat.reduceLeDiff, Nat.le_refl, implies_true, Nat.reduceLT, reduceIte, decide_true, decide_false, true_and, and_true, reduceCtorEq, Nat.mul_one, Int.reduceToNat, Int.reduceLE, Int.reduceLT, Int.reduceAdd, Int.reduceSub, Int.reduceMul, Int.cast_ofNat_Int, cast_zero_int, cast_one_int, Nat.reducePow, Nat.reduceEqDiff, Nat.reduceMod, Nat.zero_add, Nat.sub_zero, Nat.add_zero]
  refine ⟨by kernel_rfl, (c_szArchive _ f l (s.mono (List.prefix_append _ _)) _ (by omega) hmax).use (fun _ m => m) ?_⟩
  rintro _ _ ⟨rfl, ⟨t0, rfl⟩⟩
  simp only [go_sem, Nat.reduceBEq, Nat.reduceAdd, Nat.reduceMul, Nat.reduceSub, Nat.reduceLeDiff, Nat.le_refl, implies_true, Nat.reduceLT, reduceIte, decide_true, decide_false, true_and, and_true, reduceCtorEq, Nat.mul_one, Int.reduceToNat, Int.reduceLE, Int.reduceLT, Int.reduceAdd, Int.reduceSub, Int.reduceMul, Int.cast_ofNat_Int, cast_zero_int, cast_one_int, Nat.reducePow, Nat.reduceEqDiff, Nat.reduceMod, Nat.zero_add, Nat.sub_zero, Nat.add_zero]
  by_cases h1 : (1048576 : Int) - l.length < 0
  · simp only [go_sem, Nat.reduceBEq, Nat.reduceAdd, Nat.reduceMul, Nat.reduceSub, Nat.reduceLeDiff, Nat.le_refl, implies_true, Nat.reduceLT, reduceIte, decide_true, decide_false, true_and, and_true, reduceCtorEq, Nat.mul_one, Int.reduceToNat, Int.reduceLE, Int.reduceLT, Int.reduceAdd, Int.reduceSub, Int.reduceMul, Int.cast_ofNat_Int, cast_zero_int, cast_one_int, Nat.reducePow, Nat.reduceEqDiff, Nat.reduceMod, Nat.zero_add, Nat.sub_zero, Nat.add_zero, h1]
  · have hm : l.length ≤ 1048576 := by omega
    have hy : (stepsOf f l).length ≤ 1048576 := by unfold stepsOf; split; rw [steps_len]; exact hm; simp
    simp only [go_sem, Nat.reduceBEq, Nat.reduceAdd, Nat.reduceMul, Nat.reduceSub, Nat.reduceLeDiff, Nat.le_refl, implies_true, Nat.reduceLT, reduceIte, decide_true, decide_false, true_and, and_true, reduceCtorEq, Nat.mul_one, Int.reduceToNat, Int.reduceLE, Int.reduceLT, Int.reduceAdd, Int.reduceSub, Int.reduceMul, Int.cast_ofNat_Int, cast_zero_int, cast_one_int, Nat.reducePow, Nat.reduceEqDiff, Nat.reduceMod, Nat.zero_add, Nat.sub_zero, Nat.add_zero, h1]
    refine ⟨by kernel_rfl, (c_toArchive _ f l (s.mono (List.prefix_append _ _)) hm).use (fun _ m => m) ?_⟩
    rintro v1 _ ⟨s1, ⟨t1, rfl⟩⟩
    simp only [List.append_assoc, List.cons_append] at s1
    try simp only [go_sem, Nat.reduceBEq, Nat.reduceAdd, Nat.reduceMul, Nat.reduceSub, Nat.reduceLeDiff, Nat.le_refl, implies_true, Nat.reduceLT, reduceIte, decide_true, decide_false, true_and, and_true, reduceCtorEq, Nat.mul_one, Int.reduceToNat, Int.reduceLE, Int.reduceLT, Int.reduceAdd, Int.reduceSub, Int.reduceMul, Int.cast_ofNat_Int, cast_zero_int, cast_one_int, Nat.reducePow, Nat.reduceEqDiff, Nat.reduceMod, Nat.zero_add, Nat.sub_zero, Nat.add_zero]
    refine ⟨by kernel_rfl, (c_sStepsOf v1 f l s1.aa hm).use (fun _ m => m) ?_⟩
    rintro _ _ ⟨⟨w0, rfl, sw⟩, ⟨t2, rfl⟩⟩
    simp only [List.append_assoc, List.cons_append] at sw
    try simp only [go_sem, Nat.reduceBEq, Nat.reduceAdd, Nat.reduceMul, Nat.reduceSub, Nat.reduceLeDiff, Nat.le_refl, implies_true, Nat.reduceLT, reduceIte, decide_true, decide_false, true_and, and_true, reduceCtorEq, Nat.mul_one, Int.reduceToNat, Int.reduceLE, Int.reduceLT, Int.reduceAdd, Int.reduceSub, Int.reduceMul, Int.cast_ofNat_Int, cast_zero_int, cast_one_int, Nat.reducePow, Nat.reduceEqDiff, Nat.reduceMod, Nat.zero_add, Nat.sub_zero, Nat.add_zero]
    refine ⟨by kernel_rfl, (c_toArchive _ f l (s.mono (List.prefix_append _ _)) hm).use (fun _ m => m) ?_⟩
    rintro v2 _ ⟨s2, ⟨t3, rfl⟩⟩
    simp only [List.append_assoc, List.cons_append] at s2
    obtain ⟨w2, rfl, q2⟩ := id s2
    obtain ⟨a2, rfl, _⟩ := id q2
    try simp only [go_sem, Nat.reduceBEq, Nat.reduceAdd, Nat.reduceMul, Nat.reduceSub, Nat.reduceLeDiff, Nat.le_refl, implies_true, Nat.reduceLT, reduceIte, decide_true, decide_false, true_and, and_true, reduceCtorEq, Nat.mul_one, Int.reduceToNat, Int.reduceLE, Int.reduceLT, Int.reduceAdd, Int.reduceSub, Int.reduceMul, Int.cast_ofNat_Int, cast_zero_int, cast_one_int, Nat.reducePow, Nat.reduceEqDiff, Nat.reduceMod, Nat.zero_add, Nat.sub_zero, Nat.add_zero]
    refine ⟨by kernel_rfl, (c_StepsOf _ f l (s2.aa.mono (by simp)) hm).use (fun _ m => m) ?_⟩
    rintro _ _ ⟨⟨g0, rfl, sg⟩, ⟨t4, rfl⟩⟩
    simp only [List.append_assoc, List.cons_append] at sg
    try simp only [go_sem, Nat.reduceBEq, Nat.reduceAdd, Nat.reduceMul, Nat.reduceSub, Nat.reduceLeDiff, Nat.le_refl, implies_true, Nat.reduceLT, reduceIte, decide_true, decide_false, true_and, and_true, reduceCtorEq, Nat.mul_one, Int.reduceToNat, Int.reduceLE, Int.reduceLT, Int.reduceAdd, Int.reduceSub, Int.reduceMul, Int.cast_ofNat_Int, cast_zero_int, cast_one_int, Nat.reducePow, Nat.reduceEqDiff, Nat.reduceMod, Nat.zero_add, Nat.sub_zero, Nat.add_zero]
    refine ⟨by kernel_rfl, (c_eqIntS g0 w0 _ _ sg.ai (sw.ai.mono (by simp)) hy hy).use (fun _ m => m) ?_⟩
    rintro _ _ ⟨rfl, ⟨t5, rfl⟩⟩
    simp only [go_sem, Nat.reduceBEq, Nat.reduceAdd, Nat.reduceMul, Nat.reduceSub, Nat.reduceLeDiff, Nat.le_refl, implies_true, Nat.reduceLT, reduceIte, decide_true, decide_false, true_and, and_true, reduceCtorEq, Nat.mul_one, Int.reduceToNat, Int.reduceLE, Int.reduceLT, Int.reduceAdd, Int.reduceSub, Int.reduceMul, Int.cast_ofNat_Int, cast_zero_int, cast_one_int, Nat.reducePow, Nat.reduceEqDiff, Nat.reduceMod, Nat.zero_add, Nat.sub_zero, Nat.add_zero, Try.underlying4]
    refine ⟨by kernel_rfl, (c_toArchive _ f l (s.mono (List.prefix_append _ _)) hm).use (fun _ m => m) ?_⟩
    rintro v3 _ ⟨s3, ⟨t6, rfl⟩⟩
    simp only [List.append_assoc, List.cons_append] at s3
    try simp only [go_sem, Nat.reduceBEq, Nat.reduceAdd, Nat.reduceMul, Nat.reduceSub, Nat.reduceLeDiff, Nat.le_refl, implies_true, Nat.reduceLT, reduceIte, decide_true, decide_false, true_and, and_true, reduceCtorEq, Nat.mul_one, Int.reduceToNat, Int.reduceLE, Int.reduceLT, Int.reduceAdd, Int.reduceSub, Int.reduceMul, Int.cast_ofNat_Int, cast_zero_int, cast_one_int, Nat.reducePow, Nat.reduceEqDiff, Nat.reduceMod, Nat.zero_add, Nat.sub_zero, Nat.add_zero]
    refine ⟨by kernel_rfl, (c_eqArchive _ v3 f f l l (s2.aa.mono (by simp)) s3.aa hm hm).use (fun _ m => m) ?_⟩
    rintro _ _ ⟨rfl, ⟨t7, rfl⟩⟩
    simp only [go_sem, Nat.reduceBEq, Nat.reduceAdd, Nat.reduceMul, Nat.reduceSub, Nat.reduceLeDiff, Nat.le_refl, implies_true, Nat.reduceLT, reduceIte, decide_true, decide_false, true_and, and_true, reduceCtorEq, Nat.mul_one, Int.reduceToNat, Int.reduceLE, Int.reduceLT, Int.reduceAdd, Int.reduceSub, Int.reduceMul, Int.cast_ofNat_Int, cast_zero_int, cast_one_int, Nat.reducePow, Nat.reduceEqDiff, Nat.reduceMod, Nat.zero_add, Nat.sub_zero, Nat.add_zero, and_self]
    refine ⟨by kernel_rfl, (c_markArchive _ f l (s2.mono (by simp)) (fun i a b => Or.inl (by simp at a; omega)) _ (by omega) hm).use (fun _ m => m) ?_⟩
    rintro _ H1 ⟨rfl, s2', ag1⟩
    have B1 := ag1.2 h.length (by simp) (by simp)
    rw [hget_app0] at B1
    have sg1 := FI.agr (FI.mono sg (by simp)) ag1 (by simp)
    have sw1 := FI.agr (FI.mono sw (by simp)) ag1 (by simp)
    have sa1 := (s.mono (h' := h ++ _) (List.prefix_append _ _)).agr ag1 (by simp)
    obtain ⟨p, c, d, hp, hpc, sw1, sg1⟩ : ∃ p c d, h.length < c ∧ p ≤ c ∧ FI 0 p H1 w0 (stepsOf f l) ∧ FI c d H1 g0 (stepsOf f l) := ⟨_, _, _, by simp, by simp, sw1.wide (Nat.zero_le _) (Nat.le_refl _), sg1⟩
    clear ag1 s2' sw sg q2 s2 s3 s1
    have n1 : ¬ (1 + (l.length : Int) < 0) := by omega
    have n2 : ¬ (1 + ((stepsOf f l).length : Int) < 0) := by omega
    simp only [go_sem, Nat.reduceBEq, Nat.reduceAdd, Nat.reduceMul, Nat.reduceSub, Nat.reduceLeDiff, Nat.le_refl, implies_true, Nat.reduceLT, reduceIte, decide_true, decide_false, true_and, and_true, reduceCtorEq, Nat.mul_one, Int.reduceToNat, Int.reduceLE, Int.reduceLT, Int.reduceAdd, Int.reduceSub, Int.reduceMul, Int.cast_ofNat_Int, cast_zero_int, cast_one_int, Nat.reducePow, Nat.reduceEqDiff, Nat.reduceMod, Nat.zero_add, Nat.sub_zero, Nat.add_zero, n1]
    refine ⟨by kernel_rfl, (c_eqIntS g0 w0 _ _ sg1.ai sw1.ai hy hy).use (fun _ m => m) ?_⟩
    rintro _ _ ⟨rfl, ⟨t8, rfl⟩⟩
    simp only [go_sem, Nat.reduceBEq, Nat.reduceAdd, Nat.reduceMul, Nat.reduceSub, Nat.reduceLeDiff, Nat.le_refl, implies_true, Nat.reduceLT, reduceIte, decide_true, decide_false, true_and, and_true, reduceCtorEq, Nat.mul_one, Int.reduceToNat, Int.reduceLE, Int.reduceLT, Int.reduceAdd, Int.reduceSub, Int.reduceMul, Int.cast_ofNat_Int, cast_zero_int, cast_one_int, Nat.reducePow, Nat.reduceEqDiff, Nat.reduceMod, Nat.zero_add, Nat.sub_zero, Nat.add_zero, n1, Try.underlying4]
    refine ⟨by kernel_rfl, (c_markIntS g0 _ (sg1.mono (List.prefix_append _ _)) (fun i a b => Or.inl (by omega)) _ (by omega) hy).use (fun _ m => m) ?_⟩
    rintro _ H2 ⟨rfl, sg2, ag2⟩
    have B2 := ag2.2 h.length (by have := hget_lt B1; simp; omega) (by omega)
    rw [hget_prefix (List.prefix_append _ _) (hget_lt B1), B1] at B2
    have sw2 := (sw1.mono (List.prefix_append _ t8)).agr ag2 (by omega)
    have sa2 := (sa1.mono (List.prefix_append _ t8)).agr ag2 (by omega)
    try simp only [go_sem, Nat.reduceBEq, Nat.reduceAdd, Nat.reduceMul, Nat.reduceSub, Nat.reduceLeDiff, Nat.le_refl, implies_true, Nat.reduceLT, reduceIte, decide_true, decide_false, true_and, and_true, reduceCtorEq, Nat.mul_one, Int.reduceToNat, Int.reduceLE, Int.reduceLT, Int.reduceAdd, Int.reduceSub, Int.reduceMul, Int.cast_ofNat_Int, cast_zero_int, cast_one_int, Nat.reducePow, Nat.reduceEqDiff, Nat.reduceMod, Nat.zero_add, Nat.sub_zero, Nat.add_zero]
    refine ⟨by kernel_rfl, (c_heldIntS g0 _ 1 (by omega) sg2.ai (by rw [marks_len]) (by rw [marks_len]; exact hy)).use (fun _ m => m) ?_⟩
    rintro _ _ ⟨rfl, ⟨t9, rfl⟩⟩
    have B3 : ∀ t, hget (H2 ++ t) h.length = _ := fun t => (hget_prefix (List.prefix_append _ t) (hget_lt B2)).trans B2
    simp only [go_sem, Nat.reduceBEq, Nat.reduceAdd, Nat.reduceMul, Nat.reduceSub, Nat.reduceLeDiff, Nat.le_refl, implies_true, Nat.reduceLT, reduceIte, decide_true, decide_false, true_and, and_true, reduceCtorEq, Nat.mul_one, Int.reduceToNat, Int.reduceLE, Int.reduceLT, Int.reduceAdd, Int.reduceSub, Int.reduceMul, Int.cast_ofNat_Int, cast_zero_int, cast_one_int, Nat.reducePow, Nat.reduceEqDiff, Nat.reduceMod, Nat.zero_add, Nat.sub_zero, Nat.add_zero, marks_len, n2, B3]
    refine ⟨by kernel_rfl, (c_toArchive _ f l (sa2.mono (List.prefix_append _ _)) hm).use (fun _ m => m) ?_⟩
    rintro v4 _ ⟨s4, ⟨t10, rfl⟩⟩
    simp only [List.append_assoc, List.cons_append] at s4
    try simp only [go_sem, Nat.reduceBEq, Nat.reduceAdd, Nat.reduceMul, Nat.reduceSub, Nat.reduceLeDiff, Nat.le_refl, implies_true, Nat.reduceLT, reduceIte, decide_true, decide_false, true_and, and_true, reduceCtorEq, Nat.mul_one, Int.reduceToNat, Int.reduceLE, Int.reduceLT, Int.reduceAdd, Int.reduceSub, Int.reduceMul, Int.cast_ofNat_Int, cast_zero_int, cast_one_int, Nat.reducePow, Nat.reduceEqDiff, Nat.reduceMod, Nat.zero_add, Nat.sub_zero, Nat.add_zero]
    refine ⟨by kernel_rfl, (c_StepsOf v4 f l s4.aa hm).use (fun _ m => m) ?_⟩
    rintro _ _ ⟨⟨h0, rfl, sh⟩, ⟨t11, rfl⟩⟩
    simp only [List.append_assoc, List.cons_append] at sh
    simp only [go_sem, Nat.reduceBEq, Nat.reduceAdd, Nat.reduceMul, Nat.reduceSub, Nat.reduceLeDiff, Nat.le_refl, implies_true, Nat.reduceLT, reduceIte, decide_true, decide_false, true_and, and_true, reduceCtorEq, Nat.mul_one, Int.reduceToNat, Int.reduceLE, Int.reduceLT, Int.reduceAdd, Int.reduceSub, Int.reduceMul, Int.cast_ofNat_Int, cast_zero_int, cast_one_int, Nat.reducePow, Nat.reduceEqDiff, Nat.reduceMod, Nat.zero_add, Nat.sub_zero, Nat.add_zero]
    refine ⟨by kernel_rfl, (c_eqIntS h0 w0 _ _ sh.ai (sw2.ai.mono (List.prefix_append _ _)) hy hy).use (fun _ m => m) ?_⟩
    rintro _ _ ⟨rfl, ⟨t12, rfl⟩⟩
    simp only [go_sem, Nat.reduceBEq, Nat.reduceAdd, Nat.reduceMul, Nat.reduceSub, Nat.reduceLeDiff, Nat.le_refl, implies_true, Nat.reduceLT, reduceIte, decide_true, decide_false, true_and, and_true, reduceCtorEq, Nat.mul_one, Int.reduceToNat, Int.reduceLE, Int.reduceLT, Int.reduceAdd, Int.reduceSub, Int.reduceMul, Int.cast_ofNat_Int, cast_zero_int, cast_one_int, Nat.reducePow, Nat.reduceEqDiff, Nat.reduceMod, Nat.zero_add, Nat.sub_zero, Nat.add_zero, Try.underlying4]
    refine ⟨by kernel_rfl, (c_heldIntS g0 _ 1 (by omega) (sg2.ai.mono (List.prefix_append _ _)) (by rw [marks_len]) (by rw [marks_len]; exact hy)).use (fun _ m => m) ?_⟩
    rintro _ _ ⟨rfl, ⟨t13, rfl⟩⟩
    simp only [go_sem, Nat.reduceBEq, Nat.reduceAdd, Nat.reduceMul, Nat.reduceSub, Nat.reduceLeDiff, Nat.le_refl, implies_true, Nat.reduceLT, reduceIte, decide_true, decide_false, true_and, and_true, reduceCtorEq, Nat.mul_one, Int.reduceToNat, Int.reduceLE, Int.reduceLT, Int.reduceAdd, Int.reduceSub, Int.reduceMul, Int.cast_ofNat_Int, cast_zero_int, cast_one_int, Nat.reducePow, Nat.reduceEqDiff, Nat.reduceMod, Nat.zero_add, Nat.sub_zero, Nat.add_zero, marks_len, n2]
end

theorem a_FnExactStepsOf (h : Heap) (a : List Value) (ft : FitsAll h [.struct (.pair (.int .i64) (.pair (.slice (.int .i64)) .unit))] a) : vCall [] Try.prog (fun _ => False) 5 a h (fun r _ => r = .bool true) := by
  obtain ⟨v, vs, rfl, f, g⟩ := ft.cons
  obtain rfl := g.nil
  obtain ⟨f0, l, s, hl⟩ := Fits.arch f
  exact l_StepsOf v f0 l s hl
end Go.Proofs.Ytkeckghlkomjjaa
