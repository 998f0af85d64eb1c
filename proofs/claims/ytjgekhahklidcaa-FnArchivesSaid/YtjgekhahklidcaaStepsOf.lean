
/- The steps of an archive. No condition. -/
import Derived.Test.YtjgekhahklidcaaArchive
namespace Go.Proofs.Ytjgekhahklidcaa
open Go.HH
set_option linter.unusedSimpArgs false
set_option linter.unusedVariables false

/-- One step: a value less the value before it. -/
def stepAt (l : List Int) (i : Nat) : Int := l.getD i 0 - (if i = 0 then 0 else l.getD (i - 1) 0)
def steps (l : List Int) (i : Nat) : List Int := (List.range i).map (stepAt l)
theorem steps_len {l : List Int} {i : Nat} : (steps l i).length = i := by simp [steps]
theorem steps_succ {l : List Int} {i : Nat} : steps l (i + 1) = steps l i ++ [stepAt l i] := by simp [steps, List.range_succ]
def stepsOf (f : Int) (l : List Int) : List Int := if arGood f l then steps l l.length else []
theorem stepsOf_len (f : Int) {l : List Int} (hm : l.length ≤ 1048576) : (stepsOf f l).length ≤ 1048576 := by unfold stepsOf; split; rw [steps_len]; exact hm; simp

section
variable {h : Heap} {M : Nat → Prop}

theorem c_StepsOf {n : Nat} (v : Value) (f : Int) (l : List Int) (s : AA n h v f l) (hmax : l.length ≤ 1048576) : vCall [] Try.prog M 20 [v] h (fun r h' => (∃ w, r = .tuple #[w, .bool (decide (arGood f l))] ∧ FI h.length h'.length h' w (stepsOf f l)) ∧ h <+: h') := by
  obtain ⟨w, rfl, s'⟩ := id s
  obtain ⟨a, rfl⟩ := s'.len
  refine body_of mo Try.func20 rfl (by kernel_rfl) (Nat.le_of_ble_eq_true (by kernel_rfl)) rfl ?_
  simp only [go_sem, Nat.reduceBEq, Nat.reduceAdd, Nat.reduceMul, Nat.reduceSub, Nat.reduceLeDiff, Nat.le_refl, implies_true, Nat.reduceLT, reduceIte, decide_true, decide_false, true_and, and_true, reduceCtorEq, Nat.mul_one, Int.reduceToNat, Int.reduceLE, Int.reduceLT, Int.reduceAdd, Int.reduceSub, Int.reduceMul, Int.cast_ofNat_Int, cast_zero_int, cast_one_int, Nat.reducePow, Nat.reduceEqDiff, Nat.reduceMod, Nat.zero_add, Nat.sub_zero, Nat.add_zero]
  refine ⟨by kernel_rfl, (c_IsValidArchive _ f l (s.mono (List.prefix_append _ _)) hmax).use (fun _ m => m) ?_⟩
  rintro _ _ ⟨rfl, ⟨t, rfl⟩⟩
  simp only [go_sem, Nat.reduceBEq, Nat.reduceAdd, Nat.reduceMul, Nat.reduceSub, Nat.reduceLeDiff, Nat.le_refl, implies_true, Nat.reduceLT, reduceIte, decide_true, decide_false, true_and, and_true, reduceCtorEq, Nat.mul_one, Int.reduceToNat, Int.reduceLE, Int.reduceLT, Int.reduceAdd, Int.reduceSub, Int.reduceMul, Int.cast_ofNat_Int, cast_zero_int, cast_one_int, Nat.reducePow, Nat.reduceEqDiff, Nat.reduceMod, Nat.zero_add, Nat.sub_zero, Nat.add_zero]
  by_cases h1 : arGood f l
  · obtain ⟨g1, g2, g3, g4⟩ := id h1
    simp only [go_sem, Nat.reduceBEq, Nat.reduceAdd, Nat.reduceMul, Nat.reduceSub, Nat.reduceLeDiff, Nat.le_refl, implies_true, Nat.reduceLT, reduceIte, decide_true, decide_false, true_and, and_true, reduceCtorEq, Nat.mul_one, Int.reduceToNat, Int.reduceLE, Int.reduceLT, Int.reduceAdd, Int.reduceSub, Int.reduceMul, Int.cast_ofNat_Int, cast_zero_int, cast_one_int, Nat.reducePow, Nat.reduceEqDiff, Nat.reduceMod, Nat.zero_add, Nat.sub_zero, Nat.add_zero, decb h1]
    refine vLoop.count mo l.length (fun i e h' => ∃ (t : Heap) (j : Nat), e 13 = .slice a l.length 0 ∧ e 14 = .int .i64 l.length ∧ e 15 = .int .i64 i ∧ e 5 = .int .i64 (if i = 0 then 0 else l.getD (i - 1) 0) ∧
      e 4 = .slice (some ⟨h.length + (j + 1), 0, none⟩) i 0 ∧ h' = h ++ ⟨[.int .i64 f, .slice a l.length 0], 2, .rw⟩ :: t ∧ t[j]? = some ⟨(steps l i).map iv, 1, .rw⟩) ?_ ?_
    · exact ⟨t ++ [⟨[], 1, .rw⟩], t.length, rfl, rfl, rfl, rfl, by simp [upd], by simp, by simp [steps]⟩
    · rintro i e _ hi ⟨t, j, e13, e14, e15, e5, e4, rfl, hj⟩
      simp only [go_sem, Nat.reduceBEq, Nat.reduceAdd, Nat.reduceMul, Nat.reduceSub, Nat.reduceLeDiff, Nat.le_refl, implies_true, Nat.reduceLT, reduceIte, decide_true, decide_false, true_and, and_true, reduceCtorEq, Nat.mul_one, Int.reduceToNat, Int.reduceLE, Int.reduceLT, Int.reduceAdd, Int.reduceSub, Int.reduceMul, Int.cast_ofNat_Int, cast_zero_int, cast_one_int, Nat.reducePow, Nat.reduceEqDiff, Nat.reduceMod, Nat.zero_add, Nat.sub_zero, Nat.add_zero, e13, e14, e15]
      refine .intro (fun h2 => ?_) (fun h2 => ?_)
      · have hlt : i < l.length := by simpa using h2
        obtain ⟨id, off, k, hv, _, hk, _, hd, _, _, _, hat⟩ := s'.at (Nat.zero_lt_of_lt hlt)
        obtain rfl : a = some ⟨id, off, none⟩ := by simpa using hv
        have hz : (i : Int) < l.length := by omega
        have hj1 : ∀ x, (t ++ x)[j]? = some ⟨(steps l i).map iv, 1, .rw⟩ := fun x => by rw [List.getElem?_append_left (List.getElem?_eq_some_iff.1 hj).1]; exact hj
        simp only [go_sem, Nat.reduceBEq, Nat.reduceAdd, Nat.reduceMul, Nat.reduceSub, Nat.reduceLeDiff, Nat.le_refl, implies_true, Nat.reduceLT, reduceIte, decide_true, decide_false, true_and, and_true, reduceCtorEq, Nat.mul_one, Int.reduceToNat, Int.reduceLE, Int.reduceLT, Int.reduceAdd, Int.reduceSub, Int.reduceMul, Int.cast_ofNat_Int, cast_zero_int, cast_one_int, Nat.reducePow, Nat.reduceEqDiff, Nat.reduceMod, Nat.zero_add, Nat.sub_zero, Nat.add_zero, e13, e14, e15, e5, e4, hz, hk, hd, hat i hlt, hj1]
        have b1 := g1 _ (List.getElem_mem hlt)
        have b2 : -100000 ≤ (if i = 0 then 0 else l.getD (i - 1) 0) ∧ (if i = 0 then 0 else l.getD (i - 1) 0) ≤ 100000 := by
          split
          · omega
          · have hp : i - 1 < l.length := by omega
            rw [getD_of hp]
            exact g1 _ (List.getElem_mem hp)
        have e6 : IntKind.i64.wrap (l[i] - if i = 0 then 0 else l.getD (i - 1) 0) = stepAt l i := by
          rw [wrap64 (by omega), stepAt, getD_of hlt]
        rw [e6]
        refine ⟨by rw [List.length_map, steps_len], by omega, by omega, hlt, _, t.length + 1, by rw [wrap64 (by omega)]; rfl, by rw [Nat.add_sub_cancel, getD_of hlt], rfl, rfl, ?_⟩
        rw [List.getElem?_append_right (by simp), List.length_set, List.length_append, List.length_singleton, Nat.sub_self, steps_succ, List.map_append]
        rfl
      · simp only [go_sem, Nat.reduceBEq, Nat.reduceAdd, Nat.reduceMul, Nat.reduceSub, Nat.reduceLeDiff, Nat.le_refl, implies_true, Nat.reduceLT, reduceIte, decide_true, decide_false, true_and, and_true, reduceCtorEq, Nat.mul_one, Int.reduceToNat, Int.reduceLE, Int.reduceLT, Int.reduceAdd, Int.reduceSub, Int.reduceMul, Int.cast_ofNat_Int, cast_zero_int, cast_one_int, Nat.reducePow, Nat.reduceEqDiff, Nat.reduceMod, Nat.zero_add, Nat.sub_zero, Nat.add_zero, e13, e14, e15, e4, decb h1]
        obtain rfl : i = l.length := by have : ¬ i < l.length := by simpa using h2
                                        omega
        have hl : (stepsOf f l).length = l.length := by rw [stepsOf, if_pos h1, steps_len]
        refine ⟨_, rfl, ?_⟩
        rw [← hl]
        refine FI.at (by omega) (by have := (List.getElem?_eq_some_iff.1 hj).1; omega) ?_
        rw [hget_app, List.getElem?_cons_succ, hj, stepsOf, if_pos h1]
  · simp only [go_sem, Nat.reduceBEq, Nat.reduceAdd, Nat.reduceMul, Nat.reduceSub, Nat.reduceLeDiff, Nat.le_refl, implies_true, Nat.reduceLT, reduceIte, decide_true, decide_false, true_and, and_true, reduceCtorEq, Nat.mul_one, Int.reduceToNat, Int.reduceLE, Int.reduceLT, Int.reduceAdd, Int.reduceSub, Int.reduceMul, Int.cast_ofNat_Int, cast_zero_int, cast_one_int, Nat.reducePow, Nat.reduceEqDiff, Nat.reduceMod, Nat.zero_add, Nat.sub_zero, Nat.add_zero, dect h1]
    exact ⟨_, rfl, by rw [stepsOf, if_neg h1]; exact .nil⟩

theorem c_sStepsOf {n : Nat} (v : Value) (f : Int) (l : List Int) (s : AA n h v f l) (hmax : l.length ≤ 1048576) : vCall [] Try.prog M 21 [v] h (fun r h' => (∃ w, r = .tuple #[w, .bool (decide (arGood f l))] ∧ FI h.length h'.length h' w (stepsOf f l)) ∧ h <+: h') := by
  obtain ⟨w, rfl, s'⟩ := id s
  obtain ⟨a, rfl⟩ := s'.len
  refine body_of mo Try.func21 rfl (by kernel_rfl) (Nat.le_of_ble_eq_true (by kernel_rfl)) rfl ?_
  simp only [go_sem, Nat.reduceBEq, Nat.reduceAdd, Nat.reduceMul, Nat.reduceSub, Nat.reduceLeDiff, Nat.le_refl, implies_true, Nat.reduceLT, reduceIte, decide_true, decide_false, true_and, and_true, reduceCtorEq, Nat.mul_one, Int.reduceToNat, Int.reduceLE, Int.reduceLT, Int.reduceAdd, Int.reduceSub, Int.reduceMul, Int.cast_ofNat_Int, cast_zero_int, cast_one_int, Nat.reducePow, Nat.reduceEqDiff, Nat.reduceMod, Nat.zero_add, Nat.sub_zero, Nat.add_zero]
  refine ⟨by kernel_rfl, (c_l26Good _ f l (s.mono (List.prefix_append _ _)) hmax).use (fun _ m => m) ?_⟩
  rintro _ _ ⟨rfl, ⟨t, rfl⟩⟩
  simp only [go_sem, Nat.reduceBEq, Nat.reduceAdd, Nat.reduceMul, Nat.reduceSub, Nat.reduceLeDiff, Nat.le_refl, implies_true, Nat.reduceLT, reduceIte, decide_true, decide_false, true_and, and_true, reduceCtorEq, Nat.mul_one, Int.reduceToNat, Int.reduceLE, Int.reduceLT, Int.reduceAdd, Int.reduceSub, Int.reduceMul, Int.cast_ofNat_Int, cast_zero_int, cast_one_int, Nat.reducePow, Nat.reduceEqDiff, Nat.reduceMod, Nat.zero_add, Nat.sub_zero, Nat.add_zero]
  by_cases h1 : arGood f l
  · obtain ⟨g1, g2, g3, g4⟩ := id h1
    simp only [go_sem, Nat.reduceBEq, Nat.reduceAdd, Nat.reduceMul, Nat.reduceSub, Nat.reduceLeDiff, Nat.le_refl, implies_true, Nat.reduceLT, reduceIte, decide_true, decide_false, true_and, and_true, reduceCtorEq, Nat.mul_one, Int.reduceToNat, Int.reduceLE, Int.reduceLT, Int.reduceAdd, Int.reduceSub, Int.reduceMul, Int.cast_ofNat_Int, cast_zero_int, cast_one_int, Nat.reducePow, Nat.reduceEqDiff, Nat.reduceMod, Nat.zero_add, Nat.sub_zero, Nat.add_zero, decb h1]
    refine vLoop.count mo l.length (fun i e h' => ∃ (t : Heap) (j : Nat), e 1 = .pointer (some ⟨h.length, 0, none⟩) ∧ e 6 = .int .i64 i ∧ e 5 = .int .i64 (if i = 0 then 0 else l.getD (i - 1) 0) ∧
      e 4 = .slice (some ⟨h.length + (j + 1), 0, none⟩) i 0 ∧ h' = h ++ ⟨[.int .i64 f, .slice a l.length 0], 2, .rw⟩ :: t ∧ t[j]? = some ⟨(steps l i).map iv, 1, .rw⟩) ?_ ?_
    · exact ⟨[⟨[], 1, .rw⟩] ++ t, 0, rfl, rfl, rfl, rfl, by simp, by simp [steps]⟩
    · rintro i e _ hi ⟨t, j, e1, e6, e5, e4, rfl, hj⟩
      simp only [go_sem, Nat.reduceBEq, Nat.reduceAdd, Nat.reduceMul, Nat.reduceSub, Nat.reduceLeDiff, Nat.le_refl, implies_true, Nat.reduceLT, reduceIte, decide_true, decide_false, true_and, and_true, reduceCtorEq, Nat.mul_one, Int.reduceToNat, Int.reduceLE, Int.reduceLT, Int.reduceAdd, Int.reduceSub, Int.reduceMul, Int.cast_ofNat_Int, cast_zero_int, cast_one_int, Nat.reducePow, Nat.reduceEqDiff, Nat.reduceMod, Nat.zero_add, Nat.sub_zero, Nat.add_zero, e1, e6]
      refine .intro (fun h2 => ?_) (fun h2 => ?_)
      · have hlt : i < l.length := by simpa using h2
        obtain ⟨id, off, k, hv, _, hk, _, hd, _, _, _, hat⟩ := s'.at (Nat.zero_lt_of_lt hlt)
        obtain rfl : a = some ⟨id, off, none⟩ := by simpa using hv
        have hz : (i : Int) < l.length := by omega
        have hj1 : ∀ x, (t ++ x)[j]? = some ⟨(steps l i).map iv, 1, .rw⟩ := fun x => by rw [List.getElem?_append_left (List.getElem?_eq_some_iff.1 hj).1]; exact hj
        simp only [go_sem, Nat.reduceBEq, Nat.reduceAdd, Nat.reduceMul, Nat.reduceSub, Nat.reduceLeDiff, Nat.le_refl, implies_true, Nat.reduceLT, reduceIte, decide_true, decide_false, true_and, and_true, reduceCtorEq, Nat.mul_one, Int.reduceToNat, Int.reduceLE, Int.reduceLT, Int.reduceAdd, Int.reduceSub, Int.reduceMul, Int.cast_ofNat_Int, cast_zero_int, cast_one_int, Nat.reducePow, Nat.reduceEqDiff, Nat.reduceMod, Nat.zero_add, Nat.sub_zero, Nat.add_zero, e1, e6, e5, e4, hz, hk, hd, hat i hlt, hj1]
        have b1 := g1 _ (List.getElem_mem hlt)
        have b2 : -100000 ≤ (if i = 0 then 0 else l.getD (i - 1) 0) ∧ (if i = 0 then 0 else l.getD (i - 1) 0) ≤ 100000 := by
          split
          · omega
          · have hp : i - 1 < l.length := by omega
            rw [getD_of hp]
            exact g1 _ (List.getElem_mem hp)
        have e8 : IntKind.i64.wrap (l[i] - if i = 0 then 0 else l.getD (i - 1) 0) = stepAt l i := by
          rw [wrap64 (by omega), stepAt, getD_of hlt]
        rw [e8]
        refine ⟨by rw [List.length_map, steps_len], by omega, by omega, hlt, _, t.length + 1, by rw [wrap64 (by omega)]; rfl, by rw [Nat.add_sub_cancel, getD_of hlt], rfl, rfl, ?_⟩
        rw [List.getElem?_append_right (by simp), List.length_set, List.length_append, List.length_singleton, Nat.sub_self, steps_succ, List.map_append]
        rfl
      · simp only [go_sem, Nat.reduceBEq, Nat.reduceAdd, Nat.reduceMul, Nat.reduceSub, Nat.reduceLeDiff, Nat.le_refl, implies_true, Nat.reduceLT, reduceIte, decide_true, decide_false, true_and, and_true, reduceCtorEq, Nat.mul_one, Int.reduceToNat, Int.reduceLE, Int.reduceLT, Int.reduceAdd, Int.reduceSub, Int.reduceMul, Int.cast_ofNat_Int, cast_zero_int, cast_one_int, Nat.reducePow, Nat.reduceEqDiff, Nat.reduceMod, Nat.zero_add, Nat.sub_zero, Nat.add_zero, e1, e6, e4, decb h1]
        obtain rfl : i = l.length := by have : ¬ i < l.length := by simpa using h2
                                        omega
        have hl : (stepsOf f l).length = l.length := by rw [stepsOf, if_pos h1, steps_len]
        refine ⟨_, rfl, ?_⟩
        rw [← hl]
        refine FI.at (by omega) (by have := (List.getElem?_eq_some_iff.1 hj).1; omega) ?_
        rw [hget_app, List.getElem?_cons_succ, hj, stepsOf, if_pos h1]
  · simp only [go_sem, Nat.reduceBEq, Nat.reduceAdd, Nat.reduceMul, Nat.reduceSub, Nat.reduceLeDiff, Nat.le_refl, implies_true, Nat.reduceLT, reduceIte, decide_true, decide_false, true_and, and_true, reduceCtorEq, Nat.mul_one, Int.reduceToNat, Int.reduceLE, Int.reduceLT, Int.reduceAdd, Int.reduceSub, Int.reduceMul, Int.cast_ofNat_Int, cast_zero_int, cast_one_int, Nat.reducePow, Nat.reduceEqDiff, Nat.reduceMod, Nat.zero_add, Nat.sub_zero, Nat.add_zero, dect h1]
    exact ⟨_, rfl, by rw [stepsOf, if_neg h1]; exact .nil⟩

end

end Go.Proofs.Ytjgekhahklidcaa
