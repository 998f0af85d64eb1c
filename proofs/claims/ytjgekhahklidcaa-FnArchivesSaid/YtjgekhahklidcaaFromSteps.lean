
/- An archive from its steps. No condition. -/
import Derived.Test.YtjgekhahklidcaaArchive
namespace Go.Proofs.Ytjgekhahklidcaa
open Go.HH
set_option linter.unusedSimpArgs false
set_option linter.unusedVariables false

def sums (l : List Int) (i : Nat) : List Int := (List.range i).map fun k => psum l (k + 1)
theorem sums_len {l : List Int} {i : Nat} : (sums l i).length = i := by simp [sums]
theorem sums_succ {l : List Int} {i : Nat} : sums l (i + 1) = sums l i ++ [psum l (i + 1)] := by simp [sums, List.range_succ]
/-- All steps are in range. -/
def stepsIn (l : List Int) : Prop := ∀ x ∈ l, -200000 ≤ x ∧ x ≤ 200000
instance {l : List Int} : Decidable (stepsIn l) := by unfold stepsIn; infer_instance
def fromOk (f : Int) (l : List Int) : Prop := l.length ≤ 30 ∧ stepsIn l ∧ arGood f (sums l l.length)
instance {f : Int} {l : List Int} : Decidable (fromOk f l) := by unfold fromOk; infer_instance

section
variable {h : Heap} {M : Nat → Prop}

theorem c_FromSteps {n : Nat} (f : Int) (v : Value) (l : List Int) (s : AI n h v l) (hmax : l.length ≤ 1048576) : vCall [] Try.prog M 24 [.int .i64 f, v] h (fun r h' =>
    (∃ w, r = .tuple #[w, .bool (decide (fromOk f l))] ∧ FA h.length h'.length h' w (if fromOk f l then f else 0) (if fromOk f l then sums l l.length else [])) ∧ h <+: h') := by
  obtain ⟨a, rfl⟩ := s.len
  refine body_of mo Try.func24 rfl (by kernel_rfl) (Nat.le_of_ble_eq_true (by kernel_rfl)) rfl ?_
  simp only [go_sem, Nat.reduceBEq, Nat.reduceAdd, Nat.reduceMul, Nat.reduceSub, Nat.reduceLeDiff, Nat.le_refl, implies_true, Nat.reduceLT, reduceIte, decide_true, decide_false, true_and, and_true, reduceCtorEq, Nat.mul_one, Int.reduceToNat, Int.reduceLE, Int.reduceLT, Int.reduceAdd, Int.reduceSub, Int.reduceMul, Int.cast_ofNat_Int, cast_zero_int, cast_one_int, Nat.reducePow, Nat.reduceEqDiff, Nat.reduceMod, Nat.zero_add, Nat.sub_zero, Nat.add_zero]
  by_cases h1 : l.length ≤ 30
  · simp only [go_sem, Nat.reduceBEq, Nat.reduceAdd, Nat.reduceMul, Nat.reduceSub, Nat.reduceLeDiff, Nat.le_refl, implies_true, Nat.reduceLT, reduceIte, decide_true, decide_false, true_and, and_true, reduceCtorEq, Nat.mul_one, Int.reduceToNat, Int.reduceLE, Int.reduceLT, Int.reduceAdd, Int.reduceSub, Int.reduceMul, Int.cast_ofNat_Int, cast_zero_int, cast_one_int, Nat.reducePow, Nat.reduceEqDiff, Nat.reduceMod, Nat.zero_add, Nat.sub_zero, Nat.add_zero, show ¬ ((30 : Int) < l.length) by omega]
    refine vLoop.count mo l.length (fun i e h' => ∃ (u : Heap) (j : Nat), e 4 = .pointer (some ⟨h.length, 0, none⟩) ∧ e 6 = .pointer (some ⟨h.length + 2, 0, none⟩) ∧ e 17 = .slice a l.length 0 ∧ e 18 = .int .i64 l.length ∧ e 19 = .int .i64 i ∧ e 7 = .int .i64 (psum l i) ∧
      h' = h ++ ⟨[.int .i64 0, .slice none 0 0], 2, .rw⟩ :: u ∧ u[1]? = some ⟨[.int .i64 f, .slice (some ⟨h.length + (j + 1), 0, none⟩) i 0], 2, .rw⟩ ∧ j ≠ 1 ∧ u[j]? = some ⟨(sums l i).map iv, 1, .rw⟩ ∧ ∀ x ∈ l.take i, -200000 ≤ x ∧ x ≤ 200000) ?_ ?_
    · exact ⟨[_, _], 0, rfl, rfl, rfl, rfl, rfl, rfl, rfl, rfl, by omega, rfl, by simp⟩
    · rintro i e _ hi ⟨u, j, e4, e6, e17, e18, e19, e7, rfl, hu, hj1, hj, hb⟩
      simp only [go_sem, Nat.reduceBEq, Nat.reduceAdd, Nat.reduceMul, Nat.reduceSub, Nat.reduceLeDiff, Nat.le_refl, implies_true, Nat.reduceLT, reduceIte, decide_true, decide_false, true_and, and_true, reduceCtorEq, Nat.mul_one, Int.reduceToNat, Int.reduceLE, Int.reduceLT, Int.reduceAdd, Int.reduceSub, Int.reduceMul, Int.cast_ofNat_Int, cast_zero_int, cast_one_int, Nat.reducePow, Nat.reduceEqDiff, Nat.reduceMod, Nat.zero_add, Nat.sub_zero, Nat.add_zero, e17, e18, e19]
      refine .intro (fun h2 => ?_) (fun h2 => ?_)
      · have hlt : i < l.length := by simpa using h2
        obtain ⟨id, off, k, hv, _, hk, _, hd, _, _, _, hat⟩ := s.at (Nat.zero_lt_of_lt hlt)
        obtain rfl : a = some ⟨id, off, none⟩ := by simpa using hv
        have hz : (i : Int) < l.length := by omega
        simp only [go_sem, Nat.reduceBEq, Nat.reduceAdd, Nat.reduceMul, Nat.reduceSub, Nat.reduceLeDiff, Nat.le_refl, implies_true, Nat.reduceLT, reduceIte, decide_true, decide_false, true_and, and_true, reduceCtorEq, Nat.mul_one, Int.reduceToNat, Int.reduceLE, Int.reduceLT, Int.reduceAdd, Int.reduceSub, Int.reduceMul, Int.cast_ofNat_Int, cast_zero_int, cast_one_int, Nat.reducePow, Nat.reduceEqDiff, Nat.reduceMod, Nat.zero_add, Nat.sub_zero, Nat.add_zero, e17, e19, hz, hk, hd, hat i hlt]
        refine ⟨by kernel_rfl, (c_inside _ _ _).use (fun _ m => m) ?_⟩
        rintro _ _ ⟨rfl, rfl⟩
        simp only [go_sem, Nat.reduceBEq, Nat.reduceAdd, Nat.reduceMul, Nat.reduceSub, Nat.reduceLeDiff, Nat.le_refl, implies_true, Nat.reduceLT, reduceIte, decide_true, decide_false, true_and, and_true, reduceCtorEq, Nat.mul_one, Int.reduceToNat, Int.reduceLE, Int.reduceLT, Int.reduceAdd, Int.reduceSub, Int.reduceMul, Int.cast_ofNat_Int, cast_zero_int, cast_one_int, Nat.reducePow, Nat.reduceEqDiff, Nat.reduceMod, Nat.zero_add, Nat.sub_zero, Nat.add_zero]
        by_cases h3 : -200000 ≤ l[i] ∧ l[i] ≤ 200000
        · have hb' : ∀ x ∈ l.take (i + 1), -200000 ≤ x ∧ x ≤ 200000 := fun x hx => by
            rw [List.take_add_one, List.getElem?_eq_getElem hlt] at hx
            rcases List.mem_append.1 hx with hx | hx
            · exact hb x hx
            · obtain rfl : x = l[i] := by simpa using hx
              exact h3
          have bb := psum_bound (i := i + 1) hlt hb'
          have e8 : IntKind.i64.wrap (psum l i + l[i]) = psum l (i + 1) := by rw [← psum_succ hlt, wrap64 (by omega)]
          simp only [go_sem, Nat.reduceBEq, Nat.reduceAdd, Nat.reduceMul, Nat.reduceSub, Nat.reduceLeDiff, Nat.le_refl, implies_true, Nat.reduceLT, reduceIte, decide_true, decide_false, true_and, and_true, reduceCtorEq, Nat.mul_one, Int.reduceToNat, Int.reduceLE, Int.reduceLT, Int.reduceAdd, Int.reduceSub, Int.reduceMul, Int.cast_ofNat_Int, cast_zero_int, cast_one_int, Nat.reducePow, Nat.reduceEqDiff, Nat.reduceMod, Nat.zero_add, Nat.sub_zero, Nat.add_zero, decb h3, e4, e6, e7, e17, e18, e19, hu, e8, app_old hj, app_keep hu hj1, List.length_map, sums_len, show i ≤ 9223372036854775806 by omega, show (i + 1) * 8 ≤ 140737488355328 by omega]
          exact ⟨hlt, _, u.length + 1, by rw [wrap64 (by omega)]; rfl, rfl, app_cell hu, app_ne hu, by rw [app_new hu, sums_succ, List.map_append]; rfl, hb'⟩
        · simp only [go_sem, Nat.reduceBEq, Nat.reduceAdd, Nat.reduceMul, Nat.reduceSub, Nat.reduceLeDiff, Nat.le_refl, implies_true, Nat.reduceLT, reduceIte, decide_true, decide_false, true_and, and_true, reduceCtorEq, Nat.mul_one, Int.reduceToNat, Int.reduceLE, Int.reduceLT, Int.reduceAdd, Int.reduceSub, Int.reduceMul, Int.cast_ofNat_Int, cast_zero_int, cast_one_int, Nat.reducePow, Nat.reduceEqDiff, Nat.reduceMod, Nat.zero_add, Nat.sub_zero, Nat.add_zero, dect h3, e4]
          have hn : ¬ fromOk f l := fun hh => h3 (hh.2.1 _ (List.getElem_mem hlt))
          exact ⟨_, by rw [decide_eq_false hn], _, by rw [if_neg hn], by rw [if_neg hn]; exact .nil⟩
      · simp only [go_sem, Nat.reduceBEq, Nat.reduceAdd, Nat.reduceMul, Nat.reduceSub, Nat.reduceLeDiff, Nat.le_refl, implies_true, Nat.reduceLT, reduceIte, decide_true, decide_false, true_and, and_true, reduceCtorEq, Nat.mul_one, Int.reduceToNat, Int.reduceLE, Int.reduceLT, Int.reduceAdd, Int.reduceSub, Int.reduceMul, Int.cast_ofNat_Int, cast_zero_int, cast_one_int, Nat.reducePow, Nat.reduceEqDiff, Nat.reduceMod, Nat.zero_add, Nat.sub_zero, Nat.add_zero, e4, e6, hu]
        obtain rfl : i = l.length := by have : ¬ i < l.length := by simpa using h2
                                        omega
        rw [List.take_length] at hb
        have sf : FI h.length (h.length + (j + 2)) (h ++ ⟨[.int .i64 0, .slice none 0 0], 2, .rw⟩ :: u) (.slice (some ⟨h.length + (j + 1), 0, none⟩) l.length 0) (sums l l.length) := by
          have := FI.at (n := h.length) (m := h.length + (j + 2)) (h := h ++ ⟨[.int .i64 0, .slice none 0 0], 2, .rw⟩ :: u) (l := sums l l.length) (id := h.length + (j + 1)) (by omega) (by omega) (by rw [hget_app, List.getElem?_cons_succ, hj])
          rwa [sums_len] at this
        refine ⟨by kernel_rfl, (c_asArchive _ f (sums l l.length) ⟨_, rfl, sf.ai⟩ (by rw [sums_len]; exact hmax)).use (fun _ m => m) ?_⟩
        rintro _ _ ⟨rfl, ⟨t, rfl⟩⟩
        by_cases h3 : arGood f (sums l l.length)
        · have hn : fromOk f l := ⟨h1, hb, h3⟩
          simp only [go_sem, Nat.reduceBEq, Nat.reduceAdd, Nat.reduceMul, Nat.reduceSub, Nat.reduceLeDiff, Nat.le_refl, implies_true, Nat.reduceLT, reduceIte, decide_true, decide_false, true_and, and_true, reduceCtorEq, Nat.mul_one, Int.reduceToNat, Int.reduceLE, Int.reduceLT, Int.reduceAdd, Int.reduceSub, Int.reduceMul, Int.cast_ofNat_Int, cast_zero_int, cast_one_int, Nat.reducePow, Nat.reduceEqDiff, Nat.reduceMod, Nat.zero_add, Nat.sub_zero, Nat.add_zero, e4, if_pos h3, decb h3]
          refine ⟨_, by rw [decide_eq_true hn], _, by rw [if_pos hn], ?_⟩
          rw [if_pos hn]
          exact FI.at' sums_len.symm (by omega) (by have := (List.getElem?_eq_some_iff.1 hj).1; omega) (by rw [hget_app, List.getElem?_cons_succ, app_old hj])
        · have hn : ¬ fromOk f l := fun hh => h3 hh.2.2
          simp only [go_sem, Nat.reduceBEq, Nat.reduceAdd, Nat.reduceMul, Nat.reduceSub, Nat.reduceLeDiff, Nat.le_refl, implies_true, Nat.reduceLT, reduceIte, decide_true, decide_false, true_and, and_true, reduceCtorEq, Nat.mul_one, Int.reduceToNat, Int.reduceLE, Int.reduceLT, Int.reduceAdd, Int.reduceSub, Int.reduceMul, Int.cast_ofNat_Int, cast_zero_int, cast_one_int, Nat.reducePow, Nat.reduceEqDiff, Nat.reduceMod, Nat.zero_add, Nat.sub_zero, Nat.add_zero, e4, if_neg h3, dect h3]
          exact ⟨_, by rw [decide_eq_false hn], _, by rw [if_neg hn], by rw [if_neg hn]; exact .nil⟩
  · simp only [go_sem, Nat.reduceBEq, Nat.reduceAdd, Nat.reduceMul, Nat.reduceSub, Nat.reduceLeDiff, Nat.le_refl, implies_true, Nat.reduceLT, reduceIte, decide_true, decide_false, true_and, and_true, reduceCtorEq, Nat.mul_one, Int.reduceToNat, Int.reduceLE, Int.reduceLT, Int.reduceAdd, Int.reduceSub, Int.reduceMul, Int.cast_ofNat_Int, cast_zero_int, cast_one_int, Nat.reducePow, Nat.reduceEqDiff, Nat.reduceMod, Nat.zero_add, Nat.sub_zero, Nat.add_zero, show (30 : Int) < l.length by omega]
    have hn : ¬ fromOk f l := fun hh => h1 hh.1
    exact ⟨_, by rw [decide_eq_false hn], _, by rw [if_neg hn], by rw [if_neg hn]; exact .nil⟩

theorem c_sFromSteps {n : Nat} (f : Int) (v : Value) (l : List Int) (s : AI n h v l) (hmax : l.length ≤ 1048576) : vCall [] Try.prog M 30 [.int .i64 f, v] h (fun r h' =>
    (∃ w, r = .tuple #[w, .bool (decide (fromOk f l))] ∧ FA h.length h'.length h' w (if fromOk f l then f else 0) (if fromOk f l then sums l l.length else [])) ∧ h <+: h') := by
  obtain ⟨a, rfl⟩ := s.len
  refine body_of mo Try.func30 rfl (by kernel_rfl) (Nat.le_of_ble_eq_true (by kernel_rfl)) rfl ?_
  simp only [go_sem, Nat.reduceBEq, Nat.reduceAdd, Nat.reduceMul, Nat.reduceSub, Nat.reduceLeDiff, Nat.le_refl, implies_true, Nat.reduceLT, reduceIte, decide_true, decide_false, true_and, and_true, reduceCtorEq, Nat.mul_one, Int.reduceToNat, Int.reduceLE, Int.reduceLT, Int.reduceAdd, Int.reduceSub, Int.reduceMul, Int.cast_ofNat_Int, cast_zero_int, cast_one_int, Nat.reducePow, Nat.reduceEqDiff, Nat.reduceMod, Nat.zero_add, Nat.sub_zero, Nat.add_zero]
  refine vLoop.count mo l.length (fun i e h' => ∃ (u : Heap) (v : Value), e 1 = .slice a l.length 0 ∧ e 4 = .pointer (some ⟨h.length, 0, none⟩) ∧ e 6 = .pointer (some ⟨h.length + 1, 0, none⟩) ∧ e 8 = .int .i64 i ∧ e 7 = .int .i64 (psum l i) ∧
      h' = h ++ ⟨[.int .i64 0, .slice none 0 0], 2, .rw⟩ :: u ∧ u[0]? = some ⟨[.int .i64 f, v], 2, .rw⟩ ∧ (i = 0 → v = .slice none 0 0) ∧ (0 < i → ∃ j, v = .slice (some ⟨h.length + (j + 1), 0, none⟩) i 0 ∧ j ≠ 0 ∧ u[j]? = some ⟨(sums l i).map iv, 1, .rw⟩) ∧
      (∀ x ∈ l.take i, -200000 ≤ x ∧ x ≤ 200000) ∧ i ≤ 31) ?_ ?_
  · exact ⟨[_], _, rfl, rfl, rfl, rfl, rfl, rfl, rfl, fun _ => rfl, by omega, by simp, by omega⟩
  · rintro i e _ hi ⟨u, v, e1, e4, e6, e8, e7, rfl, hu, hv0, hv1, hb, hi31⟩
    simp only [go_sem, Nat.reduceBEq, Nat.reduceAdd, Nat.reduceMul, Nat.reduceSub, Nat.reduceLeDiff, Nat.le_refl, implies_true, Nat.reduceLT, reduceIte, decide_true, decide_false, true_and, and_true, reduceCtorEq, Nat.mul_one, Int.reduceToNat, Int.reduceLE, Int.reduceLT, Int.reduceAdd, Int.reduceSub, Int.reduceMul, Int.cast_ofNat_Int, cast_zero_int, cast_one_int, Nat.reducePow, Nat.reduceEqDiff, Nat.reduceMod, Nat.zero_add, Nat.sub_zero, Nat.add_zero, e1, e8]
    by_cases h2 : i < l.length ∧ i ≤ 30
    · have hlt := h2.1
      obtain ⟨id, off, k, hv, _, hk, _, hd, _, _, _, hat⟩ := s.at (Nat.zero_lt_of_lt hlt)
      obtain rfl : a = some ⟨id, off, none⟩ := by simpa using hv
      have hz : (i : Int) < l.length := by omega
      simp only [go_sem, Nat.reduceBEq, Nat.reduceAdd, Nat.reduceMul, Nat.reduceSub, Nat.reduceLeDiff, Nat.le_refl, implies_true, Nat.reduceLT, reduceIte, decide_true, decide_false, true_and, and_true, reduceCtorEq, Nat.mul_one, Int.reduceToNat, Int.reduceLE, Int.reduceLT, Int.reduceAdd, Int.reduceSub, Int.reduceMul, Int.cast_ofNat_Int, cast_zero_int, cast_one_int, Nat.reducePow, Nat.reduceEqDiff, Nat.reduceMod, Nat.zero_add, Nat.sub_zero, Nat.add_zero, e1, e8, hz, show (i : Int) ≤ 30 by omega, hk, hd, hat i hlt]
      refine ⟨by kernel_rfl, (c_l1In _ _ _).use (fun _ m => m) ?_⟩
      rintro _ _ ⟨rfl, rfl⟩
      simp only [go_sem, Nat.reduceBEq, Nat.reduceAdd, Nat.reduceMul, Nat.reduceSub, Nat.reduceLeDiff, Nat.le_refl, implies_true, Nat.reduceLT, reduceIte, decide_true, decide_false, true_and, and_true, reduceCtorEq, Nat.mul_one, Int.reduceToNat, Int.reduceLE, Int.reduceLT, Int.reduceAdd, Int.reduceSub, Int.reduceMul, Int.cast_ofNat_Int, cast_zero_int, cast_one_int, Nat.reducePow, Nat.reduceEqDiff, Nat.reduceMod, Nat.zero_add, Nat.sub_zero, Nat.add_zero]
      by_cases h3 : -200000 ≤ l[i] ∧ l[i] ≤ 200000
      · have hb' : ∀ x ∈ l.take (i + 1), -200000 ≤ x ∧ x ≤ 200000 := fun x hx => by
          rw [List.take_add_one, List.getElem?_eq_getElem hlt] at hx
          rcases List.mem_append.1 hx with hx | hx
          · exact hb x hx
          · obtain rfl : x = l[i] := by simpa using hx
            exact h3
        have bb := psum_bound (i := i + 1) hlt hb'
        have e9 : IntKind.i64.wrap (psum l i + l[i]) = psum l (i + 1) := by rw [← psum_succ hlt, wrap64 (by omega)]
        by_cases h0 : i = 0
        · obtain rfl := hv0 h0
          simp only [go_sem, Nat.reduceBEq, Nat.reduceAdd, Nat.reduceMul, Nat.reduceSub, Nat.reduceLeDiff, Nat.le_refl, implies_true, Nat.reduceLT, reduceIte, decide_true, decide_false, true_and, and_true, reduceCtorEq, Nat.mul_one, Int.reduceToNat, Int.reduceLE, Int.reduceLT, Int.reduceAdd, Int.reduceSub, Int.reduceMul, Int.cast_ofNat_Int, cast_zero_int, cast_one_int, Nat.reducePow, Nat.reduceEqDiff, Nat.reduceMod, Nat.zero_add, Nat.sub_zero, Nat.add_zero, decb h3, e1, e4, e6, e7, e8, hz, hk, hd, hat i hlt, hu, e9, app_old hu]
          exact ⟨hlt, _, _, by rw [wrap64 (by omega)]; rfl, rfl, app_cell0 hu, fun hh => hh.elim, fun _ => ⟨u.length + 1, by rw [h0], app_ne hu, by subst h0; exact app_new0 hu⟩, hb', h2.2⟩
        · obtain ⟨j, rfl, hj1, hj⟩ := hv1 (by omega)
          simp only [go_sem, Nat.reduceBEq, Nat.reduceAdd, Nat.reduceMul, Nat.reduceSub, Nat.reduceLeDiff, Nat.le_refl, implies_true, Nat.reduceLT, reduceIte, decide_true, decide_false, true_and, and_true, reduceCtorEq, Nat.mul_one, Int.reduceToNat, Int.reduceLE, Int.reduceLT, Int.reduceAdd, Int.reduceSub, Int.reduceMul, Int.cast_ofNat_Int, cast_zero_int, cast_one_int, Nat.reducePow, Nat.reduceEqDiff, Nat.reduceMod, Nat.zero_add, Nat.sub_zero, Nat.add_zero, decb h3, e1, e4, e6, e7, e8, hz, hk, hd, hat i hlt, hu, e9, app_old hj, app_keep hu hj1, List.length_map, sums_len, show i ≤ 9223372036854775806 by omega, show (i + 1) * 8 ≤ 140737488355328 by omega]
          exact ⟨hlt, _, _, by rw [wrap64 (by omega)]; rfl, rfl, app_cell hu, fun hh => hh.elim, fun _ => ⟨u.length + 1, rfl, app_ne hu, by rw [app_new hu, sums_succ, List.map_append]; rfl⟩, hb', h2.2⟩
      · simp only [go_sem, Nat.reduceBEq, Nat.reduceAdd, Nat.reduceMul, Nat.reduceSub, Nat.reduceLeDiff, Nat.le_refl, implies_true, Nat.reduceLT, reduceIte, decide_true, decide_false, true_and, and_true, reduceCtorEq, Nat.mul_one, Int.reduceToNat, Int.reduceLE, Int.reduceLT, Int.reduceAdd, Int.reduceSub, Int.reduceMul, Int.cast_ofNat_Int, cast_zero_int, cast_one_int, Nat.reducePow, Nat.reduceEqDiff, Nat.reduceMod, Nat.zero_add, Nat.sub_zero, Nat.add_zero, dect h3, e4]
        have hn : ¬ fromOk f l := fun hh => h3 (hh.2.1 _ (List.getElem_mem hlt))
        exact ⟨_, by rw [decide_eq_false hn], _, by rw [if_neg hn], by rw [if_neg hn]; exact .nil⟩
    · have sv : FI (h ++ [(⟨[.int .i64 0, .slice none 0 0], 2, .rw⟩ : Blk)]).length (h.length + (u.length + 1)) (h ++ [⟨[.int .i64 0, .slice none 0 0], 2, .rw⟩] ++ u) v (sums l i) := by
        by_cases h0 : i = 0
        · obtain rfl := hv0 h0
          subst h0
          exact .nil
        · obtain ⟨j, rfl, hj1, hj⟩ := hv1 (by omega)
          exact FI.at' sums_len.symm (by simp) (by have := (List.getElem?_eq_some_iff.1 hj).1; omega) (by rw [List.append_assoc, hget_app]; exact hj)
      clear hv0 hv1
      have sv' := sv.ai
      simp only [List.append_assoc, List.cons_append, List.nil_append] at sv'
      obtain ⟨av, rfl, -⟩ := id sv
      by_cases h4 : i < l.length
      · simp only [go_sem, Nat.reduceBEq, Nat.reduceAdd, Nat.reduceMul, Nat.reduceSub, Nat.reduceLeDiff, Nat.le_refl, implies_true, Nat.reduceLT, reduceIte, decide_true, decide_false, true_and, and_true, reduceCtorEq, Nat.mul_one, Int.reduceToNat, Int.reduceLE, Int.reduceLT, Int.reduceAdd, Int.reduceSub, Int.reduceMul, Int.cast_ofNat_Int, cast_zero_int, cast_one_int, Nat.reducePow, Nat.reduceEqDiff, Nat.reduceMod, Nat.zero_add, Nat.sub_zero, Nat.add_zero, e1, e8, show (i : Int) < l.length by omega, show ¬ ((i : Int) ≤ 30) by omega, e6, hu]
        refine ⟨by kernel_rfl, (c_l26Good _ f (sums l i) ⟨_, rfl, sv'⟩ (by rw [sums_len]; omega)).use (fun _ m => m) ?_⟩
        rintro _ _ ⟨rfl, ⟨t, rfl⟩⟩
        have h5 : ¬ arGood f (sums l i) := fun hh => by have := hh.2.1; rw [sums_len] at this; omega
        have hn : ¬ fromOk f l := fun hh => by have := hh.1; omega
        simp only [go_sem, Nat.reduceBEq, Nat.reduceAdd, Nat.reduceMul, Nat.reduceSub, Nat.reduceLeDiff, Nat.le_refl, implies_true, Nat.reduceLT, reduceIte, decide_true, decide_false, true_and, and_true, reduceCtorEq, Nat.mul_one, Int.reduceToNat, Int.reduceLE, Int.reduceLT, Int.reduceAdd, Int.reduceSub, Int.reduceMul, Int.cast_ofNat_Int, cast_zero_int, cast_one_int, Nat.reducePow, Nat.reduceEqDiff, Nat.reduceMod, Nat.zero_add, Nat.sub_zero, Nat.add_zero, dect h5, e4]
        exact ⟨_, by rw [decide_eq_false hn], _, by rw [if_neg hn], by rw [if_neg hn]; exact .nil⟩
      · simp only [go_sem, Nat.reduceBEq, Nat.reduceAdd, Nat.reduceMul, Nat.reduceSub, Nat.reduceLeDiff, Nat.le_refl, implies_true, Nat.reduceLT, reduceIte, decide_true, decide_false, true_and, and_true, reduceCtorEq, Nat.mul_one, Int.reduceToNat, Int.reduceLE, Int.reduceLT, Int.reduceAdd, Int.reduceSub, Int.reduceMul, Int.cast_ofNat_Int, cast_zero_int, cast_one_int, Nat.reducePow, Nat.reduceEqDiff, Nat.reduceMod, Nat.zero_add, Nat.sub_zero, Nat.add_zero, e1, e8, show ¬ ((i : Int) < l.length) by omega, e6, hu]
        obtain rfl : i = l.length := by omega
        rw [List.take_length] at hb
        refine ⟨by kernel_rfl, (c_l26Good _ f (sums l l.length) ⟨_, rfl, sv'⟩ (by rw [sums_len]; omega)).use (fun _ m => m) ?_⟩
        rintro _ _ ⟨rfl, ⟨t, rfl⟩⟩
        by_cases h5 : arGood f (sums l l.length)
        · have hn : fromOk f l := ⟨by have := h5.2.1; rw [sums_len] at this; exact this, hb, h5⟩
          simp only [go_sem, Nat.reduceBEq, Nat.reduceAdd, Nat.reduceMul, Nat.reduceSub, Nat.reduceLeDiff, Nat.le_refl, implies_true, Nat.reduceLT, reduceIte, decide_true, decide_false, true_and, and_true, reduceCtorEq, Nat.mul_one, Int.reduceToNat, Int.reduceLE, Int.reduceLT, Int.reduceAdd, Int.reduceSub, Int.reduceMul, Int.cast_ofNat_Int, cast_zero_int, cast_one_int, Nat.reducePow, Nat.reduceEqDiff, Nat.reduceMod, Nat.zero_add, Nat.sub_zero, Nat.add_zero, decb h5, e4, e6, app_old hu]
          refine ⟨_, by rw [decide_eq_true hn], _, by rw [if_pos hn], ?_⟩
          rw [if_pos hn]
          exact FI.swap (y := [_]) (FI.mono (h' := h ++ [(⟨[.int .i64 0, .slice none 0 0], 2, .rw⟩ : Blk)] ++ (u ++ t)) sv (by simp)) rfl (by omega)
        · have hn : ¬ fromOk f l := fun hh => h5 hh.2.2
          simp only [go_sem, Nat.reduceBEq, Nat.reduceAdd, Nat.reduceMul, Nat.reduceSub, Nat.reduceLeDiff, Nat.le_refl, implies_true, Nat.reduceLT, reduceIte, decide_true, decide_false, true_and, and_true, reduceCtorEq, Nat.mul_one, Int.reduceToNat, Int.reduceLE, Int.reduceLT, Int.reduceAdd, Int.reduceSub, Int.reduceMul, Int.cast_ofNat_Int, cast_zero_int, cast_one_int, Nat.reducePow, Nat.reduceEqDiff, Nat.reduceMod, Nat.zero_add, Nat.sub_zero, Nat.add_zero, dect h5, e4]
          exact ⟨_, by rw [decide_eq_false hn], _, by rw [if_neg hn], by rw [if_neg hn]; exact .nil⟩

end

end Go.Proofs.Ytjgekhahklidcaa
