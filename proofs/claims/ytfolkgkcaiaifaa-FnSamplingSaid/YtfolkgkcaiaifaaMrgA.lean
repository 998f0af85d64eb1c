
/- Go's stable sort of samples in place: the exchange of two rows and the change of two blocks. No condition. -/
import Derived.Test.YtfolkgkcaiaifaaSamples
import Derived.Test.YtfolkgkcaiaifaaMrgP
namespace Go.Proofs.Ytfolkgkcaiaifaa
open Go.HH
set_option linter.unusedSimpArgs false
set_option linter.unusedVariables false

/-- The block that holds the elements. -/
def datT (T : List (Smp × Nat)) : List Value := (T.map fun x => smp x.1).flatten
theorem datT_rows (T : List (Smp × Nat)) : ∀ r ∈ T.map (fun x => smp x.1), r.length = 4 := by
  intro r hr
  obtain ⟨x, _, rfl⟩ := List.mem_map.1 hr
  rfl
theorem datT_len (T : List (Smp × Nat)) : (datT T).length = T.length * 4 := by
  rw [datT, flatten_len (datT_rows T), List.length_map]
theorem datT_row {T : List (Smp × Nat)} {i : Nat} (hi : i < T.length) : ((datT T).drop (i * 4)).take 4 = smp T[i].1 := by
  have := flatten_row (datT_rows T) (i := i) (by simpa using hi)
  rw [datT, this, List.getElem_map]
theorem datT_take {T : List (Smp × Nat)} {i : Nat} (hi : i ≤ T.length) : ((T.take i).map fun x => smp x.1).flatten.length = i * 4 := by
  rw [flatten_len (sz := 4) (fun r hr => by obtain ⟨x, _, rfl⟩ := List.mem_map.1 hr; rfl), List.length_map, List.length_take, Nat.min_eq_left hi]
theorem datT_at {T : List (Smp × Nat)} {i : Nat} (hi : i < T.length) : datT T = ((T.take i).map fun x => smp x.1).flatten ++ .int .i64 T[i].1.1 :: .int .i64 T[i].1.2.1 :: .int .i64 T[i].1.2.2.1 :: .int .i64 T[i].1.2.2.2 :: ((T.drop (i + 1)).map fun x => smp x.1).flatten := by
  have e : T = T.take i ++ T[i] :: T.drop (i + 1) := by rw [← List.drop_eq_getElem_cons hi, List.take_append_drop]
  conv => lhs; rw [datT, e]
  rw [List.map_append, List.flatten_append, List.map_cons, List.flatten_cons]
  rfl
theorem datT_set {T : List (Smp × Nat)} {i : Nat} (hi : i < T.length) (x : Smp × Nat) : setRange (datT T) (i * 4) (smp x.1) = datT (T.set i x) := by
  have hi' : i < (T.set i x).length := by simpa using hi
  rw [datT_at hi, datT_at hi']
  have t1 : (T.set i x).take i = T.take i := by rw [List.take_set]; exact List.set_eq_of_length_le (by rw [List.length_take]; omega)
  have t2 : (T.set i x).drop (i + 1) = T.drop (i + 1) := by rw [List.drop_set]; simp
  rw [t1, t2, List.getElem_set_self]
  have hP := datT_take (T := T) (i := i) (by omega)
  rw [setRange, List.take_left' hP, ← List.drop_drop, List.drop_left' hP]
  simp [smp]
theorem set_self_get {h : Heap} {id : Nat} {b : Blk} (hg : hget h id = some b) : h.set id b = h := by
  have hl := hget_lt hg
  have : h[id] = b := by
    have := hg
    rw [hget, List.getElem?_eq_getElem hl] at this
    exact Option.some.inj this
  rw [← this, List.set_getElem_self]

theorem smp_l4 (x : Smp) : (smp x).length = 4 := (rfl)
theorem smp_one (x : Smp) : (smp x).all oneC = true := (rfl)
theorem hset_all {h : Heap} {id : Nat} (hl : id < h.length) (b : Blk) : hget (h.set id b) id = some b := hget_set_same hl
theorem datT_set1 {T : List (Smp × Nat)} {i j : Nat} (hi : i < T.length) (hj : j < T.length) : setRange (datT T) (i * 4) (smp T[j].1) = datT (T.set i T[j]) := datT_set hi T[j]
theorem datT_set2 {T : List (Smp × Nat)} {i j : Nat} (hi : i < T.length) (hj : j < T.length) : setRange (datT (T.set i T[j])) (j * 4) (smp T[i].1) = datT (swp T i j) := by
  rw [swp_eq hi hj]
  exact datT_set (by simpa using hj) T[i]
section
variable {h : Heap} {M : Nat → Prop}
theorem c_swapRange (id : Nat) (T : List (Smp × Nat)) (a b n : Nat) (c : Value) (hg : hget h id = some ⟨datT T, 4, .rw⟩) (hM : M id) (h1 : a + n ≤ b) (h2 : b + n ≤ T.length) (hmax : T.length ≤ 1000) :
    vCall [] Try.prog M 59 [.slice (some ⟨id, 0, none⟩) T.length 0, .int .i64 a, .int .i64 b, .int .i64 n, c] h (fun r h' => r = .tuple #[] ∧ h' = h.set id ⟨datT (swr T a b n), 4, .rw⟩) := by
  have hown : own h.length M id := Or.inr hM
  have hidl := hget_lt hg
  refine body_of mo Try.func59 rfl (by kernel_rfl) (Nat.le_of_ble_eq_true (by kernel_rfl)) rfl ?_
  simp only [go_sem, Nat.reduceBEq, Nat.reduceAdd, Nat.reduceMul, Nat.reduceSub, Nat.reduceLeDiff, Nat.le_refl, implies_true, Nat.reduceLT, reduceIte, decide_true, decide_false, true_and, and_true, reduceCtorEq, Nat.mul_one, Int.reduceToNat, Int.reduceLE, Int.reduceLT, Int.reduceAdd, Int.reduceSub, Int.reduceMul, Int.cast_ofNat_Int, cast_zero_int, cast_one_int, Nat.reducePow, Nat.reduceEqDiff, Nat.reduceMod, Nat.zero_add, Nat.sub_zero, Nat.add_zero]
  refine vLoop.count mo n (fun i e h' => e 0 = .slice (some ⟨id, 0, none⟩) T.length 0 ∧ e 1 = .int .i64 a ∧ e 2 = .int .i64 b ∧ e 3 = .int .i64 n ∧ e 10 = .int .i64 i ∧ HeapIs h' (h.set id ⟨datT (swr T a b i), 4, .rw⟩)) ?_ ?_
  · exact ⟨rfl, rfl, rfl, rfl, rfl, (set_self_get hg).symm⟩
  · rintro i e _ hi ⟨e0, e1, e2, e3, e10, rfl⟩
    simp only [go_sem, Nat.reduceBEq, Nat.reduceAdd, Nat.reduceMul, Nat.reduceSub, Nat.reduceLeDiff, Nat.le_refl, implies_true, Nat.reduceLT, reduceIte, decide_true, decide_false, true_and, and_true, reduceCtorEq, Nat.mul_one, Int.reduceToNat, Int.reduceLE, Int.reduceLT, Int.reduceAdd, Int.reduceSub, Int.reduceMul, Int.cast_ofNat_Int, cast_zero_int, cast_one_int, Nat.reducePow, Nat.reduceEqDiff, Nat.reduceMod, Nat.zero_add, Nat.sub_zero, Nat.add_zero, e0, e1, e2, e3, e10]
    by_cases hlt : i < n
    · have hl : (swr T a b i).length = T.length := swr_len i
      have w1 : IntKind.i64.wrap ((a : Int) + i) = ((a + i : Nat) : Int) := by rw [wrap64 (by omega)]; omega
      have w2 : IntKind.i64.wrap ((b : Int) + i) = ((b + i : Nat) : Int) := by rw [wrap64 (by omega)]; omega
      have q1 : ((a + i : Nat) : Int) < T.length := by omega
      have q2 : ((b + i : Nat) : Int) < T.length := by omega
      have r1 := datT_row (T := swr T a b i) (i := a + i) (by omega)
      have r2 := datT_row (T := swr T a b i) (i := b + i) (by omega)
      have hd : (datT (swr T a b i)).length = T.length * 4 := by rw [datT_len, hl]
      have hd2 : (datT ((swr T a b i).set (a + i) (swr T a b i)[b + i])).length = T.length * 4 := by rw [datT_len, List.length_set, hl]
      have s1 := datT_set1 (T := swr T a b i) (i := a + i) (j := b + i) (by omega) (by omega)
      have s2 := datT_set2 (T := swr T a b i) (i := a + i) (j := b + i) (by omega) (by omega)
      simp only [go_sem, Nat.reduceBEq, Nat.reduceAdd, Nat.reduceMul, Nat.reduceSub, Nat.reduceLeDiff, Nat.le_refl, implies_true, Nat.reduceLT, reduceIte, decide_true, decide_false, true_and, and_true, reduceCtorEq, Nat.mul_one, Int.reduceToNat, Int.reduceLE, Int.reduceLT, Int.reduceAdd, Int.reduceSub, Int.reduceMul, Int.cast_ofNat_Int, cast_zero_int, cast_one_int, Nat.reducePow, Nat.reduceEqDiff, Nat.reduceMod, Nat.zero_add, Nat.sub_zero, Nat.add_zero, e0, e1, e2, e3, e10, show (i : Int) < n by omega, w1, w2, q1, q2, hset_all hidl, r1, r2, hd, hd2, smp_l4, smp_one, s1, s2, List.set_set, show (a + i) * 4 + 4 ≤ T.length * 4 by omega, show (b + i) * 4 + 4 ≤ T.length * 4 by omega, hown, hidl]
      exact ⟨hlt, congrArg _ (wsucc hlt (by omega)), rfl⟩
    · simp only [go_sem, Nat.reduceBEq, Nat.reduceAdd, Nat.reduceMul, Nat.reduceSub, Nat.reduceLeDiff, Nat.le_refl, implies_true, Nat.reduceLT, reduceIte, decide_true, decide_false, true_and, and_true, reduceCtorEq, Nat.mul_one, Int.reduceToNat, Int.reduceLE, Int.reduceLT, Int.reduceAdd, Int.reduceSub, Int.reduceMul, Int.cast_ofNat_Int, cast_zero_int, cast_one_int, Nat.reducePow, Nat.reduceEqDiff, Nat.reduceMod, Nat.zero_add, Nat.sub_zero, Nat.add_zero, e0, e1, e2, e3, e10, show ¬ (i : Int) < n by omega]
      obtain rfl : i = n := by omega
      try exact rfl
theorem c_rotate (id : Nat) (T : List (Smp × Nat)) (a m b : Nat) (c : Value) (hg : hget h id = some ⟨datT T, 4, .rw⟩) (hM : M id) (h1 : a < m) (h2 : m < b) (h3 : b ≤ T.length) (hmax : T.length ≤ 1000) :
    vCall [] Try.prog M 58 [.slice (some ⟨id, 0, none⟩) T.length 0, .int .i64 a, .int .i64 m, .int .i64 b, c] h (fun r h' => r = .tuple #[] ∧ ∃ F, IsRot T F a m b ∧ h' = h.set id ⟨datT F, 4, .rw⟩) := by
  have hown : own h.length M id := Or.inr hM
  have hidl := hget_lt hg
  refine body_of mo Try.func58 rfl (by kernel_rfl) (Nat.le_of_ble_eq_true (by kernel_rfl)) rfl ?_
  have w1 : IntKind.i64.wrap ((m : Int) - a) = ((m - a : Nat) : Int) := by rw [wrap64 (by omega)]; omega
  have w2 : IntKind.i64.wrap ((b : Int) - m) = ((b - m : Nat) : Int) := by rw [wrap64 (by omega)]; omega
  simp only [go_sem, Nat.reduceBEq, Nat.reduceAdd, Nat.reduceMul, Nat.reduceSub, Nat.reduceLeDiff, Nat.le_refl, implies_true, Nat.reduceLT, reduceIte, decide_true, decide_false, true_and, and_true, reduceCtorEq, Nat.mul_one, Int.reduceToNat, Int.reduceLE, Int.reduceLT, Int.reduceAdd, Int.reduceSub, Int.reduceMul, Int.cast_ofNat_Int, cast_zero_int, cast_one_int, Nat.reducePow, Nat.reduceEqDiff, Nat.reduceMod, Nat.zero_add, Nat.sub_zero, Nat.add_zero, w1, w2]
  refine vLoop.rank mo ((m - a) + (b - m)) (fun k e h' => ∃ (i j : Nat) (X : List (Smp × Nat)), k = i + j ∧ (0 < i ∧ i ≤ m) ∧ (0 < j ∧ m + j ≤ T.length) ∧ X.length = T.length ∧ (∀ F, IsRot X F (m - i) m (m + j) → IsRot T F a m b) ∧
    e 0 = .slice (some ⟨id, 0, none⟩) T.length 0 ∧ e 2 = .int .i64 m ∧ e 4 = c ∧ e 10 = .int .i64 i ∧ e 11 = .int .i64 j ∧ HeapIs h' (h.set id ⟨datT X, 4, .rw⟩)) ?_ ?_
  · refine ⟨m - a, b - m, T, rfl, ⟨by omega, by omega⟩, ⟨by omega, by omega⟩, rfl, fun F r => ?_, rfl, rfl, rfl, rfl, rfl, (set_self_get hg).symm⟩
    rw [show m - (m - a) = a by omega, show m + (b - m) = b by omega] at r
    exact r
  · rintro k e _ ⟨i, j, X, rfl, ⟨i1, i2⟩, ⟨j1, j2⟩, hX, hr, e0, e2, e4, e10, e11, rfl⟩
    have x1 : IntKind.i64.wrap ((m : Int) - i) = ((m - i : Nat) : Int) := by rw [wrap64 (by omega)]; omega
    have x2 : IntKind.i64.wrap ((m : Int) + j) = ((m + j : Nat) : Int) := by rw [wrap64 (by omega)]; omega
    have gX : hget (h.set id ⟨datT X, 4, .rw⟩) id = some ⟨datT X, 4, .rw⟩ := hget_set_same hidl
    have hl : (h.set id ⟨datT X, 4, .rw⟩).length = h.length := List.length_set
    simp only [go_sem, Nat.reduceBEq, Nat.reduceAdd, Nat.reduceMul, Nat.reduceSub, Nat.reduceLeDiff, Nat.le_refl, implies_true, Nat.reduceLT, reduceIte, decide_true, decide_false, true_and, and_true, reduceCtorEq, Nat.mul_one, Int.reduceToNat, Int.reduceLE, Int.reduceLT, Int.reduceAdd, Int.reduceSub, Int.reduceMul, Int.cast_ofNat_Int, cast_zero_int, cast_one_int, Nat.reducePow, Nat.reduceEqDiff, Nat.reduceMod, Nat.zero_add, Nat.sub_zero, Nat.add_zero, e0, e2, e4, e10, e11]
    by_cases hij : i = j
    · subst hij
      simp only [go_sem, Nat.reduceBEq, Nat.reduceAdd, Nat.reduceMul, Nat.reduceSub, Nat.reduceLeDiff, Nat.le_refl, implies_true, Nat.reduceLT, reduceIte, decide_true, decide_false, true_and, and_true, reduceCtorEq, Nat.mul_one, Int.reduceToNat, Int.reduceLE, Int.reduceLT, Int.reduceAdd, Int.reduceSub, Int.reduceMul, Int.cast_ofNat_Int, cast_zero_int, cast_one_int, Nat.reducePow, Nat.reduceEqDiff, Nat.reduceMod, Nat.zero_add, Nat.sub_zero, Nat.add_zero, e0, e2, e4, e10, e11, bne_self_eq_false, x1]
      have hc := c_swapRange (h := h.set id ⟨datT X, 4, .rw⟩) (M := own h.length M) id X (m - i) m i c gX hown (by omega) (by omega) (by omega)
      rw [hX] at hc
      refine ⟨by kernel_rfl, (hc).use (fun _ m => m) ?_⟩
      rintro _ _ ⟨rfl, rfl⟩
      exact ⟨_, hr _ (rot_last i2 (by omega)), by rw [List.set_set]⟩
    · simp only [go_sem, Nat.reduceBEq, Nat.reduceAdd, Nat.reduceMul, Nat.reduceSub, Nat.reduceLeDiff, Nat.le_refl, implies_true, Nat.reduceLT, reduceIte, decide_true, decide_false, true_and, and_true, reduceCtorEq, Nat.mul_one, Int.reduceToNat, Int.reduceLE, Int.reduceLT, Int.reduceAdd, Int.reduceSub, Int.reduceMul, Int.cast_ofNat_Int, cast_zero_int, cast_one_int, Nat.reducePow, Nat.reduceEqDiff, Nat.reduceMod, Nat.zero_add, Nat.sub_zero, Nat.add_zero, e0, e2, e4, e10, e11, show (((i : Nat) : Int) != ((j : Nat) : Int)) = true by simp; omega, x1, x2]
      by_cases hgt : j < i
      · have y1 : IntKind.i64.wrap ((i : Int) - j) = ((i - j : Nat) : Int) := by rw [wrap64 (by omega)]; omega
        simp only [go_sem, Nat.reduceBEq, Nat.reduceAdd, Nat.reduceMul, Nat.reduceSub, Nat.reduceLeDiff, Nat.le_refl, implies_true, Nat.reduceLT, reduceIte, decide_true, decide_false, true_and, and_true, reduceCtorEq, Nat.mul_one, Int.reduceToNat, Int.reduceLE, Int.reduceLT, Int.reduceAdd, Int.reduceSub, Int.reduceMul, Int.cast_ofNat_Int, cast_zero_int, cast_one_int, Nat.reducePow, Nat.reduceEqDiff, Nat.reduceMod, Nat.zero_add, Nat.sub_zero, Nat.add_zero, e0, e2, e4, e10, e11, show ((i : Int) > (j : Int)) = True from eq_true (by omega), show ((j : Int) < (i : Int)) = True from eq_true (by omega), x1, x2]
        have hc := c_swapRange (h := h.set id ⟨datT X, 4, .rw⟩) (M := own h.length M) id X (m - i) m j c gX hown (by omega) (by omega) (by omega)
        rw [hX] at hc
        refine ⟨by kernel_rfl, (hc).use (fun _ m => m) ?_⟩
        rintro _ _ ⟨rfl, rfl⟩
        simp only [go_sem, Nat.reduceBEq, Nat.reduceAdd, Nat.reduceMul, Nat.reduceSub, Nat.reduceLeDiff, Nat.le_refl, implies_true, Nat.reduceLT, reduceIte, decide_true, decide_false, true_and, and_true, reduceCtorEq, Nat.mul_one, Int.reduceToNat, Int.reduceLE, Int.reduceLT, Int.reduceAdd, Int.reduceSub, Int.reduceMul, Int.cast_ofNat_Int, cast_zero_int, cast_one_int, Nat.reducePow, Nat.reduceEqDiff, Nat.reduceMod, Nat.zero_add, Nat.sub_zero, Nat.add_zero, e0, e2, e4, e10, e11, y1]
        exact ⟨i - j + j, by omega, i - j, j, _, rfl, ⟨by omega, by omega⟩, ⟨j1, j2⟩, by rw [swr_len, hX], fun F r => hr F (rot_left hgt i2 (by omega) r), rfl, rfl, by rw [HeapIs, List.set_set]⟩
      · have y1 : IntKind.i64.wrap ((j : Int) - i) = ((j - i : Nat) : Int) := by rw [wrap64 (by omega)]; omega
        have y2 : IntKind.i64.wrap (((m + j : Nat) : Int) - i) = ((m + j - i : Nat) : Int) := by rw [wrap64 (by omega)]; omega
        simp only [go_sem, Nat.reduceBEq, Nat.reduceAdd, Nat.reduceMul, Nat.reduceSub, Nat.reduceLeDiff, Nat.le_refl, implies_true, Nat.reduceLT, reduceIte, decide_true, decide_false, true_and, and_true, reduceCtorEq, Nat.mul_one, Int.reduceToNat, Int.reduceLE, Int.reduceLT, Int.reduceAdd, Int.reduceSub, Int.reduceMul, Int.cast_ofNat_Int, cast_zero_int, cast_one_int, Nat.reducePow, Nat.reduceEqDiff, Nat.reduceMod, Nat.zero_add, Nat.sub_zero, Nat.add_zero, e0, e2, e4, e10, e11, show ((i : Int) > (j : Int)) = False from eq_false (by omega), show ((j : Int) < (i : Int)) = False from eq_false (by omega), x1, x2, y2]
        have hc := c_swapRange (h := h.set id ⟨datT X, 4, .rw⟩) (M := own h.length M) id X (m - i) (m + j - i) i c gX hown (by omega) (by omega) (by omega)
        rw [hX] at hc
        refine ⟨by kernel_rfl, (hc).use (fun _ m => m) ?_⟩
        rintro _ _ ⟨rfl, rfl⟩
        simp only [go_sem, Nat.reduceBEq, Nat.reduceAdd, Nat.reduceMul, Nat.reduceSub, Nat.reduceLeDiff, Nat.le_refl, implies_true, Nat.reduceLT, reduceIte, decide_true, decide_false, true_and, and_true, reduceCtorEq, Nat.mul_one, Int.reduceToNat, Int.reduceLE, Int.reduceLT, Int.reduceAdd, Int.reduceSub, Int.reduceMul, Int.cast_ofNat_Int, cast_zero_int, cast_one_int, Nat.reducePow, Nat.reduceEqDiff, Nat.reduceMod, Nat.zero_add, Nat.sub_zero, Nat.add_zero, e0, e2, e4, e10, e11, y1]
        exact ⟨i + (j - i), by omega, i, j - i, _, rfl, ⟨i1, i2⟩, ⟨by omega, by omega⟩, by rw [swr_len, hX], fun F r => hr F (rot_right (by omega) i2 (by omega) r), rfl, rfl, by rw [HeapIs, List.set_set]⟩
/-- The comparison by days. -/
theorem c_cmpDay (x y : Smp) (hx : 0 ≤ x.1 ∧ x.1 ≤ 3650) (hy : 0 ≤ y.1 ∧ y.1 ≤ 3650) : vCall [] Try.prog M 29 [.agg #[.int .i64 x.1, .int .i64 x.2.1, .int .i64 x.2.2.1, .int .i64 x.2.2.2], .agg #[.int .i64 y.1, .int .i64 y.2.1, .int .i64 y.2.2.1, .int .i64 y.2.2.2]] h (fun r h' => r = .int .i64 (x.1 - y.1) ∧ h <+: h') := by
  refine body_of mo Try.func29 rfl (by kernel_rfl) (Nat.le_of_ble_eq_true (by kernel_rfl)) rfl ?_
  simp only [go_sem, Nat.reduceBEq, Nat.reduceAdd, Nat.reduceMul, Nat.reduceSub, Nat.reduceLeDiff, Nat.le_refl, implies_true, Nat.reduceLT, reduceIte, decide_true, decide_false, true_and, and_true, reduceCtorEq, Nat.mul_one, Int.reduceToNat, Int.reduceLE, Int.reduceLT, Int.reduceAdd, Int.reduceSub, Int.reduceMul, Int.cast_ofNat_Int, cast_zero_int, cast_one_int, Nat.reducePow, Nat.reduceEqDiff, Nat.reduceMod, Nat.zero_add, Nat.sub_zero, Nat.add_zero, show IntKind.i64.wrap (x.1 - y.1) = x.1 - y.1 from wrap64 (by omega)]
  all_goals first | exact rfl | exact ⟨rfl, rfl⟩ | exact List.prefix_append _ _ | exact ⟨rfl, List.prefix_append _ _⟩ | assumption | exact ⟨rfl, by assumption⟩ | exact List.prefix_rfl | exact ⟨rfl, List.prefix_rfl⟩ | exact List.IsPrefix.trans (by assumption) (by assumption) | exact ⟨rfl, List.IsPrefix.trans (by assumption) (by assumption)⟩
end
end Go.Proofs.Ytfolkgkcaiaifaa
