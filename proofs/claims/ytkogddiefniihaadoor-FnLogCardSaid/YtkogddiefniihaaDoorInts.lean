
/- Slices of numbers: how the laws copy, compare, mark and measure them. No condition. -/
import Derived.Test.YtkogddiefniihaaDoorScalar
import Derived.Test.YtkogddiefniihaaDoorH3
namespace Go.Proofs.YtkogddiefniihaaDoor
open Go.HH
set_option linter.unusedSimpArgs false
set_option linter.unusedVariables false

/-- The sum of the first numbers. -/
def psum (l : List Int) (i : Nat) : Int := (l.take i).sum
theorem psum_succ {l : List Int} {i : Nat} (hi : i < l.length) : psum l (i + 1) = psum l i + l[i] := by
  rw [psum, psum, List.take_add_one, List.getElem?_eq_getElem hi, List.sum_append]; simp
theorem psum_bound {l : List Int} : ∀ {i : Nat}, i ≤ l.length → (∀ x ∈ l.take i, -200000 ≤ x ∧ x ≤ 200000) → -200000 * (i : Int) ≤ psum l i ∧ psum l i ≤ 200000 * (i : Int)
  | 0, _, _ => by simp [psum]
  | i + 1, hi, hb => by
    have hlt : i < l.length := hi
    have b := psum_bound (l := l) (i := i) (by omega) (fun x hx => hb x (by rw [List.take_add_one]; exact List.mem_append_left _ hx))
    have c := hb l[i] (by rw [List.take_add_one, List.getElem?_eq_getElem hlt]; exact List.mem_append_right _ (by simp))
    rw [psum_succ hlt]
    omega

theorem getD_of {l : List Int} {i : Nat} (hi : i < l.length) : l.getD i 0 = l[i] := by simp [List.getD, hi]
section
variable {h : Heap} {M : Nat → Prop}

theorem ints_len {l : List Int} : ∀ r ∈ l.map (fun x => [iv x]), r.length = 1 := by
  intro r hr
  obtain ⟨x, _, rfl⟩ := List.mem_map.1 hr
  rfl

theorem c_toIntS {n : Nat} (v : Value) (l : List Int) (s : AI n h v l) (hmax : l.length ≤ 1048576) : vCall [] Tryd.prog M 45 [v] h (fun r h' => FI h.length h'.length h' r l ∧ h <+: h') := by
  obtain ⟨a, rfl⟩ := s.len
  refine body_of mo Tryd.func45 rfl (by kernel_rfl) (Nat.le_of_ble_eq_true (by kernel_rfl)) rfl ?_
  simp only [go_sem, Nat.reduceBEq, Nat.reduceAdd, Nat.reduceMul, Nat.reduceSub, Nat.reduceLeDiff, Nat.le_refl, implies_true, Nat.reduceLT, reduceIte, decide_true, decide_false, true_and, and_true, reduceCtorEq, Nat.mul_one, Int.reduceToNat, Int.reduceLE, Int.reduceLT, Int.reduceAdd, Int.reduceSub, Int.reduceMul, Int.cast_ofNat_Int, cast_zero_int, cast_one_int, Nat.reducePow, Nat.reduceEqDiff, Nat.reduceMod, Nat.zero_add, Nat.sub_zero, Nat.add_zero]
  refine ⟨by omega, by omega, ?_⟩
  refine vLoop.count mo l.length (fun i e h' => ∃ t : Heap, e 0 = .slice a l.length 0 ∧ e 3 = .slice (some ⟨h.length, 0, none⟩) l.length 0 ∧ e 4 = .int .i64 i ∧
    h' = h ++ ⟨((l.map fun x => [iv x]).take i).flatten ++ zeros (l.length - i) [.int .i64 0], 1, .rw⟩ :: t) ?_ ?_
  · refine ⟨[], ?_⟩
    simp only [go_sem, Nat.reduceBEq, Nat.reduceAdd, Nat.reduceMul, Nat.reduceSub, Nat.reduceLeDiff, Nat.le_refl, implies_true, Nat.reduceLT, reduceIte, decide_true, decide_false, true_and, and_true, reduceCtorEq, Nat.mul_one, Int.reduceToNat, Int.reduceLE, Int.reduceLT, Int.reduceAdd, Int.reduceSub, Int.reduceMul, Int.cast_ofNat_Int, cast_zero_int, cast_one_int, Nat.reducePow, Nat.reduceEqDiff, Nat.reduceMod, Nat.zero_add, Nat.sub_zero, Nat.add_zero]
    all_goals simp
  · rintro i e _ hi ⟨t, e0, e3, e4, rfl⟩
    simp only [go_sem, Nat.reduceBEq, Nat.reduceAdd, Nat.reduceMul, Nat.reduceSub, Nat.reduceLeDiff, Nat.le_refl, implies_true, Nat.reduceLT, reduceIte, decide_true, decide_false, true_and, and_true, reduceCtorEq, Nat.mul_one, Int.reduceToNat, Int.reduceLE, Int.reduceLT, Int.reduceAdd, Int.reduceSub, Int.reduceMul, Int.cast_ofNat_Int, cast_zero_int, cast_one_int, Nat.reducePow, Nat.reduceEqDiff, Nat.reduceMod, Nat.zero_add, Nat.sub_zero, Nat.add_zero, e0, e3, e4]
    refine .intro (fun h1 => ?_) (fun h1 => ?_)
    · have hlt : i < l.length := by simpa using h1
      have hlt' : i < (l.map fun x => [iv x]).length := by simpa using hlt
      obtain ⟨id, off, k, hv, _, hk, _, hd, _, _, _, hat⟩ := s.at (Nat.zero_lt_of_lt hlt)
      obtain rfl : a = some ⟨id, off, none⟩ := by simpa using hv
      have hz : (i : Int) < l.length := by omega
      simp only [go_sem, Nat.reduceBEq, Nat.reduceAdd, Nat.reduceMul, Nat.reduceSub, Nat.reduceLeDiff, Nat.le_refl, implies_true, Nat.reduceLT, reduceIte, decide_true, decide_false, true_and, and_true, reduceCtorEq, Nat.mul_one, Int.reduceToNat, Int.reduceLE, Int.reduceLT, Int.reduceAdd, Int.reduceSub, Int.reduceMul, Int.cast_ofNat_Int, cast_zero_int, cast_one_int, Nat.reducePow, Nat.reduceEqDiff, Nat.reduceMod, Nat.zero_add, Nat.sub_zero, Nat.add_zero, e0, e3, e4, hk, hat i hlt, hz, hd]
      refine ⟨?_, hlt, t, ?_⟩
      · simpa using row_room (z := [.int .i64 0]) rfl ints_len hlt' hlt
      · have e5 := set_row (z := [.int .i64 0]) rfl ints_len hlt' hlt
        rw [List.getElem_map] at e5
        simp only [List.length_cons, List.length_nil, Nat.zero_add, Nat.mul_one] at e5
        exact ⟨by rw [wrap64 (by omega)]; rfl, by rw [← e5]; rfl⟩
    · simp only [go_sem, Nat.reduceBEq, Nat.reduceAdd, Nat.reduceMul, Nat.reduceSub, Nat.reduceLeDiff, Nat.le_refl, implies_true, Nat.reduceLT, reduceIte, decide_true, decide_false, true_and, and_true, reduceCtorEq, Nat.mul_one, Int.reduceToNat, Int.reduceLE, Int.reduceLT, Int.reduceAdd, Int.reduceSub, Int.reduceMul, Int.cast_ofNat_Int, cast_zero_int, cast_one_int, Nat.reducePow, Nat.reduceEqDiff, Nat.reduceMod, Nat.zero_add, Nat.sub_zero, Nat.add_zero, e0, e3, e4]
      have : i = l.length := by have : ¬ i < l.length := by simpa using h1
                                omega
      subst this
      refine FI.at (Nat.le_refl _) (by omega) ?_
      rw [hget_app0, List.take_of_length_le (by simp), flat_one, Nat.sub_self, zeros_zero, List.append_nil]; rfl

theorem c_eqIntS {n m : Nat} (v w : Value) (l l' : List Int) (s : AI n h v l) (s' : AI m h w l') (hmax : l.length ≤ 1048576) (hmax' : l'.length ≤ 1048576) : vCall [] Tryd.prog M 47 [v, w] h (fun r h' => r = .bool (decide (l = l')) ∧ h <+: h') := by
  obtain ⟨a, rfl⟩ := s.len
  obtain ⟨b, rfl⟩ := s'.len
  refine body_of mo Tryd.func47 rfl (by kernel_rfl) (Nat.le_of_ble_eq_true (by kernel_rfl)) rfl ?_
  simp only [go_sem, Nat.reduceBEq, Nat.reduceAdd, Nat.reduceMul, Nat.reduceSub, Nat.reduceLeDiff, Nat.le_refl, implies_true, Nat.reduceLT, reduceIte, decide_true, decide_false, true_and, and_true, reduceCtorEq, Nat.mul_one, Int.reduceToNat, Int.reduceLE, Int.reduceLT, Int.reduceAdd, Int.reduceSub, Int.reduceMul, Int.cast_ofNat_Int, cast_zero_int, cast_one_int, Nat.reducePow, Nat.reduceEqDiff, Nat.reduceMod, Nat.zero_add, Nat.sub_zero, Nat.add_zero]
  by_cases hl : l.length = l'.length
  · simp only [go_sem, Nat.reduceBEq, Nat.reduceAdd, Nat.reduceMul, Nat.reduceSub, Nat.reduceLeDiff, Nat.le_refl, implies_true, Nat.reduceLT, reduceIte, decide_true, decide_false, true_and, and_true, reduceCtorEq, Nat.mul_one, Int.reduceToNat, Int.reduceLE, Int.reduceLT, Int.reduceAdd, Int.reduceSub, Int.reduceMul, Int.cast_ofNat_Int, cast_zero_int, cast_one_int, Nat.reducePow, Nat.reduceEqDiff, Nat.reduceMod, Nat.zero_add, Nat.sub_zero, Nat.add_zero, show ((l.length : Int) != (l'.length : Int)) = false by simp [hl]]
    refine vLoop.count mo l.length (fun i e h' => ∃ t : Heap, e 0 = .slice a l.length 0 ∧ e 1 = .slice b l'.length 0 ∧ e 5 = .int .i64 i ∧ h' = h ++ t ∧ l.take i = l'.take i) ?_ ?_
    · refine ⟨[], ?_⟩
      simp only [go_sem, Nat.reduceBEq, Nat.reduceAdd, Nat.reduceMul, Nat.reduceSub, Nat.reduceLeDiff, Nat.le_refl, implies_true, Nat.reduceLT, reduceIte, decide_true, decide_false, true_and, and_true, reduceCtorEq, Nat.mul_one, Int.reduceToNat, Int.reduceLE, Int.reduceLT, Int.reduceAdd, Int.reduceSub, Int.reduceMul, Int.cast_ofNat_Int, cast_zero_int, cast_one_int, Nat.reducePow, Nat.reduceEqDiff, Nat.reduceMod, Nat.zero_add, Nat.sub_zero, Nat.add_zero]
      all_goals simp
    · rintro i e _ hi ⟨t, e0, e1, e5, rfl, hpre⟩
      simp only [go_sem, Nat.reduceBEq, Nat.reduceAdd, Nat.reduceMul, Nat.reduceSub, Nat.reduceLeDiff, Nat.le_refl, implies_true, Nat.reduceLT, reduceIte, decide_true, decide_false, true_and, and_true, reduceCtorEq, Nat.mul_one, Int.reduceToNat, Int.reduceLE, Int.reduceLT, Int.reduceAdd, Int.reduceSub, Int.reduceMul, Int.cast_ofNat_Int, cast_zero_int, cast_one_int, Nat.reducePow, Nat.reduceEqDiff, Nat.reduceMod, Nat.zero_add, Nat.sub_zero, Nat.add_zero, e0, e1, e5]
      refine .intro (fun h1 => ?_) (fun h1 => ?_)
      · have hlt : i < l.length := by simpa using h1
        have hlt' : i < l'.length := by omega
        obtain ⟨id, off, k, hv, _, hk, _, hd, _, _, _, hat⟩ := s.at (Nat.zero_lt_of_lt hlt)
        obtain rfl : a = some ⟨id, off, none⟩ := by simpa using hv
        obtain ⟨id2, off2, k2, hv2, _, hk2, _, hd2, _, _, _, hat2⟩ := s'.at (Nat.zero_lt_of_lt hlt')
        obtain rfl : b = some ⟨id2, off2, none⟩ := by simpa using hv2
        have hz : (i : Int) < l.length := by omega
        have hz' : (i : Int) < l'.length := by omega
        simp only [go_sem, Nat.reduceBEq, Nat.reduceAdd, Nat.reduceMul, Nat.reduceSub, Nat.reduceLeDiff, Nat.le_refl, implies_true, Nat.reduceLT, reduceIte, decide_true, decide_false, true_and, and_true, reduceCtorEq, Nat.mul_one, Int.reduceToNat, Int.reduceLE, Int.reduceLT, Int.reduceAdd, Int.reduceSub, Int.reduceMul, Int.cast_ofNat_Int, cast_zero_int, cast_one_int, Nat.reducePow, Nat.reduceEqDiff, Nat.reduceMod, Nat.zero_add, Nat.sub_zero, Nat.add_zero, e0, e1, e5, hk, hat i hlt, hk2, hat2 i hlt', hz, hz', hd, hd2]
        by_cases h2 : l[i] = l'[i]
        · simp only [go_sem, Nat.reduceBEq, Nat.reduceAdd, Nat.reduceMul, Nat.reduceSub, Nat.reduceLeDiff, Nat.le_refl, implies_true, Nat.reduceLT, reduceIte, decide_true, decide_false, true_and, and_true, reduceCtorEq, Nat.mul_one, Int.reduceToNat, Int.reduceLE, Int.reduceLT, Int.reduceAdd, Int.reduceSub, Int.reduceMul, Int.cast_ofNat_Int, cast_zero_int, cast_one_int, Nat.reducePow, Nat.reduceEqDiff, Nat.reduceMod, Nat.zero_add, Nat.sub_zero, Nat.add_zero, show (l[i] != l'[i]) = false by simp [h2], e0, e1, e5]
          refine ⟨hlt, t, by rw [wrap64 (by omega)]; rfl, rfl, ?_⟩
          rw [List.take_add_one, List.take_add_one, hpre, List.getElem?_eq_getElem hlt, List.getElem?_eq_getElem hlt', h2]
        · simp only [go_sem, Nat.reduceBEq, Nat.reduceAdd, Nat.reduceMul, Nat.reduceSub, Nat.reduceLeDiff, Nat.le_refl, implies_true, Nat.reduceLT, reduceIte, decide_true, decide_false, true_and, and_true, reduceCtorEq, Nat.mul_one, Int.reduceToNat, Int.reduceLE, Int.reduceLT, Int.reduceAdd, Int.reduceSub, Int.reduceMul, Int.cast_ofNat_Int, cast_zero_int, cast_one_int, Nat.reducePow, Nat.reduceEqDiff, Nat.reduceMod, Nat.zero_add, Nat.sub_zero, Nat.add_zero, show (l[i] != l'[i]) = true by simpa using h2, e0, e1, e5]
          have : l ≠ l' := by intro e; subst e; exact h2 rfl
          simp [this]
      · simp only [go_sem, Nat.reduceBEq, Nat.reduceAdd, Nat.reduceMul, Nat.reduceSub, Nat.reduceLeDiff, Nat.le_refl, implies_true, Nat.reduceLT, reduceIte, decide_true, decide_false, true_and, and_true, reduceCtorEq, Nat.mul_one, Int.reduceToNat, Int.reduceLE, Int.reduceLT, Int.reduceAdd, Int.reduceSub, Int.reduceMul, Int.cast_ofNat_Int, cast_zero_int, cast_one_int, Nat.reducePow, Nat.reduceEqDiff, Nat.reduceMod, Nat.zero_add, Nat.sub_zero, Nat.add_zero, e0, e1, e5]
        have : i = l.length := by have : ¬ i < l.length := by simpa using h1
                                  omega
        subst this
        have : l = l' := by rw [List.take_length] at hpre; rw [hpre, hl, List.take_length]
        simp [this]
  · simp only [go_sem, Nat.reduceBEq, Nat.reduceAdd, Nat.reduceMul, Nat.reduceSub, Nat.reduceLeDiff, Nat.le_refl, implies_true, Nat.reduceLT, reduceIte, decide_true, decide_false, true_and, and_true, reduceCtorEq, Nat.mul_one, Int.reduceToNat, Int.reduceLE, Int.reduceLT, Int.reduceAdd, Int.reduceSub, Int.reduceMul, Int.cast_ofNat_Int, cast_zero_int, cast_one_int, Nat.reducePow, Nat.reduceEqDiff, Nat.reduceMod, Nat.zero_add, Nat.sub_zero, Nat.add_zero, show ((l.length : Int) != (l'.length : Int)) = true by simp; omega]
    have : l ≠ l' := by intro e; subst e; exact hl rfl
    simp [this]

theorem c_markIntS {lo hi : Nat} (v : Value) (l : List Int) (s : FI lo hi h v l) (hM : ∀ i, lo ≤ i → i < hi → M i) (k : Int) (hk : 0 ≤ k ∧ k ≤ 1000000000000) (hmax : l.length ≤ 1048576) :
    vCall [] Tryd.prog M 50 [v, .int .i64 k] h (fun r h' => r = .int .i64 (k + l.length) ∧ FI lo hi h' v (marks k l.length) ∧ Agr lo hi h h') := by
  obtain ⟨a, rfl, hf⟩ := s
  refine body_of mo Tryd.func50 rfl (by kernel_rfl) (Nat.le_of_ble_eq_true (by kernel_rfl)) rfl ?_
  simp only [go_sem, Nat.reduceBEq, Nat.reduceAdd, Nat.reduceMul, Nat.reduceSub, Nat.reduceLeDiff, Nat.le_refl, implies_true, Nat.reduceLT, reduceIte, decide_true, decide_false, true_and, and_true, reduceCtorEq, Nat.mul_one, Int.reduceToNat, Int.reduceLE, Int.reduceLT, Int.reduceAdd, Int.reduceSub, Int.reduceMul, Int.cast_ofNat_Int, cast_zero_int, cast_one_int, Nat.reducePow, Nat.reduceEqDiff, Nat.reduceMod, Nat.zero_add, Nat.sub_zero, Nat.add_zero]
  refine vLoop.count mo l.length (fun i e h' => e 0 = .slice a l.length 0 ∧ e 1 = .int .i64 (k + i) ∧ e 5 = .int .i64 i ∧
    Agr lo hi h h' ∧ (0 < l.length → ∃ id, a = some ⟨id, 0, none⟩ ∧ lo ≤ id ∧ id < hi ∧ hget h' id = some ⟨(marks k i ++ l.drop i).map iv, 1, .rw⟩)) ?_ ?_
  · refine ⟨rfl, by simp [upd, env0], rfl, Agr.refl, fun h0 => ?_⟩
    obtain ⟨id, e1, e2, e3, e4⟩ := hf h0
    exact ⟨id, e1, e2, e3, by simpa [marks] using e4⟩
  · rintro i e h' hi ⟨e0, e1, e5, hag, hb⟩
    simp only [go_sem, Nat.reduceBEq, Nat.reduceAdd, Nat.reduceMul, Nat.reduceSub, Nat.reduceLeDiff, Nat.le_refl, implies_true, Nat.reduceLT, reduceIte, decide_true, decide_false, true_and, and_true, reduceCtorEq, Nat.mul_one, Int.reduceToNat, Int.reduceLE, Int.reduceLT, Int.reduceAdd, Int.reduceSub, Int.reduceMul, Int.cast_ofNat_Int, cast_zero_int, cast_one_int, Nat.reducePow, Nat.reduceEqDiff, Nat.reduceMod, Nat.zero_add, Nat.sub_zero, Nat.add_zero, e0, e1, e5]
    refine .intro (fun h1 => ?_) (fun h1 => ?_)
    · have hlt : i < l.length := by simpa using h1
      obtain ⟨id, rfl, g1, g2, g3⟩ := hb (by omega)
      have hz : (i : Int) < l.length := by omega
      have hown : own h.length M id := Or.inr (hM id g1 g2)
      simp only [go_sem, Nat.reduceBEq, Nat.reduceAdd, Nat.reduceMul, Nat.reduceSub, Nat.reduceLeDiff, Nat.le_refl, implies_true, Nat.reduceLT, reduceIte, decide_true, decide_false, true_and, and_true, reduceCtorEq, Nat.mul_one, Int.reduceToNat, Int.reduceLE, Int.reduceLT, Int.reduceAdd, Int.reduceSub, Int.reduceMul, Int.cast_ofNat_Int, cast_zero_int, cast_one_int, Nat.reducePow, Nat.reduceEqDiff, Nat.reduceMod, Nat.zero_add, Nat.sub_zero, Nat.add_zero, e0, e1, e5, hz, g3, hown, List.length_map, List.length_append, marks_len, List.length_drop]
      refine ⟨by omega, hlt, by rw [wrap64 (by omega)]; congr 1; omega, by rw [wrap64 (by omega)]; rfl, hag.trans (Agr.set g1 g2), fun _ => ⟨id, rfl, g1, g2, ?_⟩⟩
      rw [mark_step hlt, hget_set_same (hget_lt g3)]
    · simp only [go_sem, Nat.reduceBEq, Nat.reduceAdd, Nat.reduceMul, Nat.reduceSub, Nat.reduceLeDiff, Nat.le_refl, implies_true, Nat.reduceLT, reduceIte, decide_true, decide_false, true_and, and_true, reduceCtorEq, Nat.mul_one, Int.reduceToNat, Int.reduceLE, Int.reduceLT, Int.reduceAdd, Int.reduceSub, Int.reduceMul, Int.cast_ofNat_Int, cast_zero_int, cast_one_int, Nat.reducePow, Nat.reduceEqDiff, Nat.reduceMod, Nat.zero_add, Nat.sub_zero, Nat.add_zero, e0, e1, e5]
      obtain rfl : i = l.length := by have : ¬ i < l.length := by simpa using h1
                                      omega
      refine ⟨rfl, ⟨a, by rw [marks_len], fun h0 => ?_⟩, hag⟩
      rw [marks_len] at h0
      obtain ⟨id, g0, g1, g2, g3⟩ := hb h0
      exact ⟨id, g0, g1, g2, by simpa using g3⟩

theorem c_heldIntS {n : Nat} (v : Value) (l : List Int) (k : Int) (hk : 0 ≤ k ∧ k ≤ 1000000000000) (s : AI n h v l) (hl : l = marks k l.length) (hmax : l.length ≤ 1048576) :
    vCall [] Tryd.prog M 51 [v, .int .i64 k] h (fun r h' => r = .int .i64 (k + l.length) ∧ h <+: h') := by
  obtain ⟨a, rfl⟩ := s.len
  refine body_of mo Tryd.func51 rfl (by kernel_rfl) (Nat.le_of_ble_eq_true (by kernel_rfl)) rfl ?_
  simp only [go_sem, Nat.reduceBEq, Nat.reduceAdd, Nat.reduceMul, Nat.reduceSub, Nat.reduceLeDiff, Nat.le_refl, implies_true, Nat.reduceLT, reduceIte, decide_true, decide_false, true_and, and_true, reduceCtorEq, Nat.mul_one, Int.reduceToNat, Int.reduceLE, Int.reduceLT, Int.reduceAdd, Int.reduceSub, Int.reduceMul, Int.cast_ofNat_Int, cast_zero_int, cast_one_int, Nat.reducePow, Nat.reduceEqDiff, Nat.reduceMod, Nat.zero_add, Nat.sub_zero, Nat.add_zero]
  refine vLoop.count mo l.length (fun i e h' => e 0 = .slice a l.length 0 ∧ e 1 = .int .i64 (k + i) ∧ e 5 = .int .i64 i ∧ ∃ t, h' = h ++ t) ?_ ?_
  · exact ⟨rfl, by simp [upd, env0], rfl, [], by simp⟩
  · rintro i e h' hi ⟨e0, e1, e5, t, rfl⟩
    simp only [go_sem, Nat.reduceBEq, Nat.reduceAdd, Nat.reduceMul, Nat.reduceSub, Nat.reduceLeDiff, Nat.le_refl, implies_true, Nat.reduceLT, reduceIte, decide_true, decide_false, true_and, and_true, reduceCtorEq, Nat.mul_one, Int.reduceToNat, Int.reduceLE, Int.reduceLT, Int.reduceAdd, Int.reduceSub, Int.reduceMul, Int.cast_ofNat_Int, cast_zero_int, cast_one_int, Nat.reducePow, Nat.reduceEqDiff, Nat.reduceMod, Nat.zero_add, Nat.sub_zero, Nat.add_zero, e0, e1, e5]
    refine .intro (fun h1 => ?_) (fun h1 => ?_)
    · have hlt : i < l.length := by simpa using h1
      obtain ⟨id, off, b, hv, _, hk2, _, hd, _, _, _, hat⟩ := s.at (Nat.zero_lt_of_lt hlt)
      obtain rfl : a = some ⟨id, off, none⟩ := by simpa using hv
      have hz : (i : Int) < l.length := by omega
      have e6 : l[i] = k + i := by
        have h2 : i < (marks k l.length).length := by rw [marks_len]; exact hlt
        have : l[i]? = some (k + (i : Int)) := by rw [hl, List.getElem?_eq_getElem h2, marks_at h2]
        rw [List.getElem?_eq_getElem hlt] at this
        simpa using this
      simp only [go_sem, Nat.reduceBEq, Nat.reduceAdd, Nat.reduceMul, Nat.reduceSub, Nat.reduceLeDiff, Nat.le_refl, implies_true, Nat.reduceLT, reduceIte, decide_true, decide_false, true_and, and_true, reduceCtorEq, Nat.mul_one, Int.reduceToNat, Int.reduceLE, Int.reduceLT, Int.reduceAdd, Int.reduceSub, Int.reduceMul, Int.cast_ofNat_Int, cast_zero_int, cast_one_int, Nat.reducePow, Nat.reduceEqDiff, Nat.reduceMod, Nat.zero_add, Nat.sub_zero, Nat.add_zero, e0, e1, e5, hz, hk2, hd, hat i hlt, e6]
      exact ⟨hlt, by rw [wrap64 (by omega)]; congr 1; omega, by rw [wrap64 (by omega)]; rfl, t, rfl⟩
    · simp only [go_sem, Nat.reduceBEq, Nat.reduceAdd, Nat.reduceMul, Nat.reduceSub, Nat.reduceLeDiff, Nat.le_refl, implies_true, Nat.reduceLT, reduceIte, decide_true, decide_false, true_and, and_true, reduceCtorEq, Nat.mul_one, Int.reduceToNat, Int.reduceLE, Int.reduceLT, Int.reduceAdd, Int.reduceSub, Int.reduceMul, Int.cast_ofNat_Int, cast_zero_int, cast_one_int, Nat.reducePow, Nat.reduceEqDiff, Nat.reduceMod, Nat.zero_add, Nat.sub_zero, Nat.add_zero, e0, e1, e5]
      obtain rfl : i = l.length := by have : ¬ i < l.length := by simpa using h1
                                      omega
      rfl
end
end Go.Proofs.YtkogddiefniihaaDoor
