
/- Sorted lists of numbers as the reference keeps them, and its search of a network. No condition. -/
import Derived.Test.YtjgekhahklidcaaDist
namespace Go.Proofs.Ytjgekhahklidcaa
open Go.HH
set_option linter.unusedSimpArgs false
set_option linter.unusedVariables false

def putL : List Int → Int → List Int
  | [], x => [x]
  | y :: ys, x => if y < x then y :: putL ys x else if y = x then y :: ys else x :: y :: ys
theorem mem_putL {l : List Int} {x y : Int} : y ∈ putL l x ↔ y = x ∨ y ∈ l := by
  induction l with
  | nil => simp [putL]
  | cons z zs ih =>
    unfold putL
    split
    · simp only [List.mem_cons, ih]; constructor
      · rintro (h | h | h) <;> simp [h]
      · rintro (h | h | h) <;> simp [h]
    · split
      · rename_i h1 h2; subst h2; simp
      · simp
theorem putL_len {l : List Int} {x : Int} : (putL l x).length ≤ l.length + 1 := by
  induction l with
  | nil => simp [putL]
  | cons z zs ih => unfold putL; split; · simp; omega
                    split <;> simp
theorem putL_sorted {l : List Int} {x : Int} (h : l.Pairwise (· < ·)) : (putL l x).Pairwise (· < ·) := by
  induction l with
  | nil => simp [putL]
  | cons z zs ih =>
    obtain ⟨h1, h2⟩ := List.pairwise_cons.1 h
    unfold putL
    split
    · rename_i hz
      refine List.pairwise_cons.2 ⟨fun y hy => ?_, ih h2⟩
      rcases mem_putL.1 hy with rfl | hy
      · exact hz
      · exact h1 y hy
    · split
      · exact h
      · refine List.pairwise_cons.2 ⟨fun y hy => ?_, h⟩
        rcases List.mem_cons.1 hy with rfl | hy
        · omega
        · have := h1 y hy; omega
theorem putL_at {l : List Int} {x : Int} : ∀ {k : Nat}, k ≤ l.length → (∀ (j : Nat) (hj : j < l.length), j < k → l[j] < x) → (∀ hk : k < l.length, ¬ l[k] < x) →
    putL l x = if l[k]? = some x then l else l.take k ++ x :: l.drop k := by
  induction l with
  | nil => intro k hk _ _; simp [putL]
  | cons z zs ih =>
    intro k hk h1 h2
    cases k with
    | zero =>
      have h3 := h2 (by simp)
      simp only [List.getElem_cons_zero] at h3
      unfold putL
      rw [if_neg h3]
      simp only [List.getElem?_cons_zero, Option.some.injEq, List.take_zero, List.nil_append, List.drop_zero]
    | succ k =>
      have h3 := h1 0 (by simp) (by omega)
      simp only [List.getElem_cons_zero] at h3
      unfold putL
      rw [if_pos h3, ih (k := k) (by simpa using hk) (fun j hj hjk => by have := h1 (j + 1) (by simpa using hj) (by omega); rwa [List.getElem_cons_succ] at this) (fun hk => by have := h2 (by simpa using hk); rwa [List.getElem_cons_succ] at this)]
      simp only [List.getElem?_cons_succ, List.take_succ_cons, List.drop_succ_cons, List.cons_append]
      split <;> rfl

section
variable {h : Heap} {M : Nat → Prop}

theorem c_l1Has {n : Nat} (v : Value) (l : List Int) (x : Int) (s : AI n h v l) (hmax : l.length ≤ 1048576) : vCall [] Try.prog M 124 [v, .int .i64 x] h (fun r h' => r = .bool (decide (x ∈ l)) ∧ h = h') := by
  obtain ⟨a, rfl⟩ := s.len
  refine body_of mo Try.func124 rfl (by kernel_rfl) (Nat.le_of_ble_eq_true (by kernel_rfl)) rfl ?_
  simp only [go_sem, Nat.reduceBEq, Nat.reduceAdd, Nat.reduceMul, Nat.reduceSub, Nat.reduceLeDiff, Nat.le_refl, implies_true, Nat.reduceLT, reduceIte, decide_true, decide_false, true_and, and_true, reduceCtorEq, Nat.mul_one, Int.reduceToNat, Int.reduceLE, Int.reduceLT, Int.reduceAdd, Int.reduceSub, Int.reduceMul, Int.cast_ofNat_Int, cast_zero_int, cast_one_int, Nat.reducePow, Nat.reduceEqDiff, Nat.reduceMod, Nat.zero_add, Nat.sub_zero, Nat.add_zero]
  refine vLoop.count mo l.length (fun i e h' => Regs e [(0, .slice a l.length 0), (1, .int .i64 x), (5, .int .i64 i)] ∧ HeapIs h' h ∧ x ∉ l.take i) ?_ ?_
  · exact ⟨⟨rfl, rfl, rfl, trivial⟩, .rfl, by simp⟩
  · rintro i e _ hi ⟨⟨e0, e1, e5, _⟩, rfl, hx⟩
    simp only [go_sem, Nat.reduceBEq, Nat.reduceAdd, Nat.reduceMul, Nat.reduceSub, Nat.reduceLeDiff, Nat.le_refl, implies_true, Nat.reduceLT, reduceIte, decide_true, decide_false, true_and, and_true, reduceCtorEq, Nat.mul_one, Int.reduceToNat, Int.reduceLE, Int.reduceLT, Int.reduceAdd, Int.reduceSub, Int.reduceMul, Int.cast_ofNat_Int, cast_zero_int, cast_one_int, Nat.reducePow, Nat.reduceEqDiff, Nat.reduceMod, Nat.zero_add, Nat.sub_zero, Nat.add_zero, e0, e1, e5]
    by_cases hlt : i < l.length
    · have ws := wsucc hlt (by omega)
      have hz : (i : Int) < l.length := by omega
      obtain ⟨id, off, k, hv, _, _, hk, hd, _, _, _, hat⟩ := s.at (Nat.zero_lt_of_lt hlt)
      obtain rfl : a = some ⟨id, off, none⟩ := by simpa using hv
      simp only [go_sem, Nat.reduceBEq, Nat.reduceAdd, Nat.reduceMul, Nat.reduceSub, Nat.reduceLeDiff, Nat.le_refl, implies_true, Nat.reduceLT, reduceIte, decide_true, decide_false, true_and, and_true, reduceCtorEq, Nat.mul_one, Int.reduceToNat, Int.reduceLE, Int.reduceLT, Int.reduceAdd, Int.reduceSub, Int.reduceMul, Int.cast_ofNat_Int, cast_zero_int, cast_one_int, Nat.reducePow, Nat.reduceEqDiff, Nat.reduceMod, Nat.zero_add, Nat.sub_zero, Nat.add_zero, e0, e1, e5, hk, hat i hlt, hz, hd]
      by_cases h2 : l[i] = x
      · simp only [go_sem, Nat.reduceBEq, Nat.reduceAdd, Nat.reduceMul, Nat.reduceSub, Nat.reduceLeDiff, Nat.le_refl, implies_true, Nat.reduceLT, reduceIte, decide_true, decide_false, true_and, and_true, reduceCtorEq, Nat.mul_one, Int.reduceToNat, Int.reduceLE, Int.reduceLT, Int.reduceAdd, Int.reduceSub, Int.reduceMul, Int.cast_ofNat_Int, cast_zero_int, cast_one_int, Nat.reducePow, Nat.reduceEqDiff, Nat.reduceMod, Nat.zero_add, Nat.sub_zero, Nat.add_zero, e0, e1, e5, show (l[i] == x) = true by simpa using h2]
        exact congrArg Value.bool (decide_eq_true (h2 ▸ List.getElem_mem hlt)).symm
      · simp only [go_sem, Nat.reduceBEq, Nat.reduceAdd, Nat.reduceMul, Nat.reduceSub, Nat.reduceLeDiff, Nat.le_refl, implies_true, Nat.reduceLT, reduceIte, decide_true, decide_false, true_and, and_true, reduceCtorEq, Nat.mul_one, Int.reduceToNat, Int.reduceLE, Int.reduceLT, Int.reduceAdd, Int.reduceSub, Int.reduceMul, Int.cast_ofNat_Int, cast_zero_int, cast_one_int, Nat.reducePow, Nat.reduceEqDiff, Nat.reduceMod, Nat.zero_add, Nat.sub_zero, Nat.add_zero, e0, e1, e5, show (l[i] == x) = false by simpa using h2]
        refine ⟨hlt, ⟨e0, e1, congrArg _ ws, trivial⟩, .rfl, ?_⟩
        rw [List.take_add_one, List.getElem?_eq_getElem hlt, List.mem_append]
        simp [hx, Ne.symm h2]
    · obtain rfl : i = l.length := by omega
      rw [List.take_length] at hx
      simp only [go_sem, Nat.reduceBEq, Nat.reduceAdd, Nat.reduceMul, Nat.reduceSub, Nat.reduceLeDiff, Nat.le_refl, implies_true, Nat.reduceLT, reduceIte, decide_true, decide_false, true_and, and_true, reduceCtorEq, Nat.mul_one, Int.reduceToNat, Int.reduceLE, Int.reduceLT, Int.reduceAdd, Int.reduceSub, Int.reduceMul, Int.cast_ofNat_Int, cast_zero_int, cast_one_int, Nat.reducePow, Nat.reduceEqDiff, Nat.reduceMod, Nat.zero_add, Nat.sub_zero, Nat.add_zero, e0, e1, e5, show ¬ ((l.length : Int) < l.length) by omega]
      exact congrArg Value.bool (decide_eq_false hx).symm

theorem ints_one {l : List Int} : ((l.map iv).all oneC) = true := by rw [List.all_eq_true]; intro x hx; obtain ⟨y, _, rfl⟩ := List.mem_map.1 hx; rfl

theorem c_ownInts {n : Nat} (v : Value) (l : List Int) (s : AI n h v l) (hmax : l.length ≤ 1048576) : vCall [] Try.prog M 62 [v] h (fun r h' => FI h.length h'.length h' r l ∧ h <+: h') := by
  obtain ⟨a, rfl⟩ := s.len
  refine body_of mo Try.func62 rfl (by kernel_rfl) (Nat.le_of_ble_eq_true (by kernel_rfl)) rfl ?_
  simp only [go_sem, Nat.reduceBEq, Nat.reduceAdd, Nat.reduceMul, Nat.reduceSub, Nat.reduceLeDiff, Nat.le_refl, implies_true, Nat.reduceLT, reduceIte, decide_true, decide_false, true_and, and_true, reduceCtorEq, Nat.mul_one, Int.reduceToNat, Int.reduceLE, Int.reduceLT, Int.reduceAdd, Int.reduceSub, Int.reduceMul, Int.cast_ofNat_Int, cast_zero_int, cast_one_int, Nat.reducePow, Nat.reduceEqDiff, Nat.reduceMod, Nat.zero_add, Nat.sub_zero, Nat.add_zero]
  by_cases h0 : l.length = 0
  · obtain rfl : l = [] := List.length_eq_zero_iff.1 h0
    simp only [go_sem, Nat.reduceBEq, Nat.reduceAdd, Nat.reduceMul, Nat.reduceSub, Nat.reduceLeDiff, Nat.le_refl, implies_true, Nat.reduceLT, reduceIte, decide_true, decide_false, true_and, and_true, reduceCtorEq, Nat.mul_one, Int.reduceToNat, Int.reduceLE, Int.reduceLT, Int.reduceAdd, Int.reduceSub, Int.reduceMul, Int.cast_ofNat_Int, cast_zero_int, cast_one_int, Nat.reducePow, Nat.reduceEqDiff, Nat.reduceMod, Nat.zero_add, Nat.sub_zero, Nat.add_zero]
    exact .nil
  · obtain ⟨id, off, k, hv, _, hk, _, hd, _, hb, hc, _⟩ := s.at (by omega)
    obtain rfl : a = some ⟨id, off, none⟩ := by simpa using hv
    have hp : 0 < l.length := by omega
    simp only [go_sem, Nat.reduceBEq, Nat.reduceAdd, Nat.reduceMul, Nat.reduceSub, Nat.reduceLeDiff, Nat.le_refl, implies_true, Nat.reduceLT, reduceIte, decide_true, decide_false, true_and, and_true, reduceCtorEq, Nat.mul_one, Int.reduceToNat, Int.reduceLE, Int.reduceLT, Int.reduceAdd, Int.reduceSub, Int.reduceMul, Int.cast_ofNat_Int, cast_zero_int, cast_one_int, Nat.reducePow, Nat.reduceEqDiff, Nat.reduceMod, Nat.zero_add, Nat.sub_zero, Nat.add_zero, onApp_more hp, hk, hd, hb, hc, hp, ints_one, show l.length ≤ 9223372036854775807 by omega, show l.length * 8 ≤ 140737488355328 by omega]
    exact .at' rfl (by omega) (by omega) (by simp only [go_sem, Nat.reduceBEq, Nat.reduceAdd, Nat.reduceMul, Nat.reduceSub, Nat.reduceLeDiff, Nat.le_refl, implies_true, Nat.reduceLT, reduceIte, decide_true, decide_false, true_and, and_true, reduceCtorEq, Nat.mul_one, Int.reduceToNat, Int.reduceLE, Int.reduceLT, Int.reduceAdd, Int.reduceSub, Int.reduceMul, Int.cast_ofNat_Int, cast_zero_int, cast_one_int, Nat.reducePow, Nat.reduceEqDiff, Nat.reduceMod, Nat.zero_add, Nat.sub_zero, Nat.add_zero])

theorem c_l1Put {n : Nat} (v : Value) (l : List Int) (x : Int) (s : AI n h v l) (hn : n ≤ h.length) (hmax : l.length ≤ 1000) : vCall [] Try.prog M 125 [v, .int .i64 x] h (fun r h' => AI h'.length h' r (putL l x) ∧ h <+: h') := by
  obtain ⟨a, rfl⟩ := s.len
  refine body_of mo Try.func125 rfl (by kernel_rfl) (Nat.le_of_ble_eq_true (by kernel_rfl)) rfl ?_
  simp only [go_sem, Nat.reduceBEq, Nat.reduceAdd, Nat.reduceMul, Nat.reduceSub, Nat.reduceLeDiff, Nat.le_refl, implies_true, Nat.reduceLT, reduceIte, decide_true, decide_false, true_and, and_true, reduceCtorEq, Nat.mul_one, Int.reduceToNat, Int.reduceLE, Int.reduceLT, Int.reduceAdd, Int.reduceSub, Int.reduceMul, Int.cast_ofNat_Int, cast_zero_int, cast_one_int, Nat.reducePow, Nat.reduceEqDiff, Nat.reduceMod, Nat.zero_add, Nat.sub_zero, Nat.add_zero]
  refine vLoop.count mo l.length (fun i e h' => Regs e [(0, .slice a l.length 0), (1, .int .i64 x), (5, .int .i64 i)] ∧ HeapIs h' h ∧ ∀ (j : Nat) (hj : j < l.length), j < i → l[j] < x) ?_ ?_
  · exact ⟨⟨rfl, rfl, rfl, trivial⟩, .rfl, fun j _ hj => absurd hj (by omega)⟩
  · rintro i e H hi ⟨⟨e0, e1, e5, _⟩, rfl, hx⟩
    simp only [go_sem, Nat.reduceBEq, Nat.reduceAdd, Nat.reduceMul, Nat.reduceSub, Nat.reduceLeDiff, Nat.le_refl, implies_true, Nat.reduceLT, reduceIte, decide_true, decide_false, true_and, and_true, reduceCtorEq, Nat.mul_one, Int.reduceToNat, Int.reduceLE, Int.reduceLT, Int.reduceAdd, Int.reduceSub, Int.reduceMul, Int.cast_ofNat_Int, cast_zero_int, cast_one_int, Nat.reducePow, Nat.reduceEqDiff, Nat.reduceMod, Nat.zero_add, Nat.sub_zero, Nat.add_zero, e0, e1, e5]
    by_cases hlt : i < l.length
    · have ws := wsucc hlt (by omega)
      have hz : (i : Int) < l.length := by omega
      obtain ⟨id, off, k, hv, hidn, hkt, hk, hd, he, hb, hrow, hat⟩ := s.at (Nat.zero_lt_of_lt hlt)
      obtain rfl : a = some ⟨id, off, none⟩ := by simpa using hv
      by_cases h2 : l[i] < x
      · simp only [go_sem, Nat.reduceBEq, Nat.reduceAdd, Nat.reduceMul, Nat.reduceSub, Nat.reduceLeDiff, Nat.le_refl, implies_true, Nat.reduceLT, reduceIte, decide_true, decide_false, true_and, and_true, reduceCtorEq, Nat.mul_one, Int.reduceToNat, Int.reduceLE, Int.reduceLT, Int.reduceAdd, Int.reduceSub, Int.reduceMul, Int.cast_ofNat_Int, cast_zero_int, cast_one_int, Nat.reducePow, Nat.reduceEqDiff, Nat.reduceMod, Nat.zero_add, Nat.sub_zero, Nat.add_zero, e0, e1, e5, hk, hat i hlt, hz, hd, h2]
        refine ⟨hlt, ⟨e0, e1, congrArg _ ws, trivial⟩, .rfl, fun j hj hji => ?_⟩
        by_cases h3 : j < i
        · exact hx j hj h3
        · obtain rfl : j = i := by omega
          exact h2
      · have hput := putL_at (Nat.le_of_lt hlt) hx (fun _ => h2)
        rw [List.getElem?_eq_getElem hlt] at hput
        simp only [go_sem, Nat.reduceBEq, Nat.reduceAdd, Nat.reduceMul, Nat.reduceSub, Nat.reduceLeDiff, Nat.le_refl, implies_true, Nat.reduceLT, reduceIte, decide_true, decide_false, true_and, and_true, reduceCtorEq, Nat.mul_one, Int.reduceToNat, Int.reduceLE, Int.reduceLT, Int.reduceAdd, Int.reduceSub, Int.reduceMul, Int.cast_ofNat_Int, cast_zero_int, cast_one_int, Nat.reducePow, Nat.reduceEqDiff, Nat.reduceMod, Nat.zero_add, Nat.sub_zero, Nat.add_zero, e0, e1, e5, hk, hat i hlt, hz, hd, h2]
        by_cases h3 : l[i] = x
        · rw [if_pos (by rw [h3])] at hput
          simp only [go_sem, Nat.reduceBEq, Nat.reduceAdd, Nat.reduceMul, Nat.reduceSub, Nat.reduceLeDiff, Nat.le_refl, implies_true, Nat.reduceLT, reduceIte, decide_true, decide_false, true_and, and_true, reduceCtorEq, Nat.mul_one, Int.reduceToNat, Int.reduceLE, Int.reduceLT, Int.reduceAdd, Int.reduceSub, Int.reduceMul, Int.cast_ofNat_Int, cast_zero_int, cast_one_int, Nat.reducePow, Nat.reduceEqDiff, Nat.reduceMod, Nat.zero_add, Nat.sub_zero, Nat.add_zero, e0, e1, e5, hk, hat i hlt, hz, hd, h2, show (l[i] == x) = true by simpa using h3]
          rw [hput]
          exact s.le hn
        · rw [if_neg (by simpa using h3)] at hput
          have hp : 0 < l.length := by omega
          have hp2 : 0 < l.length - i := by omega
          have f1 : (k.cells.drop off).take i = (l.take i).map iv := by
            have := congrArg (List.take i) hrow
            rw [List.take_take, Nat.min_eq_left (by omega)] at this
            rw [this, List.map_take]
          have f2 : (k.cells.drop (off + i)).take (l.length - i) = (l.drop i).map iv := by
            have := congrArg (List.drop i) hrow
            rw [List.drop_take, List.drop_drop] at this
            rw [this, List.map_drop]
          have o1 : ((l.take i).map iv).all oneC = true := ints_one
          have o2 : ((l.drop i).map iv).all oneC = true := ints_one
          have hil : i ≤ l.length := hi
          have h4 : (i : Int).toNat = i := by omega
          by_cases h5 : i = 0
          · subst h5
            simp only [Nat.sub_zero, Nat.add_zero, List.drop_zero] at f2 o2
            simp only [go_sem, Nat.reduceBEq, Nat.reduceAdd, Nat.reduceMul, Nat.reduceSub, Nat.reduceLeDiff, Nat.le_refl, implies_true, Nat.reduceLT, reduceIte, decide_true, decide_false, true_and, and_true, reduceCtorEq, Nat.mul_one, Int.reduceToNat, Int.reduceLE, Int.reduceLT, Int.reduceAdd, Int.reduceSub, Int.reduceMul, Int.cast_ofNat_Int, cast_zero_int, cast_one_int, Nat.reducePow, Nat.reduceEqDiff, Nat.reduceMod, Nat.zero_add, Nat.sub_zero, Nat.add_zero, e0, e1, e5, hkt, hat 0 hlt, hz, hd, h2, show (l[0] == x) = false by simpa using h3, onSl_more hp, he, hp, h4, onApp_more hp, show off + l.length ≤ k.cells.length by omega, f2, o2]
            refine ⟨by omega, by omega, by omega, by omega, ?_⟩
            rw [hput]
            refine AI.le (FI.ai (n := 0) (FI.at' (m := H.length + 4) ?_ (Nat.zero_le _) (by omega) ?_)) (by simp)
            · simp; omega
            · simp only [go_sem, Nat.reduceBEq, Nat.reduceAdd, Nat.reduceMul, Nat.reduceSub, Nat.reduceLeDiff, Nat.le_refl, implies_true, Nat.reduceLT, reduceIte, decide_true, decide_false, true_and, and_true, reduceCtorEq, Nat.mul_one, Int.reduceToNat, Int.reduceLE, Int.reduceLT, Int.reduceAdd, Int.reduceSub, Int.reduceMul, Int.cast_ofNat_Int, cast_zero_int, cast_one_int, Nat.reducePow, Nat.reduceEqDiff, Nat.reduceMod, Nat.zero_add, Nat.sub_zero, Nat.add_zero, List.take_zero, List.drop_zero, List.map_cons]
              rfl
          · have hp3 : 0 < i := by omega
            simp only [go_sem, Nat.reduceBEq, Nat.reduceAdd, Nat.reduceMul, Nat.reduceSub, Nat.reduceLeDiff, Nat.le_refl, implies_true, Nat.reduceLT, reduceIte, decide_true, decide_false, true_and, and_true, reduceCtorEq, Nat.mul_one, Int.reduceToNat, Int.reduceLE, Int.reduceLT, Int.reduceAdd, Int.reduceSub, Int.reduceMul, Int.cast_ofNat_Int, cast_zero_int, cast_one_int, Nat.reducePow, Nat.reduceEqDiff, Nat.reduceMod, Nat.zero_add, Nat.sub_zero, Nat.add_zero, e0, e1, e5, hkt, hat i hlt, hz, hd, h2, show (l[i] == x) = false by simpa using h3, onSl_more hp, he, hp, h4, onApp_more hp2, onApp_more hp3, f1, f2, o1, o2, hil]
            have e1 : ((l.take i).map iv).length = i := by simp; omega
            refine ⟨by omega, hp3, by omega, by omega, by omega, e1.symm, by omega, by omega, hp2, e1.symm, by omega, by omega, by omega, ?_⟩
            rw [hput]
            refine FI.ai (n := 0) (FI.at' ?_ (Nat.zero_le _) (by omega) ?_)
            · simp; omega
            · simp only [go_sem, Nat.reduceBEq, Nat.reduceAdd, Nat.reduceMul, Nat.reduceSub, Nat.reduceLeDiff, Nat.le_refl, implies_true, Nat.reduceLT, reduceIte, decide_true, decide_false, true_and, and_true, reduceCtorEq, Nat.mul_one, Int.reduceToNat, Int.reduceLE, Int.reduceLT, Int.reduceAdd, Int.reduceSub, Int.reduceMul, Int.cast_ofNat_Int, cast_zero_int, cast_one_int, Nat.reducePow, Nat.reduceEqDiff, Nat.reduceMod, Nat.zero_add, Nat.sub_zero, Nat.add_zero, List.map_append, List.map_cons]
              rfl
    · obtain rfl : i = l.length := by omega
      have hput := putL_at (Nat.le_refl _) hx (fun hh => absurd hh (by omega))
      rw [if_neg (by simp), List.take_length, List.drop_length] at hput
      by_cases h0 : l.length = 0
      · obtain rfl : l = [] := List.length_eq_zero_iff.1 h0
        simp only [go_sem, Nat.reduceBEq, Nat.reduceAdd, Nat.reduceMul, Nat.reduceSub, Nat.reduceLeDiff, Nat.le_refl, implies_true, Nat.reduceLT, reduceIte, decide_true, decide_false, true_and, and_true, reduceCtorEq, Nat.mul_one, Int.reduceToNat, Int.reduceLE, Int.reduceLT, Int.reduceAdd, Int.reduceSub, Int.reduceMul, Int.cast_ofNat_Int, cast_zero_int, cast_one_int, Nat.reducePow, Nat.reduceEqDiff, Nat.reduceMod, Nat.zero_add, Nat.sub_zero, Nat.add_zero, e0, e1, e5]
        rw [hput]
        refine FI.ai (n := 0) (FI.at' rfl (Nat.zero_le _) (Nat.lt_succ_self _) ?_)
        simp only [go_sem, Nat.reduceBEq, Nat.reduceAdd, Nat.reduceMul, Nat.reduceSub, Nat.reduceLeDiff, Nat.le_refl, implies_true, Nat.reduceLT, reduceIte, decide_true, decide_false, true_and, and_true, reduceCtorEq, Nat.mul_one, Int.reduceToNat, Int.reduceLE, Int.reduceLT, Int.reduceAdd, Int.reduceSub, Int.reduceMul, Int.cast_ofNat_Int, cast_zero_int, cast_one_int, Nat.reducePow, Nat.reduceEqDiff, Nat.reduceMod, Nat.zero_add, Nat.sub_zero, Nat.add_zero]
        rfl
      · obtain ⟨id, off, k, hv, hidn, hkt, hk, hd, he, hb, hrow, hat⟩ := s.at (by omega)
        obtain rfl : a = some ⟨id, off, none⟩ := by simpa using hv
        have hp : 0 < l.length := by omega
        have h4 : (l.length : Int).toNat = l.length := by omega
        simp only [go_sem, Nat.reduceBEq, Nat.reduceAdd, Nat.reduceMul, Nat.reduceSub, Nat.reduceLeDiff, Nat.le_refl, implies_true, Nat.reduceLT, reduceIte, decide_true, decide_false, true_and, and_true, reduceCtorEq, Nat.mul_one, Int.reduceToNat, Int.reduceLE, Int.reduceLT, Int.reduceAdd, Int.reduceSub, Int.reduceMul, Int.cast_ofNat_Int, cast_zero_int, cast_one_int, Nat.reducePow, Nat.reduceEqDiff, Nat.reduceMod, Nat.zero_add, Nat.sub_zero, Nat.add_zero, e0, e1, e5, show ¬ ((l.length : Int) < l.length) by omega, hkt, hd, he, hp, onSl_more hp, onApp_more hp, h4, Nat.sub_self, hrow, ints_one]
        refine ⟨by omega, by omega, by omega, by omega, by simp, by omega, by omega, ?_⟩
        rw [hput]
        refine FI.ai (n := 0) (FI.at' (by simp) (Nat.zero_le _) (by omega) ?_)
        simp only [go_sem, Nat.reduceBEq, Nat.reduceAdd, Nat.reduceMul, Nat.reduceSub, Nat.reduceLeDiff, Nat.le_refl, implies_true, Nat.reduceLT, reduceIte, decide_true, decide_false, true_and, and_true, reduceCtorEq, Nat.mul_one, Int.reduceToNat, Int.reduceLE, Int.reduceLT, Int.reduceAdd, Int.reduceSub, Int.reduceMul, Int.cast_ofNat_Int, cast_zero_int, cast_one_int, Nat.reducePow, Nat.reduceEqDiff, Nat.reduceMod, Nat.zero_add, Nat.sub_zero, Nat.add_zero, List.map_append, List.map_cons]
        rfl

/-- A list of the nodes that lie so near. -/
def seen (P : List Pip) (s : Int) (k : Nat) (L : List Int) : Prop := ∀ v, v ∈ L ↔ ball P s k v = true
def half (P : List Pip) (L : List Int) (i : Nat) (L' : List Int) : Prop := ∀ v, v ∈ L' ↔ v ∈ L ∨ ∃ (j : Nat) (hj : j < P.length), j < i ∧ ((P[j].2.1 ∈ L ∧ v = P[j].2.2.1) ∨ (P[j].2.2.1 ∈ L ∧ v = P[j].2.1))
theorem half_zero {P : List Pip} {L : List Int} : half P L 0 L := fun v => ⟨.inl, fun h => h.elim id (fun ⟨_, _, h, _⟩ => absurd h (by omega))⟩
theorem half_succ {P : List Pip} {L L' A B : List Int} {i : Nat} (hi : i < P.length) (hh : half P L i L') (hA : A = if P[i].2.1 ∈ L then putL L' P[i].2.2.1 else L') (hB : B = if P[i].2.2.1 ∈ L then putL A P[i].2.1 else A) : half P L (i + 1) B := by
  intro v
  have h1 : v ∈ B ↔ v ∈ L' ∨ (P[i].2.1 ∈ L ∧ v = P[i].2.2.1) ∨ (P[i].2.2.1 ∈ L ∧ v = P[i].2.1) := by
    subst hA hB
    by_cases c1 : P[i].2.1 ∈ L <;> by_cases c2 : P[i].2.2.1 ∈ L <;> simp only [c1, c2, mem_putL, if_true, if_false, true_and, false_and, or_false, false_or]
    · constructor
      · rintro (h | h | h)
        · exact .inr (.inr h)
        · exact .inr (.inl h)
        · exact .inl h
      · rintro (h | h | h)
        · exact .inr (.inr h)
        · exact .inr (.inl h)
        · exact .inl h
    · exact ⟨fun h => h.elim .inr .inl, fun h => h.elim .inr .inl⟩
    · exact ⟨fun h => h.elim .inr .inl, fun h => h.elim .inr .inl⟩
  rw [h1, hh v]
  constructor
  · rintro ((h | ⟨j, hj, hji, h⟩) | h)
    · exact .inl h
    · exact .inr ⟨j, hj, by omega, h⟩
    · exact .inr ⟨i, hi, by omega, h⟩
  · rintro (h | ⟨j, hj, hji, h⟩)
    · exact .inl (.inl h)
    · by_cases hji2 : j < i
      · exact .inl (.inr ⟨j, hj, hji2, h⟩)
      · obtain rfl : j = i := by omega
        exact .inr h
theorem half_end {P : List Pip} {L L' : List Int} {s : Int} {k : Nat} (hs : seen P s k L) (hh : half P L P.length L') : seen P s (k + 1) L' := by
  intro v
  rw [hh v, ball_succ, hs v]
  constructor
  · rintro (h | ⟨j, hj, _, ⟨h, rfl⟩ | ⟨h, rfl⟩⟩)
    · exact .inl h
    · exact .inr ⟨_, (hs _).1 h, P[j], List.getElem_mem hj, .inl ⟨rfl, rfl⟩⟩
    · exact .inr ⟨_, (hs _).1 h, P[j], List.getElem_mem hj, .inr ⟨rfl, rfl⟩⟩
  · rintro (h | ⟨a, ha, p, hp, hpa⟩)
    · exact .inl h
    · obtain ⟨j, hj, rfl⟩ := List.mem_iff_getElem.1 hp
      rcases hpa with ⟨rfl, rfl⟩ | ⟨rfl, rfl⟩
      · exact .inr ⟨j, hj, hj, .inl ⟨(hs _).2 ha, rfl⟩⟩
      · exact .inr ⟨j, hj, hj, .inr ⟨(hs _).2 ha, rfl⟩⟩

theorem c_l22Steps {n : Nat} (v : Value) (N : Nat) (P : List Pip) (s x : Int) (hv : NA n h v N P) (g : netGood N P) (hs : 1 ≤ s ∧ s ≤ N) :
    vCall [] Try.prog M 116 [v, .int .i64 s, .int .i64 x] h (fun r h' => (∃ d : Int, r = .int .i64 d ∧ ∀ m : Nat, (0 ≤ d ∧ d ≤ m) ↔ ball P s m x = true) ∧ h <+: h') := by
  obtain ⟨w, rfl, sP⟩ := hv
  replace sP : Sl h 4 w (P.map pip) := sP.1
  obtain ⟨a, rfl⟩ := Sl.len4 sP
  have hN : N ≤ 8 := by have := g.2.1; omega
  have hP : P.length ≤ 10 := g.2.2
  have he := g.ends
  refine body_of mo Try.func116 rfl (by kernel_rfl) (Nat.le_of_ble_eq_true (by kernel_rfl)) rfl ?_
  simp only [go_sem, Nat.reduceBEq, Nat.reduceAdd, Nat.reduceMul, Nat.reduceSub, Nat.reduceLeDiff, Nat.le_refl, implies_true, Nat.reduceLT, reduceIte, decide_true, decide_false, true_and, and_true, reduceCtorEq, Nat.mul_one, Int.reduceToNat, Int.reduceLE, Int.reduceLT, Int.reduceAdd, Int.reduceSub, Int.reduceMul, Int.cast_ofNat_Int, cast_zero_int, cast_one_int, Nat.reducePow, Nat.reduceEqDiff, Nat.reduceMod, Nat.zero_add, Nat.sub_zero, Nat.add_zero]
  refine vLoop.count mo (N + 1) (fun i e h' => ∃ (t : Heap) (v7 : Value) (L : List Int), Regs e [(2, .int .i64 x), (3, .pointer (some ⟨h.length, 0, none⟩)), (7, v7), (8, .int .i64 i)] ∧
    HeapIs h' (h ++ ⟨[.int .i64 N, .slice a P.length 0], 2, .rw⟩ :: t) ∧ SI h' v7 L ∧ seen P s i L ∧ L.length ≤ 1 + 20 * i ∧ ∀ m, m < i → ¬ ball P s m x = true) ?_ ?_
  · refine ⟨_, _, [s], ⟨rfl, rfl, rfl, rfl, trivial⟩, .rfl, ?_, fun v => by simp [ball_zero], by simp, fun m hm => absurd hm (by omega)⟩
    exact FI.si (lo := 0) (hi := h.length + 2) (FI.at' rfl (Nat.zero_le _) (by omega) (by simp only [go_sem, Nat.reduceBEq, Nat.reduceAdd, Nat.reduceMul, Nat.reduceSub, Nat.reduceLeDiff, Nat.le_refl, implies_true, Nat.reduceLT, reduceIte, decide_true, decide_false, true_and, and_true, reduceCtorEq, Nat.mul_one, Int.reduceToNat, Int.reduceLE, Int.reduceLT, Int.reduceAdd, Int.reduceSub, Int.reduceMul, Int.cast_ofNat_Int, cast_zero_int, cast_one_int, Nat.reducePow, Nat.reduceEqDiff, Nat.reduceMod, Nat.zero_add, Nat.sub_zero, Nat.add_zero]; rfl)) (by simp)
  · rintro i e _ hi ⟨t, v7, L, ⟨e2, e3, e7, e8, _⟩, rfl, sL, hL, hlen, hno⟩
    simp only [go_sem, Nat.reduceBEq, Nat.reduceAdd, Nat.reduceMul, Nat.reduceSub, Nat.reduceLeDiff, Nat.le_refl, implies_true, Nat.reduceLT, reduceIte, decide_true, decide_false, true_and, and_true, reduceCtorEq, Nat.mul_one, Int.reduceToNat, Int.reduceLE, Int.reduceLT, Int.reduceAdd, Int.reduceSub, Int.reduceMul, Int.cast_ofNat_Int, cast_zero_int, cast_one_int, Nat.reducePow, Nat.reduceEqDiff, Nat.reduceMod, Nat.zero_add, Nat.sub_zero, Nat.add_zero, e2, e3, e7, e8]
    by_cases hlt : i < N + 1
    · have ws := wsucc hlt (by omega)
      simp only [go_sem, Nat.reduceBEq, Nat.reduceAdd, Nat.reduceMul, Nat.reduceSub, Nat.reduceLeDiff, Nat.le_refl, implies_true, Nat.reduceLT, reduceIte, decide_true, decide_false, true_and, and_true, reduceCtorEq, Nat.mul_one, Int.reduceToNat, Int.reduceLE, Int.reduceLT, Int.reduceAdd, Int.reduceSub, Int.reduceMul, Int.cast_ofNat_Int, cast_zero_int, cast_one_int, Nat.reducePow, Nat.reduceEqDiff, Nat.reduceMod, Nat.zero_add, Nat.sub_zero, Nat.add_zero, e2, e3, e7, e8, show (i : Int) ≤ N by omega]
      refine ⟨by kernel_rfl, (c_l1Has _ L _ sL (by omega)).use (fun _ m => m) ?_⟩
      rintro _ _ ⟨rfl, rfl⟩
      by_cases c1 : x ∈ L
      · simp only [go_sem, Nat.reduceBEq, Nat.reduceAdd, Nat.reduceMul, Nat.reduceSub, Nat.reduceLeDiff, Nat.le_refl, implies_true, Nat.reduceLT, reduceIte, decide_true, decide_false, true_and, and_true, reduceCtorEq, Nat.mul_one, Int.reduceToNat, Int.reduceLE, Int.reduceLT, Int.reduceAdd, Int.reduceSub, Int.reduceMul, Int.cast_ofNat_Int, cast_zero_int, cast_one_int, Nat.reducePow, Nat.reduceEqDiff, Nat.reduceMod, Nat.zero_add, Nat.sub_zero, Nat.add_zero, e2, e3, e7, e8, decb c1]
        have := (hL x).1 c1
        refine ⟨i, rfl, fun m => ⟨fun hm => ball_mono (by omega) this, fun hb => ⟨by omega, ?_⟩⟩⟩
        by_cases hmi : m < i
        · exact absurd hb (hno m hmi)
        · omega
      · simp only [go_sem, Nat.reduceBEq, Nat.reduceAdd, Nat.reduceMul, Nat.reduceSub, Nat.reduceLeDiff, Nat.le_refl, implies_true, Nat.reduceLT, reduceIte, decide_true, decide_false, true_and, and_true, reduceCtorEq, Nat.mul_one, Int.reduceToNat, Int.reduceLE, Int.reduceLT, Int.reduceAdd, Int.reduceSub, Int.reduceMul, Int.cast_ofNat_Int, cast_zero_int, cast_one_int, Nat.reducePow, Nat.reduceEqDiff, Nat.reduceMod, Nat.zero_add, Nat.sub_zero, Nat.add_zero, e2, e3, e7, e8, dect c1]
        refine ⟨by kernel_rfl, (c_ownInts _ L sL (by omega)).use (fun _ m => m) ?_⟩
        rintro v9 _ ⟨s9, ⟨t2, rfl⟩⟩
        replace s9 := s9.si (Nat.le_refl _)
        replace sL := sL.mono (h' := h ++ (⟨[.int .i64 N, .slice a P.length 0], 2, .rw⟩ :: t) ++ t2) (by simp)
        simp only [go_sem, Nat.reduceBEq, Nat.reduceAdd, Nat.reduceMul, Nat.reduceSub, Nat.reduceLeDiff, Nat.le_refl, implies_true, Nat.reduceLT, reduceIte, decide_true, decide_false, true_and, and_true, reduceCtorEq, Nat.mul_one, Int.reduceToNat, Int.reduceLE, Int.reduceLT, Int.reduceAdd, Int.reduceSub, Int.reduceMul, Int.cast_ofNat_Int, cast_zero_int, cast_one_int, Nat.reducePow, Nat.reduceEqDiff, Nat.reduceMod, Nat.zero_add, Nat.sub_zero, Nat.add_zero, e2, e3, e7, e8]
        refine vLoop.count mo P.length (fun k e h' => ∃ (t : Heap) (v9 : Value) (L' : List Int), Regs e [(2, .int .i64 x), (3, .pointer (some ⟨h.length, 0, none⟩)), (7, v7), (8, .int .i64 i), (9, v9), (10, .int .i64 k)] ∧
          HeapIs h' (h ++ ⟨[.int .i64 N, .slice a P.length 0], 2, .rw⟩ :: t) ∧ SI h' v7 L ∧ SI h' v9 L' ∧ half P L k L' ∧ L'.length ≤ 1 + 20 * i + 2 * k) ?_ ?_
        · exact ⟨t ++ t2, v9, L, (by simp [Regs, upd, put, env0, e2, e3, e7, e8]), by simp [HeapIs], by simpa using sL, by simpa using s9, half_zero, by omega⟩
        · clear s9 sL e2 e3 e7 e8
          rintro k e _ hk' ⟨t, v9, L', ⟨e2, e3, e7, e8, e9, e10, _⟩, rfl, sL, s9, hh, hlen'⟩
          simp only [go_sem, Nat.reduceBEq, Nat.reduceAdd, Nat.reduceMul, Nat.reduceSub, Nat.reduceLeDiff, Nat.le_refl, implies_true, Nat.reduceLT, reduceIte, decide_true, decide_false, true_and, and_true, reduceCtorEq, Nat.mul_one, Int.reduceToNat, Int.reduceLE, Int.reduceLT, Int.reduceAdd, Int.reduceSub, Int.reduceMul, Int.cast_ofNat_Int, cast_zero_int, cast_one_int, Nat.reducePow, Nat.reduceEqDiff, Nat.reduceMod, Nat.zero_add, Nat.sub_zero, Nat.add_zero, e2, e3, e7, e8, e9, e10]
          by_cases hkl : k < P.length
          · have wk := wsucc hkl (by omega)
            have hz : (k : Int) < P.length := by omega
            have hlt' : k < (P.map pip).length := by simpa using hkl
            obtain ⟨id, o, K, hv, hk, _, hd, hb, hrow, hat⟩ := sP.at hlt'
            obtain rfl : a = some ⟨id, o, none⟩ := by simpa using hv
            rw [List.getElem_map] at hrow
            simp only [pip] at hrow
            simp only [go_sem, Nat.reduceBEq, Nat.reduceAdd, Nat.reduceMul, Nat.reduceSub, Nat.reduceLeDiff, Nat.le_refl, implies_true, Nat.reduceLT, reduceIte, decide_true, decide_false, true_and, and_true, reduceCtorEq, Nat.mul_one, Int.reduceToNat, Int.reduceLE, Int.reduceLT, Int.reduceAdd, Int.reduceSub, Int.reduceMul, Int.cast_ofNat_Int, cast_zero_int, cast_one_int, Nat.reducePow, Nat.reduceEqDiff, Nat.reduceMod, Nat.zero_add, Nat.sub_zero, Nat.add_zero, e2, e3, e7, e8, e9, e10, hz, hk, hd, hb, hrow]
            refine ⟨by kernel_rfl, (c_l1Has _ L _ (sL.mono (by simp)) (by omega)).use (fun _ m => m) ?_⟩
            rintro _ _ ⟨rfl, rfl⟩
            have sL1 := fun t2 => sL.mono (h' := h ++ (⟨[.int .i64 N, .slice (some ⟨id, o, none⟩) P.length 0], 2, .rw⟩ :: (t ++ t2))) (by simp)
            have s91 := fun t2 => s9.mono (h' := h ++ (⟨[.int .i64 N, .slice (some ⟨id, o, none⟩) P.length 0], 2, .rw⟩ :: (t ++ t2))) (by simp)
            have hpl : ∀ (A : List Int) y, (putL A y).length ≤ A.length + 1 := fun A y => putL_len
            by_cases c2 : P[k].2.1 ∈ L
            · simp only [go_sem, Nat.reduceBEq, Nat.reduceAdd, Nat.reduceMul, Nat.reduceSub, Nat.reduceLeDiff, Nat.le_refl, implies_true, Nat.reduceLT, reduceIte, decide_true, decide_false, true_and, and_true, reduceCtorEq, Nat.mul_one, Int.reduceToNat, Int.reduceLE, Int.reduceLT, Int.reduceAdd, Int.reduceSub, Int.reduceMul, Int.cast_ofNat_Int, cast_zero_int, cast_one_int, Nat.reducePow, Nat.reduceEqDiff, Nat.reduceMod, Nat.zero_add, Nat.sub_zero, Nat.add_zero, decb c2, e2, e3, e7, e8, e9, e10]
              refine ⟨by kernel_rfl, (c_l1Put _ L' _ (s91 _) (Nat.le_refl _) (by omega)).use (fun _ m => m) ?_⟩
              rintro vA _ ⟨sA, ⟨t3, rfl⟩⟩
              replace sA := SI.of sA (Nat.le_refl _)
              simp only [List.append_assoc, List.cons_append, List.nil_append] at sA
              have lA := hpl L' P[k].2.2.1
              simp only [go_sem, Nat.reduceBEq, Nat.reduceAdd, Nat.reduceMul, Nat.reduceSub, Nat.reduceLeDiff, Nat.le_refl, implies_true, Nat.reduceLT, reduceIte, decide_true, decide_false, true_and, and_true, reduceCtorEq, Nat.mul_one, Int.reduceToNat, Int.reduceLE, Int.reduceLT, Int.reduceAdd, Int.reduceSub, Int.reduceMul, Int.cast_ofNat_Int, cast_zero_int, cast_one_int, Nat.reducePow, Nat.reduceEqDiff, Nat.reduceMod, Nat.zero_add, Nat.sub_zero, Nat.add_zero, e2, e3, e7, e8, e9, e10]
              refine ⟨by kernel_rfl, (c_l1Has _ L _ (sL1 _) (by omega)).use (fun _ m => m) ?_⟩
              rintro _ _ ⟨rfl, rfl⟩
              by_cases c3 : P[k].2.2.1 ∈ L
              · simp only [go_sem, Nat.reduceBEq, Nat.reduceAdd, Nat.reduceMul, Nat.reduceSub, Nat.reduceLeDiff, Nat.le_refl, implies_true, Nat.reduceLT, reduceIte, decide_true, decide_false, true_and, and_true, reduceCtorEq, Nat.mul_one, Int.reduceToNat, Int.reduceLE, Int.reduceLT, Int.reduceAdd, Int.reduceSub, Int.reduceMul, Int.cast_ofNat_Int, cast_zero_int, cast_one_int, Nat.reducePow, Nat.reduceEqDiff, Nat.reduceMod, Nat.zero_add, Nat.sub_zero, Nat.add_zero, decb c3, e2, e3, e7, e8, e9, e10]
                refine ⟨by kernel_rfl, (c_l1Put _ _ _ sA (Nat.le_refl _) (by omega)).use (fun _ m => m) ?_⟩
                rintro vB _ ⟨sB, ⟨t4, rfl⟩⟩
                replace sB := SI.of sB (Nat.le_refl _)
                simp only [List.append_assoc, List.cons_append, List.nil_append] at sB
                have lB := hpl (putL L' P[k].2.2.1) P[k].2.1
                simp only [go_sem, Nat.reduceBEq, Nat.reduceAdd, Nat.reduceMul, Nat.reduceSub, Nat.reduceLeDiff, Nat.le_refl, implies_true, Nat.reduceLT, reduceIte, decide_true, decide_false, true_and, and_true, reduceCtorEq, Nat.mul_one, Int.reduceToNat, Int.reduceLE, Int.reduceLT, Int.reduceAdd, Int.reduceSub, Int.reduceMul, Int.cast_ofNat_Int, cast_zero_int, cast_one_int, Nat.reducePow, Nat.reduceEqDiff, Nat.reduceMod, Nat.zero_add, Nat.sub_zero, Nat.add_zero, e2, e3, e7, e8, e9, e10]
                exact ⟨hkl, _, _, _, ⟨e2, e3, e7, e8, rfl, congrArg _ wk, trivial⟩, .rfl, sL1 _, sB, half_succ hkl hh (by rw [if_pos c2]) (by rw [if_pos c3]), by omega⟩
              · simp only [go_sem, Nat.reduceBEq, Nat.reduceAdd, Nat.reduceMul, Nat.reduceSub, Nat.reduceLeDiff, Nat.le_refl, implies_true, Nat.reduceLT, reduceIte, decide_true, decide_false, true_and, and_true, reduceCtorEq, Nat.mul_one, Int.reduceToNat, Int.reduceLE, Int.reduceLT, Int.reduceAdd, Int.reduceSub, Int.reduceMul, Int.cast_ofNat_Int, cast_zero_int, cast_one_int, Nat.reducePow, Nat.reduceEqDiff, Nat.reduceMod, Nat.zero_add, Nat.sub_zero, Nat.add_zero, dect c3, e2, e3, e7, e8, e9, e10]
                exact ⟨hkl, _, _, _, ⟨e2, e3, e7, e8, rfl, congrArg _ wk, trivial⟩, .rfl, sL1 _, sA, half_succ hkl hh (by rw [if_pos c2]) (by rw [if_neg c3]), by omega⟩
            · simp only [go_sem, Nat.reduceBEq, Nat.reduceAdd, Nat.reduceMul, Nat.reduceSub, Nat.reduceLeDiff, Nat.le_refl, implies_true, Nat.reduceLT, reduceIte, decide_true, decide_false, true_and, and_true, reduceCtorEq, Nat.mul_one, Int.reduceToNat, Int.reduceLE, Int.reduceLT, Int.reduceAdd, Int.reduceSub, Int.reduceMul, Int.cast_ofNat_Int, cast_zero_int, cast_one_int, Nat.reducePow, Nat.reduceEqDiff, Nat.reduceMod, Nat.zero_add, Nat.sub_zero, Nat.add_zero, dect c2, e2, e3, e7, e8, e9, e10]
              refine ⟨by kernel_rfl, (c_l1Has _ L _ (sL1 _) (by omega)).use (fun _ m => m) ?_⟩
              rintro _ _ ⟨rfl, rfl⟩
              by_cases c3 : P[k].2.2.1 ∈ L
              · simp only [go_sem, Nat.reduceBEq, Nat.reduceAdd, Nat.reduceMul, Nat.reduceSub, Nat.reduceLeDiff, Nat.le_refl, implies_true, Nat.reduceLT, reduceIte, decide_true, decide_false, true_and, and_true, reduceCtorEq, Nat.mul_one, Int.reduceToNat, Int.reduceLE, Int.reduceLT, Int.reduceAdd, Int.reduceSub, Int.reduceMul, Int.cast_ofNat_Int, cast_zero_int, cast_one_int, Nat.reducePow, Nat.reduceEqDiff, Nat.reduceMod, Nat.zero_add, Nat.sub_zero, Nat.add_zero, decb c3, e2, e3, e7, e8, e9, e10]
                refine ⟨by kernel_rfl, (c_l1Put _ L' _ (s91 _) (Nat.le_refl _) (by omega)).use (fun _ m => m) ?_⟩
                rintro vA _ ⟨sA, ⟨t3, rfl⟩⟩
                replace sA := SI.of sA (Nat.le_refl _)
                simp only [List.append_assoc, List.cons_append, List.nil_append] at sA
                have lA := hpl L' P[k].2.1
                simp only [go_sem, Nat.reduceBEq, Nat.reduceAdd, Nat.reduceMul, Nat.reduceSub, Nat.reduceLeDiff, Nat.le_refl, implies_true, Nat.reduceLT, reduceIte, decide_true, decide_false, true_and, and_true, reduceCtorEq, Nat.mul_one, Int.reduceToNat, Int.reduceLE, Int.reduceLT, Int.reduceAdd, Int.reduceSub, Int.reduceMul, Int.cast_ofNat_Int, cast_zero_int, cast_one_int, Nat.reducePow, Nat.reduceEqDiff, Nat.reduceMod, Nat.zero_add, Nat.sub_zero, Nat.add_zero, e2, e3, e7, e8, e9, e10]
                exact ⟨hkl, _, _, _, ⟨e2, e3, e7, e8, rfl, congrArg _ wk, trivial⟩, .rfl, sL1 _, sA, half_succ hkl hh (by rw [if_neg c2]) (by rw [if_pos c3]), by omega⟩
              · simp only [go_sem, Nat.reduceBEq, Nat.reduceAdd, Nat.reduceMul, Nat.reduceSub, Nat.reduceLeDiff, Nat.le_refl, implies_true, Nat.reduceLT, reduceIte, decide_true, decide_false, true_and, and_true, reduceCtorEq, Nat.mul_one, Int.reduceToNat, Int.reduceLE, Int.reduceLT, Int.reduceAdd, Int.reduceSub, Int.reduceMul, Int.cast_ofNat_Int, cast_zero_int, cast_one_int, Nat.reducePow, Nat.reduceEqDiff, Nat.reduceMod, Nat.zero_add, Nat.sub_zero, Nat.add_zero, dect c3, e2, e3, e7, e8, e9, e10]
                refine ⟨hkl, _, v9, L', (by simp [Regs, upd, put, env0, e2, e3, e7, e8, e9, e10, wk]), .rfl, sL1 _, s91 _, half_succ hkl hh (by rw [if_neg c2]) (by rw [if_neg c3]), by omega⟩
          · obtain rfl : k = P.length := by omega
            simp only [go_sem, Nat.reduceBEq, Nat.reduceAdd, Nat.reduceMul, Nat.reduceSub, Nat.reduceLeDiff, Nat.le_refl, implies_true, Nat.reduceLT, reduceIte, decide_true, decide_false, true_and, and_true, reduceCtorEq, Nat.mul_one, Int.reduceToNat, Int.reduceLE, Int.reduceLT, Int.reduceAdd, Int.reduceSub, Int.reduceMul, Int.cast_ofNat_Int, cast_zero_int, cast_one_int, Nat.reducePow, Nat.reduceEqDiff, Nat.reduceMod, Nat.zero_add, Nat.sub_zero, Nat.add_zero, e2, e3, e7, e8, e9, e10, show ¬ ((P.length : Int) < P.length) by omega]
            refine ⟨hlt, t, v9, L', ⟨e2, e3, rfl, congrArg _ ws, trivial⟩, .rfl, s9, half_end hL hh, by omega, fun m hm => ?_⟩
            by_cases hmi : m < i
            · exact hno m hmi
            · obtain rfl : m = i := by omega
              intro hb
              exact c1 ((hL x).2 hb)
    · obtain rfl : i = N + 1 := by omega
      simp only [go_sem, Nat.reduceBEq, Nat.reduceAdd, Nat.reduceMul, Nat.reduceSub, Nat.reduceLeDiff, Nat.le_refl, implies_true, Nat.reduceLT, reduceIte, decide_true, decide_false, true_and, and_true, reduceCtorEq, Nat.mul_one, Int.reduceToNat, Int.reduceLE, Int.reduceLT, Int.reduceAdd, Int.reduceSub, Int.reduceMul, Int.cast_ofNat_Int, cast_zero_int, cast_one_int, Nat.reducePow, Nat.reduceEqDiff, Nat.reduceMod, Nat.zero_add, Nat.sub_zero, Nat.add_zero, e2, e3, e7, e8, show ¬ (((N + 1 : Nat) : Int) ≤ N) by omega]
      refine ⟨-1, rfl, fun m => ⟨fun hm => by omega, fun hb => ?_⟩⟩
      exact absurd (ball_stop he hs hb) (hno N (by omega))
end
end Go.Proofs.Ytjgekhahklidcaa
