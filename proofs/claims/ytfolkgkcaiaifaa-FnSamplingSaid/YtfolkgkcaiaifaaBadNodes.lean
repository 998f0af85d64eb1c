
/- The nodes whose last sample of a kind is bad. No condition. -/
import Derived.Test.YtfolkgkcaiaifaaSamples
namespace Go.Proofs.Ytfolkgkcaiaifaa
open Go.HH
set_option linter.unusedSimpArgs false
set_option linter.unusedVariables false

/-- The place of the last sample of a node and a kind among the first. -/
def lastN (l : List Smp) (nd kd : Int) : Nat → Int
  | 0 => -1
  | i + 1 => if (l.getD i smp0).2.1 = nd ∧ (l.getD i smp0).2.2.1 = kd then (i : Int) else lastN l nd kd i
theorem lastN_lt {l : List Smp} {nd kd : Int} : ∀ i, -1 ≤ lastN l nd kd i ∧ lastN l nd kd i < i
  | 0 => by simp [lastN]
  | i + 1 => by
    have := lastN_lt (l := l) (nd := nd) (kd := kd) i
    rw [lastN]; split <;> omega
def badNd (l : List Smp) (kd : Int) : Nat → List Int
  | 0 => []
  | m + 1 => if 0 ≤ lastN l ((m + 1 : Nat) : Int) kd l.length ∧ ¬ off (l.getD (lastN l ((m + 1 : Nat) : Int) kd l.length).toNat smp0) = 0 then badNd l kd m ++ [((m + 1 : Nat) : Int)] else badNd l kd m
theorem badNd_yes {l : List Smp} {kd : Int} {m : Nat} (h : 0 ≤ lastN l ((m + 1 : Nat) : Int) kd l.length ∧ ¬ off (l.getD (lastN l ((m + 1 : Nat) : Int) kd l.length).toNat smp0) = 0) : badNd l kd (m + 1) = badNd l kd m ++ [((m + 1 : Nat) : Int)] := by rw [badNd, if_pos h]
theorem badNd_no {l : List Smp} {kd : Int} {m : Nat} (h : ¬ (0 ≤ lastN l ((m + 1 : Nat) : Int) kd l.length ∧ ¬ off (l.getD (lastN l ((m + 1 : Nat) : Int) kd l.length).toNat smp0) = 0)) : badNd l kd (m + 1) = badNd l kd m := by rw [badNd, if_neg h]
theorem badNd_len {l : List Smp} {kd : Int} : ∀ m, (badNd l kd m).length ≤ m
  | 0 => by simp [badNd]
  | m + 1 => by
    have := badNd_len (l := l) (kd := kd) m
    rw [badNd]; split
    · rw [List.length_append, List.length_singleton]; omega
    · omega
def ndOk (l : List Smp) (kd : Int) : Prop := smpGood l ∧ 1 ≤ kd ∧ kd ≤ 4
instance {l : List Smp} {kd : Int} : Decidable (ndOk l kd) := by unfold ndOk; infer_instance
def badNodes (l : List Smp) (kd : Int) : List Int := if ndOk l kd then badNd l kd 8 else []
theorem badNodes_len (l : List Smp) (kd : Int) : (badNodes l kd).length ≤ 1048576 := by unfold badNodes; split; exact Nat.le_trans (badNd_len _) (by omega); simp
theorem new_endN {u : Heap} {K b : Blk} {j n : Nat} (hn : n = u.length) : (u.set j b ++ [K])[n]? = some K := by
  subst hn
  rw [List.getElem?_append_right (by simp), List.length_set, Nat.sub_self]; rfl
theorem offN_nn (x : Smp) : 0 ≤ off x := by unfold off; omega

section
variable {h : Heap} {M : Nat → Prop}

theorem c_l23Last (v : Value) (l : List Smp) (nd kd : Int) (s : Sl h 4 v (l.map smp)) (hmax : l.length ≤ 1048576) : vCall [] Try.prog M 37 [v, .int .i64 nd, .int .i64 kd] h (fun r h' => r = .int .i64 (lastN l nd kd l.length) ∧ h <+: h') := by
  obtain ⟨a, hv, _, _⟩ := id s
  rw [List.length_map] at hv
  refine body_of mo Try.func37 rfl (by kernel_rfl) (Nat.le_of_ble_eq_true (by kernel_rfl)) rfl ?_
  subst hv
  simp only [go_sem, Nat.reduceBEq, Nat.reduceAdd, Nat.reduceMul, Nat.reduceSub, Nat.reduceLeDiff, Nat.le_refl, implies_true, Nat.reduceLT, reduceIte, decide_true, decide_false, true_and, and_true, reduceCtorEq, Nat.mul_one, Int.reduceToNat, Int.reduceLE, Int.reduceLT, Int.reduceAdd, Int.reduceSub, Int.reduceMul, Int.cast_ofNat_Int, cast_zero_int, cast_one_int, Nat.reducePow, Nat.reduceEqDiff, Nat.reduceMod, Nat.zero_add, Nat.sub_zero, Nat.add_zero]
  refine vLoop.count mo l.length (fun i e h' => ∃ t : Heap, e 0 = .slice a l.length 0 ∧ e 1 = .int .i64 nd ∧ e 2 = .int .i64 kd ∧ e 7 = .int .i64 (lastN l nd kd i) ∧ e 8 = .int .i64 i ∧ h' = h ++ t) ?_ ?_
  · exact ⟨[], rfl, rfl, rfl, rfl, rfl, by simp⟩
  · rintro i e _ hi ⟨t, e0, e1, e2, e7, e8, rfl⟩
    simp only [go_sem, Nat.reduceBEq, Nat.reduceAdd, Nat.reduceMul, Nat.reduceSub, Nat.reduceLeDiff, Nat.le_refl, implies_true, Nat.reduceLT, reduceIte, decide_true, decide_false, true_and, and_true, reduceCtorEq, Nat.mul_one, Int.reduceToNat, Int.reduceLE, Int.reduceLT, Int.reduceAdd, Int.reduceSub, Int.reduceMul, Int.cast_ofNat_Int, cast_zero_int, cast_one_int, Nat.reducePow, Nat.reduceEqDiff, Nat.reduceMod, Nat.zero_add, Nat.sub_zero, Nat.add_zero, e0, e8]
    refine .intro (fun h1 => ?_) (fun h1 => ?_)
    · have hlt : i < l.length := by simpa using h1
      have hlt' : i < (l.map smp).length := by simpa using hlt
      obtain ⟨id, o, k, hv, hk, _, hd, hb, hrow, hat⟩ := s.at hlt'
      obtain rfl : a = some ⟨id, o, none⟩ := by simpa using hv
      have hz : (i : Int) < l.length := by omega
      have g1 := hat 1 (by omega)
      have g2 := hat 2 (by omega)
      rw [List.getElem_map] at g1 g2
      simp only [smp, List.getElem?_cons_zero, List.getElem?_cons_succ] at g1 g2
      have gd : l.getD i smp0 = l[i] := getDs hlt
      simp only [go_sem, Nat.reduceBEq, Nat.reduceAdd, Nat.reduceMul, Nat.reduceSub, Nat.reduceLeDiff, Nat.le_refl, implies_true, Nat.reduceLT, reduceIte, decide_true, decide_false, true_and, and_true, reduceCtorEq, Nat.mul_one, Int.reduceToNat, Int.reduceLE, Int.reduceLT, Int.reduceAdd, Int.reduceSub, Int.reduceMul, Int.cast_ofNat_Int, cast_zero_int, cast_one_int, Nat.reducePow, Nat.reduceEqDiff, Nat.reduceMod, Nat.zero_add, Nat.sub_zero, Nat.add_zero, e0, e1, e2, e8, hk, hz, hd, g1, g2]
      by_cases h2 : l[i].2.1 = nd
      · simp only [go_sem, Nat.reduceBEq, Nat.reduceAdd, Nat.reduceMul, Nat.reduceSub, Nat.reduceLeDiff, Nat.le_refl, implies_true, Nat.reduceLT, reduceIte, decide_true, decide_false, true_and, and_true, reduceCtorEq, Nat.mul_one, Int.reduceToNat, Int.reduceLE, Int.reduceLT, Int.reduceAdd, Int.reduceSub, Int.reduceMul, Int.cast_ofNat_Int, cast_zero_int, cast_one_int, Nat.reducePow, Nat.reduceEqDiff, Nat.reduceMod, Nat.zero_add, Nat.sub_zero, Nat.add_zero, show (l[i].2.1 == nd) = true by simpa using h2, e0, e1, e2, e8, hk, hz, hd, g1, g2]
        by_cases h3 : l[i].2.2.1 = kd
        · simp only [go_sem, Nat.reduceBEq, Nat.reduceAdd, Nat.reduceMul, Nat.reduceSub, Nat.reduceLeDiff, Nat.le_refl, implies_true, Nat.reduceLT, reduceIte, decide_true, decide_false, true_and, and_true, reduceCtorEq, Nat.mul_one, Int.reduceToNat, Int.reduceLE, Int.reduceLT, Int.reduceAdd, Int.reduceSub, Int.reduceMul, Int.cast_ofNat_Int, cast_zero_int, cast_one_int, Nat.reducePow, Nat.reduceEqDiff, Nat.reduceMod, Nat.zero_add, Nat.sub_zero, Nat.add_zero, show (l[i].2.1 == nd) = true by simpa using h2, show (l[i].2.2.1 == kd) = true by simpa using h3, e0, e1, e2, e7, e8]
          exact ⟨hlt, t, by rw [lastN, if_pos (by rw [gd]; exact ⟨h2, h3⟩)], by rw [wrap64 (by omega)]; rfl, rfl⟩
        · simp only [go_sem, Nat.reduceBEq, Nat.reduceAdd, Nat.reduceMul, Nat.reduceSub, Nat.reduceLeDiff, Nat.le_refl, implies_true, Nat.reduceLT, reduceIte, decide_true, decide_false, true_and, and_true, reduceCtorEq, Nat.mul_one, Int.reduceToNat, Int.reduceLE, Int.reduceLT, Int.reduceAdd, Int.reduceSub, Int.reduceMul, Int.cast_ofNat_Int, cast_zero_int, cast_one_int, Nat.reducePow, Nat.reduceEqDiff, Nat.reduceMod, Nat.zero_add, Nat.sub_zero, Nat.add_zero, show (l[i].2.1 == nd) = true by simpa using h2, show (l[i].2.2.1 == kd) = false by simpa using h3, e0, e1, e2, e7, e8]
          exact ⟨hlt, t, by rw [lastN, if_neg (by rw [gd]; exact fun hh => h3 hh.2)], by rw [wrap64 (by omega)]; rfl, rfl⟩
      · simp only [go_sem, Nat.reduceBEq, Nat.reduceAdd, Nat.reduceMul, Nat.reduceSub, Nat.reduceLeDiff, Nat.le_refl, implies_true, Nat.reduceLT, reduceIte, decide_true, decide_false, true_and, and_true, reduceCtorEq, Nat.mul_one, Int.reduceToNat, Int.reduceLE, Int.reduceLT, Int.reduceAdd, Int.reduceSub, Int.reduceMul, Int.cast_ofNat_Int, cast_zero_int, cast_one_int, Nat.reducePow, Nat.reduceEqDiff, Nat.reduceMod, Nat.zero_add, Nat.sub_zero, Nat.add_zero, show (l[i].2.1 == nd) = false by simpa using h2, e0, e1, e2, e7, e8]
        exact ⟨hlt, t, by rw [lastN, if_neg (by rw [gd]; exact fun hh => h2 hh.1)], by rw [wrap64 (by omega)]; rfl, rfl⟩
    · simp only [go_sem, Nat.reduceBEq, Nat.reduceAdd, Nat.reduceMul, Nat.reduceSub, Nat.reduceLeDiff, Nat.le_refl, implies_true, Nat.reduceLT, reduceIte, decide_true, decide_false, true_and, and_true, reduceCtorEq, Nat.mul_one, Int.reduceToNat, Int.reduceLE, Int.reduceLT, Int.reduceAdd, Int.reduceSub, Int.reduceMul, Int.cast_ofNat_Int, cast_zero_int, cast_one_int, Nat.reducePow, Nat.reduceEqDiff, Nat.reduceMod, Nat.zero_add, Nat.sub_zero, Nat.add_zero, e0, e7, e8]
      obtain rfl : i = l.length := by have : ¬ i < l.length := by simpa using h1
                                      omega
      rfl

theorem c_lastSample (v : Value) (l : List Smp) (nd kd : Int) (s : Sl h 4 v (l.map smp)) (hmax : l.length ≤ 1048576) : vCall [] Try.prog M 34 [v, .int .i64 nd, .int .i64 kd] h (fun r h' => r = .int .i64 (lastN l nd kd l.length) ∧ h <+: h') := by
  obtain ⟨a, hv, _, _⟩ := id s
  rw [List.length_map] at hv
  refine body_of mo Try.func34 rfl (by kernel_rfl) (Nat.le_of_ble_eq_true (by kernel_rfl)) rfl ?_
  subst hv
  simp only [go_sem, Nat.reduceBEq, Nat.reduceAdd, Nat.reduceMul, Nat.reduceSub, Nat.reduceLeDiff, Nat.le_refl, implies_true, Nat.reduceLT, reduceIte, decide_true, decide_false, true_and, and_true, reduceCtorEq, Nat.mul_one, Int.reduceToNat, Int.reduceLE, Int.reduceLT, Int.reduceAdd, Int.reduceSub, Int.reduceMul, Int.cast_ofNat_Int, cast_zero_int, cast_one_int, Nat.reducePow, Nat.reduceEqDiff, Nat.reduceMod, Nat.zero_add, Nat.sub_zero, Nat.add_zero]
  refine vLoop.count mo l.length (fun i e h' => ∃ t : Heap, e 0 = .slice a l.length 0 ∧ e 1 = .int .i64 nd ∧ e 2 = .int .i64 kd ∧ e 7 = .int .i64 ((l.length : Int) - i - 1) ∧ h' = h ++ t ∧ lastN l nd kd (l.length - i) = lastN l nd kd l.length) ?_ ?_
  · exact ⟨[], rfl, rfl, rfl, by simp [upd]; rw [wrap64 (by omega)], by simp, by simp⟩
  · rintro i e _ hi ⟨t, e0, e1, e2, e7, rfl, hl⟩
    simp only [go_sem, Nat.reduceBEq, Nat.reduceAdd, Nat.reduceMul, Nat.reduceSub, Nat.reduceLeDiff, Nat.le_refl, implies_true, Nat.reduceLT, reduceIte, decide_true, decide_false, true_and, and_true, reduceCtorEq, Nat.mul_one, Int.reduceToNat, Int.reduceLE, Int.reduceLT, Int.reduceAdd, Int.reduceSub, Int.reduceMul, Int.cast_ofNat_Int, cast_zero_int, cast_one_int, Nat.reducePow, Nat.reduceEqDiff, Nat.reduceMod, Nat.zero_add, Nat.sub_zero, Nat.add_zero, e0, e7]
    by_cases h1 : i < l.length
    · obtain ⟨p, hp⟩ : ∃ p, l.length - i = p + 1 := ⟨l.length - i - 1, by omega⟩
      have hpe : (l.length : Int) - i - 1 = p := by omega
      have hlt : p < l.length := by omega
      rw [hpe] at e7
      rw [hpe]
      have hlt' : p < (l.map smp).length := by simpa using hlt
      obtain ⟨id, o, k, hv, hk, _, hd, hb, hrow, hat⟩ := s.at hlt'
      obtain rfl : a = some ⟨id, o, none⟩ := by simpa using hv
      have hz : (p : Int) < l.length := by omega
      have g1 := hat 1 (by omega)
      have g2 := hat 2 (by omega)
      rw [List.getElem_map] at g1 g2
      simp only [smp, List.getElem?_cons_zero, List.getElem?_cons_succ] at g1 g2
      have gd : l.getD p smp0 = l[p] := getDs hlt
      rw [hp] at hl
      have hnext : l.length - (i + 1) = p := by omega
      simp only [go_sem, Nat.reduceBEq, Nat.reduceAdd, Nat.reduceMul, Nat.reduceSub, Nat.reduceLeDiff, Nat.le_refl, implies_true, Nat.reduceLT, reduceIte, decide_true, decide_false, true_and, and_true, reduceCtorEq, Nat.mul_one, Int.reduceToNat, Int.reduceLE, Int.reduceLT, Int.reduceAdd, Int.reduceSub, Int.reduceMul, Int.cast_ofNat_Int, cast_zero_int, cast_one_int, Nat.reducePow, Nat.reduceEqDiff, Nat.reduceMod, Nat.zero_add, Nat.sub_zero, Nat.add_zero, e0, e1, e2, e7, hk, hz, hd, g1, g2]
      by_cases h2 : l[p].2.1 = nd
      · simp only [go_sem, Nat.reduceBEq, Nat.reduceAdd, Nat.reduceMul, Nat.reduceSub, Nat.reduceLeDiff, Nat.le_refl, implies_true, Nat.reduceLT, reduceIte, decide_true, decide_false, true_and, and_true, reduceCtorEq, Nat.mul_one, Int.reduceToNat, Int.reduceLE, Int.reduceLT, Int.reduceAdd, Int.reduceSub, Int.reduceMul, Int.cast_ofNat_Int, cast_zero_int, cast_one_int, Nat.reducePow, Nat.reduceEqDiff, Nat.reduceMod, Nat.zero_add, Nat.sub_zero, Nat.add_zero, show (l[p].2.1 == nd) = true by simpa using h2, e0, e1, e2, e7, hk, hz, hd, g1, g2]
        by_cases h3 : l[p].2.2.1 = kd
        · simp only [go_sem, Nat.reduceBEq, Nat.reduceAdd, Nat.reduceMul, Nat.reduceSub, Nat.reduceLeDiff, Nat.le_refl, implies_true, Nat.reduceLT, reduceIte, decide_true, decide_false, true_and, and_true, reduceCtorEq, Nat.mul_one, Int.reduceToNat, Int.reduceLE, Int.reduceLT, Int.reduceAdd, Int.reduceSub, Int.reduceMul, Int.cast_ofNat_Int, cast_zero_int, cast_one_int, Nat.reducePow, Nat.reduceEqDiff, Nat.reduceMod, Nat.zero_add, Nat.sub_zero, Nat.add_zero, show (l[p].2.1 == nd) = true by simpa using h2, show (l[p].2.2.1 == kd) = true by simpa using h3, e0, e1, e2, e7]
          rw [← hl, lastN, if_pos (by rw [gd]; exact ⟨h2, h3⟩)]
        · simp only [go_sem, Nat.reduceBEq, Nat.reduceAdd, Nat.reduceMul, Nat.reduceSub, Nat.reduceLeDiff, Nat.le_refl, implies_true, Nat.reduceLT, reduceIte, decide_true, decide_false, true_and, and_true, reduceCtorEq, Nat.mul_one, Int.reduceToNat, Int.reduceLE, Int.reduceLT, Int.reduceAdd, Int.reduceSub, Int.reduceMul, Int.cast_ofNat_Int, cast_zero_int, cast_one_int, Nat.reducePow, Nat.reduceEqDiff, Nat.reduceMod, Nat.zero_add, Nat.sub_zero, Nat.add_zero, show (l[p].2.1 == nd) = true by simpa using h2, show (l[p].2.2.1 == kd) = false by simpa using h3, e0, e1, e2, e7]
          exact ⟨h1, t, by rw [wrap64 (by omega)]; congr 1; omega, rfl, by rw [hnext, ← hl, lastN, if_neg (by rw [gd]; exact fun hh => h3 hh.2)]⟩
      · simp only [go_sem, Nat.reduceBEq, Nat.reduceAdd, Nat.reduceMul, Nat.reduceSub, Nat.reduceLeDiff, Nat.le_refl, implies_true, Nat.reduceLT, reduceIte, decide_true, decide_false, true_and, and_true, reduceCtorEq, Nat.mul_one, Int.reduceToNat, Int.reduceLE, Int.reduceLT, Int.reduceAdd, Int.reduceSub, Int.reduceMul, Int.cast_ofNat_Int, cast_zero_int, cast_one_int, Nat.reducePow, Nat.reduceEqDiff, Nat.reduceMod, Nat.zero_add, Nat.sub_zero, Nat.add_zero, show (l[p].2.1 == nd) = false by simpa using h2, e0, e1, e2, e7]
        exact ⟨h1, t, by rw [wrap64 (by omega)]; congr 1; omega, rfl, by rw [hnext, ← hl, lastN, if_neg (by rw [gd]; exact fun hh => h2 hh.1)]⟩
    · simp only [go_sem, Nat.reduceBEq, Nat.reduceAdd, Nat.reduceMul, Nat.reduceSub, Nat.reduceLeDiff, Nat.le_refl, implies_true, Nat.reduceLT, reduceIte, decide_true, decide_false, true_and, and_true, reduceCtorEq, Nat.mul_one, Int.reduceToNat, Int.reduceLE, Int.reduceLT, Int.reduceAdd, Int.reduceSub, Int.reduceMul, Int.cast_ofNat_Int, cast_zero_int, cast_one_int, Nat.reducePow, Nat.reduceEqDiff, Nat.reduceMod, Nat.zero_add, Nat.sub_zero, Nat.add_zero, show ¬ (0 ≤ (l.length : Int) - i - 1) by omega]
      obtain rfl : i = l.length := by omega
      rw [← hl, Nat.sub_self]; rfl

theorem c_BadNodes (v : Value) (l : List Smp) (kd : Int) (s : Sl h 4 v (l.map smp)) (hmax : l.length ≤ 1048576) : vCall [] Try.prog M 14 [v, .int .i64 kd] h (fun r h' => (∃ w, r = .tuple #[w, .bool (decide (ndOk l kd))] ∧ FI h.length h'.length h' w (badNodes l kd)) ∧ h <+: h') := by
  obtain ⟨a, hv, _, _⟩ := id s
  rw [List.length_map] at hv
  refine body_of mo Try.func14 rfl (by kernel_rfl) (Nat.le_of_ble_eq_true (by kernel_rfl)) rfl ?_
  subst hv
  simp only [go_sem, Nat.reduceBEq, Nat.reduceAdd, Nat.reduceMul, Nat.reduceSub, Nat.reduceLeDiff, Nat.le_refl, implies_true, Nat.reduceLT, reduceIte, decide_true, decide_false, true_and, and_true, reduceCtorEq, Nat.mul_one, Int.reduceToNat, Int.reduceLE, Int.reduceLT, Int.reduceAdd, Int.reduceSub, Int.reduceMul, Int.cast_ofNat_Int, cast_zero_int, cast_one_int, Nat.reducePow, Nat.reduceEqDiff, Nat.reduceMod, Nat.zero_add, Nat.sub_zero, Nat.add_zero]
  have bad : ¬ ndOk l kd → ∀ (m : Nat) (H : Heap) (a : Option Addr), ∃ w, (Value.tuple #[Value.slice a 0 0, .bool false]) = .tuple #[w, .bool (decide (ndOk l kd))] ∧ FI h.length m H w (badNodes l kd) := fun hn m H a =>
    ⟨_, by rw [decide_eq_false hn], by rw [badNodes, if_neg hn]; exact .nil⟩
  refine ⟨by kernel_rfl, (c_areSamples _ l (s.mono List.prefix_rfl) hmax).use (fun _ m => m) ?_⟩
  rintro _ _ ⟨rfl, ⟨t, rfl⟩⟩
  simp only [go_sem, Nat.reduceBEq, Nat.reduceAdd, Nat.reduceMul, Nat.reduceSub, Nat.reduceLeDiff, Nat.le_refl, implies_true, Nat.reduceLT, reduceIte, decide_true, decide_false, true_and, and_true, reduceCtorEq, Nat.mul_one, Int.reduceToNat, Int.reduceLE, Int.reduceLT, Int.reduceAdd, Int.reduceSub, Int.reduceMul, Int.cast_ofNat_Int, cast_zero_int, cast_one_int, Nat.reducePow, Nat.reduceEqDiff, Nat.reduceMod, Nat.zero_add, Nat.sub_zero, Nat.add_zero]
  by_cases h1 : smpGood l
  · simp only [go_sem, Nat.reduceBEq, Nat.reduceAdd, Nat.reduceMul, Nat.reduceSub, Nat.reduceLeDiff, Nat.le_refl, implies_true, Nat.reduceLT, reduceIte, decide_true, decide_false, true_and, and_true, reduceCtorEq, Nat.mul_one, Int.reduceToNat, Int.reduceLE, Int.reduceLT, Int.reduceAdd, Int.reduceSub, Int.reduceMul, Int.cast_ofNat_Int, cast_zero_int, cast_one_int, Nat.reducePow, Nat.reduceEqDiff, Nat.reduceMod, Nat.zero_add, Nat.sub_zero, Nat.add_zero, decb h1]
    refine ⟨by kernel_rfl, (c_isSampleKind _).use (fun _ m => m) ?_⟩
    rintro _ _ ⟨rfl, rfl⟩
    simp only [go_sem, Nat.reduceBEq, Nat.reduceAdd, Nat.reduceMul, Nat.reduceSub, Nat.reduceLeDiff, Nat.le_refl, implies_true, Nat.reduceLT, reduceIte, decide_true, decide_false, true_and, and_true, reduceCtorEq, Nat.mul_one, Int.reduceToNat, Int.reduceLE, Int.reduceLT, Int.reduceAdd, Int.reduceSub, Int.reduceMul, Int.cast_ofNat_Int, cast_zero_int, cast_one_int, Nat.reducePow, Nat.reduceEqDiff, Nat.reduceMod, Nat.zero_add, Nat.sub_zero, Nat.add_zero]
    by_cases h2 : 1 ≤ kd ∧ kd ≤ 4
    · have hn : ndOk l kd := ⟨h1, h2⟩
      simp only [go_sem, Nat.reduceBEq, Nat.reduceAdd, Nat.reduceMul, Nat.reduceSub, Nat.reduceLeDiff, Nat.le_refl, implies_true, Nat.reduceLT, reduceIte, decide_true, decide_false, true_and, and_true, reduceCtorEq, Nat.mul_one, Int.reduceToNat, Int.reduceLE, Int.reduceLT, Int.reduceAdd, Int.reduceSub, Int.reduceMul, Int.cast_ofNat_Int, cast_zero_int, cast_one_int, Nat.reducePow, Nat.reduceEqDiff, Nat.reduceMod, Nat.zero_add, Nat.sub_zero, Nat.add_zero, decb h1, decb h2]
      refine vLoop.count mo 8 (fun i e h' => ∃ (t : Heap) (j : Nat), e 0 = .slice a l.length 0 ∧ e 1 = .int .i64 kd ∧ e 7 = .int .i64 ((i + 1 : Nat) : Int) ∧
        e 6 = .slice (some ⟨h.length + j, 0, none⟩) (badNd l kd i).length 0 ∧ h' = h ++ t ∧ t[j]? = some ⟨(badNd l kd i).map iv, 1, .rw⟩) ?_ ?_
      · exact ⟨t ++ [⟨[], 1, .rw⟩], t.length, rfl, rfl, rfl, by simp [upd, badNd], by simp, by simp [badNd]⟩
      · rintro i e _ hi ⟨t, j, e0, e1, e7, e6, rfl, hj⟩
        simp only [go_sem, Nat.reduceBEq, Nat.reduceAdd, Nat.reduceMul, Nat.reduceSub, Nat.reduceLeDiff, Nat.le_refl, implies_true, Nat.reduceLT, reduceIte, decide_true, decide_false, true_and, and_true, reduceCtorEq, Nat.mul_one, Int.reduceToNat, Int.reduceLE, Int.reduceLT, Int.reduceAdd, Int.reduceSub, Int.reduceMul, Int.cast_ofNat_Int, cast_zero_int, cast_one_int, Nat.reducePow, Nat.reduceEqDiff, Nat.reduceMod, Nat.zero_add, Nat.sub_zero, Nat.add_zero, e0, e1, e7, e6]
        have hbl := badNd_len (l := l) (kd := kd) i
        by_cases h3 : i < 8
        · simp only [go_sem, Nat.reduceBEq, Nat.reduceAdd, Nat.reduceMul, Nat.reduceSub, Nat.reduceLeDiff, Nat.le_refl, implies_true, Nat.reduceLT, reduceIte, decide_true, decide_false, true_and, and_true, reduceCtorEq, Nat.mul_one, Int.reduceToNat, Int.reduceLE, Int.reduceLT, Int.reduceAdd, Int.reduceSub, Int.reduceMul, Int.cast_ofNat_Int, cast_zero_int, cast_one_int, Nat.reducePow, Nat.reduceEqDiff, Nat.reduceMod, Nat.zero_add, Nat.sub_zero, Nat.add_zero, e0, e1, e7, e6, show (((i + 1 : Nat) : Int) ≤ 8) by omega]
          have hll := lastN_lt (l := l) (nd := ((i + 1 : Nat) : Int)) (kd := kd) l.length
          refine ⟨by kernel_rfl, (c_lastSample _ l ((i + 1 : Nat) : Int) kd (s.mono (List.prefix_append _ _)) hmax).use (fun _ m => m) ?_⟩
          rintro _ _ ⟨rfl, ⟨t2, rfl⟩⟩
          simp only [go_sem, Nat.reduceBEq, Nat.reduceAdd, Nat.reduceMul, Nat.reduceSub, Nat.reduceLeDiff, Nat.le_refl, implies_true, Nat.reduceLT, reduceIte, decide_true, decide_false, true_and, and_true, reduceCtorEq, Nat.mul_one, Int.reduceToNat, Int.reduceLE, Int.reduceLT, Int.reduceAdd, Int.reduceSub, Int.reduceMul, Int.cast_ofNat_Int, cast_zero_int, cast_one_int, Nat.reducePow, Nat.reduceEqDiff, Nat.reduceMod, Nat.zero_add, Nat.sub_zero, Nat.add_zero, e0, e1, e7, e6]
          by_cases h4 : 0 ≤ lastN l ((i + 1 : Nat) : Int) kd l.length
          · obtain ⟨p, hp⟩ : ∃ p : Nat, lastN l ((i + 1 : Nat) : Int) kd l.length = p := ⟨(lastN l ((i + 1 : Nat) : Int) kd l.length).toNat, by omega⟩
            have hlt : p < l.length := by omega
            have hlt' : p < (l.map smp).length := by simpa using hlt
            obtain ⟨id, o, k, hv, hk, _, hd, hb, hrow, hat⟩ := s.at hlt'
            obtain rfl : a = some ⟨id, o, none⟩ := by simpa using hv
            have hz : (p : Int) < l.length := by omega
            rw [List.getElem_map] at hrow
            simp only [smp] at hrow
            have gd : l.getD p smp0 = l[p] := getDs hlt
            have hnn := offN_nn l[p]
            simp only [go_sem, Nat.reduceBEq, Nat.reduceAdd, Nat.reduceMul, Nat.reduceSub, Nat.reduceLeDiff, Nat.le_refl, implies_true, Nat.reduceLT, reduceIte, decide_true, decide_false, true_and, and_true, reduceCtorEq, Nat.mul_one, Int.reduceToNat, Int.reduceLE, Int.reduceLT, Int.reduceAdd, Int.reduceSub, Int.reduceMul, Int.cast_ofNat_Int, cast_zero_int, cast_one_int, Nat.reducePow, Nat.reduceEqDiff, Nat.reduceMod, Nat.zero_add, Nat.sub_zero, Nat.add_zero, e0, e1, e7, e6, hp, hk, hz, hd, hrow, hb]
            refine ⟨by kernel_rfl, (c_isGood _ (h1.ok hlt)).use (fun _ m => m) ?_⟩
            rintro _ _ ⟨rfl, ⟨t3, rfl⟩⟩
            simp only [go_sem, Nat.reduceBEq, Nat.reduceAdd, Nat.reduceMul, Nat.reduceSub, Nat.reduceLeDiff, Nat.le_refl, implies_true, Nat.reduceLT, reduceIte, decide_true, decide_false, true_and, and_true, reduceCtorEq, Nat.mul_one, Int.reduceToNat, Int.reduceLE, Int.reduceLT, Int.reduceAdd, Int.reduceSub, Int.reduceMul, Int.cast_ofNat_Int, cast_zero_int, cast_one_int, Nat.reducePow, Nat.reduceEqDiff, Nat.reduceMod, Nat.zero_add, Nat.sub_zero, Nat.add_zero, hp]
            by_cases h5 : off l[p] = 0
            · simp only [go_sem, Nat.reduceBEq, Nat.reduceAdd, Nat.reduceMul, Nat.reduceSub, Nat.reduceLeDiff, Nat.le_refl, implies_true, Nat.reduceLT, reduceIte, decide_true, decide_false, true_and, and_true, reduceCtorEq, Nat.mul_one, Int.reduceToNat, Int.reduceLE, Int.reduceLT, Int.reduceAdd, Int.reduceSub, Int.reduceMul, Int.cast_ofNat_Int, cast_zero_int, cast_one_int, Nat.reducePow, Nat.reduceEqDiff, Nat.reduceMod, Nat.zero_add, Nat.sub_zero, Nat.add_zero, decb h5, hp, e0, e1, e7, e6]
              have hbn : badNd l kd (i + 1) = badNd l kd i := badNd_no (by rw [hp, Int.toNat_natCast, gd]; exact fun hh => hh.2 h5)
              exact ⟨h3, _, j, by rw [wrap64 (by omega)]; rfl, by rw [hbn], rfl, by rw [hbn]; exact app_old hj _⟩
            · simp only [go_sem, Nat.reduceBEq, Nat.reduceAdd, Nat.reduceMul, Nat.reduceSub, Nat.reduceLeDiff, Nat.le_refl, implies_true, Nat.reduceLT, reduceIte, decide_true, decide_false, true_and, and_true, reduceCtorEq, Nat.mul_one, Int.reduceToNat, Int.reduceLE, Int.reduceLT, Int.reduceAdd, Int.reduceSub, Int.reduceMul, Int.cast_ofNat_Int, cast_zero_int, cast_one_int, Nat.reducePow, Nat.reduceEqDiff, Nat.reduceMod, Nat.zero_add, Nat.sub_zero, Nat.add_zero, dect h5, hp, e0, e1, e7, e6, app_old hj, List.length_map, show (badNd l kd i).length ≤ 9223372036854775806 by omega, show ((badNd l kd i).length + 1) * 8 ≤ 140737488355328 by omega]
              have hbn : badNd l kd (i + 1) = badNd l kd i ++ [((i + 1 : Nat) : Int)] := badNd_yes (by rw [hp, Int.toNat_natCast, gd]; exact ⟨by omega, h5⟩)
              exact ⟨h3, _, t.length + (t2.length + (t3.length + 1)), by rw [wrap64 (by omega)]; rfl, by rw [hbn, List.length_append]; rfl, rfl, by rw [hbn, List.map_append]; exact new_endN (by simp)⟩
          · simp only [go_sem, Nat.reduceBEq, Nat.reduceAdd, Nat.reduceMul, Nat.reduceSub, Nat.reduceLeDiff, Nat.le_refl, implies_true, Nat.reduceLT, reduceIte, decide_true, decide_false, true_and, and_true, reduceCtorEq, Nat.mul_one, Int.reduceToNat, Int.reduceLE, Int.reduceLT, Int.reduceAdd, Int.reduceSub, Int.reduceMul, Int.cast_ofNat_Int, cast_zero_int, cast_one_int, Nat.reducePow, Nat.reduceEqDiff, Nat.reduceMod, Nat.zero_add, Nat.sub_zero, Nat.add_zero, h4, e0, e1, e7, e6]
            have hbn : badNd l kd (i + 1) = badNd l kd i := badNd_no (fun hh => h4 hh.1)
            exact ⟨h3, _, j, by rw [wrap64 (by omega)]; rfl, by rw [hbn], rfl, by rw [hbn]; exact app_old hj _⟩
        · simp only [go_sem, Nat.reduceBEq, Nat.reduceAdd, Nat.reduceMul, Nat.reduceSub, Nat.reduceLeDiff, Nat.le_refl, implies_true, Nat.reduceLT, reduceIte, decide_true, decide_false, true_and, and_true, reduceCtorEq, Nat.mul_one, Int.reduceToNat, Int.reduceLE, Int.reduceLT, Int.reduceAdd, Int.reduceSub, Int.reduceMul, Int.cast_ofNat_Int, cast_zero_int, cast_one_int, Nat.reducePow, Nat.reduceEqDiff, Nat.reduceMod, Nat.zero_add, Nat.sub_zero, Nat.add_zero, show ¬ (((i + 1 : Nat) : Int) ≤ 8) by omega, e6]
          obtain rfl : i = 8 := by omega
          have hl : badNodes l kd = badNd l kd 8 := by rw [badNodes, if_pos hn]
          refine ⟨_, by rw [decide_eq_true hn], ?_⟩
          rw [hl]
          exact FI.at (by omega) (by have := (List.getElem?_eq_some_iff.1 hj).1; omega) (by rw [hget_app, hj])
    · simp only [go_sem, Nat.reduceBEq, Nat.reduceAdd, Nat.reduceMul, Nat.reduceSub, Nat.reduceLeDiff, Nat.le_refl, implies_true, Nat.reduceLT, reduceIte, decide_true, decide_false, true_and, and_true, reduceCtorEq, Nat.mul_one, Int.reduceToNat, Int.reduceLE, Int.reduceLT, Int.reduceAdd, Int.reduceSub, Int.reduceMul, Int.cast_ofNat_Int, cast_zero_int, cast_one_int, Nat.reducePow, Nat.reduceEqDiff, Nat.reduceMod, Nat.zero_add, Nat.sub_zero, Nat.add_zero, decb h1, dect h2]
      exact bad (fun hh => h2 hh.2) _ _ _
  · simp only [go_sem, Nat.reduceBEq, Nat.reduceAdd, Nat.reduceMul, Nat.reduceSub, Nat.reduceLeDiff, Nat.le_refl, implies_true, Nat.reduceLT, reduceIte, decide_true, decide_false, true_and, and_true, reduceCtorEq, Nat.mul_one, Int.reduceToNat, Int.reduceLE, Int.reduceLT, Int.reduceAdd, Int.reduceSub, Int.reduceMul, Int.cast_ofNat_Int, cast_zero_int, cast_one_int, Nat.reducePow, Nat.reduceEqDiff, Nat.reduceMod, Nat.zero_add, Nat.sub_zero, Nat.add_zero, dect h1]
    exact bad (fun hh => h1 hh.1) _ _ _

theorem c_sBadNodes (v : Value) (l : List Smp) (kd : Int) (s : Sl h 4 v (l.map smp)) (hmax : l.length ≤ 1048576) : vCall [] Try.prog M 15 [v, .int .i64 kd] h (fun r h' => (∃ w, r = .tuple #[w, .bool (decide (ndOk l kd))] ∧ FI h.length h'.length h' w (badNodes l kd)) ∧ h <+: h') := by
  obtain ⟨a, hv, _, _⟩ := id s
  rw [List.length_map] at hv
  refine body_of mo Try.func15 rfl (by kernel_rfl) (Nat.le_of_ble_eq_true (by kernel_rfl)) rfl ?_
  subst hv
  simp only [go_sem, Nat.reduceBEq, Nat.reduceAdd, Nat.reduceMul, Nat.reduceSub, Nat.reduceLeDiff, Nat.le_refl, implies_true, Nat.reduceLT, reduceIte, decide_true, decide_false, true_and, and_true, reduceCtorEq, Nat.mul_one, Int.reduceToNat, Int.reduceLE, Int.reduceLT, Int.reduceAdd, Int.reduceSub, Int.reduceMul, Int.cast_ofNat_Int, cast_zero_int, cast_one_int, Nat.reducePow, Nat.reduceEqDiff, Nat.reduceMod, Nat.zero_add, Nat.sub_zero, Nat.add_zero]
  have bad : ¬ ndOk l kd → ∀ (m : Nat) (H : Heap) (a : Option Addr), ∃ w, (Value.tuple #[Value.slice a 0 0, .bool false]) = .tuple #[w, .bool (decide (ndOk l kd))] ∧ FI h.length m H w (badNodes l kd) := fun hn m H a =>
    ⟨_, by rw [decide_eq_false hn], by rw [badNodes, if_neg hn]; exact .nil⟩
  refine ⟨by kernel_rfl, (c_l23Good _ l (s.mono (List.prefix_append _ _)) hmax).use (fun _ m => m) ?_⟩
  rintro _ _ ⟨rfl, ⟨t, rfl⟩⟩
  simp only [go_sem, Nat.reduceBEq, Nat.reduceAdd, Nat.reduceMul, Nat.reduceSub, Nat.reduceLeDiff, Nat.le_refl, implies_true, Nat.reduceLT, reduceIte, decide_true, decide_false, true_and, and_true, reduceCtorEq, Nat.mul_one, Int.reduceToNat, Int.reduceLE, Int.reduceLT, Int.reduceAdd, Int.reduceSub, Int.reduceMul, Int.cast_ofNat_Int, cast_zero_int, cast_one_int, Nat.reducePow, Nat.reduceEqDiff, Nat.reduceMod, Nat.zero_add, Nat.sub_zero, Nat.add_zero]
  by_cases h1 : smpGood l
  · simp only [go_sem, Nat.reduceBEq, Nat.reduceAdd, Nat.reduceMul, Nat.reduceSub, Nat.reduceLeDiff, Nat.le_refl, implies_true, Nat.reduceLT, reduceIte, decide_true, decide_false, true_and, and_true, reduceCtorEq, Nat.mul_one, Int.reduceToNat, Int.reduceLE, Int.reduceLT, Int.reduceAdd, Int.reduceSub, Int.reduceMul, Int.cast_ofNat_Int, cast_zero_int, cast_one_int, Nat.reducePow, Nat.reduceEqDiff, Nat.reduceMod, Nat.zero_add, Nat.sub_zero, Nat.add_zero, decb h1]
    refine ⟨by kernel_rfl, (c_l23Kind _).use (fun _ m => m) ?_⟩
    rintro _ _ ⟨rfl, rfl⟩
    simp only [go_sem, Nat.reduceBEq, Nat.reduceAdd, Nat.reduceMul, Nat.reduceSub, Nat.reduceLeDiff, Nat.le_refl, implies_true, Nat.reduceLT, reduceIte, decide_true, decide_false, true_and, and_true, reduceCtorEq, Nat.mul_one, Int.reduceToNat, Int.reduceLE, Int.reduceLT, Int.reduceAdd, Int.reduceSub, Int.reduceMul, Int.cast_ofNat_Int, cast_zero_int, cast_one_int, Nat.reducePow, Nat.reduceEqDiff, Nat.reduceMod, Nat.zero_add, Nat.sub_zero, Nat.add_zero]
    by_cases h2 : 1 ≤ kd ∧ kd ≤ 4
    · have hn : ndOk l kd := ⟨h1, h2⟩
      simp only [go_sem, Nat.reduceBEq, Nat.reduceAdd, Nat.reduceMul, Nat.reduceSub, Nat.reduceLeDiff, Nat.le_refl, implies_true, Nat.reduceLT, reduceIte, decide_true, decide_false, true_and, and_true, reduceCtorEq, Nat.mul_one, Int.reduceToNat, Int.reduceLE, Int.reduceLT, Int.reduceAdd, Int.reduceSub, Int.reduceMul, Int.cast_ofNat_Int, cast_zero_int, cast_one_int, Nat.reducePow, Nat.reduceEqDiff, Nat.reduceMod, Nat.zero_add, Nat.sub_zero, Nat.add_zero, decb h1, decb h2]
      refine vLoop.count mo 8 (fun i e h' => ∃ (t : Heap) (j : Nat), e 0 = .slice a l.length 0 ∧ e 1 = .int .i64 kd ∧ e 7 = .int .i64 ((i + 1 : Nat) : Int) ∧
        e 6 = .slice (some ⟨h.length + j, 0, none⟩) (badNd l kd i).length 0 ∧ h' = h ++ t ∧ t[j]? = some ⟨(badNd l kd i).map iv, 1, .rw⟩) ?_ ?_
      · exact ⟨[⟨[], 1, .rw⟩] ++ t, 0, rfl, rfl, rfl, rfl, by simp, by simp [badNd]⟩
      · rintro i e _ hi ⟨t, j, e0, e1, e7, e6, rfl, hj⟩
        simp only [go_sem, Nat.reduceBEq, Nat.reduceAdd, Nat.reduceMul, Nat.reduceSub, Nat.reduceLeDiff, Nat.le_refl, implies_true, Nat.reduceLT, reduceIte, decide_true, decide_false, true_and, and_true, reduceCtorEq, Nat.mul_one, Int.reduceToNat, Int.reduceLE, Int.reduceLT, Int.reduceAdd, Int.reduceSub, Int.reduceMul, Int.cast_ofNat_Int, cast_zero_int, cast_one_int, Nat.reducePow, Nat.reduceEqDiff, Nat.reduceMod, Nat.zero_add, Nat.sub_zero, Nat.add_zero, e0, e1, e7, e6]
        have hbl := badNd_len (l := l) (kd := kd) i
        by_cases h3 : i < 8
        · simp only [go_sem, Nat.reduceBEq, Nat.reduceAdd, Nat.reduceMul, Nat.reduceSub, Nat.reduceLeDiff, Nat.le_refl, implies_true, Nat.reduceLT, reduceIte, decide_true, decide_false, true_and, and_true, reduceCtorEq, Nat.mul_one, Int.reduceToNat, Int.reduceLE, Int.reduceLT, Int.reduceAdd, Int.reduceSub, Int.reduceMul, Int.cast_ofNat_Int, cast_zero_int, cast_one_int, Nat.reducePow, Nat.reduceEqDiff, Nat.reduceMod, Nat.zero_add, Nat.sub_zero, Nat.add_zero, e0, e1, e7, e6, show (((i + 1 : Nat) : Int) ≤ 8) by omega]
          have hll := lastN_lt (l := l) (nd := ((i + 1 : Nat) : Int)) (kd := kd) l.length
          refine ⟨by kernel_rfl, (c_l23Last _ l ((i + 1 : Nat) : Int) kd (s.mono (List.prefix_append _ _)) hmax).use (fun _ m => m) ?_⟩
          rintro _ _ ⟨rfl, ⟨t2, rfl⟩⟩
          simp only [go_sem, Nat.reduceBEq, Nat.reduceAdd, Nat.reduceMul, Nat.reduceSub, Nat.reduceLeDiff, Nat.le_refl, implies_true, Nat.reduceLT, reduceIte, decide_true, decide_false, true_and, and_true, reduceCtorEq, Nat.mul_one, Int.reduceToNat, Int.reduceLE, Int.reduceLT, Int.reduceAdd, Int.reduceSub, Int.reduceMul, Int.cast_ofNat_Int, cast_zero_int, cast_one_int, Nat.reducePow, Nat.reduceEqDiff, Nat.reduceMod, Nat.zero_add, Nat.sub_zero, Nat.add_zero, e0, e1, e7, e6]
          by_cases h4 : 0 ≤ lastN l ((i + 1 : Nat) : Int) kd l.length
          · obtain ⟨p, hp⟩ : ∃ p : Nat, lastN l ((i + 1 : Nat) : Int) kd l.length = p := ⟨(lastN l ((i + 1 : Nat) : Int) kd l.length).toNat, by omega⟩
            have hlt : p < l.length := by omega
            have hlt' : p < (l.map smp).length := by simpa using hlt
            obtain ⟨id, o, k, hv, hk, _, hd, hb, hrow, hat⟩ := s.at hlt'
            obtain rfl : a = some ⟨id, o, none⟩ := by simpa using hv
            have hz : (p : Int) < l.length := by omega
            rw [List.getElem_map] at hrow
            simp only [smp] at hrow
            have gd : l.getD p smp0 = l[p] := getDs hlt
            have hnn := offN_nn l[p]
            simp only [go_sem, Nat.reduceBEq, Nat.reduceAdd, Nat.reduceMul, Nat.reduceSub, Nat.reduceLeDiff, Nat.le_refl, implies_true, Nat.reduceLT, reduceIte, decide_true, decide_false, true_and, and_true, reduceCtorEq, Nat.mul_one, Int.reduceToNat, Int.reduceLE, Int.reduceLT, Int.reduceAdd, Int.reduceSub, Int.reduceMul, Int.cast_ofNat_Int, cast_zero_int, cast_one_int, Nat.reducePow, Nat.reduceEqDiff, Nat.reduceMod, Nat.zero_add, Nat.sub_zero, Nat.add_zero, e0, e1, e7, e6, hp, hk, hz, hd, hrow, hb]
            refine ⟨by kernel_rfl, (c_l23Off _ (h1.ok hlt)).use (fun _ m => m) ?_⟩
            rintro _ _ ⟨rfl, ⟨t3, rfl⟩⟩
            simp only [go_sem, Nat.reduceBEq, Nat.reduceAdd, Nat.reduceMul, Nat.reduceSub, Nat.reduceLeDiff, Nat.le_refl, implies_true, Nat.reduceLT, reduceIte, decide_true, decide_false, true_and, and_true, reduceCtorEq, Nat.mul_one, Int.reduceToNat, Int.reduceLE, Int.reduceLT, Int.reduceAdd, Int.reduceSub, Int.reduceMul, Int.cast_ofNat_Int, cast_zero_int, cast_one_int, Nat.reducePow, Nat.reduceEqDiff, Nat.reduceMod, Nat.zero_add, Nat.sub_zero, Nat.add_zero, hp]
            by_cases h5 : off l[p] = 0
            · simp only [go_sem, Nat.reduceBEq, Nat.reduceAdd, Nat.reduceMul, Nat.reduceSub, Nat.reduceLeDiff, Nat.le_refl, implies_true, Nat.reduceLT, reduceIte, decide_true, decide_false, true_and, and_true, reduceCtorEq, Nat.mul_one, Int.reduceToNat, Int.reduceLE, Int.reduceLT, Int.reduceAdd, Int.reduceSub, Int.reduceMul, Int.cast_ofNat_Int, cast_zero_int, cast_one_int, Nat.reducePow, Nat.reduceEqDiff, Nat.reduceMod, Nat.zero_add, Nat.sub_zero, Nat.add_zero, show ¬ (0 < off l[p]) by omega, hp, e0, e1, e7, e6]
              have hbn : badNd l kd (i + 1) = badNd l kd i := badNd_no (by rw [hp, Int.toNat_natCast, gd]; exact fun hh => hh.2 h5)
              exact ⟨h3, _, j, by rw [wrap64 (by omega)]; rfl, by rw [hbn], rfl, by rw [hbn]; exact app_old hj _⟩
            · simp only [go_sem, Nat.reduceBEq, Nat.reduceAdd, Nat.reduceMul, Nat.reduceSub, Nat.reduceLeDiff, Nat.le_refl, implies_true, Nat.reduceLT, reduceIte, decide_true, decide_false, true_and, and_true, reduceCtorEq, Nat.mul_one, Int.reduceToNat, Int.reduceLE, Int.reduceLT, Int.reduceAdd, Int.reduceSub, Int.reduceMul, Int.cast_ofNat_Int, cast_zero_int, cast_one_int, Nat.reducePow, Nat.reduceEqDiff, Nat.reduceMod, Nat.zero_add, Nat.sub_zero, Nat.add_zero, show 0 < off l[p] by omega, hp, e0, e1, e7, e6, app_old hj, List.length_map, show (badNd l kd i).length ≤ 9223372036854775806 by omega, show ((badNd l kd i).length + 1) * 8 ≤ 140737488355328 by omega]
              have hbn : badNd l kd (i + 1) = badNd l kd i ++ [((i + 1 : Nat) : Int)] := badNd_yes (by rw [hp, Int.toNat_natCast, gd]; exact ⟨by omega, h5⟩)
              exact ⟨h3, _, t.length + (t2.length + (t3.length + 1)), by rw [wrap64 (by omega)]; rfl, by rw [hbn, List.length_append]; rfl, rfl, by rw [hbn, List.map_append]; exact new_endN (by simp)⟩
          · simp only [go_sem, Nat.reduceBEq, Nat.reduceAdd, Nat.reduceMul, Nat.reduceSub, Nat.reduceLeDiff, Nat.le_refl, implies_true, Nat.reduceLT, reduceIte, decide_true, decide_false, true_and, and_true, reduceCtorEq, Nat.mul_one, Int.reduceToNat, Int.reduceLE, Int.reduceLT, Int.reduceAdd, Int.reduceSub, Int.reduceMul, Int.cast_ofNat_Int, cast_zero_int, cast_one_int, Nat.reducePow, Nat.reduceEqDiff, Nat.reduceMod, Nat.zero_add, Nat.sub_zero, Nat.add_zero, h4, e0, e1, e7, e6]
            have hbn : badNd l kd (i + 1) = badNd l kd i := badNd_no (fun hh => h4 hh.1)
            exact ⟨h3, _, j, by rw [wrap64 (by omega)]; rfl, by rw [hbn], rfl, by rw [hbn]; exact app_old hj _⟩
        · simp only [go_sem, Nat.reduceBEq, Nat.reduceAdd, Nat.reduceMul, Nat.reduceSub, Nat.reduceLeDiff, Nat.le_refl, implies_true, Nat.reduceLT, reduceIte, decide_true, decide_false, true_and, and_true, reduceCtorEq, Nat.mul_one, Int.reduceToNat, Int.reduceLE, Int.reduceLT, Int.reduceAdd, Int.reduceSub, Int.reduceMul, Int.cast_ofNat_Int, cast_zero_int, cast_one_int, Nat.reducePow, Nat.reduceEqDiff, Nat.reduceMod, Nat.zero_add, Nat.sub_zero, Nat.add_zero, show ¬ (((i + 1 : Nat) : Int) ≤ 8) by omega, e6]
          obtain rfl : i = 8 := by omega
          have hl : badNodes l kd = badNd l kd 8 := by rw [badNodes, if_pos hn]
          refine ⟨_, by rw [decide_eq_true hn], ?_⟩
          rw [hl]
          exact FI.at (by omega) (by have := (List.getElem?_eq_some_iff.1 hj).1; omega) (by rw [hget_app, hj])
    · simp only [go_sem, Nat.reduceBEq, Nat.reduceAdd, Nat.reduceMul, Nat.reduceSub, Nat.reduceLeDiff, Nat.le_refl, implies_true, Nat.reduceLT, reduceIte, decide_true, decide_false, true_and, and_true, reduceCtorEq, Nat.mul_one, Int.reduceToNat, Int.reduceLE, Int.reduceLT, Int.reduceAdd, Int.reduceSub, Int.reduceMul, Int.cast_ofNat_Int, cast_zero_int, cast_one_int, Nat.reducePow, Nat.reduceEqDiff, Nat.reduceMod, Nat.zero_add, Nat.sub_zero, Nat.add_zero, decb h1, dect h2]
      exact bad (fun hh => h2 hh.2) _ _ _
  · simp only [go_sem, Nat.reduceBEq, Nat.reduceAdd, Nat.reduceMul, Nat.reduceSub, Nat.reduceLeDiff, Nat.le_refl, implies_true, Nat.reduceLT, reduceIte, decide_true, decide_false, true_and, and_true, reduceCtorEq, Nat.mul_one, Int.reduceToNat, Int.reduceLE, Int.reduceLT, Int.reduceAdd, Int.reduceSub, Int.reduceMul, Int.cast_ofNat_Int, cast_zero_int, cast_one_int, Nat.reducePow, Nat.reduceEqDiff, Nat.reduceMod, Nat.zero_add, Nat.sub_zero, Nat.add_zero, dect h1]
    exact bad (fun hh => h1 hh.1) _ _ _

end


end Go.Proofs.Ytfolkgkcaiaifaa
