
/- Go's stable merge in place: one element on a side. No condition. -/
import Derived.Test.YtfolkgkcaiaifaaMrgB
namespace Go.Proofs.Ytfolkgkcaiaifaa
open Go.HH
set_option linter.unusedSimpArgs false
set_option linter.unusedVariables false

section
variable {α : Type} {key : α → Int}
/-- One element on its way up. -/
structure Ups (key : α → Int) (T X : List (α × Nat)) (a b k : Nat) : Prop where
  mv : Mv a b T X
  here : X[k]? = T[a]?
  lo : ∀ p, a ≤ p → p < k → X[p]? = T[p + 1]?
  hi : ∀ p, k < p → X[p]? = T[p]?
theorem Ups.start {T : List (α × Nat)} {a b : Nat} : Ups key T T a b a :=
  ⟨Mv.refl _ _ _, rfl, fun p h1 h2 => absurd h1 (by omega), fun _ _ => rfl⟩
theorem Ups.step {T X : List (α × Nat)} {a b k : Nat} (s : Ups key T X a b k) (hT : b ≤ T.length) (h1 : a ≤ k) (h2 : k + 1 < b) : Ups key T (swp X k (k + 1)) a b (k + 1) := by
  have hX : X.length = T.length := s.mv.len
  have hj : k < X.length := by omega
  have hj' : k + 1 < X.length := by omega
  refine ⟨s.mv.trans (swp_mv (by omega) (by omega) (by omega) (by omega) (by omega)), ?_, fun p p1 p2 => ?_, fun p hp => ?_⟩
  · rw [swp_at hj hj', if_pos rfl, s.here]
  · rw [swp_at hj hj', if_neg (by omega)]
    by_cases q : p = k
    · rw [if_pos q, s.hi (k + 1) (by omega), q]
    · rw [if_neg q, s.lo p p1 (by omega)]
  · rw [swp_at hj hj', if_neg (by omega), if_neg (by omega), s.hi p (by omega)]
theorem Ups.done {T X : List (α × Nat)} {a b k : Nat} (s : Ups key T X a b k) (ss : Srt key T (a + 1) b) (h1 : a ≤ k) (h2 : k < b)
    (hb : ∀ p u x, a + 1 ≤ p → p < k + 1 → T[p]? = some u → T[a]? = some x → Rk key u x) (hu : ∀ p u x, k + 1 ≤ p → p < b → T[p]? = some u → T[a]? = some x → Rk key x u) : Srt key X a b := by
  intro p q u v p1 p2 p3 hp hq
  by_cases c1 : p < k
  · rw [s.lo p p1 c1] at hp
    by_cases c2 : q < k
    · rw [s.lo q (by omega) c2] at hq
      exact ss (p + 1) (q + 1) u v (by omega) (by omega) (by omega) hp hq
    · by_cases c3 : q = k
      · subst c3
        rw [s.here] at hq
        exact hb (p + 1) u v (by omega) (by omega) hp hq
      · rw [s.hi q (by omega)] at hq
        exact ss (p + 1) q u v (by omega) (by omega) (by omega) hp hq
  · by_cases c3 : p = k
    · subst c3
      rw [s.here] at hp
      rw [s.hi q (by omega)] at hq
      exact hu q v u (by omega) p3 hq hp
    · rw [s.hi p (by omega)] at hp
      rw [s.hi q (by omega)] at hq
      exact ss p q u v (by omega) (by omega) (by omega) hp hq
theorem rot_none {T : List α} {a m b : Nat} (h : a = m ∨ m = b) : IsRot T T a m b := by
  refine ⟨.refl _, fun x => ?_⟩
  rw [rotA]
  repeat' split
  all_goals first | rfl | (exfalso; omega) | (congr 1; omega)
theorem cut_num {T T' : List (α × Nat)} {a m b mid start : Nat} (n : Num T a m b) (ham : a ≤ start) (hsm : start ≤ m) (hsd : start ≤ mid) (hmb : m ≤ mid + m - start) (hb : mid + m - start ≤ b)
    (r : IsRot T T' start m (mid + m - start)) : Num T' a start mid ∧ Num T' mid (mid + m - start) b := by
  have at1 : ∀ x, x < start → T'[x]? = T[x]? := fun x hx => by rw [r.2, rotA, if_neg (by omega), if_neg (by omega)]
  have at2 : ∀ x, start ≤ x → x < mid → T'[x]? = T[x - start + m]? := fun x h1 h2 => by rw [r.2, rotA, if_pos (by omega)]
  have at3 : ∀ x, mid ≤ x → x < mid + m - start → T'[x]? = T[x - (mid - start)]? := fun x h1 h2 => by
    rw [r.2, rotA, if_neg (by omega), if_pos (by omega)]; congr 1; omega
  have at4 : ∀ x, mid + m - start ≤ x → T'[x]? = T[x]? := fun x h1 => by rw [r.2, rotA, if_neg (by omega), if_neg (by omega)]
  refine ⟨fun i j u v h1 h2 h3 h4 hu hv => ?_, fun i j u v h1 h2 h3 h4 hu hv => ?_⟩
  · rw [at1 i h2] at hu
    rw [at2 j h3 h4] at hv
    exact n i _ u v h1 (by omega) (by omega) (by omega) hu hv
  · rw [at3 i h1 h2] at hu
    rw [at4 j h3] at hv
    exact n _ j u v (by omega) (by omega) (by omega) h4 hu hv
theorem Num.mv {T T' : List (α × Nat)} {a m b : Nat} (n : Num T a m b) (h : ∀ i, a ≤ i → i < b → T'[i]? = T[i]?) : Num T' a m b := fun i j u v h1 h2 h3 h4 hu hv =>
  n i j u v h1 h2 h3 h4 (by rw [← h i h1 (by omega)]; exact hu) (by rw [← h j (by omega) h4]; exact hv)
end
theorem sh_half {n : Nat} (hn : n ≤ 4000) : hBin .shr (.int .u64 (IntKind.u64.wrap (n : Int))) (.int .u64 1) = some (.int .u64 ((n / 2 : Nat) : Int)) := by
  have e : IntKind.u64.wrap (n : Int) = (n : Int) := by
    simp [IntKind.wrap, IntKind.bits, IntKind.signed]
    omega
  rw [e, hBin_shr (by decide)]
  have e2 : (2 : Int) ^ (min (1 : Int).toNat IntKind.u64.bits) = 2 := by decide
  rw [e2, Int.fdiv_eq_ediv_of_nonneg _ (by decide)]
  rfl
section
variable {h : Heap} {M : Nat → Prop}
theorem c_symOne (id : Nat) (T : List (Smp × Nat)) (a b : Nat) (hg : hget h id = some ⟨datT T, 4, .rw⟩) (hM : M id) (h1 : a + 1 < b) (h3 : b ≤ T.length) (hmax : T.length ≤ 1000) (hd : Days T) (hn : Num T a (a + 1) b) (sr : Srt dayK T (a + 1) b) :
    vCall [] Try.prog M 57 [.slice (some ⟨id, 0, none⟩) T.length 0, .int .i64 a, .int .i64 ((a + 1 : Nat) : Int), .int .i64 b, .func (.func 29) #[] #[]] h
      (fun r h' => r = .tuple #[] ∧ ∃ X t, Mv a b T X ∧ Srt dayK X a b ∧ h' = h.set id ⟨datT X, 4, .rw⟩ ++ t) := by
  have hown : own h.length M id := Or.inr hM
  have hidl := hget_lt hg
  obtain ⟨x, hx⟩ : ∃ x, T[a]? = some x := ⟨_, List.getElem?_eq_getElem (by omega)⟩
  have gx : T[a]'(by omega) = x := by
    rw [List.getElem?_eq_getElem (by omega)] at hx
    exact Option.some.inj hx
  refine body_of mo Try.func57 rfl (by kernel_rfl) (Nat.le_of_ble_eq_true (by kernel_rfl)) rfl ?_
  have w0 : IntKind.i64.wrap (((a + 1 : Nat) : Int) - a) = 1 := by rw [wrap64 (by omega)]; omega
  simp only [go_sem, Nat.reduceBEq, Nat.reduceAdd, Nat.reduceMul, Nat.reduceSub, Nat.reduceLeDiff, Nat.le_refl, implies_true, Nat.reduceLT, reduceIte, decide_true, decide_false, true_and, and_true, reduceCtorEq, Nat.mul_one, Int.reduceToNat, Int.reduceLE, Int.reduceLT, Int.reduceAdd, Int.reduceSub, Int.reduceMul, Int.cast_ofNat_Int, cast_zero_int, cast_one_int, Nat.reducePow, Nat.reduceEqDiff, Nat.reduceMod, Nat.zero_add, Nat.sub_zero, Nat.add_zero, w0, beq_self_eq_true]
  refine vLoop.rank mo (b - (a + 1)) (fun k e h' => ∃ (i j : Nat) (t : Heap), k = j - i ∧ (a + 1 ≤ i ∧ i ≤ j ∧ j ≤ b) ∧ (∀ p u, a + 1 ≤ p → p < i → T[p]? = some u → Rk dayK u x) ∧ (∀ p u, j ≤ p → p < b → T[p]? = some u → Rk dayK x u) ∧
    e 0 = .slice (some ⟨id, 0, none⟩) T.length 0 ∧ e 1 = .int .i64 a ∧ e 4 = .func (.func 29) #[] #[] ∧ e 10 = .int .i64 i ∧ e 11 = .int .i64 j ∧ HeapIs h' (h ++ t)) ?_ ?_
  · exact ⟨a + 1, b, [], rfl, ⟨by omega, by omega, by omega⟩, fun p u p1 p2 => absurd p2 (by omega), fun p u p1 p2 => absurd p2 (by omega), rfl, rfl, rfl, rfl, rfl, by rw [List.append_nil]; exact HeapIs.rfl⟩
  · rintro k e _ ⟨i, j, t, rfl, ⟨i1, i2, i3⟩, lo, up, e0, e1, e4, e10, e11, rfl⟩
    simp only [go_sem, Nat.reduceBEq, Nat.reduceAdd, Nat.reduceMul, Nat.reduceSub, Nat.reduceLeDiff, Nat.le_refl, implies_true, Nat.reduceLT, reduceIte, decide_true, decide_false, true_and, and_true, reduceCtorEq, Nat.mul_one, Int.reduceToNat, Int.reduceLE, Int.reduceLT, Int.reduceAdd, Int.reduceSub, Int.reduceMul, Int.cast_ofNat_Int, cast_zero_int, cast_one_int, Nat.reducePow, Nat.reduceEqDiff, Nat.reduceMod, Nat.zero_add, Nat.sub_zero, Nat.add_zero, e0, e1, e4, e10, e11]
    by_cases hij : i < j
    · have w1 : IntKind.i64.wrap ((i : Int) + j) = ((i + j : Nat) : Int) := by rw [wrap64 (by omega)]; omega
      obtain ⟨c, hc⟩ : ∃ c, (i + j) / 2 = c := ⟨_, rfl⟩
      have w2 : IntKind.i64.wrap ((c : Nat) : Int) = (c : Int) := wrap64 (by omega)
      have s2 := sh_half (n := i + j) (by omega)
      rw [hc] at s2
      have hcT : c < T.length := by omega
      have r1 := datT_row (T := T) (i := c) hcT
      have r2 := datT_row (T := T) (i := a) (by omega)
      rw [gx] at r2
      simp only [smp] at r1 r2
      have hl : (datT T).length = T.length * 4 := datT_len T
      simp only [go_sem, Nat.reduceBEq, Nat.reduceAdd, Nat.reduceMul, Nat.reduceSub, Nat.reduceLeDiff, Nat.le_refl, implies_true, Nat.reduceLT, reduceIte, decide_true, decide_false, true_and, and_true, reduceCtorEq, Nat.mul_one, Int.reduceToNat, Int.reduceLE, Int.reduceLT, Int.reduceAdd, Int.reduceSub, Int.reduceMul, Int.cast_ofNat_Int, cast_zero_int, cast_one_int, Nat.reducePow, Nat.reduceEqDiff, Nat.reduceMod, Nat.zero_add, Nat.sub_zero, Nat.add_zero, e0, e1, e4, e10, e11, show (i : Int) < j by omega, w1, s2, w2, show (c : Int) < T.length by omega, show (a : Int) < T.length by omega, self_get hg, r1, r2, hl, show c * 4 + 4 ≤ T.length * 4 by omega, show a * 4 + 4 ≤ T.length * 4 by omega]
      refine ⟨by kernel_rfl, (c_cmpDay _ _ (hd.at hcT) (by rw [← gx]; exact hd.at (by omega))).use (fun _ m => m) ?_⟩
      rintro _ _ ⟨rfl, ⟨t2, rfl⟩⟩
      have hcx : T[c]? = some T[c] := List.getElem?_eq_getElem hcT
      have num := hn a c _ _ (Nat.le_refl _) (by omega) (by omega) (by omega) hx hcx
      by_cases hk2 : T[c].1.1 - x.1.1 < 0
      · simp only [go_sem, Nat.reduceBEq, Nat.reduceAdd, Nat.reduceMul, Nat.reduceSub, Nat.reduceLeDiff, Nat.le_refl, implies_true, Nat.reduceLT, reduceIte, decide_true, decide_false, true_and, and_true, reduceCtorEq, Nat.mul_one, Int.reduceToNat, Int.reduceLE, Int.reduceLT, Int.reduceAdd, Int.reduceSub, Int.reduceMul, Int.cast_ofNat_Int, cast_zero_int, cast_one_int, Nat.reducePow, Nat.reduceEqDiff, Nat.reduceMod, Nat.zero_add, Nat.sub_zero, Nat.add_zero, e0, e1, e4, e10, e11, show (i : Int) < j by omega, hk2, List.append_assoc]
        refine ⟨j - (c + 1), by omega, c + 1, j, t ++ t2, rfl, ⟨by omega, by omega, by omega⟩, fun p u p1 p2 hp => ?_, up, congrArg _ (by rw [wrap64 (by omega)]; omega), rfl, HeapIs.rfl⟩
        have e1 : Rk dayK T[c] x := .inl (by show T[c].1.1 < x.1.1; omega)
        by_cases e : p = c
        · subst e
          obtain rfl := Option.some.inj (hcx.symm.trans hp)
          exact e1
        · exact (sr p c u _ p1 (by omega) (by omega) hp hcx).trans dayK e1
      · simp only [go_sem, Nat.reduceBEq, Nat.reduceAdd, Nat.reduceMul, Nat.reduceSub, Nat.reduceLeDiff, Nat.le_refl, implies_true, Nat.reduceLT, reduceIte, decide_true, decide_false, true_and, and_true, reduceCtorEq, Nat.mul_one, Int.reduceToNat, Int.reduceLE, Int.reduceLT, Int.reduceAdd, Int.reduceSub, Int.reduceMul, Int.cast_ofNat_Int, cast_zero_int, cast_one_int, Nat.reducePow, Nat.reduceEqDiff, Nat.reduceMod, Nat.zero_add, Nat.sub_zero, Nat.add_zero, e0, e1, e4, e10, e11, show (i : Int) < j by omega, hk2, List.append_assoc]
        refine ⟨c - i, by omega, i, c, t ++ t2, rfl, ⟨by omega, by omega, by omega⟩, lo, fun p u p1 p2 hp => ?_, rfl, rfl, HeapIs.rfl⟩
        have e1 : Rk dayK x T[c] := by
          by_cases e : x.1.1 = T[c].1.1
          · exact .inr ⟨e, num⟩
          · exact .inl (by show x.1.1 < T[c].1.1; omega)
        by_cases e : p = c
        · subst e
          obtain rfl := Option.some.inj (hcx.symm.trans hp)
          exact e1
        · exact e1.trans dayK (sr c p _ u (by omega) (by omega) p2 hcx hp)
    · obtain rfl : i = j := by omega
      simp only [go_sem, Nat.reduceBEq, Nat.reduceAdd, Nat.reduceMul, Nat.reduceSub, Nat.reduceLeDiff, Nat.le_refl, implies_true, Nat.reduceLT, reduceIte, decide_true, decide_false, true_and, and_true, reduceCtorEq, Nat.mul_one, Int.reduceToNat, Int.reduceLE, Int.reduceLT, Int.reduceAdd, Int.reduceSub, Int.reduceMul, Int.cast_ofNat_Int, cast_zero_int, cast_one_int, Nat.reducePow, Nat.reduceEqDiff, Nat.reduceMod, Nat.zero_add, Nat.sub_zero, Nat.add_zero, e0, e1, e4, e10, e11, show ¬ (i : Int) < i by omega]
      refine vLoop.count mo (i - 1 - a) (fun k e h' => ∃ (X : List (Smp × Nat)), Ups dayK T X a b (a + k) ∧ e 0 = .slice (some ⟨id, 0, none⟩) T.length 0 ∧ e 10 = .int .i64 i ∧ e 13 = .int .i64 ((a + k : Nat) : Int) ∧ HeapIs h' (h.set id ⟨datT X, 4, .rw⟩ ++ t)) ?_ ?_
      · exact ⟨T, Ups.start, by simp [upd, e0], by simp [upd, e10], by simp [upd], by rw [set_self_get hg]; exact HeapIs.rfl⟩
      · rintro k e _ hk ⟨X, sX, e0, e10, e13, rfl⟩
        have hX : X.length = T.length := sX.mv.len
        have w3 : IntKind.i64.wrap ((i : Int) - 1) = ((i - 1 : Nat) : Int) := by rw [wrap64 (by omega)]; omega
        simp only [go_sem, Nat.reduceBEq, Nat.reduceAdd, Nat.reduceMul, Nat.reduceSub, Nat.reduceLeDiff, Nat.le_refl, implies_true, Nat.reduceLT, reduceIte, decide_true, decide_false, true_and, and_true, reduceCtorEq, Nat.mul_one, Int.reduceToNat, Int.reduceLE, Int.reduceLT, Int.reduceAdd, Int.reduceSub, Int.reduceMul, Int.cast_ofNat_Int, cast_zero_int, cast_one_int, Nat.reducePow, Nat.reduceEqDiff, Nat.reduceMod, Nat.zero_add, Nat.sub_zero, Nat.add_zero, e0, e10, e13, w3]
        by_cases hlt : k < i - 1 - a
        · have w4 : IntKind.i64.wrap (((a + k : Nat) : Int) + 1) = ((a + k + 1 : Nat) : Int) := by rw [wrap64 (by omega)]; omega
          have jT : a + k < X.length := by omega
          have jT' : a + k + 1 < X.length := by omega
          have r1 := datT_row (T := X) (i := a + k) jT
          have r2 := datT_row (T := X) (i := a + k + 1) jT'
          have s1 := datT_set1 (T := X) (i := a + k) (j := a + k + 1) jT jT'
          have s2 := datT_set2 (T := X) (i := a + k) (j := a + k + 1) jT jT'
          have hl : (datT X).length = T.length * 4 := by rw [datT_len, hX]
          have hl2 : (datT (X.set (a + k) X[a + k + 1])).length = T.length * 4 := by rw [datT_len, List.length_set, hX]
          simp only [go_sem, Nat.reduceBEq, Nat.reduceAdd, Nat.reduceMul, Nat.reduceSub, Nat.reduceLeDiff, Nat.le_refl, implies_true, Nat.reduceLT, reduceIte, decide_true, decide_false, true_and, and_true, reduceCtorEq, Nat.mul_one, Int.reduceToNat, Int.reduceLE, Int.reduceLT, Int.reduceAdd, Int.reduceSub, Int.reduceMul, Int.cast_ofNat_Int, cast_zero_int, cast_one_int, Nat.reducePow, Nat.reduceEqDiff, Nat.reduceMod, Nat.zero_add, Nat.sub_zero, Nat.add_zero, e0, e10, e13, show ((a + k : Nat) : Int) < ((i - 1 : Nat) : Int) by omega, w3, w4, show ((a + k : Nat) : Int) < T.length by omega, show ((a + k + 1 : Nat) : Int) < T.length by omega, hgs hidl, sts hidl, r1, r2, hl, hl2, hown, s1, s2, smp_l4, smp_one, List.length_append, List.length_set, show (a + k) * 4 + 4 ≤ T.length * 4 by omega, show (a + k + 1) * 4 + 4 ≤ T.length * 4 by omega]
          exact ⟨hlt, _, sX.step h3 (by omega) (by omega), by simp only [Nat.add_assoc], rfl⟩
        · simp only [go_sem, Nat.reduceBEq, Nat.reduceAdd, Nat.reduceMul, Nat.reduceSub, Nat.reduceLeDiff, Nat.le_refl, implies_true, Nat.reduceLT, reduceIte, decide_true, decide_false, true_and, and_true, reduceCtorEq, Nat.mul_one, Int.reduceToNat, Int.reduceLE, Int.reduceLT, Int.reduceAdd, Int.reduceSub, Int.reduceMul, Int.cast_ofNat_Int, cast_zero_int, cast_one_int, Nat.reducePow, Nat.reduceEqDiff, Nat.reduceMod, Nat.zero_add, Nat.sub_zero, Nat.add_zero, e0, e10, e13, show ¬ ((a + k : Nat) : Int) < ((i - 1 : Nat) : Int) by omega]
          refine ⟨X, t, sX.mv, sX.done sr (by omega) (by omega) (fun p u x' p1 p2 hp hx' => ?_) (fun p u x' p1 p2 hp hx' => ?_), rfl⟩
          · obtain rfl := Option.some.inj (hx.symm.trans hx')
            exact lo p u p1 (by omega) hp
          · obtain rfl := Option.some.inj (hx.symm.trans hx')
            exact up p u (by omega) p2 hp
theorem c_symLast (id : Nat) (T : List (Smp × Nat)) (a m : Nat) (hg : hget h id = some ⟨datT T, 4, .rw⟩) (hM : M id) (h1 : a + 1 < m) (h3 : m + 1 ≤ T.length) (hmax : T.length ≤ 1000) (hd : Days T) (hn : Num T a m (m + 1)) (sl : Srt dayK T a m) :
    vCall [] Try.prog M 57 [.slice (some ⟨id, 0, none⟩) T.length 0, .int .i64 a, .int .i64 m, .int .i64 ((m + 1 : Nat) : Int), .func (.func 29) #[] #[]] h
      (fun r h' => r = .tuple #[] ∧ ∃ X t, Mv a (m + 1) T X ∧ Srt dayK X a (m + 1) ∧ h' = h.set id ⟨datT X, 4, .rw⟩ ++ t) := by
  have hown : own h.length M id := Or.inr hM
  have hidl := hget_lt hg
  obtain ⟨x, hx⟩ : ∃ x, T[m]? = some x := ⟨_, List.getElem?_eq_getElem (by omega)⟩
  have gx : T[m]'(by omega) = x := by
    rw [List.getElem?_eq_getElem (by omega)] at hx
    exact Option.some.inj hx
  refine body_of mo Try.func57 rfl (by kernel_rfl) (Nat.le_of_ble_eq_true (by kernel_rfl)) rfl ?_
  have w0 : IntKind.i64.wrap ((m : Int) - a) = ((m - a : Nat) : Int) := by rw [wrap64 (by omega)]; omega
  have w00 : IntKind.i64.wrap (((m + 1 : Nat) : Int) - m) = 1 := by rw [wrap64 (by omega)]; omega
  simp only [go_sem, Nat.reduceBEq, Nat.reduceAdd, Nat.reduceMul, Nat.reduceSub, Nat.reduceLeDiff, Nat.le_refl, implies_true, Nat.reduceLT, reduceIte, decide_true, decide_false, true_and, and_true, reduceCtorEq, Nat.mul_one, Int.reduceToNat, Int.reduceLE, Int.reduceLT, Int.reduceAdd, Int.reduceSub, Int.reduceMul, Int.cast_ofNat_Int, cast_zero_int, cast_one_int, Nat.reducePow, Nat.reduceEqDiff, Nat.reduceMod, Nat.zero_add, Nat.sub_zero, Nat.add_zero, w0, w00, show (((m - a : Nat) : Int) == 1) = false by simp; omega, beq_self_eq_true]
  refine vLoop.rank mo (m - a) (fun k e h' => ∃ (i j : Nat) (t : Heap), k = j - i ∧ (a ≤ i ∧ i ≤ j ∧ j ≤ m) ∧ (∀ p u, a ≤ p → p < i → T[p]? = some u → Rk dayK u x) ∧ (∀ p u, j ≤ p → p < m → T[p]? = some u → Rk dayK x u) ∧
    e 0 = .slice (some ⟨id, 0, none⟩) T.length 0 ∧ e 2 = .int .i64 m ∧ e 4 = .func (.func 29) #[] #[] ∧ e 14 = .int .i64 i ∧ e 15 = .int .i64 j ∧ HeapIs h' (h ++ t)) ?_ ?_
  · exact ⟨a, m, [], rfl, ⟨by omega, by omega, by omega⟩, fun p u p1 p2 => absurd p2 (by omega), fun p u p1 p2 => absurd p2 (by omega), rfl, rfl, rfl, rfl, rfl, by rw [List.append_nil]; exact HeapIs.rfl⟩
  · rintro k e _ ⟨i, j, t, rfl, ⟨i1, i2, i3⟩, lo, up, e0, e2, e4, e14, e15, rfl⟩
    simp only [go_sem, Nat.reduceBEq, Nat.reduceAdd, Nat.reduceMul, Nat.reduceSub, Nat.reduceLeDiff, Nat.le_refl, implies_true, Nat.reduceLT, reduceIte, decide_true, decide_false, true_and, and_true, reduceCtorEq, Nat.mul_one, Int.reduceToNat, Int.reduceLE, Int.reduceLT, Int.reduceAdd, Int.reduceSub, Int.reduceMul, Int.cast_ofNat_Int, cast_zero_int, cast_one_int, Nat.reducePow, Nat.reduceEqDiff, Nat.reduceMod, Nat.zero_add, Nat.sub_zero, Nat.add_zero, e0, e2, e4, e14, e15]
    by_cases hij : i < j
    · have w1 : IntKind.i64.wrap ((i : Int) + j) = ((i + j : Nat) : Int) := by rw [wrap64 (by omega)]; omega
      obtain ⟨c, hc⟩ : ∃ c, (i + j) / 2 = c := ⟨_, rfl⟩
      have w2 : IntKind.i64.wrap ((c : Nat) : Int) = (c : Int) := wrap64 (by omega)
      have s2 := sh_half (n := i + j) (by omega)
      rw [hc] at s2
      have hcT : c < T.length := by omega
      have r1 := datT_row (T := T) (i := c) hcT
      have r2 := datT_row (T := T) (i := m) (by omega)
      rw [gx] at r2
      simp only [smp] at r1 r2
      have hl : (datT T).length = T.length * 4 := datT_len T
      simp only [go_sem, Nat.reduceBEq, Nat.reduceAdd, Nat.reduceMul, Nat.reduceSub, Nat.reduceLeDiff, Nat.le_refl, implies_true, Nat.reduceLT, reduceIte, decide_true, decide_false, true_and, and_true, reduceCtorEq, Nat.mul_one, Int.reduceToNat, Int.reduceLE, Int.reduceLT, Int.reduceAdd, Int.reduceSub, Int.reduceMul, Int.cast_ofNat_Int, cast_zero_int, cast_one_int, Nat.reducePow, Nat.reduceEqDiff, Nat.reduceMod, Nat.zero_add, Nat.sub_zero, Nat.add_zero, e0, e2, e4, e14, e15, show (i : Int) < j by omega, w1, s2, w2, show (c : Int) < T.length by omega, show (m : Int) < T.length by omega, self_get hg, r1, r2, hl, show c * 4 + 4 ≤ T.length * 4 by omega, show m * 4 + 4 ≤ T.length * 4 by omega]
      refine ⟨by kernel_rfl, (c_cmpDay _ _ (by rw [← gx]; exact hd.at (by omega)) (hd.at hcT)).use (fun _ m => m) ?_⟩
      rintro _ _ ⟨rfl, ⟨t2, rfl⟩⟩
      have hcx : T[c]? = some T[c] := List.getElem?_eq_getElem hcT
      have num := hn c m _ _ (by omega) (by omega) (Nat.le_refl _) (by omega) hcx hx
      by_cases hk2 : x.1.1 - T[c].1.1 < 0
      · simp only [go_sem, Nat.reduceBEq, Nat.reduceAdd, Nat.reduceMul, Nat.reduceSub, Nat.reduceLeDiff, Nat.le_refl, implies_true, Nat.reduceLT, reduceIte, decide_true, decide_false, true_and, and_true, reduceCtorEq, Nat.mul_one, Int.reduceToNat, Int.reduceLE, Int.reduceLT, Int.reduceAdd, Int.reduceSub, Int.reduceMul, Int.cast_ofNat_Int, cast_zero_int, cast_one_int, Nat.reducePow, Nat.reduceEqDiff, Nat.reduceMod, Nat.zero_add, Nat.sub_zero, Nat.add_zero, e0, e2, e4, e14, e15, show (i : Int) < j by omega, hk2, List.append_assoc, Bool.not_true, Bool.not_false]
        refine ⟨c - i, by omega, i, c, t ++ t2, rfl, ⟨by omega, by omega, by omega⟩, lo, fun p u p1 p2 hp => ?_, rfl, rfl, HeapIs.rfl⟩
        have e1 : Rk dayK x T[c] := .inl (by show x.1.1 < T[c].1.1; omega)
        by_cases e : p = c
        · subst e
          obtain rfl := Option.some.inj (hcx.symm.trans hp)
          exact e1
        · exact e1.trans dayK (sl c p _ u (by omega) (by omega) p2 hcx hp)
      · simp only [go_sem, Nat.reduceBEq, Nat.reduceAdd, Nat.reduceMul, Nat.reduceSub, Nat.reduceLeDiff, Nat.le_refl, implies_true, Nat.reduceLT, reduceIte, decide_true, decide_false, true_and, and_true, reduceCtorEq, Nat.mul_one, Int.reduceToNat, Int.reduceLE, Int.reduceLT, Int.reduceAdd, Int.reduceSub, Int.reduceMul, Int.cast_ofNat_Int, cast_zero_int, cast_one_int, Nat.reducePow, Nat.reduceEqDiff, Nat.reduceMod, Nat.zero_add, Nat.sub_zero, Nat.add_zero, e0, e2, e4, e14, e15, show (i : Int) < j by omega, hk2, List.append_assoc, Bool.not_true, Bool.not_false]
        refine ⟨j - (c + 1), by omega, c + 1, j, t ++ t2, rfl, ⟨by omega, by omega, by omega⟩, fun p u p1 p2 hp => ?_, up, congrArg _ (by rw [wrap64 (by omega)]; omega), rfl, HeapIs.rfl⟩
        have e1 : Rk dayK T[c] x := by
          by_cases e : T[c].1.1 = x.1.1
          · exact .inr ⟨e, num⟩
          · exact .inl (by show T[c].1.1 < x.1.1; omega)
        by_cases e : p = c
        · subst e
          obtain rfl := Option.some.inj (hcx.symm.trans hp)
          exact e1
        · exact (sl p c u _ p1 (by omega) (by omega) hp hcx).trans dayK e1
    · obtain rfl : i = j := by omega
      simp only [go_sem, Nat.reduceBEq, Nat.reduceAdd, Nat.reduceMul, Nat.reduceSub, Nat.reduceLeDiff, Nat.le_refl, implies_true, Nat.reduceLT, reduceIte, decide_true, decide_false, true_and, and_true, reduceCtorEq, Nat.mul_one, Int.reduceToNat, Int.reduceLE, Int.reduceLT, Int.reduceAdd, Int.reduceSub, Int.reduceMul, Int.cast_ofNat_Int, cast_zero_int, cast_one_int, Nat.reducePow, Nat.reduceEqDiff, Nat.reduceMod, Nat.zero_add, Nat.sub_zero, Nat.add_zero, e0, e2, e4, e14, e15, show ¬ (i : Int) < i by omega]
      refine vLoop.count mo (m - i) (fun k e h' => ∃ (X : List (Smp × Nat)), Ins dayK T X a m (m - k) ∧ e 0 = .slice (some ⟨id, 0, none⟩) T.length 0 ∧ e 14 = .int .i64 i ∧ e 17 = .int .i64 ((m - k : Nat) : Int) ∧ HeapIs h' (h.set id ⟨datT X, 4, .rw⟩ ++ t)) ?_ ?_
      · exact ⟨T, Ins.start, by simp [upd, e0], by simp [upd, e14], by simp [upd], by rw [set_self_get hg]; exact HeapIs.rfl⟩
      · rintro k e _ hk ⟨X, sX, e0, e14, e17, rfl⟩
        have hX : X.length = T.length := sX.mv.len
        simp only [go_sem, Nat.reduceBEq, Nat.reduceAdd, Nat.reduceMul, Nat.reduceSub, Nat.reduceLeDiff, Nat.le_refl, implies_true, Nat.reduceLT, reduceIte, decide_true, decide_false, true_and, and_true, reduceCtorEq, Nat.mul_one, Int.reduceToNat, Int.reduceLE, Int.reduceLT, Int.reduceAdd, Int.reduceSub, Int.reduceMul, Int.cast_ofNat_Int, cast_zero_int, cast_one_int, Nat.reducePow, Nat.reduceEqDiff, Nat.reduceMod, Nat.zero_add, Nat.sub_zero, Nat.add_zero, e0, e14, e17]
        by_cases hlt : k < m - i
        · have w4 : IntKind.i64.wrap (((m - k : Nat) : Int) - 1) = ((m - k - 1 : Nat) : Int) := by rw [wrap64 (by omega)]; omega
          have jT : m - k < X.length := by omega
          have jT' : m - k - 1 < X.length := by omega
          have r1 := datT_row (T := X) (i := m - k) jT
          have r2 := datT_row (T := X) (i := m - k - 1) jT'
          have s1 := datT_set1 (T := X) (i := m - k) (j := m - k - 1) jT jT'
          have s2 := datT_set2 (T := X) (i := m - k) (j := m - k - 1) jT jT'
          have hl : (datT X).length = T.length * 4 := by rw [datT_len, hX]
          have hl2 : (datT (X.set (m - k) X[m - k - 1])).length = T.length * 4 := by rw [datT_len, List.length_set, hX]
          simp only [go_sem, Nat.reduceBEq, Nat.reduceAdd, Nat.reduceMul, Nat.reduceSub, Nat.reduceLeDiff, Nat.le_refl, implies_true, Nat.reduceLT, reduceIte, decide_true, decide_false, true_and, and_true, reduceCtorEq, Nat.mul_one, Int.reduceToNat, Int.reduceLE, Int.reduceLT, Int.reduceAdd, Int.reduceSub, Int.reduceMul, Int.cast_ofNat_Int, cast_zero_int, cast_one_int, Nat.reducePow, Nat.reduceEqDiff, Nat.reduceMod, Nat.zero_add, Nat.sub_zero, Nat.add_zero, e0, e14, e17, show (i : Int) < ((m - k : Nat) : Int) by omega, w4, show ((m - k : Nat) : Int) < T.length by omega, show ((m - k - 1 : Nat) : Int) < T.length by omega, hgs hidl, sts hidl, r1, r2, hl, hl2, hown, s1, s2, smp_l4, smp_one, List.length_append, List.length_set, show (m - k) * 4 + 4 ≤ T.length * 4 by omega, show (m - k - 1) * 4 + 4 ≤ T.length * 4 by omega]
          refine ⟨hlt, _, sX.step (by omega) (by omega) (by omega) (fun u x' hu hx' => ?_), by simp only [Nat.sub_sub], rfl⟩
          obtain rfl := Option.some.inj (hx.symm.trans hx')
          exact up _ u (by omega) (by omega) hu
        · simp only [go_sem, Nat.reduceBEq, Nat.reduceAdd, Nat.reduceMul, Nat.reduceSub, Nat.reduceLeDiff, Nat.le_refl, implies_true, Nat.reduceLT, reduceIte, decide_true, decide_false, true_and, and_true, reduceCtorEq, Nat.mul_one, Int.reduceToNat, Int.reduceLE, Int.reduceLT, Int.reduceAdd, Int.reduceSub, Int.reduceMul, Int.cast_ofNat_Int, cast_zero_int, cast_one_int, Nat.reducePow, Nat.reduceEqDiff, Nat.reduceMod, Nat.zero_add, Nat.sub_zero, Nat.add_zero, e0, e14, e17, show ¬ (i : Int) < ((m - k : Nat) : Int) by omega]
          have hs : m - k = a ∨ ∀ u x', T[m - k - 1]? = some u → T[m]? = some x' → Rk dayK u x' := by
            by_cases q : m - k = a
            · exact .inl q
            · refine .inr fun u x' hu hx' => ?_
              obtain rfl := Option.some.inj (hx.symm.trans hx')
              exact lo _ u (by omega) (by omega) hu
          exact ⟨X, t, sX.mv, sX.done (by omega) sl (by omega) (by omega) hs, rfl⟩
end
end Go.Proofs.Ytfolkgkcaiaifaa
