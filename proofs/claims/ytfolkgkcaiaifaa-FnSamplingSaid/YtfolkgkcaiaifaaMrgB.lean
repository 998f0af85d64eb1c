
/- Go's insertion sort of samples in place. No condition. -/
import Derived.Test.YtfolkgkcaiaifaaMrgA
namespace Go.Proofs.Ytfolkgkcaiaifaa
open Go.HH
set_option linter.unusedSimpArgs false
set_option linter.unusedVariables false

section
variable {α : Type} {key : α → Int}
/-- One element on its way down. -/
structure Ins (key : α → Int) (T X : List (α × Nat)) (a i j : Nat) : Prop where
  mv : Mv a (i + 1) T X
  here : X[j]? = T[i]?
  lo : ∀ p, p < j → X[p]? = T[p]?
  hi : ∀ p, j < p → p ≤ i → X[p]? = T[p - 1]?
  lt : ∀ q v x, j ≤ q → q < i → T[q]? = some v → T[i]? = some x → Rk key x v
theorem Ins.start {T : List (α × Nat)} {a i : Nat} : Ins key T T a i i :=
  ⟨Mv.refl _ _ _, rfl, fun _ _ => rfl, fun p h1 h2 => absurd h1 (by omega), fun q v x h1 h2 => absurd h2 (by omega)⟩
theorem Ins.step {T X : List (α × Nat)} {a i j : Nat} (s : Ins key T X a i j) (hT : i < T.length) (h1 : a < j) (h2 : j ≤ i) (hlt : ∀ u x, T[j - 1]? = some u → T[i]? = some x → Rk key x u) : Ins key T (swp X j (j - 1)) a i (j - 1) := by
  have hX : X.length = T.length := s.mv.len
  have hj : j < X.length := by omega
  have hj' : j - 1 < X.length := by omega
  refine ⟨s.mv.trans (swp_mv (by omega) (by omega) (by omega) (by omega) (by omega)), ?_, fun p hp => ?_, fun p p1 p2 => ?_, fun q v x q1 q2 hv hx => ?_⟩
  · rw [swp_at hj hj', if_pos rfl, s.here]
  · rw [swp_at hj hj', if_neg (by omega), if_neg (by omega), s.lo p (by omega)]
  · rw [swp_at hj hj', if_neg (by omega)]
    by_cases q : p = j
    · rw [if_pos q, s.lo (j - 1) (by omega), q]
    · rw [if_neg q, s.hi p (by omega) p2]
  · by_cases e : q = j - 1
    · subst e; exact hlt v x hv hx
    · exact s.lt q v x (by omega) q2 hv hx
theorem Ins.done {T X : List (α × Nat)} {a i j : Nat} (s : Ins key T X a i j) (hT : i < T.length) (ss : Srt key T a i) (h1 : a ≤ j) (h2 : j ≤ i) (hstop : j = a ∨ ∀ u x, T[j - 1]? = some u → T[i]? = some x → Rk key u x) : Srt key X a (i + 1) := by
  intro p q u v p1 p2 p3 hu hv
  obtain ⟨x, hx⟩ : ∃ x, T[i]? = some x := ⟨_, List.getElem?_eq_getElem hT⟩
  have below : ∀ p u, a ≤ p → p < j → T[p]? = some u → Rk key u x := fun p u p1 p2 hu => by
    rcases hstop with e | hs
    · omega
    · by_cases e : p = j - 1
      · subst e; exact hs u x hu hx
      · obtain ⟨w, hw⟩ : ∃ w, T[j - 1]? = some w := ⟨_, List.getElem?_eq_getElem (by omega)⟩
        exact (ss p (j - 1) u w p1 (by omega) (by omega) hu hw).trans key (hs w x hw hx)
  by_cases c1 : p < j
  · rw [s.lo p c1] at hu
    by_cases c2 : q < j
    · rw [s.lo q c2] at hv
      exact ss p q u v p1 p2 (by omega) hu hv
    · by_cases c3 : q = j
      · subst c3
        rw [s.here, hx] at hv
        obtain rfl := Option.some.inj hv
        exact below p u p1 c1 hu
      · rw [s.hi q (by omega) (by omega)] at hv
        by_cases c4 : q - 1 = p
        · exfalso; omega
        · exact ss p (q - 1) u v p1 (by omega) (by omega) hu hv
  · by_cases c3 : p = j
    · subst c3
      rw [s.here, hx] at hu
      obtain rfl := Option.some.inj hu
      rw [s.hi q (by omega) (by omega)] at hv
      exact s.lt (q - 1) v x (by omega) (by omega) hv hx
    · rw [s.hi p (by omega) (by omega)] at hu
      rw [s.hi q (by omega) (by omega)] at hv
      exact ss (p - 1) (q - 1) u v (by omega) (by omega) (by omega) hu hv
/-- The numbers ascend. -/
def Asc (T : List (α × Nat)) (a b : Nat) : Prop := ∀ p q u v, a ≤ p → p < q → q < b → T[p]? = some u → T[q]? = some v → u.2 < v.2
end
def dayK (x : Smp) : Int := x.1
/-- The days of all elements can be compared. -/
def Days (T : List (Smp × Nat)) : Prop := ∀ x ∈ T, 0 ≤ x.1.1 ∧ x.1.1 ≤ 3650
theorem Days.mv {a b : Nat} {T T' : List (Smp × Nat)} (d : Days T) (m : Mv a b T T') : Days T' := fun x hx => d x (m.perm.mem_iff.1 hx)
theorem Days.at {T : List (Smp × Nat)} (d : Days T) {i : Nat} (hi : i < T.length) : 0 ≤ T[i].1.1 ∧ T[i].1.1 ≤ 3650 := d _ (List.getElem_mem hi)
theorem hgs {h : Heap} {id : Nat} (hl : id < h.length) (b : Blk) (t : Heap) : hget (h.set id b ++ t) id = some b := by
  rw [hget, List.getElem?_append_left (by simpa using hl)]
  exact hget_set_same hl
theorem sts {h : Heap} {id : Nat} (hl : id < h.length) (b b' : Blk) (t : Heap) : (h.set id b ++ t).set id b' = h.set id b' ++ t := by
  rw [List.set_append_left _ _ (by simpa using hl), List.set_set]

section
variable {h : Heap} {M : Nat → Prop}
theorem c_insort (id : Nat) (T : List (Smp × Nat)) (a b : Nat) (hg : hget h id = some ⟨datT T, 4, .rw⟩) (hM : M id) (h1 : a ≤ b) (h3 : b ≤ T.length) (hmax : T.length ≤ 1000) (hd : Days T) (hn : Asc T a b) :
    vCall [] Try.prog M 56 [.slice (some ⟨id, 0, none⟩) T.length 0, .int .i64 a, .int .i64 b, .func (.func 29) #[] #[]] h
      (fun r h' => r = .tuple #[] ∧ ∃ X t, Mv a b T X ∧ Srt dayK X a b ∧ h' = h.set id ⟨datT X, 4, .rw⟩ ++ t) := by
  have hown : own h.length M id := Or.inr hM
  have hidl := hget_lt hg
  refine body_of mo Try.func56 rfl (by kernel_rfl) (Nat.le_of_ble_eq_true (by kernel_rfl)) rfl ?_
  have w0 : IntKind.i64.wrap ((a : Int) + 1) = ((a + 1 : Nat) : Int) := by rw [wrap64 (by omega)]; omega
  simp only [go_sem, Nat.reduceBEq, Nat.reduceAdd, Nat.reduceMul, Nat.reduceSub, Nat.reduceLeDiff, Nat.le_refl, implies_true, Nat.reduceLT, reduceIte, decide_true, decide_false, true_and, and_true, reduceCtorEq, Nat.mul_one, Int.reduceToNat, Int.reduceLE, Int.reduceLT, Int.reduceAdd, Int.reduceSub, Int.reduceMul, Int.cast_ofNat_Int, cast_zero_int, cast_one_int, Nat.reducePow, Nat.reduceEqDiff, Nat.reduceMod, Nat.zero_add, Nat.sub_zero, Nat.add_zero, w0]
  refine vLoop.count mo (b - (a + 1)) (fun k e h' => ∃ (X : List (Smp × Nat)) (t : Heap), Mv a (a + 1 + k) T X ∧ Srt dayK X a (a + 1 + k) ∧ (k = 0 → X = T) ∧
    e 0 = .slice (some ⟨id, 0, none⟩) T.length 0 ∧ e 1 = .int .i64 a ∧ e 2 = .int .i64 b ∧ e 3 = .func (.func 29) #[] #[] ∧ e 8 = .int .i64 ((a + 1 + k : Nat) : Int) ∧ HeapIs h' (h.set id ⟨datT X, 4, .rw⟩ ++ t)) ?_ ?_
  · exact ⟨T, [], Mv.refl _ _ _, Srt.one (by omega), fun _ => rfl, rfl, rfl, rfl, rfl, rfl, by rw [List.append_nil]; exact (set_self_get hg).symm⟩
  · rintro k e _ hk ⟨X, t, mX, sX, hk0, e0, e1, e2, e3, e8, rfl⟩
    have hX : X.length = T.length := mX.len
    simp only [go_sem, Nat.reduceBEq, Nat.reduceAdd, Nat.reduceMul, Nat.reduceSub, Nat.reduceLeDiff, Nat.le_refl, implies_true, Nat.reduceLT, reduceIte, decide_true, decide_false, true_and, and_true, reduceCtorEq, Nat.mul_one, Int.reduceToNat, Int.reduceLE, Int.reduceLT, Int.reduceAdd, Int.reduceSub, Int.reduceMul, Int.cast_ofNat_Int, cast_zero_int, cast_one_int, Nat.reducePow, Nat.reduceEqDiff, Nat.reduceMod, Nat.zero_add, Nat.sub_zero, Nat.add_zero, e0, e1, e2, e3, e8]
    by_cases hlt : k < b - (a + 1)
    · have hi : a + 1 + k < T.length := by omega
      simp only [go_sem, Nat.reduceBEq, Nat.reduceAdd, Nat.reduceMul, Nat.reduceSub, Nat.reduceLeDiff, Nat.le_refl, implies_true, Nat.reduceLT, reduceIte, decide_true, decide_false, true_and, and_true, reduceCtorEq, Nat.mul_one, Int.reduceToNat, Int.reduceLE, Int.reduceLT, Int.reduceAdd, Int.reduceSub, Int.reduceMul, Int.cast_ofNat_Int, cast_zero_int, cast_one_int, Nat.reducePow, Nat.reduceEqDiff, Nat.reduceMod, Nat.zero_add, Nat.sub_zero, Nat.add_zero, e0, e1, e2, e3, e8, show ((a + 1 + k : Nat) : Int) < b by omega]
      refine vLoop.count mo (k + 1) (fun c e h' => ∃ (Y : List (Smp × Nat)) (t : Heap), Ins dayK X Y a (a + 1 + k) (a + 1 + k - c) ∧
        e 0 = .slice (some ⟨id, 0, none⟩) T.length 0 ∧ e 1 = .int .i64 a ∧ e 2 = .int .i64 b ∧ e 3 = .func (.func 29) #[] #[] ∧ e 8 = .int .i64 ((a + 1 + k : Nat) : Int) ∧ e 9 = .int .i64 ((a + 1 + k - c : Nat) : Int) ∧ HeapIs h' (h.set id ⟨datT Y, 4, .rw⟩ ++ t)) ?_ ?_
      · exact ⟨X, t, Ins.start, by simp [upd, e0], by simp [upd, e1], by simp [upd, e2], by simp [upd, e3], by simp [upd, e8], rfl, rfl⟩
      · rintro c e _ hc ⟨Y, t, sY, e0, e1, e2, e3, e8, e9, rfl⟩
        have hY : Y.length = T.length := by rw [sY.mv.len, hX]
        have dY : Days Y := (hd.mv mX).mv sY.mv
        obtain ⟨x, hx⟩ : ∃ x, X[a + 1 + k]? = some x := ⟨_, List.getElem?_eq_getElem (by omega)⟩
        have fin : (a + 1 + k - c = a ∨ ∀ u x, X[a + 1 + k - c - 1]? = some u → X[a + 1 + k]? = some x → Rk dayK u x) → ∃ (X : List (Smp × Nat)) (t' : Heap), Mv a (a + 1 + (k + 1)) T X ∧ Srt dayK X a (a + 1 + (k + 1)) ∧ (k + 1 = 0 → X = T) ∧ HeapIs (h.set id ⟨datT Y, 4, .rw⟩ ++ t) (h.set id ⟨datT X, 4, .rw⟩ ++ t') := fun hs =>
          ⟨Y, t, (mX.wide (Nat.le_refl _) (by omega)).trans (sY.mv.wide (Nat.le_refl _) (by omega)), sY.done (by omega) sX (by omega) (by omega) hs, fun h => by omega, rfl⟩
        simp only [go_sem, Nat.reduceBEq, Nat.reduceAdd, Nat.reduceMul, Nat.reduceSub, Nat.reduceLeDiff, Nat.le_refl, implies_true, Nat.reduceLT, reduceIte, decide_true, decide_false, true_and, and_true, reduceCtorEq, Nat.mul_one, Int.reduceToNat, Int.reduceLE, Int.reduceLT, Int.reduceAdd, Int.reduceSub, Int.reduceMul, Int.cast_ofNat_Int, cast_zero_int, cast_one_int, Nat.reducePow, Nat.reduceEqDiff, Nat.reduceMod, Nat.zero_add, Nat.sub_zero, Nat.add_zero, e0, e1, e2, e3, e8, e9]
        by_cases hja : c < k + 1
        · have y1 : IntKind.i64.wrap (((a + 1 + k - c : Nat) : Int) - 1) = ((a + 1 + k - c - 1 : Nat) : Int) := by rw [wrap64 (by omega)]; omega
          have q1 : ((a + 1 + k - c : Nat) : Int) < T.length := by omega
          have q2 : ((a + 1 + k - c - 1 : Nat) : Int) < T.length := by omega
          have r1 := datT_row (T := Y) (i := a + 1 + k - c) (by omega)
          have r2 := datT_row (T := Y) (i := a + 1 + k - c - 1) (by omega)
          simp only [smp] at r1 r2
          have hl : (datT Y).length = T.length * 4 := by rw [datT_len, hY]
          simp only [go_sem, Nat.reduceBEq, Nat.reduceAdd, Nat.reduceMul, Nat.reduceSub, Nat.reduceLeDiff, Nat.le_refl, implies_true, Nat.reduceLT, reduceIte, decide_true, decide_false, true_and, and_true, reduceCtorEq, Nat.mul_one, Int.reduceToNat, Int.reduceLE, Int.reduceLT, Int.reduceAdd, Int.reduceSub, Int.reduceMul, Int.cast_ofNat_Int, cast_zero_int, cast_one_int, Nat.reducePow, Nat.reduceEqDiff, Nat.reduceMod, Nat.zero_add, Nat.sub_zero, Nat.add_zero, e0, e1, e2, e3, e8, e9, show (a : Int) < ((a + 1 + k - c : Nat) : Int) by omega, y1, q1, q2, hgs hidl, r1, r2, hl, show (a + 1 + k - c) * 4 + 4 ≤ T.length * 4 by omega, show (a + 1 + k - c - 1) * 4 + 4 ≤ T.length * 4 by omega]
          refine ⟨by kernel_rfl, (c_cmpDay _ _ (dY.at (by omega)) (dY.at (by omega))).use (fun _ m => m) ?_⟩
          rintro _ _ ⟨rfl, ⟨t2, rfl⟩⟩
          have jT : a + 1 + k - c < Y.length := by omega
          have hja2 : (a : Int) < ((a + 1 + k - c : Nat) : Int) := by omega
          have jT' : a + 1 + k - c - 1 < Y.length := by omega
          have gx : Y[a + 1 + k - c] = x := by
            have := sY.here
            rw [List.getElem?_eq_getElem jT, hx] at this
            exact Option.some.inj this
          have gu : X[a + 1 + k - c - 1]? = some Y[a + 1 + k - c - 1] := by
            rw [← sY.lo _ (by omega), List.getElem?_eq_getElem jT']
          have num : Y[a + 1 + k - c - 1].2 < x.2 := by
            obtain ⟨p, p1, p2, p3⟩ := mX.src (a + 1 + k - c - 1) (by omega) (by omega)
            rw [p3] at gu
            rw [mX.out (a + 1 + k) (by omega)] at hx
            exact hn p (a + 1 + k) _ _ p1 p2 (by omega) gu hx
          by_cases hk2 : Y[a + 1 + k - c].1.1 - Y[a + 1 + k - c - 1].1.1 < 0
          · have s1 := datT_set1 (T := Y) (i := a + 1 + k - c) (j := a + 1 + k - c - 1) jT jT'
            have s2 := datT_set2 (T := Y) (i := a + 1 + k - c) (j := a + 1 + k - c - 1) jT jT'
            simp only [smp] at s1 s2
            have hl2 : (datT (Y.set (a + 1 + k - c) Y[a + 1 + k - c - 1])).length = T.length * 4 := by rw [datT_len, List.length_set, hY]
            simp only [go_sem, Nat.reduceBEq, Nat.reduceAdd, Nat.reduceMul, Nat.reduceSub, Nat.reduceLeDiff, Nat.le_refl, implies_true, Nat.reduceLT, reduceIte, decide_true, decide_false, true_and, and_true, reduceCtorEq, Nat.mul_one, Int.reduceToNat, Int.reduceLE, Int.reduceLT, Int.reduceAdd, Int.reduceSub, Int.reduceMul, Int.cast_ofNat_Int, cast_zero_int, cast_one_int, Nat.reducePow, Nat.reduceEqDiff, Nat.reduceMod, Nat.zero_add, Nat.sub_zero, Nat.add_zero, e0, e1, e2, e3, e8, e9, hk2, hja2, y1, q1, q2, hgs hidl, sts hidl, List.append_assoc, r1, r2, hl, hl2, hown, s1, s2, List.length_append, List.length_set, show (a + 1 + k - c) * 4 + 4 ≤ T.length * 4 by omega, show (a + 1 + k - c - 1) * 4 + 4 ≤ T.length * 4 by omega]
            refine ⟨by omega, _, _, ?_, congrArg _ (by congr 1), rfl⟩
            have := sY.step (by omega) (by omega) (by omega) (fun u x' hu hx' => by
              obtain rfl := Option.some.inj (hx.symm.trans hx')
              obtain rfl := Option.some.inj (gu.symm.trans hu)
              rw [gx] at hk2
              exact .inl (by show x.1.1 < Y[a + 1 + k - c - 1].1.1; omega))
            exact this
          · simp only [go_sem, Nat.reduceBEq, Nat.reduceAdd, Nat.reduceMul, Nat.reduceSub, Nat.reduceLeDiff, Nat.le_refl, implies_true, Nat.reduceLT, reduceIte, decide_true, decide_false, true_and, and_true, reduceCtorEq, Nat.mul_one, Int.reduceToNat, Int.reduceLE, Int.reduceLT, Int.reduceAdd, Int.reduceSub, Int.reduceMul, Int.cast_ofNat_Int, cast_zero_int, cast_one_int, Nat.reducePow, Nat.reduceEqDiff, Nat.reduceMod, Nat.zero_add, Nat.sub_zero, Nat.add_zero, e0, e1, e2, e3, e8, e9, hk2]
            refine ⟨hlt, ?_⟩
            obtain ⟨X2, t', f1, f2, f3, f4⟩ := fin (.inr fun u x' hu hx' => by
              obtain rfl := Option.some.inj (hx.symm.trans hx')
              obtain rfl := Option.some.inj (gu.symm.trans hu)
              rw [gx] at hk2
              by_cases e : Y[a + 1 + k - c - 1].1.1 = x.1.1
              · exact .inr ⟨e, num⟩
              · exact .inl (by show Y[a + 1 + k - c - 1].1.1 < x.1.1; omega))
            exact ⟨X2, t' ++ t2, f1, f2, fun h => h.elim, congrArg _ (by rw [wrap64 (by omega)]; omega), (List.append_assoc _ _ _).symm.trans ((congrArg (· ++ t2) f4).trans (List.append_assoc _ _ _))⟩
        · obtain rfl : c = k + 1 := by omega
          simp only [go_sem, Nat.reduceBEq, Nat.reduceAdd, Nat.reduceMul, Nat.reduceSub, Nat.reduceLeDiff, Nat.le_refl, implies_true, Nat.reduceLT, reduceIte, decide_true, decide_false, true_and, and_true, reduceCtorEq, Nat.mul_one, Int.reduceToNat, Int.reduceLE, Int.reduceLT, Int.reduceAdd, Int.reduceSub, Int.reduceMul, Int.cast_ofNat_Int, cast_zero_int, cast_one_int, Nat.reducePow, Nat.reduceEqDiff, Nat.reduceMod, Nat.zero_add, Nat.sub_zero, Nat.add_zero, e0, e1, e2, e3, e8, e9, show ¬ (a : Int) < ((a + 1 + k - (k + 1) : Nat) : Int) by omega]
          obtain ⟨X2, t', f1, f2, f3, f4⟩ := fin (.inl (by omega))
          exact ⟨hlt, X2, t', f1, f2, fun h => h.elim, congrArg _ (by rw [wrap64 (by omega)]; omega), f4⟩
    · simp only [go_sem, Nat.reduceBEq, Nat.reduceAdd, Nat.reduceMul, Nat.reduceSub, Nat.reduceLeDiff, Nat.le_refl, implies_true, Nat.reduceLT, reduceIte, decide_true, decide_false, true_and, and_true, reduceCtorEq, Nat.mul_one, Int.reduceToNat, Int.reduceLE, Int.reduceLT, Int.reduceAdd, Int.reduceSub, Int.reduceMul, Int.cast_ofNat_Int, cast_zero_int, cast_one_int, Nat.reducePow, Nat.reduceEqDiff, Nat.reduceMod, Nat.zero_add, Nat.sub_zero, Nat.add_zero, e0, e1, e2, e3, e8, show ¬ ((a + 1 + k : Nat) : Int) < b by omega]
      by_cases q : a + 1 ≤ b
      · obtain rfl : k = b - (a + 1) := by omega
        rw [show a + 1 + (b - (a + 1)) = b by omega] at mX sX
        exact ⟨X, t, mX, sX, rfl⟩
      · obtain rfl := hk0 (by omega)
        exact ⟨X, t, Mv.refl _ _ _, Srt.one (by omega), rfl⟩
end
end Go.Proofs.Ytfolkgkcaiaifaa
