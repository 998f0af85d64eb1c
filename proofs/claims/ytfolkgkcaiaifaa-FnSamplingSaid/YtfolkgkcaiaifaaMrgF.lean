
/- Go's stable sort of at most 30 samples, and merging by it. No condition. -/
import Derived.Test.YtfolkgkcaiaifaaMrgE
namespace Go.Proofs.Ytfolkgkcaiaifaa
open Go.HH
set_option linter.unusedSimpArgs false
set_option linter.unusedVariables false

/-- The samples of two lists in the order of their days, those of the first ahead. -/
def mergeD (a b : List Smp) : List Smp := a.merge b fun x y => decide (x.1 ≤ y.1)
def leK (x y : Smp × Nat) : Bool := decide (x.1.1 < y.1.1 ∨ (x.1.1 = y.1.1 ∧ x.2 ≤ y.2))
theorem merge_unique {a b : List Smp} {X : List (Smp × Nat)} (sa : a.Pairwise fun x y => x.1 ≤ y.1) (sb : b.Pairwise fun x y => x.1 ≤ y.1) (p : X.Perm (numd (a ++ b))) (s : Srt dayK X 0 X.length) : X.map Prod.fst = mergeD a b := by
  have e : numd (a ++ b) = a.zipIdx 0 ++ b.zipIdx a.length := by
    rw [numd, List.zipIdx_append, Nat.zero_add]
  have zip : ∀ (l : List Smp) (k : Nat), (l.Pairwise fun x y => x.1 ≤ y.1) → (l.zipIdx k).Pairwise fun x y => leK x y = true := fun l k hl => by
    rw [List.pairwise_iff_getElem]
    intro i j hi hj hij
    rw [List.length_zipIdx] at hi hj
    have := (List.pairwise_iff_getElem.1 hl) i j hi hj hij
    rw [List.getElem_zipIdx, List.getElem_zipIdx]
    refine decide_eq_true ?_
    by_cases q : l[i].1 = l[j].1
    · exact .inr ⟨q, by show k + i ≤ k + j; omega⟩
    · exact .inl (by show l[i].1 < l[j].1; omega)
  have pm : ((a.zipIdx 0).merge (b.zipIdx a.length) leK).Perm (numd (a ++ b)) := by rw [e]; exact List.merge_perm_append _
  have sm : ((a.zipIdx 0).merge (b.zipIdx a.length) leK).Pairwise fun x y => leK x y = true :=
    List.pairwise_merge (le := leK) (fun x y z h1 h2 => by
      have h1 := of_decide_eq_true h1
      have h2 := of_decide_eq_true h2
      refine decide_eq_true ?_
      omega) (fun x y => by
      by_cases q : x.1.1 < y.1.1 ∨ (x.1.1 = y.1.1 ∧ x.2 ≤ y.2)
      · rw [leK, decide_eq_true q]; rfl
      · rw [Bool.or_eq_true]
        refine .inr (decide_eq_true ?_)
        omega) _ _ (zip a 0 sa) (zip b a.length sb)
  have sx : X.Pairwise fun x y => leK x y = true := by
    rw [List.pairwise_iff_getElem]
    intro i j hi hj hij
    have h1 : Rk dayK X[i] X[j] := s i j _ _ (Nat.zero_le _) hij hj (List.getElem?_eq_getElem hi) (List.getElem?_eq_getElem hj)
    refine decide_eq_true ?_
    have h2 : X[i].1.1 < X[j].1.1 ∨ (X[i].1.1 = X[j].1.1 ∧ X[i].2 < X[j].2) := h1
    omega
  have same : ∀ x ∈ numd (a ++ b), ∀ y ∈ numd (a ++ b), x.2 = y.2 → x = y := fun x hx y hy h => by
    obtain ⟨i, hi⟩ := List.mem_iff_getElem?.1 hx
    obtain ⟨j, hj⟩ := List.mem_iff_getElem?.1 hy
    obtain ⟨h1, h2⟩ := numd_at hi
    obtain ⟨h3, h4⟩ := numd_at hj
    have : i = j := by omega
    subst this
    exact Option.some.inj (hi.symm.trans hj)
  have ex : X = (a.zipIdx 0).merge (b.zipIdx a.length) leK := by
    refine List.Perm.eq_of_pairwise ?_ sx sm (p.trans pm.symm)
    intro x y hx hy h1 h2
    refine same x (p.mem_iff.1 hx) y (pm.mem_iff.1 hy) ?_
    have h1 := of_decide_eq_true h1
    have h2 := of_decide_eq_true h2
    omega
  rw [ex, List.map_merge (s := fun x y => decide (x.1 ≤ y.1)) (fun x hx y hy => by
    obtain ⟨i, hi⟩ := List.mem_iff_getElem?.1 hx
    obtain ⟨j, hj⟩ := List.mem_iff_getElem?.1 hy
    rw [List.getElem?_zipIdx] at hi hj
    have li : i < a.length := by
      cases h : a[i]? with
      | none => rw [h] at hi; cases hi
      | some z => exact (List.getElem?_eq_some_iff.1 h).1
    have e1 : x.2 = 0 + i := by
      cases h : a[i]? with
      | none => rw [h] at hi; cases hi
      | some z => rw [h] at hi; have := Option.some.inj hi; rw [← this]
    have e2 : y.2 = a.length + j := by
      cases h : b[j]? with
      | none => rw [h] at hj; cases hj
      | some z => rw [h] at hj; have := Option.some.inj hj; rw [← this]
    rw [leK, decide_eq_decide]
    omega)]
  rw [mergeD]
  congr 1 <;> simp

section
variable {h : Heap} {M : Nat → Prop}
theorem c_stable (id : Nat) (T : List (Smp × Nat)) (hg : hget h id = some ⟨datT T, 4, .rw⟩) (hM : M id) (hmax : T.length ≤ 30) (hd : Days T) (hn : Asc T 0 T.length) :
    vCall [] Try.prog M 50 [.slice (some ⟨id, 0, none⟩) T.length 0, .int .i64 T.length, .func (.func 29) #[] #[]] h
      (fun r h' => r = .tuple #[] ∧ ∃ X t, Mv 0 T.length T X ∧ Srt dayK X 0 T.length ∧ h' = h.set id ⟨datT X, 4, .rw⟩ ++ t) := by
  have hown : own h.length M id := Or.inr hM
  have hidl := hget_lt hg
  refine body_of mo Try.func50 rfl (by kernel_rfl) (Nat.le_of_ble_eq_true (by kernel_rfl)) rfl ?_
  have w20 : IntKind.i64.wrap ((20 : Nat) + (20 : Nat) : Int) = ((40 : Nat) : Int) := by rw [wrap64 (by omega)]; omega
  simp only [go_sem, Nat.reduceBEq, Nat.reduceAdd, Nat.reduceMul, Nat.reduceSub, Nat.reduceLeDiff, Nat.le_refl, implies_true, Nat.reduceLT, reduceIte, decide_true, decide_false, true_and, and_true, reduceCtorEq, Nat.mul_one, Int.reduceToNat, Int.reduceLE, Int.reduceLT, Int.reduceAdd, Int.reduceSub, Int.reduceMul, Int.cast_ofNat_Int, cast_zero_int, cast_one_int, Nat.reducePow, Nat.reduceEqDiff, Nat.reduceMod, Nat.zero_add, Nat.sub_zero, Nat.add_zero]
  refine vLoop.rank mo 1 (fun k e h' => ∃ (X : List (Smp × Nat)) (t : Heap), e 0 = .slice (some ⟨id, 0, none⟩) T.length 0 ∧ e 1 = .int .i64 T.length ∧ e 2 = .func (.func 29) #[] #[] ∧ e 6 = .int .i64 20 ∧ HeapIs h' (h.set id ⟨datT X, 4, .rw⟩ ++ t) ∧
    ((k = 1 ∧ X = T ∧ e 7 = .int .i64 ((0 : Nat) : Int) ∧ e 8 = .int .i64 20) ∨ (k = 0 ∧ Mv 0 20 T X ∧ Srt dayK X 0 20 ∧ 20 ≤ T.length ∧ e 7 = .int .i64 ((20 : Nat) : Int) ∧ e 8 = .int .i64 40))) ?_ ?_
  · exact ⟨T, [], rfl, rfl, rfl, rfl, by rw [set_self_get hg, List.append_nil]; exact HeapIs.rfl, .inl ⟨rfl, rfl, rfl, rfl⟩⟩
  · rintro k e _ ⟨X, t, e0, e1, e2, e6, rfl, hst⟩
    by_cases hr : k = 1 ∧ 20 ≤ T.length
    · obtain ⟨rfl, h20⟩ := hr
      rcases hst with ⟨_, rfl, e7, e8⟩ | ⟨hk, _⟩
      · simp only [go_sem, Nat.reduceBEq, Nat.reduceAdd, Nat.reduceMul, Nat.reduceSub, Nat.reduceLeDiff, Nat.le_refl, implies_true, Nat.reduceLT, reduceIte, decide_true, decide_false, true_and, and_true, reduceCtorEq, Nat.mul_one, Int.reduceToNat, Int.reduceLE, Int.reduceLT, Int.reduceAdd, Int.reduceSub, Int.reduceMul, Int.cast_ofNat_Int, cast_zero_int, cast_one_int, Nat.reducePow, Nat.reduceEqDiff, Nat.reduceMod, Nat.zero_add, Nat.sub_zero, Nat.add_zero, e0, e1, e2, e6, e7, e8, show (20 : Int) ≤ X.length by omega]
        refine ⟨by kernel_rfl, (c_insort id X 0 20 (hgs hidl _ _) hown (by omega) h20 (by omega) hd (fun p q u v p1 p2 p3 => hn p q u v p1 p2 (by omega))).use (fun _ m => m) ?_⟩
        rintro _ _ ⟨rfl, Y, t2, mY, sY, rfl⟩
        try simp only [go_sem, Nat.reduceBEq, Nat.reduceAdd, Nat.reduceMul, Nat.reduceSub, Nat.reduceLeDiff, Nat.le_refl, implies_true, Nat.reduceLT, reduceIte, decide_true, decide_false, true_and, and_true, reduceCtorEq, Nat.mul_one, Int.reduceToNat, Int.reduceLE, Int.reduceLT, Int.reduceAdd, Int.reduceSub, Int.reduceMul, Int.cast_ofNat_Int, cast_zero_int, cast_one_int, Nat.reducePow, Nat.reduceEqDiff, Nat.reduceMod, Nat.zero_add, Nat.sub_zero, Nat.add_zero, e0, e1, e2, e6, e7, e8, show IntKind.i64.wrap 40 = 40 from rfl]
        exact ⟨0, by omega, Y, t ++ t2, by rw [HeapIs, sts hidl, List.append_assoc], .inr ⟨rfl, mY, sY, h20⟩⟩
      · omega
    · -- the rest is sorted, then the two parts are merged
      have hrest : ∃ a : Nat, e 7 = .int .i64 (a : Int) ∧ ¬ (((if k = 1 then 20 else 40 : Nat) : Int) ≤ T.length) ∧ e 8 = .int .i64 ((if k = 1 then 20 else 40 : Nat) : Int) ∧ a ≤ T.length ∧ Mv 0 a T X ∧ Srt dayK X 0 a ∧ (a = 0 ∧ T.length < 20 ∨ a = 20) := by
        rcases hst with ⟨rfl, rfl, e7, e8⟩ | ⟨rfl, m1, s1, h20, e7, e8⟩
        · exact ⟨0, e7, by simp; omega, e8, Nat.zero_le _, Mv.refl _ _ _, Srt.one (by omega), .inl ⟨rfl, by omega⟩⟩
        · exact ⟨20, e7, by simp; omega, e8, h20, m1, s1, .inr rfl⟩
      obtain ⟨a, e7, hno, e8, ha, mX, sX, hcase⟩ := hrest
      have lX : X.length = T.length := mX.len
      simp only [go_sem, Nat.reduceBEq, Nat.reduceAdd, Nat.reduceMul, Nat.reduceSub, Nat.reduceLeDiff, Nat.le_refl, implies_true, Nat.reduceLT, reduceIte, decide_true, decide_false, true_and, and_true, reduceCtorEq, Nat.mul_one, Int.reduceToNat, Int.reduceLE, Int.reduceLT, Int.reduceAdd, Int.reduceSub, Int.reduceMul, Int.cast_ofNat_Int, cast_zero_int, cast_one_int, Nat.reducePow, Nat.reduceEqDiff, Nat.reduceMod, Nat.zero_add, Nat.sub_zero, Nat.add_zero, e0, e1, e2, e6, e7, e8, hno]
      have hi := c_insort (h := h.set id ⟨datT X, 4, .rw⟩ ++ t) (M := own h.length M) id X a T.length (hgs hidl _ _) hown ha (by omega) (by omega) (hd.mv mX) (fun p q u v p1 p2 p3 hu hv => hn p q u v (by omega) p2 p3 (by rw [← mX.out p (by omega)]; exact hu) (by rw [← mX.out q (by omega)]; exact hv))
      rw [lX] at hi
      refine ⟨by kernel_rfl, (hi).use (fun _ m => m) ?_⟩
      rintro _ _ ⟨rfl, Y, t2, mY, sY, rfl⟩
      have lY : Y.length = T.length := by rw [mY.len, lX]
      have mvY : Mv 0 T.length T Y := (mX.wide (Nat.le_refl _) ha).trans (mY.wide (Nat.zero_le _) (Nat.le_refl _))
      have sLow : Srt dayK Y 0 a := sX.same fun p p1 p2 => mY.out p (.inl p2)
      obtain ⟨t3, ht3⟩ : ∃ t3, t3 = t ++ t2 := ⟨_, rfl⟩
      rw [sts hidl, List.append_assoc, ← ht3]
      try simp only [go_sem, Nat.reduceBEq, Nat.reduceAdd, Nat.reduceMul, Nat.reduceSub, Nat.reduceLeDiff, Nat.le_refl, implies_true, Nat.reduceLT, reduceIte, decide_true, decide_false, true_and, and_true, reduceCtorEq, Nat.mul_one, Int.reduceToNat, Int.reduceLE, Int.reduceLT, Int.reduceAdd, Int.reduceSub, Int.reduceMul, Int.cast_ofNat_Int, cast_zero_int, cast_one_int, Nat.reducePow, Nat.reduceEqDiff, Nat.reduceMod, Nat.zero_add, Nat.sub_zero, Nat.add_zero, e0, e1, e2, e6]
      refine vLoop.rank mo 1 (fun k e h' => ∃ (X : List (Smp × Nat)) (t : Heap), e 0 = .slice (some ⟨id, 0, none⟩) T.length 0 ∧ e 1 = .int .i64 T.length ∧ e 2 = .func (.func 29) #[] #[] ∧ HeapIs h' (h.set id ⟨datT X, 4, .rw⟩ ++ t) ∧ Mv 0 T.length T X ∧
        ((k = 1 ∧ X = Y ∧ e 6 = .int .i64 20) ∨ (k = 0 ∧ Srt dayK X 0 T.length ∧ e 6 = .int .i64 40))) ?_ ?_
      · exact ⟨Y, t3, by simp [upd, e0], by simp [upd, e1], by simp [upd, e2], HeapIs.rfl, mvY, .inl ⟨rfl, rfl, by simp [upd, e6]⟩⟩
      · rintro k2 e _ ⟨Z, t, e0, e1, e2, rfl, mZ, hst2⟩
        rcases hst2 with ⟨rfl, rfl, e6⟩ | ⟨rfl, sZ, e6⟩
        · by_cases h20 : 20 < T.length
          · obtain rfl : a = 20 := by omega
            simp only [go_sem, Nat.reduceBEq, Nat.reduceAdd, Nat.reduceMul, Nat.reduceSub, Nat.reduceLeDiff, Nat.le_refl, implies_true, Nat.reduceLT, reduceIte, decide_true, decide_false, true_and, and_true, reduceCtorEq, Nat.mul_one, Int.reduceToNat, Int.reduceLE, Int.reduceLT, Int.reduceAdd, Int.reduceSub, Int.reduceMul, Int.cast_ofNat_Int, cast_zero_int, cast_one_int, Nat.reducePow, Nat.reduceEqDiff, Nat.reduceMod, Nat.zero_add, Nat.sub_zero, Nat.add_zero, e0, e1, e2, e6, show (20 : Int) < T.length by omega, show IntKind.i64.wrap 40 = 40 from rfl]
            refine vLoop.rank mo 0 (fun k e h' => e 0 = .slice (some ⟨id, 0, none⟩) T.length 0 ∧ e 1 = .int .i64 T.length ∧ e 2 = .func (.func 29) #[] #[] ∧ e 6 = .int .i64 20 ∧ e 7 = .int .i64 0 ∧ e 8 = .int .i64 40 ∧ HeapIs h' (h.set id ⟨datT Z, 4, .rw⟩ ++ t)) ?_ ?_
            · exact ⟨by simp [upd, e0], by simp [upd, e1], by simp [upd, e2], by simp [upd, e6], by simp [upd], by simp [upd], HeapIs.rfl⟩
            · rintro k3 e _ ⟨e0, e1, e2, e6, e7, e8, rfl⟩
              simp only [go_sem, Nat.reduceBEq, Nat.reduceAdd, Nat.reduceMul, Nat.reduceSub, Nat.reduceLeDiff, Nat.le_refl, implies_true, Nat.reduceLT, reduceIte, decide_true, decide_false, true_and, and_true, reduceCtorEq, Nat.mul_one, Int.reduceToNat, Int.reduceLE, Int.reduceLT, Int.reduceAdd, Int.reduceSub, Int.reduceMul, Int.cast_ofNat_Int, cast_zero_int, cast_one_int, Nat.reducePow, Nat.reduceEqDiff, Nat.reduceMod, Nat.zero_add, Nat.sub_zero, Nat.add_zero, e0, e1, e2, e6, e7, e8, show ¬ (40 : Int) ≤ T.length by omega, show IntKind.i64.wrap 20 = 20 from rfl, show IntKind.i64.wrap 40 = 40 from rfl, show (20 : Int) < T.length by omega]
              have hc := c_symMerge 1000 (h := h.set id ⟨datT Z, 4, .rw⟩ ++ t) (M := own h.length M) id Z 0 20 T.length (by omega) (hgs hidl _ _) hown (by omega) h20 (by omega) (by omega) (hd.mv mZ) (fun i j u v i1 i2 j1 j2 hu hv => by
                rw [mY.out i (.inl i2)] at hu
                obtain ⟨p, p1, p2, p3⟩ := mX.src i i1 i2
                obtain ⟨q, q1, q2, q3⟩ := mY.src j j1 j2
                rw [p3] at hu
                rw [q3, mX.out q (.inr q1)] at hv
                exact hn p q u v p1 (by omega) q2 hu hv) sLow sY
              rw [lY] at hc
              refine ⟨by kernel_rfl, (hc).use (fun _ m => m) ?_⟩
              rintro _ _ ⟨rfl, W, t4, mW, sW, rfl⟩
              try simp only [go_sem, Nat.reduceBEq, Nat.reduceAdd, Nat.reduceMul, Nat.reduceSub, Nat.reduceLeDiff, Nat.le_refl, implies_true, Nat.reduceLT, reduceIte, decide_true, decide_false, true_and, and_true, reduceCtorEq, Nat.mul_one, Int.reduceToNat, Int.reduceLE, Int.reduceLT, Int.reduceAdd, Int.reduceSub, Int.reduceMul, Int.cast_ofNat_Int, cast_zero_int, cast_one_int, Nat.reducePow, Nat.reduceEqDiff, Nat.reduceMod, Nat.zero_add, Nat.sub_zero, Nat.add_zero, e0, e1, e2, e6, e7, e8, show IntKind.i64.wrap 40 = 40 from rfl]
              exact ⟨0, by omega, W, t ++ t4, by rw [HeapIs, sts hidl, List.append_assoc], mZ.trans mW, .inr ⟨rfl, sW⟩⟩
          · simp only [go_sem, Nat.reduceBEq, Nat.reduceAdd, Nat.reduceMul, Nat.reduceSub, Nat.reduceLeDiff, Nat.le_refl, implies_true, Nat.reduceLT, reduceIte, decide_true, decide_false, true_and, and_true, reduceCtorEq, Nat.mul_one, Int.reduceToNat, Int.reduceLE, Int.reduceLT, Int.reduceAdd, Int.reduceSub, Int.reduceMul, Int.cast_ofNat_Int, cast_zero_int, cast_one_int, Nat.reducePow, Nat.reduceEqDiff, Nat.reduceMod, Nat.zero_add, Nat.sub_zero, Nat.add_zero, e0, e1, e2, e6, e7, e8, e6, show ¬ (20 : Int) < T.length by omega]
            refine ⟨Z, t, mZ, ?_, rfl⟩
            rcases hcase with ⟨rfl, _⟩ | rfl
            · exact sY
            · rw [show T.length = 20 by omega]
              exact sLow
        · simp only [go_sem, Nat.reduceBEq, Nat.reduceAdd, Nat.reduceMul, Nat.reduceSub, Nat.reduceLeDiff, Nat.le_refl, implies_true, Nat.reduceLT, reduceIte, decide_true, decide_false, true_and, and_true, reduceCtorEq, Nat.mul_one, Int.reduceToNat, Int.reduceLE, Int.reduceLT, Int.reduceAdd, Int.reduceSub, Int.reduceMul, Int.cast_ofNat_Int, cast_zero_int, cast_one_int, Nat.reducePow, Nat.reduceEqDiff, Nat.reduceMod, Nat.zero_add, Nat.sub_zero, Nat.add_zero, e0, e1, e2, e6, e7, e8, e6, show ¬ (40 : Int) < T.length by omega]
          exact ⟨Z, t, mZ, sZ, rfl⟩
theorem c_SortStable (id : Nat) (T : List (Smp × Nat)) (hg : hget h id = some ⟨datT T, 4, .rw⟩) (hM : M id) (hmax : T.length ≤ 30) (hd : Days T) (hn : Asc T 0 T.length) :
    vCall [] Try.prog M 28 [.slice (some ⟨id, 0, none⟩) T.length 0, .func (.func 29) #[] #[]] h
      (fun r h' => r = .tuple #[] ∧ ∃ X t, Mv 0 T.length T X ∧ Srt dayK X 0 T.length ∧ h' = h.set id ⟨datT X, 4, .rw⟩ ++ t) := by
  have hown : own h.length M id := Or.inr hM
  refine body_of mo Try.func28 rfl (by kernel_rfl) (Nat.le_of_ble_eq_true (by kernel_rfl)) rfl ?_
  simp only [go_sem, Nat.reduceBEq, Nat.reduceAdd, Nat.reduceMul, Nat.reduceSub, Nat.reduceLeDiff, Nat.le_refl, implies_true, Nat.reduceLT, reduceIte, decide_true, decide_false, true_and, and_true, reduceCtorEq, Nat.mul_one, Int.reduceToNat, Int.reduceLE, Int.reduceLT, Int.reduceAdd, Int.reduceSub, Int.reduceMul, Int.cast_ofNat_Int, cast_zero_int, cast_one_int, Nat.reducePow, Nat.reduceEqDiff, Nat.reduceMod, Nat.zero_add, Nat.sub_zero, Nat.add_zero]
  refine ⟨by kernel_rfl, (c_stable id T hg hown hmax hd hn).use (fun _ m => m) ?_⟩
  rintro _ _ ⟨rfl, X, t, mX, sX, rfl⟩
  try simp only [go_sem, Nat.reduceBEq, Nat.reduceAdd, Nat.reduceMul, Nat.reduceSub, Nat.reduceLeDiff, Nat.le_refl, implies_true, Nat.reduceLT, reduceIte, decide_true, decide_false, true_and, and_true, reduceCtorEq, Nat.mul_one, Int.reduceToNat, Int.reduceLE, Int.reduceLT, Int.reduceAdd, Int.reduceSub, Int.reduceMul, Int.cast_ofNat_Int, cast_zero_int, cast_one_int, Nat.reducePow, Nat.reduceEqDiff, Nat.reduceMod, Nat.zero_add, Nat.sub_zero, Nat.add_zero]
  exact ⟨X, t, mX, sX, rfl⟩
end
end Go.Proofs.Ytfolkgkcaiaifaa
