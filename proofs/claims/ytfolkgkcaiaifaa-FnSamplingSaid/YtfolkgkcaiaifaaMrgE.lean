
/- Go's stable merge in place. No condition. -/
import Derived.Test.YtfolkgkcaiaifaaMrgC
namespace Go.Proofs.Ytfolkgkcaiaifaa
open Go.HH
set_option linter.unusedSimpArgs false
set_option linter.unusedVariables false

section
set_option maxHeartbeats 4000000 in
/-- The merge at any lengths. -/
theorem c_symMerge : ∀ (n : Nat) {h : Heap} {M : Nat → Prop} (id : Nat) (T : List (Smp × Nat)) (a m b : Nat), b - a ≤ n → hget h id = some ⟨datT T, 4, .rw⟩ → M id → a < m → m < b → b ≤ T.length → T.length ≤ 1000 → Days T → Num T a m b → Srt dayK T a m → Srt dayK T m b →
    vCall [] Try.prog M 57 [.slice (some ⟨id, 0, none⟩) T.length 0, .int .i64 a, .int .i64 m, .int .i64 b, .func (.func 29) #[] #[]] h
      (fun r h' => r = .tuple #[] ∧ ∃ X t, Mv a b T X ∧ Srt dayK X a b ∧ h' = h.set id ⟨datT X, 4, .rw⟩ ++ t)
  | 0, h, M, id, T, a, m, b, hz, hg, hM, h1, h2, h3, hmax, hd, hn, sl, sr => by omega
  | n + 1, h, M, id, T, a, m, b, hz, hg, hM, h1, h2, h3, hmax, hd, hn, sl, sr => by
    by_cases c1 : m = a + 1
    · subst c1
      exact c_symOne id T a b hg hM h2 h3 hmax hd hn sr
    by_cases c2 : b = m + 1
    · subst c2
      exact c_symLast id T a m hg hM (by omega) h3 hmax hd hn sl
    have hown : own h.length M id := Or.inr hM
    have hidl := hget_lt hg
    obtain ⟨mid, hmid⟩ : ∃ c, (a + b) / 2 = c := ⟨_, rfl⟩
    refine body_of mo Try.func57 rfl (by kernel_rfl) (Nat.le_of_ble_eq_true (by kernel_rfl)) rfl ?_
    have w0 : IntKind.i64.wrap ((m : Int) - a) = ((m - a : Nat) : Int) := by rw [wrap64 (by omega)]; omega
    have w00 : IntKind.i64.wrap ((b : Int) - m) = ((b - m : Nat) : Int) := by rw [wrap64 (by omega)]; omega
    have w1 : IntKind.i64.wrap ((a : Int) + b) = ((a + b : Nat) : Int) := by rw [wrap64 (by omega)]; omega
    have w2 : IntKind.i64.wrap ((mid : Nat) : Int) = (mid : Int) := wrap64 (by omega)
    have s2 := sh_half (n := a + b) (by omega)
    rw [hmid] at s2
    have w3 : IntKind.i64.wrap ((mid : Int) + m) = ((mid + m : Nat) : Int) := by rw [wrap64 (by omega)]; omega
    have w4 : IntKind.i64.wrap (((mid + m : Nat) : Int) - 1) = ((mid + m - 1 : Nat) : Int) := by rw [wrap64 (by omega)]; omega
    simp only [go_sem, Nat.reduceBEq, Nat.reduceAdd, Nat.reduceMul, Nat.reduceSub, Nat.reduceLeDiff, Nat.le_refl, implies_true, Nat.reduceLT, reduceIte, decide_true, decide_false, true_and, and_true, reduceCtorEq, Nat.mul_one, Int.reduceToNat, Int.reduceLE, Int.reduceLT, Int.reduceAdd, Int.reduceSub, Int.reduceMul, Int.cast_ofNat_Int, cast_zero_int, cast_one_int, Nat.reducePow, Nat.reduceEqDiff, Nat.reduceMod, Nat.zero_add, Nat.sub_zero, Nat.add_zero, w0, w00, w1, s2, w2, w3, w4, show (((m - a : Nat) : Int) == 1) = false by simp; omega, show (((b - m : Nat) : Int) == 1) = false by simp; omega]
    have w5 : IntKind.i64.wrap (((mid + m : Nat) : Int) - b) = (((mid + m : Nat) : Int) - b) := wrap64 (by omega)
    have w5' : mid < m → IntKind.i64.wrap (((mid + m : Nat) : Int) - b) = ((mid + m - b : Nat) : Int) := fun _ => by rw [wrap64 (by omega)]; omega
    clear w5
    rcases Nat.lt_or_ge mid m with c3 | c3
    all_goals first
      | simp only [go_sem, Nat.reduceBEq, Nat.reduceAdd, Nat.reduceMul, Nat.reduceSub, Nat.reduceLeDiff, Nat.le_refl, implies_true, Nat.reduceLT, reduceIte, decide_true, decide_false, true_and, and_true, reduceCtorEq, Nat.mul_one, Int.reduceToNat, Int.reduceLE, Int.reduceLT, Int.reduceAdd, Int.reduceSub, Int.reduceMul, Int.cast_ofNat_Int, cast_zero_int, cast_one_int, Nat.reducePow, Nat.reduceEqDiff, Nat.reduceMod, Nat.zero_add, Nat.sub_zero, Nat.add_zero, w4, w5' c3, show (mid : Int) < m by omega]
      | simp only [go_sem, Nat.reduceBEq, Nat.reduceAdd, Nat.reduceMul, Nat.reduceSub, Nat.reduceLeDiff, Nat.le_refl, implies_true, Nat.reduceLT, reduceIte, decide_true, decide_false, true_and, and_true, reduceCtorEq, Nat.mul_one, Int.reduceToNat, Int.reduceLE, Int.reduceLT, Int.reduceAdd, Int.reduceSub, Int.reduceMul, Int.cast_ofNat_Int, cast_zero_int, cast_one_int, Nat.reducePow, Nat.reduceEqDiff, Nat.reduceMod, Nat.zero_add, Nat.sub_zero, Nat.add_zero, w4, show ¬ (mid : Int) < m by omega]
    all_goals
      refine vLoop.rank mo (m + mid) (fun k e h' => ∃ (i j : Nat) (t : Heap), j - i ≤ k ∧ (∃ s0 r0 : Nat, (a ≤ s0 ∧ s0 ≤ i ∧ i ≤ j ∧ j ≤ r0 ∧ r0 ≤ m ∧ r0 ≤ mid ∧ mid + m - s0 ≤ b) ∧ (s0 = a ∨ mid + m - s0 = b) ∧ (r0 = m ∨ r0 = mid) ∧
        (∀ c u v, s0 ≤ c → c < i → T[c]? = some u → T[mid + m - 1 - c]? = some v → Rk dayK u v) ∧ (∀ c u v, j ≤ c → c < r0 → T[c]? = some u → T[mid + m - 1 - c]? = some v → Rk dayK v u)) ∧
        e 0 = .slice (some ⟨id, 0, none⟩) T.length 0 ∧ e 1 = .int .i64 a ∧ e 2 = .int .i64 m ∧ e 3 = .int .i64 b ∧ e 4 = .func (.func 29) #[] #[] ∧ e 18 = .int .i64 mid ∧ e 19 = .int .i64 ((mid + m : Nat) : Int) ∧
        e 20 = .int .i64 i ∧ e 21 = .int .i64 j ∧ e 22 = .int .i64 ((mid + m - 1 : Nat) : Int) ∧ HeapIs h' (h ++ t)) ?_ ?_
      · first
        | exact ⟨mid + m - b, mid, [], by omega, ⟨mid + m - b, mid, ⟨by omega, by omega, by omega, by omega, by omega, by omega, by omega⟩, .inr (by omega), .inr rfl, fun c u v p1 p2 => absurd p2 (by omega), fun c u v p1 p2 => absurd p2 (by omega)⟩, rfl, rfl, rfl, rfl, rfl, rfl, rfl, rfl, rfl, rfl, by rw [List.append_nil]; exact HeapIs.rfl⟩
        | exact ⟨a, m, [], by omega, ⟨a, m, ⟨by omega, by omega, by omega, by omega, by omega, by omega, by omega⟩, .inl rfl, .inl rfl, fun c u v p1 p2 => absurd p2 (by omega), fun c u v p1 p2 => absurd p2 (by omega)⟩, rfl, rfl, rfl, rfl, rfl, rfl, rfl, rfl, rfl, rfl, by rw [List.append_nil]; exact HeapIs.rfl⟩
      · rintro k e _ ⟨i, j, t, hk, ⟨s0, r0, ⟨f1, f2, f3, f4, f5, f6, f7⟩, g1, g2, lo, up⟩, e0, e1, e2, e3, e4, e18, e19, e20, e21, e22, rfl⟩
        simp only [go_sem, Nat.reduceBEq, Nat.reduceAdd, Nat.reduceMul, Nat.reduceSub, Nat.reduceLeDiff, Nat.le_refl, implies_true, Nat.reduceLT, reduceIte, decide_true, decide_false, true_and, and_true, reduceCtorEq, Nat.mul_one, Int.reduceToNat, Int.reduceLE, Int.reduceLT, Int.reduceAdd, Int.reduceSub, Int.reduceMul, Int.cast_ofNat_Int, cast_zero_int, cast_one_int, Nat.reducePow, Nat.reduceEqDiff, Nat.reduceMod, Nat.zero_add, Nat.sub_zero, Nat.add_zero, e0, e1, e2, e3, e4, e18, e19, e20, e21, e22]
        by_cases hij : i < j
        · have y1 : IntKind.i64.wrap ((i : Int) + j) = ((i + j : Nat) : Int) := by rw [wrap64 (by omega)]; omega
          obtain ⟨c, hc⟩ : ∃ c, (i + j) / 2 = c := ⟨_, rfl⟩
          have y2 : IntKind.i64.wrap ((c : Nat) : Int) = (c : Int) := wrap64 (by omega)
          have y3 := sh_half (n := i + j) (by omega)
          rw [hc] at y3
          have y4 : IntKind.i64.wrap (((mid + m - 1 : Nat) : Int) - c) = ((mid + m - 1 - c : Nat) : Int) := by rw [wrap64 (by omega)]; omega
          have hcT : c < T.length := by omega
          have hcT' : mid + m - 1 - c < T.length := by omega
          have r1 := datT_row (T := T) (i := c) hcT
          have r2 := datT_row (T := T) (i := mid + m - 1 - c) hcT'
          simp only [smp] at r1 r2
          have hl : (datT T).length = T.length * 4 := datT_len T
          simp only [go_sem, Nat.reduceBEq, Nat.reduceAdd, Nat.reduceMul, Nat.reduceSub, Nat.reduceLeDiff, Nat.le_refl, implies_true, Nat.reduceLT, reduceIte, decide_true, decide_false, true_and, and_true, reduceCtorEq, Nat.mul_one, Int.reduceToNat, Int.reduceLE, Int.reduceLT, Int.reduceAdd, Int.reduceSub, Int.reduceMul, Int.cast_ofNat_Int, cast_zero_int, cast_one_int, Nat.reducePow, Nat.reduceEqDiff, Nat.reduceMod, Nat.zero_add, Nat.sub_zero, Nat.add_zero, e0, e1, e2, e3, e4, e18, e19, e20, e21, e22, show (i : Int) < j by omega, y1, y2, y3, y4, show (c : Int) < T.length by omega, show ((mid + m - 1 - c : Nat) : Int) < T.length by omega, self_get hg, r1, r2, hl, show c * 4 + 4 ≤ T.length * 4 by omega, show (mid + m - 1 - c) * 4 + 4 ≤ T.length * 4 by omega]
          refine ⟨by kernel_rfl, (c_cmpDay _ _ (hd.at hcT') (hd.at hcT)).use (fun _ m => m) ?_⟩
          rintro _ _ ⟨rfl, ⟨t2, rfl⟩⟩
          have hcx : T[c]? = some T[c] := List.getElem?_eq_getElem hcT
          have hcx' : T[mid + m - 1 - c]? = some T[mid + m - 1 - c] := List.getElem?_eq_getElem hcT'
          have num := hn c (mid + m - 1 - c) _ _ (by omega) (by omega) (by omega) (by omega) hcx hcx'
          by_cases hk2 : T[mid + m - 1 - c].1.1 - T[c].1.1 < 0
          · simp only [go_sem, Nat.reduceBEq, Nat.reduceAdd, Nat.reduceMul, Nat.reduceSub, Nat.reduceLeDiff, Nat.le_refl, implies_true, Nat.reduceLT, reduceIte, decide_true, decide_false, true_and, and_true, reduceCtorEq, Nat.mul_one, Int.reduceToNat, Int.reduceLE, Int.reduceLT, Int.reduceAdd, Int.reduceSub, Int.reduceMul, Int.cast_ofNat_Int, cast_zero_int, cast_one_int, Nat.reducePow, Nat.reduceEqDiff, Nat.reduceMod, Nat.zero_add, Nat.sub_zero, Nat.add_zero, e0, e1, e2, e3, e4, e18, e19, e20, e21, e22, show (i : Int) < j by omega, hk2, List.append_assoc, Bool.not_true, Bool.not_false]
            refine ⟨c - i, by omega, i, c, t ++ t2, Nat.le_refl _, ⟨s0, r0, ⟨f1, f2, by omega, by omega, f5, f6, f7⟩, g1, g2, lo, fun p u v p1 p2 hu hv => ?_⟩, rfl, rfl, HeapIs.rfl⟩
            have e1 : Rk dayK T[mid + m - 1 - c] T[c] := .inl (by show T[mid + m - 1 - c].1.1 < T[c].1.1; omega)
            by_cases e : p = c
            · subst e
              obtain rfl := Option.some.inj (hcx.symm.trans hu)
              obtain rfl := Option.some.inj (hcx'.symm.trans hv)
              exact e1
            · exact ((sr _ _ v _ (by omega) (by omega) (by omega) hv hcx').trans dayK e1).trans dayK (sl c p _ u (by omega) (by omega) (by omega) hcx hu)
          · simp only [go_sem, Nat.reduceBEq, Nat.reduceAdd, Nat.reduceMul, Nat.reduceSub, Nat.reduceLeDiff, Nat.le_refl, implies_true, Nat.reduceLT, reduceIte, decide_true, decide_false, true_and, and_true, reduceCtorEq, Nat.mul_one, Int.reduceToNat, Int.reduceLE, Int.reduceLT, Int.reduceAdd, Int.reduceSub, Int.reduceMul, Int.cast_ofNat_Int, cast_zero_int, cast_one_int, Nat.reducePow, Nat.reduceEqDiff, Nat.reduceMod, Nat.zero_add, Nat.sub_zero, Nat.add_zero, e0, e1, e2, e3, e4, e18, e19, e20, e21, e22, show (i : Int) < j by omega, hk2, List.append_assoc, Bool.not_true, Bool.not_false]
            refine ⟨j - (c + 1), by omega, c + 1, j, t ++ t2, Nat.le_refl _, ⟨s0, r0, ⟨f1, by omega, by omega, f4, f5, f6, f7⟩, g1, g2, fun p u v p1 p2 hu hv => ?_, up⟩, congrArg _ (by rw [wrap64 (by omega)]; omega), rfl, HeapIs.rfl⟩
            have e1 : Rk dayK T[c] T[mid + m - 1 - c] := by
              by_cases e : T[c].1.1 = T[mid + m - 1 - c].1.1
              · exact .inr ⟨e, num⟩
              · exact .inl (by show T[c].1.1 < T[mid + m - 1 - c].1.1; omega)
            by_cases e : p = c
            · subst e
              obtain rfl := Option.some.inj (hcx.symm.trans hu)
              obtain rfl := Option.some.inj (hcx'.symm.trans hv)
              exact e1
            · exact ((sl p c u _ (by omega) (by omega) (by omega) hu hcx).trans dayK e1).trans dayK (sr _ _ _ v (by omega) (by omega) (by omega) hcx' hv)
        · obtain rfl : i = j := by omega
          have w6 : IntKind.i64.wrap (((mid + m : Nat) : Int) - i) = ((mid + m - i : Nat) : Int) := by rw [wrap64 (by omega)]; omega
          have lo' : ∀ u v, a < i → mid + m - i < b → T[i - 1]? = some u → T[mid + m - i]? = some v → Rk dayK u v := fun u v q1 q2 hu hv =>
            lo (i - 1) u v (by omega) (by omega) hu (by rw [show mid + m - 1 - (i - 1) = mid + m - i by omega]; exact hv)
          have up' : ∀ u v, i < m → m < mid + m - i → T[i]? = some u → T[mid + m - i - 1]? = some v → Rk dayK v u := fun u v q1 q2 hu hv =>
            up i u v (by omega) (by omega) hu (by rw [show mid + m - 1 - i = mid + m - i - 1 by omega]; exact hv)
          simp only [go_sem, Nat.reduceBEq, Nat.reduceAdd, Nat.reduceMul, Nat.reduceSub, Nat.reduceLeDiff, Nat.le_refl, implies_true, Nat.reduceLT, reduceIte, decide_true, decide_false, true_and, and_true, reduceCtorEq, Nat.mul_one, Int.reduceToNat, Int.reduceLE, Int.reduceLT, Int.reduceAdd, Int.reduceSub, Int.reduceMul, Int.cast_ofNat_Int, cast_zero_int, cast_one_int, Nat.reducePow, Nat.reduceEqDiff, Nat.reduceMod, Nat.zero_add, Nat.sub_zero, Nat.add_zero, e0, e1, e2, e3, e4, e18, e19, e20, e21, e22, show ¬ (i : Int) < i by omega, w6]
          by_cases ra : i < m
          · by_cases rb : m < mid + m - i
            · simp only [go_sem, Nat.reduceBEq, Nat.reduceAdd, Nat.reduceMul, Nat.reduceSub, Nat.reduceLeDiff, Nat.le_refl, implies_true, Nat.reduceLT, reduceIte, decide_true, decide_false, true_and, and_true, reduceCtorEq, Nat.mul_one, Int.reduceToNat, Int.reduceLE, Int.reduceLT, Int.reduceAdd, Int.reduceSub, Int.reduceMul, Int.cast_ofNat_Int, cast_zero_int, cast_one_int, Nat.reducePow, Nat.reduceEqDiff, Nat.reduceMod, Nat.zero_add, Nat.sub_zero, Nat.add_zero, e0, e1, e2, e3, e4, e18, e19, e20, e21, e22, w6, show (i : Int) < m by omega, show (m : Int) < ((mid + m - i : Nat) : Int) by omega]
              refine ⟨by kernel_rfl, (c_rotate id T i m (mid + m - i) _ (self_get hg t) hown ra rb (by omega) hmax).use (fun _ m => m) ?_⟩
              rintro _ _ ⟨rfl, X, rX, rfl⟩
              rw [List.set_append_left _ _ hidl]
              have r2l : X.length = T.length := rX.1.length_eq
              have dX : Days X := hd.mv (rX.mv (by omega) (by omega))
              obtain ⟨bel, sA, sB, sC, sD⟩ := cut_bel h3 sl sr (by omega) (by omega) (by omega) (by omega) (by omega) (by omega) lo' up' rX
              obtain ⟨nC, nD⟩ := cut_num hn (by omega) (by omega) (by omega) (by omega) (by omega) rX
              by_cases pa : a < i
              · by_cases pb : i < mid
                · simp only [go_sem, Nat.reduceBEq, Nat.reduceAdd, Nat.reduceMul, Nat.reduceSub, Nat.reduceLeDiff, Nat.le_refl, implies_true, Nat.reduceLT, reduceIte, decide_true, decide_false, true_and, and_true, reduceCtorEq, Nat.mul_one, Int.reduceToNat, Int.reduceLE, Int.reduceLT, Int.reduceAdd, Int.reduceSub, Int.reduceMul, Int.cast_ofNat_Int, cast_zero_int, cast_one_int, Nat.reducePow, Nat.reduceEqDiff, Nat.reduceMod, Nat.zero_add, Nat.sub_zero, Nat.add_zero, e0, e1, e2, e3, e4, e18, e19, e20, e21, e22, w6, show (a : Int) < i by omega, show (i : Int) < mid by omega]
                  have hc := c_symMerge n (h := h.set id ⟨datT X, 4, .rw⟩ ++ t) (M := own h.length M) id X a i mid (by omega) (hgs hidl _ _) hown pa pb (by omega) (by omega) dX nC sA sB
                  rw [r2l] at hc
                  refine ⟨by kernel_rfl, (hc).use (fun _ m => m) ?_⟩
                  rintro _ _ ⟨rfl, X1, t2, mv1, s1, rfl⟩
                  obtain ⟨t1, ht1⟩ : ∃ t1, t1 = t ++ t2 := ⟨_, rfl⟩
                  rw [sts hidl, List.append_assoc, ← ht1]
                  have len1 : X1.length = T.length := by rw [mv1.len, r2l]
                  have dX1 : Days X1 := dX.mv mv1
                  by_cases qa : mid < mid + m - i
                  · by_cases qb : mid + m - i < b
                    · simp only [go_sem, Nat.reduceBEq, Nat.reduceAdd, Nat.reduceMul, Nat.reduceSub, Nat.reduceLeDiff, Nat.le_refl, implies_true, Nat.reduceLT, reduceIte, decide_true, decide_false, true_and, and_true, reduceCtorEq, Nat.mul_one, Int.reduceToNat, Int.reduceLE, Int.reduceLT, Int.reduceAdd, Int.reduceSub, Int.reduceMul, Int.cast_ofNat_Int, cast_zero_int, cast_one_int, Nat.reducePow, Nat.reduceEqDiff, Nat.reduceMod, Nat.zero_add, Nat.sub_zero, Nat.add_zero, e0, e1, e2, e3, e4, e18, e19, e20, e21, e22, w6, show (mid : Int) < ((mid + m - i : Nat) : Int) by omega, show ((mid + m - i : Nat) : Int) < b by omega]
                      have hc := c_symMerge n (h := h.set id ⟨datT X1, 4, .rw⟩ ++ t1) (M := own h.length M) id X1 mid (mid + m - i) b (by omega) (hgs hidl _ _) hown qa qb (by rw [len1]; exact h3) (by omega) dX1 (nD.mv fun p p1 p2 => mv1.out p (.inr p1)) (sC.same fun p p1 p2 => mv1.out p (.inr p1)) (sD.same fun p p1 p2 => mv1.out p (.inr (by omega)))
                      rw [len1] at hc
                      refine ⟨by kernel_rfl, (hc).use (fun _ m => m) ?_⟩
                      rintro _ _ ⟨rfl, X2, t2, mv2, s2', rfl⟩
                      have mvT : Mv a b T X2 := (rX.mv (by omega) (by omega)).wide (by omega) (by omega) |>.trans ((mv1.wide (Nat.le_refl _) (by omega)).trans (mv2.wide (by omega) (Nat.le_refl _)))
                      have srtT : Srt dayK X2 a b := (s1.same fun p p1 p2 => mv2.out p (.inl p2)).join s2' (bel.mv mv1 mv2)
                      exact ⟨X2, _, mvT, srtT, by rw [sts hidl, List.append_assoc]⟩
                    · have sCD : Srt dayK X mid b := by
                        rw [show mid + m - i = b by omega] at sC
                        exact sC
                      simp only [go_sem, Nat.reduceBEq, Nat.reduceAdd, Nat.reduceMul, Nat.reduceSub, Nat.reduceLeDiff, Nat.le_refl, implies_true, Nat.reduceLT, reduceIte, decide_true, decide_false, true_and, and_true, reduceCtorEq, Nat.mul_one, Int.reduceToNat, Int.reduceLE, Int.reduceLT, Int.reduceAdd, Int.reduceSub, Int.reduceMul, Int.cast_ofNat_Int, cast_zero_int, cast_one_int, Nat.reducePow, Nat.reduceEqDiff, Nat.reduceMod, Nat.zero_add, Nat.sub_zero, Nat.add_zero, e0, e1, e2, e3, e4, e18, e19, e20, e21, e22, w6, show (mid : Int) < ((mid + m - i : Nat) : Int) by omega, show ¬ ((mid + m - i : Nat) : Int) < b by omega]
                      have mv2 : Mv mid b X1 X1 := Mv.refl _ _ _
                      have s2' : Srt dayK X1 mid b := sCD.same fun p p1 p2 => mv1.out p (.inr p1)
                      have mvT : Mv a b T X1 := (rX.mv (by omega) (by omega)).wide (by omega) (by omega) |>.trans ((mv1.wide (Nat.le_refl _) (by omega)).trans (mv2.wide (by omega) (Nat.le_refl _)))
                      have srtT : Srt dayK X1 a b := (s1.same fun p p1 p2 => mv2.out p (.inl p2)).join s2' (bel.mv mv1 mv2)
                      exact ⟨X1, _, mvT, srtT, rfl⟩
                  · have sCD : Srt dayK X mid b := by
                      rw [show mid + m - i = mid by omega] at sD
                      exact sD
                    simp only [go_sem, Nat.reduceBEq, Nat.reduceAdd, Nat.reduceMul, Nat.reduceSub, Nat.reduceLeDiff, Nat.le_refl, implies_true, Nat.reduceLT, reduceIte, decide_true, decide_false, true_and, and_true, reduceCtorEq, Nat.mul_one, Int.reduceToNat, Int.reduceLE, Int.reduceLT, Int.reduceAdd, Int.reduceSub, Int.reduceMul, Int.cast_ofNat_Int, cast_zero_int, cast_one_int, Nat.reducePow, Nat.reduceEqDiff, Nat.reduceMod, Nat.zero_add, Nat.sub_zero, Nat.add_zero, e0, e1, e2, e3, e4, e18, e19, e20, e21, e22, w6, show ¬ (mid : Int) < ((mid + m - i : Nat) : Int) by omega]
                    have mv2 : Mv mid b X1 X1 := Mv.refl _ _ _
                    have s2' : Srt dayK X1 mid b := sCD.same fun p p1 p2 => mv1.out p (.inr p1)
                    have mvT : Mv a b T X1 := (rX.mv (by omega) (by omega)).wide (by omega) (by omega) |>.trans ((mv1.wide (Nat.le_refl _) (by omega)).trans (mv2.wide (by omega) (Nat.le_refl _)))
                    have srtT : Srt dayK X1 a b := (s1.same fun p p1 p2 => mv2.out p (.inl p2)).join s2' (bel.mv mv1 mv2)
                    exact ⟨X1, _, mvT, srtT, rfl⟩
                · have s1 : Srt dayK X a mid := by
                    rw [show i = mid by omega] at sA
                    exact sA
                  simp only [go_sem, Nat.reduceBEq, Nat.reduceAdd, Nat.reduceMul, Nat.reduceSub, Nat.reduceLeDiff, Nat.le_refl, implies_true, Nat.reduceLT, reduceIte, decide_true, decide_false, true_and, and_true, reduceCtorEq, Nat.mul_one, Int.reduceToNat, Int.reduceLE, Int.reduceLT, Int.reduceAdd, Int.reduceSub, Int.reduceMul, Int.cast_ofNat_Int, cast_zero_int, cast_one_int, Nat.reducePow, Nat.reduceEqDiff, Nat.reduceMod, Nat.zero_add, Nat.sub_zero, Nat.add_zero, e0, e1, e2, e3, e4, e18, e19, e20, e21, e22, w6, show (a : Int) < i by omega, show ¬ (i : Int) < mid by omega]
                  have mv1 : Mv a mid X X := Mv.refl _ _ _
                  have len1 : X.length = T.length := by rw [mv1.len, r2l]
                  have dX : Days X := dX.mv mv1
                  by_cases qa : mid < mid + m - i
                  · by_cases qb : mid + m - i < b
                    · simp only [go_sem, Nat.reduceBEq, Nat.reduceAdd, Nat.reduceMul, Nat.reduceSub, Nat.reduceLeDiff, Nat.le_refl, implies_true, Nat.reduceLT, reduceIte, decide_true, decide_false, true_and, and_true, reduceCtorEq, Nat.mul_one, Int.reduceToNat, Int.reduceLE, Int.reduceLT, Int.reduceAdd, Int.reduceSub, Int.reduceMul, Int.cast_ofNat_Int, cast_zero_int, cast_one_int, Nat.reducePow, Nat.reduceEqDiff, Nat.reduceMod, Nat.zero_add, Nat.sub_zero, Nat.add_zero, e0, e1, e2, e3, e4, e18, e19, e20, e21, e22, w6, show (mid : Int) < ((mid + m - i : Nat) : Int) by omega, show ((mid + m - i : Nat) : Int) < b by omega]
                      have hc := c_symMerge n (h := h.set id ⟨datT X, 4, .rw⟩ ++ t) (M := own h.length M) id X mid (mid + m - i) b (by omega) (hgs hidl _ _) hown qa qb (by rw [len1]; exact h3) (by omega) dX (nD.mv fun p p1 p2 => mv1.out p (.inr p1)) (sC.same fun p p1 p2 => mv1.out p (.inr p1)) (sD.same fun p p1 p2 => mv1.out p (.inr (by omega)))
                      rw [len1] at hc
                      refine ⟨by kernel_rfl, (hc).use (fun _ m => m) ?_⟩
                      rintro _ _ ⟨rfl, X2, t2, mv2, s2', rfl⟩
                      have mvT : Mv a b T X2 := (rX.mv (by omega) (by omega)).wide (by omega) (by omega) |>.trans ((mv1.wide (Nat.le_refl _) (by omega)).trans (mv2.wide (by omega) (Nat.le_refl _)))
                      have srtT : Srt dayK X2 a b := (s1.same fun p p1 p2 => mv2.out p (.inl p2)).join s2' (bel.mv mv1 mv2)
                      exact ⟨X2, _, mvT, srtT, by rw [sts hidl, List.append_assoc]⟩
                    · have sCD : Srt dayK X mid b := by
                        rw [show mid + m - i = b by omega] at sC
                        exact sC
                      simp only [go_sem, Nat.reduceBEq, Nat.reduceAdd, Nat.reduceMul, Nat.reduceSub, Nat.reduceLeDiff, Nat.le_refl, implies_true, Nat.reduceLT, reduceIte, decide_true, decide_false, true_and, and_true, reduceCtorEq, Nat.mul_one, Int.reduceToNat, Int.reduceLE, Int.reduceLT, Int.reduceAdd, Int.reduceSub, Int.reduceMul, Int.cast_ofNat_Int, cast_zero_int, cast_one_int, Nat.reducePow, Nat.reduceEqDiff, Nat.reduceMod, Nat.zero_add, Nat.sub_zero, Nat.add_zero, e0, e1, e2, e3, e4, e18, e19, e20, e21, e22, w6, show (mid : Int) < ((mid + m - i : Nat) : Int) by omega, show ¬ ((mid + m - i : Nat) : Int) < b by omega]
                      have mv2 : Mv mid b X X := Mv.refl _ _ _
                      have s2' : Srt dayK X mid b := sCD.same fun p p1 p2 => mv1.out p (.inr p1)
                      have mvT : Mv a b T X := (rX.mv (by omega) (by omega)).wide (by omega) (by omega) |>.trans ((mv1.wide (Nat.le_refl _) (by omega)).trans (mv2.wide (by omega) (Nat.le_refl _)))
                      have srtT : Srt dayK X a b := (s1.same fun p p1 p2 => mv2.out p (.inl p2)).join s2' (bel.mv mv1 mv2)
                      exact ⟨X, _, mvT, srtT, rfl⟩
                  · have sCD : Srt dayK X mid b := by
                      rw [show mid + m - i = mid by omega] at sD
                      exact sD
                    simp only [go_sem, Nat.reduceBEq, Nat.reduceAdd, Nat.reduceMul, Nat.reduceSub, Nat.reduceLeDiff, Nat.le_refl, implies_true, Nat.reduceLT, reduceIte, decide_true, decide_false, true_and, and_true, reduceCtorEq, Nat.mul_one, Int.reduceToNat, Int.reduceLE, Int.reduceLT, Int.reduceAdd, Int.reduceSub, Int.reduceMul, Int.cast_ofNat_Int, cast_zero_int, cast_one_int, Nat.reducePow, Nat.reduceEqDiff, Nat.reduceMod, Nat.zero_add, Nat.sub_zero, Nat.add_zero, e0, e1, e2, e3, e4, e18, e19, e20, e21, e22, w6, show ¬ (mid : Int) < ((mid + m - i : Nat) : Int) by omega]
                    have mv2 : Mv mid b X X := Mv.refl _ _ _
                    have s2' : Srt dayK X mid b := sCD.same fun p p1 p2 => mv1.out p (.inr p1)
                    have mvT : Mv a b T X := (rX.mv (by omega) (by omega)).wide (by omega) (by omega) |>.trans ((mv1.wide (Nat.le_refl _) (by omega)).trans (mv2.wide (by omega) (Nat.le_refl _)))
                    have srtT : Srt dayK X a b := (s1.same fun p p1 p2 => mv2.out p (.inl p2)).join s2' (bel.mv mv1 mv2)
                    exact ⟨X, _, mvT, srtT, rfl⟩
              · have s1 : Srt dayK X a mid := by
                  rw [show i = a by omega] at sB
                  exact sB
                simp only [go_sem, Nat.reduceBEq, Nat.reduceAdd, Nat.reduceMul, Nat.reduceSub, Nat.reduceLeDiff, Nat.le_refl, implies_true, Nat.reduceLT, reduceIte, decide_true, decide_false, true_and, and_true, reduceCtorEq, Nat.mul_one, Int.reduceToNat, Int.reduceLE, Int.reduceLT, Int.reduceAdd, Int.reduceSub, Int.reduceMul, Int.cast_ofNat_Int, cast_zero_int, cast_one_int, Nat.reducePow, Nat.reduceEqDiff, Nat.reduceMod, Nat.zero_add, Nat.sub_zero, Nat.add_zero, e0, e1, e2, e3, e4, e18, e19, e20, e21, e22, w6, show ¬ (a : Int) < i by omega]
                have mv1 : Mv a mid X X := Mv.refl _ _ _
                have len1 : X.length = T.length := by rw [mv1.len, r2l]
                have dX : Days X := dX.mv mv1
                by_cases qa : mid < mid + m - i
                · by_cases qb : mid + m - i < b
                  · simp only [go_sem, Nat.reduceBEq, Nat.reduceAdd, Nat.reduceMul, Nat.reduceSub, Nat.reduceLeDiff, Nat.le_refl, implies_true, Nat.reduceLT, reduceIte, decide_true, decide_false, true_and, and_true, reduceCtorEq, Nat.mul_one, Int.reduceToNat, Int.reduceLE, Int.reduceLT, Int.reduceAdd, Int.reduceSub, Int.reduceMul, Int.cast_ofNat_Int, cast_zero_int, cast_one_int, Nat.reducePow, Nat.reduceEqDiff, Nat.reduceMod, Nat.zero_add, Nat.sub_zero, Nat.add_zero, e0, e1, e2, e3, e4, e18, e19, e20, e21, e22, w6, show (mid : Int) < ((mid + m - i : Nat) : Int) by omega, show ((mid + m - i : Nat) : Int) < b by omega]
                    have hc := c_symMerge n (h := h.set id ⟨datT X, 4, .rw⟩ ++ t) (M := own h.length M) id X mid (mid + m - i) b (by omega) (hgs hidl _ _) hown qa qb (by rw [len1]; exact h3) (by omega) dX (nD.mv fun p p1 p2 => mv1.out p (.inr p1)) (sC.same fun p p1 p2 => mv1.out p (.inr p1)) (sD.same fun p p1 p2 => mv1.out p (.inr (by omega)))
                    rw [len1] at hc
                    refine ⟨by kernel_rfl, (hc).use (fun _ m => m) ?_⟩
                    rintro _ _ ⟨rfl, X2, t2, mv2, s2', rfl⟩
                    have mvT : Mv a b T X2 := (rX.mv (by omega) (by omega)).wide (by omega) (by omega) |>.trans ((mv1.wide (Nat.le_refl _) (by omega)).trans (mv2.wide (by omega) (Nat.le_refl _)))
                    have srtT : Srt dayK X2 a b := (s1.same fun p p1 p2 => mv2.out p (.inl p2)).join s2' (bel.mv mv1 mv2)
                    exact ⟨X2, _, mvT, srtT, by rw [sts hidl, List.append_assoc]⟩
                  · have sCD : Srt dayK X mid b := by
                      rw [show mid + m - i = b by omega] at sC
                      exact sC
                    simp only [go_sem, Nat.reduceBEq, Nat.reduceAdd, Nat.reduceMul, Nat.reduceSub, Nat.reduceLeDiff, Nat.le_refl, implies_true, Nat.reduceLT, reduceIte, decide_true, decide_false, true_and, and_true, reduceCtorEq, Nat.mul_one, Int.reduceToNat, Int.reduceLE, Int.reduceLT, Int.reduceAdd, Int.reduceSub, Int.reduceMul, Int.cast_ofNat_Int, cast_zero_int, cast_one_int, Nat.reducePow, Nat.reduceEqDiff, Nat.reduceMod, Nat.zero_add, Nat.sub_zero, Nat.add_zero, e0, e1, e2, e3, e4, e18, e19, e20, e21, e22, w6, show (mid : Int) < ((mid + m - i : Nat) : Int) by omega, show ¬ ((mid + m - i : Nat) : Int) < b by omega]
                    have mv2 : Mv mid b X X := Mv.refl _ _ _
                    have s2' : Srt dayK X mid b := sCD.same fun p p1 p2 => mv1.out p (.inr p1)
                    have mvT : Mv a b T X := (rX.mv (by omega) (by omega)).wide (by omega) (by omega) |>.trans ((mv1.wide (Nat.le_refl _) (by omega)).trans (mv2.wide (by omega) (Nat.le_refl _)))
                    have srtT : Srt dayK X a b := (s1.same fun p p1 p2 => mv2.out p (.inl p2)).join s2' (bel.mv mv1 mv2)
                    exact ⟨X, _, mvT, srtT, rfl⟩
                · have sCD : Srt dayK X mid b := by
                    rw [show mid + m - i = mid by omega] at sD
                    exact sD
                  simp only [go_sem, Nat.reduceBEq, Nat.reduceAdd, Nat.reduceMul, Nat.reduceSub, Nat.reduceLeDiff, Nat.le_refl, implies_true, Nat.reduceLT, reduceIte, decide_true, decide_false, true_and, and_true, reduceCtorEq, Nat.mul_one, Int.reduceToNat, Int.reduceLE, Int.reduceLT, Int.reduceAdd, Int.reduceSub, Int.reduceMul, Int.cast_ofNat_Int, cast_zero_int, cast_one_int, Nat.reducePow, Nat.reduceEqDiff, Nat.reduceMod, Nat.zero_add, Nat.sub_zero, Nat.add_zero, e0, e1, e2, e3, e4, e18, e19, e20, e21, e22, w6, show ¬ (mid : Int) < ((mid + m - i : Nat) : Int) by omega]
                  have mv2 : Mv mid b X X := Mv.refl _ _ _
                  have s2' : Srt dayK X mid b := sCD.same fun p p1 p2 => mv1.out p (.inr p1)
                  have mvT : Mv a b T X := (rX.mv (by omega) (by omega)).wide (by omega) (by omega) |>.trans ((mv1.wide (Nat.le_refl _) (by omega)).trans (mv2.wide (by omega) (Nat.le_refl _)))
                  have srtT : Srt dayK X a b := (s1.same fun p p1 p2 => mv2.out p (.inl p2)).join s2' (bel.mv mv1 mv2)
                  exact ⟨X, _, mvT, srtT, rfl⟩
            · simp only [go_sem, Nat.reduceBEq, Nat.reduceAdd, Nat.reduceMul, Nat.reduceSub, Nat.reduceLeDiff, Nat.le_refl, implies_true, Nat.reduceLT, reduceIte, decide_true, decide_false, true_and, and_true, reduceCtorEq, Nat.mul_one, Int.reduceToNat, Int.reduceLE, Int.reduceLT, Int.reduceAdd, Int.reduceSub, Int.reduceMul, Int.cast_ofNat_Int, cast_zero_int, cast_one_int, Nat.reducePow, Nat.reduceEqDiff, Nat.reduceMod, Nat.zero_add, Nat.sub_zero, Nat.add_zero, e0, e1, e2, e3, e4, e18, e19, e20, e21, e22, w6, show (i : Int) < m by omega, show ¬ (m : Int) < ((mid + m - i : Nat) : Int) by omega]
              obtain ⟨X, hX⟩ : ∃ X, X = T := ⟨_, rfl⟩
              have rX : IsRot T X i m (mid + m - i) := by
                rw [hX]
                exact rot_none (.inr (by omega))
              have hh : h ++ t = h.set id ⟨datT X, 4, .rw⟩ ++ t := by rw [hX, set_self_get hg]
              rw [hh]
              have r2l : X.length = T.length := rX.1.length_eq
              have dX : Days X := hd.mv (rX.mv (by omega) (by omega))
              obtain ⟨bel, sA, sB, sC, sD⟩ := cut_bel h3 sl sr (by omega) (by omega) (by omega) (by omega) (by omega) (by omega) lo' up' rX
              obtain ⟨nC, nD⟩ := cut_num hn (by omega) (by omega) (by omega) (by omega) (by omega) rX
              by_cases pa : a < i
              · by_cases pb : i < mid
                · simp only [go_sem, Nat.reduceBEq, Nat.reduceAdd, Nat.reduceMul, Nat.reduceSub, Nat.reduceLeDiff, Nat.le_refl, implies_true, Nat.reduceLT, reduceIte, decide_true, decide_false, true_and, and_true, reduceCtorEq, Nat.mul_one, Int.reduceToNat, Int.reduceLE, Int.reduceLT, Int.reduceAdd, Int.reduceSub, Int.reduceMul, Int.cast_ofNat_Int, cast_zero_int, cast_one_int, Nat.reducePow, Nat.reduceEqDiff, Nat.reduceMod, Nat.zero_add, Nat.sub_zero, Nat.add_zero, e0, e1, e2, e3, e4, e18, e19, e20, e21, e22, w6, show (a : Int) < i by omega, show (i : Int) < mid by omega]
                  have hc := c_symMerge n (h := h.set id ⟨datT X, 4, .rw⟩ ++ t) (M := own h.length M) id X a i mid (by omega) (hgs hidl _ _) hown pa pb (by omega) (by omega) dX nC sA sB
                  rw [r2l] at hc
                  refine ⟨by kernel_rfl, (hc).use (fun _ m => m) ?_⟩
                  rintro _ _ ⟨rfl, X1, t2, mv1, s1, rfl⟩
                  obtain ⟨t1, ht1⟩ : ∃ t1, t1 = t ++ t2 := ⟨_, rfl⟩
                  rw [sts hidl, List.append_assoc, ← ht1]
                  have len1 : X1.length = T.length := by rw [mv1.len, r2l]
                  have dX1 : Days X1 := dX.mv mv1
                  by_cases qa : mid < mid + m - i
                  · by_cases qb : mid + m - i < b
                    · simp only [go_sem, Nat.reduceBEq, Nat.reduceAdd, Nat.reduceMul, Nat.reduceSub, Nat.reduceLeDiff, Nat.le_refl, implies_true, Nat.reduceLT, reduceIte, decide_true, decide_false, true_and, and_true, reduceCtorEq, Nat.mul_one, Int.reduceToNat, Int.reduceLE, Int.reduceLT, Int.reduceAdd, Int.reduceSub, Int.reduceMul, Int.cast_ofNat_Int, cast_zero_int, cast_one_int, Nat.reducePow, Nat.reduceEqDiff, Nat.reduceMod, Nat.zero_add, Nat.sub_zero, Nat.add_zero, e0, e1, e2, e3, e4, e18, e19, e20, e21, e22, w6, show (mid : Int) < ((mid + m - i : Nat) : Int) by omega, show ((mid + m - i : Nat) : Int) < b by omega]
                      have hc := c_symMerge n (h := h.set id ⟨datT X1, 4, .rw⟩ ++ t1) (M := own h.length M) id X1 mid (mid + m - i) b (by omega) (hgs hidl _ _) hown qa qb (by rw [len1]; exact h3) (by omega) dX1 (nD.mv fun p p1 p2 => mv1.out p (.inr p1)) (sC.same fun p p1 p2 => mv1.out p (.inr p1)) (sD.same fun p p1 p2 => mv1.out p (.inr (by omega)))
                      rw [len1] at hc
                      refine ⟨by kernel_rfl, (hc).use (fun _ m => m) ?_⟩
                      rintro _ _ ⟨rfl, X2, t2, mv2, s2', rfl⟩
                      have mvT : Mv a b T X2 := (rX.mv (by omega) (by omega)).wide (by omega) (by omega) |>.trans ((mv1.wide (Nat.le_refl _) (by omega)).trans (mv2.wide (by omega) (Nat.le_refl _)))
                      have srtT : Srt dayK X2 a b := (s1.same fun p p1 p2 => mv2.out p (.inl p2)).join s2' (bel.mv mv1 mv2)
                      exact ⟨X2, _, mvT, srtT, by rw [sts hidl, List.append_assoc]⟩
                    · have sCD : Srt dayK X mid b := by
                        rw [show mid + m - i = b by omega] at sC
                        exact sC
                      simp only [go_sem, Nat.reduceBEq, Nat.reduceAdd, Nat.reduceMul, Nat.reduceSub, Nat.reduceLeDiff, Nat.le_refl, implies_true, Nat.reduceLT, reduceIte, decide_true, decide_false, true_and, and_true, reduceCtorEq, Nat.mul_one, Int.reduceToNat, Int.reduceLE, Int.reduceLT, Int.reduceAdd, Int.reduceSub, Int.reduceMul, Int.cast_ofNat_Int, cast_zero_int, cast_one_int, Nat.reducePow, Nat.reduceEqDiff, Nat.reduceMod, Nat.zero_add, Nat.sub_zero, Nat.add_zero, e0, e1, e2, e3, e4, e18, e19, e20, e21, e22, w6, show (mid : Int) < ((mid + m - i : Nat) : Int) by omega, show ¬ ((mid + m - i : Nat) : Int) < b by omega]
                      have mv2 : Mv mid b X1 X1 := Mv.refl _ _ _
                      have s2' : Srt dayK X1 mid b := sCD.same fun p p1 p2 => mv1.out p (.inr p1)
                      have mvT : Mv a b T X1 := (rX.mv (by omega) (by omega)).wide (by omega) (by omega) |>.trans ((mv1.wide (Nat.le_refl _) (by omega)).trans (mv2.wide (by omega) (Nat.le_refl _)))
                      have srtT : Srt dayK X1 a b := (s1.same fun p p1 p2 => mv2.out p (.inl p2)).join s2' (bel.mv mv1 mv2)
                      exact ⟨X1, _, mvT, srtT, rfl⟩
                  · have sCD : Srt dayK X mid b := by
                      rw [show mid + m - i = mid by omega] at sD
                      exact sD
                    simp only [go_sem, Nat.reduceBEq, Nat.reduceAdd, Nat.reduceMul, Nat.reduceSub, Nat.reduceLeDiff, Nat.le_refl, implies_true, Nat.reduceLT, reduceIte, decide_true, decide_false, true_and, and_true, reduceCtorEq, Nat.mul_one, Int.reduceToNat, Int.reduceLE, Int.reduceLT, Int.reduceAdd, Int.reduceSub, Int.reduceMul, Int.cast_ofNat_Int, cast_zero_int, cast_one_int, Nat.reducePow, Nat.reduceEqDiff, Nat.reduceMod, Nat.zero_add, Nat.sub_zero, Nat.add_zero, e0, e1, e2, e3, e4, e18, e19, e20, e21, e22, w6, show ¬ (mid : Int) < ((mid + m - i : Nat) : Int) by omega]
                    have mv2 : Mv mid b X1 X1 := Mv.refl _ _ _
                    have s2' : Srt dayK X1 mid b := sCD.same fun p p1 p2 => mv1.out p (.inr p1)
                    have mvT : Mv a b T X1 := (rX.mv (by omega) (by omega)).wide (by omega) (by omega) |>.trans ((mv1.wide (Nat.le_refl _) (by omega)).trans (mv2.wide (by omega) (Nat.le_refl _)))
                    have srtT : Srt dayK X1 a b := (s1.same fun p p1 p2 => mv2.out p (.inl p2)).join s2' (bel.mv mv1 mv2)
                    exact ⟨X1, _, mvT, srtT, rfl⟩
                · have s1 : Srt dayK X a mid := by
                    rw [show i = mid by omega] at sA
                    exact sA
                  simp only [go_sem, Nat.reduceBEq, Nat.reduceAdd, Nat.reduceMul, Nat.reduceSub, Nat.reduceLeDiff, Nat.le_refl, implies_true, Nat.reduceLT, reduceIte, decide_true, decide_false, true_and, and_true, reduceCtorEq, Nat.mul_one, Int.reduceToNat, Int.reduceLE, Int.reduceLT, Int.reduceAdd, Int.reduceSub, Int.reduceMul, Int.cast_ofNat_Int, cast_zero_int, cast_one_int, Nat.reducePow, Nat.reduceEqDiff, Nat.reduceMod, Nat.zero_add, Nat.sub_zero, Nat.add_zero, e0, e1, e2, e3, e4, e18, e19, e20, e21, e22, w6, show (a : Int) < i by omega, show ¬ (i : Int) < mid by omega]
                  have mv1 : Mv a mid X X := Mv.refl _ _ _
                  have len1 : X.length = T.length := by rw [mv1.len, r2l]
                  have dX : Days X := dX.mv mv1
                  by_cases qa : mid < mid + m - i
                  · by_cases qb : mid + m - i < b
                    · simp only [go_sem, Nat.reduceBEq, Nat.reduceAdd, Nat.reduceMul, Nat.reduceSub, Nat.reduceLeDiff, Nat.le_refl, implies_true, Nat.reduceLT, reduceIte, decide_true, decide_false, true_and, and_true, reduceCtorEq, Nat.mul_one, Int.reduceToNat, Int.reduceLE, Int.reduceLT, Int.reduceAdd, Int.reduceSub, Int.reduceMul, Int.cast_ofNat_Int, cast_zero_int, cast_one_int, Nat.reducePow, Nat.reduceEqDiff, Nat.reduceMod, Nat.zero_add, Nat.sub_zero, Nat.add_zero, e0, e1, e2, e3, e4, e18, e19, e20, e21, e22, w6, show (mid : Int) < ((mid + m - i : Nat) : Int) by omega, show ((mid + m - i : Nat) : Int) < b by omega]
                      have hc := c_symMerge n (h := h.set id ⟨datT X, 4, .rw⟩ ++ t) (M := own h.length M) id X mid (mid + m - i) b (by omega) (hgs hidl _ _) hown qa qb (by rw [len1]; exact h3) (by omega) dX (nD.mv fun p p1 p2 => mv1.out p (.inr p1)) (sC.same fun p p1 p2 => mv1.out p (.inr p1)) (sD.same fun p p1 p2 => mv1.out p (.inr (by omega)))
                      rw [len1] at hc
                      refine ⟨by kernel_rfl, (hc).use (fun _ m => m) ?_⟩
                      rintro _ _ ⟨rfl, X2, t2, mv2, s2', rfl⟩
                      have mvT : Mv a b T X2 := (rX.mv (by omega) (by omega)).wide (by omega) (by omega) |>.trans ((mv1.wide (Nat.le_refl _) (by omega)).trans (mv2.wide (by omega) (Nat.le_refl _)))
                      have srtT : Srt dayK X2 a b := (s1.same fun p p1 p2 => mv2.out p (.inl p2)).join s2' (bel.mv mv1 mv2)
                      exact ⟨X2, _, mvT, srtT, by rw [sts hidl, List.append_assoc]⟩
                    · have sCD : Srt dayK X mid b := by
                        rw [show mid + m - i = b by omega] at sC
                        exact sC
                      simp only [go_sem, Nat.reduceBEq, Nat.reduceAdd, Nat.reduceMul, Nat.reduceSub, Nat.reduceLeDiff, Nat.le_refl, implies_true, Nat.reduceLT, reduceIte, decide_true, decide_false, true_and, and_true, reduceCtorEq, Nat.mul_one, Int.reduceToNat, Int.reduceLE, Int.reduceLT, Int.reduceAdd, Int.reduceSub, Int.reduceMul, Int.cast_ofNat_Int, cast_zero_int, cast_one_int, Nat.reducePow, Nat.reduceEqDiff, Nat.reduceMod, Nat.zero_add, Nat.sub_zero, Nat.add_zero, e0, e1, e2, e3, e4, e18, e19, e20, e21, e22, w6, show (mid : Int) < ((mid + m - i : Nat) : Int) by omega, show ¬ ((mid + m - i : Nat) : Int) < b by omega]
                      have mv2 : Mv mid b X X := Mv.refl _ _ _
                      have s2' : Srt dayK X mid b := sCD.same fun p p1 p2 => mv1.out p (.inr p1)
                      have mvT : Mv a b T X := (rX.mv (by omega) (by omega)).wide (by omega) (by omega) |>.trans ((mv1.wide (Nat.le_refl _) (by omega)).trans (mv2.wide (by omega) (Nat.le_refl _)))
                      have srtT : Srt dayK X a b := (s1.same fun p p1 p2 => mv2.out p (.inl p2)).join s2' (bel.mv mv1 mv2)
                      exact ⟨X, _, mvT, srtT, rfl⟩
                  · have sCD : Srt dayK X mid b := by
                      rw [show mid + m - i = mid by omega] at sD
                      exact sD
                    simp only [go_sem, Nat.reduceBEq, Nat.reduceAdd, Nat.reduceMul, Nat.reduceSub, Nat.reduceLeDiff, Nat.le_refl, implies_true, Nat.reduceLT, reduceIte, decide_true, decide_false, true_and, and_true, reduceCtorEq, Nat.mul_one, Int.reduceToNat, Int.reduceLE, Int.reduceLT, Int.reduceAdd, Int.reduceSub, Int.reduceMul, Int.cast_ofNat_Int, cast_zero_int, cast_one_int, Nat.reducePow, Nat.reduceEqDiff, Nat.reduceMod, Nat.zero_add, Nat.sub_zero, Nat.add_zero, e0, e1, e2, e3, e4, e18, e19, e20, e21, e22, w6, show ¬ (mid : Int) < ((mid + m - i : Nat) : Int) by omega]
                    have mv2 : Mv mid b X X := Mv.refl _ _ _
                    have s2' : Srt dayK X mid b := sCD.same fun p p1 p2 => mv1.out p (.inr p1)
                    have mvT : Mv a b T X := (rX.mv (by omega) (by omega)).wide (by omega) (by omega) |>.trans ((mv1.wide (Nat.le_refl _) (by omega)).trans (mv2.wide (by omega) (Nat.le_refl _)))
                    have srtT : Srt dayK X a b := (s1.same fun p p1 p2 => mv2.out p (.inl p2)).join s2' (bel.mv mv1 mv2)
                    exact ⟨X, _, mvT, srtT, rfl⟩
              · have s1 : Srt dayK X a mid := by
                  rw [show i = a by omega] at sB
                  exact sB
                simp only [go_sem, Nat.reduceBEq, Nat.reduceAdd, Nat.reduceMul, Nat.reduceSub, Nat.reduceLeDiff, Nat.le_refl, implies_true, Nat.reduceLT, reduceIte, decide_true, decide_false, true_and, and_true, reduceCtorEq, Nat.mul_one, Int.reduceToNat, Int.reduceLE, Int.reduceLT, Int.reduceAdd, Int.reduceSub, Int.reduceMul, Int.cast_ofNat_Int, cast_zero_int, cast_one_int, Nat.reducePow, Nat.reduceEqDiff, Nat.reduceMod, Nat.zero_add, Nat.sub_zero, Nat.add_zero, e0, e1, e2, e3, e4, e18, e19, e20, e21, e22, w6, show ¬ (a : Int) < i by omega]
                have mv1 : Mv a mid X X := Mv.refl _ _ _
                have len1 : X.length = T.length := by rw [mv1.len, r2l]
                have dX : Days X := dX.mv mv1
                by_cases qa : mid < mid + m - i
                · by_cases qb : mid + m - i < b
                  · simp only [go_sem, Nat.reduceBEq, Nat.reduceAdd, Nat.reduceMul, Nat.reduceSub, Nat.reduceLeDiff, Nat.le_refl, implies_true, Nat.reduceLT, reduceIte, decide_true, decide_false, true_and, and_true, reduceCtorEq, Nat.mul_one, Int.reduceToNat, Int.reduceLE, Int.reduceLT, Int.reduceAdd, Int.reduceSub, Int.reduceMul, Int.cast_ofNat_Int, cast_zero_int, cast_one_int, Nat.reducePow, Nat.reduceEqDiff, Nat.reduceMod, Nat.zero_add, Nat.sub_zero, Nat.add_zero, e0, e1, e2, e3, e4, e18, e19, e20, e21, e22, w6, show (mid : Int) < ((mid + m - i : Nat) : Int) by omega, show ((mid + m - i : Nat) : Int) < b by omega]
                    have hc := c_symMerge n (h := h.set id ⟨datT X, 4, .rw⟩ ++ t) (M := own h.length M) id X mid (mid + m - i) b (by omega) (hgs hidl _ _) hown qa qb (by rw [len1]; exact h3) (by omega) dX (nD.mv fun p p1 p2 => mv1.out p (.inr p1)) (sC.same fun p p1 p2 => mv1.out p (.inr p1)) (sD.same fun p p1 p2 => mv1.out p (.inr (by omega)))
                    rw [len1] at hc
                    refine ⟨by kernel_rfl, (hc).use (fun _ m => m) ?_⟩
                    rintro _ _ ⟨rfl, X2, t2, mv2, s2', rfl⟩
                    have mvT : Mv a b T X2 := (rX.mv (by omega) (by omega)).wide (by omega) (by omega) |>.trans ((mv1.wide (Nat.le_refl _) (by omega)).trans (mv2.wide (by omega) (Nat.le_refl _)))
                    have srtT : Srt dayK X2 a b := (s1.same fun p p1 p2 => mv2.out p (.inl p2)).join s2' (bel.mv mv1 mv2)
                    exact ⟨X2, _, mvT, srtT, by rw [sts hidl, List.append_assoc]⟩
                  · have sCD : Srt dayK X mid b := by
                      rw [show mid + m - i = b by omega] at sC
                      exact sC
                    simp only [go_sem, Nat.reduceBEq, Nat.reduceAdd, Nat.reduceMul, Nat.reduceSub, Nat.reduceLeDiff, Nat.le_refl, implies_true, Nat.reduceLT, reduceIte, decide_true, decide_false, true_and, and_true, reduceCtorEq, Nat.mul_one, Int.reduceToNat, Int.reduceLE, Int.reduceLT, Int.reduceAdd, Int.reduceSub, Int.reduceMul, Int.cast_ofNat_Int, cast_zero_int, cast_one_int, Nat.reducePow, Nat.reduceEqDiff, Nat.reduceMod, Nat.zero_add, Nat.sub_zero, Nat.add_zero, e0, e1, e2, e3, e4, e18, e19, e20, e21, e22, w6, show (mid : Int) < ((mid + m - i : Nat) : Int) by omega, show ¬ ((mid + m - i : Nat) : Int) < b by omega]
                    have mv2 : Mv mid b X X := Mv.refl _ _ _
                    have s2' : Srt dayK X mid b := sCD.same fun p p1 p2 => mv1.out p (.inr p1)
                    have mvT : Mv a b T X := (rX.mv (by omega) (by omega)).wide (by omega) (by omega) |>.trans ((mv1.wide (Nat.le_refl _) (by omega)).trans (mv2.wide (by omega) (Nat.le_refl _)))
                    have srtT : Srt dayK X a b := (s1.same fun p p1 p2 => mv2.out p (.inl p2)).join s2' (bel.mv mv1 mv2)
                    exact ⟨X, _, mvT, srtT, rfl⟩
                · have sCD : Srt dayK X mid b := by
                    rw [show mid + m - i = mid by omega] at sD
                    exact sD
                  simp only [go_sem, Nat.reduceBEq, Nat.reduceAdd, Nat.reduceMul, Nat.reduceSub, Nat.reduceLeDiff, Nat.le_refl, implies_true, Nat.reduceLT, reduceIte, decide_true, decide_false, true_and, and_true, reduceCtorEq, Nat.mul_one, Int.reduceToNat, Int.reduceLE, Int.reduceLT, Int.reduceAdd, Int.reduceSub, Int.reduceMul, Int.cast_ofNat_Int, cast_zero_int, cast_one_int, Nat.reducePow, Nat.reduceEqDiff, Nat.reduceMod, Nat.zero_add, Nat.sub_zero, Nat.add_zero, e0, e1, e2, e3, e4, e18, e19, e20, e21, e22, w6, show ¬ (mid : Int) < ((mid + m - i : Nat) : Int) by omega]
                  have mv2 : Mv mid b X X := Mv.refl _ _ _
                  have s2' : Srt dayK X mid b := sCD.same fun p p1 p2 => mv1.out p (.inr p1)
                  have mvT : Mv a b T X := (rX.mv (by omega) (by omega)).wide (by omega) (by omega) |>.trans ((mv1.wide (Nat.le_refl _) (by omega)).trans (mv2.wide (by omega) (Nat.le_refl _)))
                  have srtT : Srt dayK X a b := (s1.same fun p p1 p2 => mv2.out p (.inl p2)).join s2' (bel.mv mv1 mv2)
                  exact ⟨X, _, mvT, srtT, rfl⟩
          · simp only [go_sem, Nat.reduceBEq, Nat.reduceAdd, Nat.reduceMul, Nat.reduceSub, Nat.reduceLeDiff, Nat.le_refl, implies_true, Nat.reduceLT, reduceIte, decide_true, decide_false, true_and, and_true, reduceCtorEq, Nat.mul_one, Int.reduceToNat, Int.reduceLE, Int.reduceLT, Int.reduceAdd, Int.reduceSub, Int.reduceMul, Int.cast_ofNat_Int, cast_zero_int, cast_one_int, Nat.reducePow, Nat.reduceEqDiff, Nat.reduceMod, Nat.zero_add, Nat.sub_zero, Nat.add_zero, e0, e1, e2, e3, e4, e18, e19, e20, e21, e22, w6, show ¬ (i : Int) < m by omega]
            obtain ⟨X, hX⟩ : ∃ X, X = T := ⟨_, rfl⟩
            have rX : IsRot T X i m (mid + m - i) := by
              rw [hX]
              exact rot_none (.inl (by omega))
            have hh : h ++ t = h.set id ⟨datT X, 4, .rw⟩ ++ t := by rw [hX, set_self_get hg]
            rw [hh]
            have r2l : X.length = T.length := rX.1.length_eq
            have dX : Days X := hd.mv (rX.mv (by omega) (by omega))
            obtain ⟨bel, sA, sB, sC, sD⟩ := cut_bel h3 sl sr (by omega) (by omega) (by omega) (by omega) (by omega) (by omega) lo' up' rX
            obtain ⟨nC, nD⟩ := cut_num hn (by omega) (by omega) (by omega) (by omega) (by omega) rX
            by_cases pa : a < i
            · by_cases pb : i < mid
              · simp only [go_sem, Nat.reduceBEq, Nat.reduceAdd, Nat.reduceMul, Nat.reduceSub, Nat.reduceLeDiff, Nat.le_refl, implies_true, Nat.reduceLT, reduceIte, decide_true, decide_false, true_and, and_true, reduceCtorEq, Nat.mul_one, Int.reduceToNat, Int.reduceLE, Int.reduceLT, Int.reduceAdd, Int.reduceSub, Int.reduceMul, Int.cast_ofNat_Int, cast_zero_int, cast_one_int, Nat.reducePow, Nat.reduceEqDiff, Nat.reduceMod, Nat.zero_add, Nat.sub_zero, Nat.add_zero, e0, e1, e2, e3, e4, e18, e19, e20, e21, e22, w6, show (a : Int) < i by omega, show (i : Int) < mid by omega]
                have hc := c_symMerge n (h := h.set id ⟨datT X, 4, .rw⟩ ++ t) (M := own h.length M) id X a i mid (by omega) (hgs hidl _ _) hown pa pb (by omega) (by omega) dX nC sA sB
                rw [r2l] at hc
                refine ⟨by kernel_rfl, (hc).use (fun _ m => m) ?_⟩
                rintro _ _ ⟨rfl, X1, t2, mv1, s1, rfl⟩
                obtain ⟨t1, ht1⟩ : ∃ t1, t1 = t ++ t2 := ⟨_, rfl⟩
                rw [sts hidl, List.append_assoc, ← ht1]
                have len1 : X1.length = T.length := by rw [mv1.len, r2l]
                have dX1 : Days X1 := dX.mv mv1
                by_cases qa : mid < mid + m - i
                · by_cases qb : mid + m - i < b
                  · simp only [go_sem, Nat.reduceBEq, Nat.reduceAdd, Nat.reduceMul, Nat.reduceSub, Nat.reduceLeDiff, Nat.le_refl, implies_true, Nat.reduceLT, reduceIte, decide_true, decide_false, true_and, and_true, reduceCtorEq, Nat.mul_one, Int.reduceToNat, Int.reduceLE, Int.reduceLT, Int.reduceAdd, Int.reduceSub, Int.reduceMul, Int.cast_ofNat_Int, cast_zero_int, cast_one_int, Nat.reducePow, Nat.reduceEqDiff, Nat.reduceMod, Nat.zero_add, Nat.sub_zero, Nat.add_zero, e0, e1, e2, e3, e4, e18, e19, e20, e21, e22, w6, show (mid : Int) < ((mid + m - i : Nat) : Int) by omega, show ((mid + m - i : Nat) : Int) < b by omega]
                    have hc := c_symMerge n (h := h.set id ⟨datT X1, 4, .rw⟩ ++ t1) (M := own h.length M) id X1 mid (mid + m - i) b (by omega) (hgs hidl _ _) hown qa qb (by rw [len1]; exact h3) (by omega) dX1 (nD.mv fun p p1 p2 => mv1.out p (.inr p1)) (sC.same fun p p1 p2 => mv1.out p (.inr p1)) (sD.same fun p p1 p2 => mv1.out p (.inr (by omega)))
                    rw [len1] at hc
                    refine ⟨by kernel_rfl, (hc).use (fun _ m => m) ?_⟩
                    rintro _ _ ⟨rfl, X2, t2, mv2, s2', rfl⟩
                    have mvT : Mv a b T X2 := (rX.mv (by omega) (by omega)).wide (by omega) (by omega) |>.trans ((mv1.wide (Nat.le_refl _) (by omega)).trans (mv2.wide (by omega) (Nat.le_refl _)))
                    have srtT : Srt dayK X2 a b := (s1.same fun p p1 p2 => mv2.out p (.inl p2)).join s2' (bel.mv mv1 mv2)
                    exact ⟨X2, _, mvT, srtT, by rw [sts hidl, List.append_assoc]⟩
                  · have sCD : Srt dayK X mid b := by
                      rw [show mid + m - i = b by omega] at sC
                      exact sC
                    simp only [go_sem, Nat.reduceBEq, Nat.reduceAdd, Nat.reduceMul, Nat.reduceSub, Nat.reduceLeDiff, Nat.le_refl, implies_true, Nat.reduceLT, reduceIte, decide_true, decide_false, true_and, and_true, reduceCtorEq, Nat.mul_one, Int.reduceToNat, Int.reduceLE, Int.reduceLT, Int.reduceAdd, Int.reduceSub, Int.reduceMul, Int.cast_ofNat_Int, cast_zero_int, cast_one_int, Nat.reducePow, Nat.reduceEqDiff, Nat.reduceMod, Nat.zero_add, Nat.sub_zero, Nat.add_zero, e0, e1, e2, e3, e4, e18, e19, e20, e21, e22, w6, show (mid : Int) < ((mid + m - i : Nat) : Int) by omega, show ¬ ((mid + m - i : Nat) : Int) < b by omega]
                    have mv2 : Mv mid b X1 X1 := Mv.refl _ _ _
                    have s2' : Srt dayK X1 mid b := sCD.same fun p p1 p2 => mv1.out p (.inr p1)
                    have mvT : Mv a b T X1 := (rX.mv (by omega) (by omega)).wide (by omega) (by omega) |>.trans ((mv1.wide (Nat.le_refl _) (by omega)).trans (mv2.wide (by omega) (Nat.le_refl _)))
                    have srtT : Srt dayK X1 a b := (s1.same fun p p1 p2 => mv2.out p (.inl p2)).join s2' (bel.mv mv1 mv2)
                    exact ⟨X1, _, mvT, srtT, rfl⟩
                · have sCD : Srt dayK X mid b := by
                    rw [show mid + m - i = mid by omega] at sD
                    exact sD
                  simp only [go_sem, Nat.reduceBEq, Nat.reduceAdd, Nat.reduceMul, Nat.reduceSub, Nat.reduceLeDiff, Nat.le_refl, implies_true, Nat.reduceLT, reduceIte, decide_true, decide_false, true_and, and_true, reduceCtorEq, Nat.mul_one, Int.reduceToNat, Int.reduceLE, Int.reduceLT, Int.reduceAdd, Int.reduceSub, Int.reduceMul, Int.cast_ofNat_Int, cast_zero_int, cast_one_int, Nat.reducePow, Nat.reduceEqDiff, Nat.reduceMod, Nat.zero_add, Nat.sub_zero, Nat.add_zero, e0, e1, e2, e3, e4, e18, e19, e20, e21, e22, w6, show ¬ (mid : Int) < ((mid + m - i : Nat) : Int) by omega]
                  have mv2 : Mv mid b X1 X1 := Mv.refl _ _ _
                  have s2' : Srt dayK X1 mid b := sCD.same fun p p1 p2 => mv1.out p (.inr p1)
                  have mvT : Mv a b T X1 := (rX.mv (by omega) (by omega)).wide (by omega) (by omega) |>.trans ((mv1.wide (Nat.le_refl _) (by omega)).trans (mv2.wide (by omega) (Nat.le_refl _)))
                  have srtT : Srt dayK X1 a b := (s1.same fun p p1 p2 => mv2.out p (.inl p2)).join s2' (bel.mv mv1 mv2)
                  exact ⟨X1, _, mvT, srtT, rfl⟩
              · have s1 : Srt dayK X a mid := by
                  rw [show i = mid by omega] at sA
                  exact sA
                simp only [go_sem, Nat.reduceBEq, Nat.reduceAdd, Nat.reduceMul, Nat.reduceSub, Nat.reduceLeDiff, Nat.le_refl, implies_true, Nat.reduceLT, reduceIte, decide_true, decide_false, true_and, and_true, reduceCtorEq, Nat.mul_one, Int.reduceToNat, Int.reduceLE, Int.reduceLT, Int.reduceAdd, Int.reduceSub, Int.reduceMul, Int.cast_ofNat_Int, cast_zero_int, cast_one_int, Nat.reducePow, Nat.reduceEqDiff, Nat.reduceMod, Nat.zero_add, Nat.sub_zero, Nat.add_zero, e0, e1, e2, e3, e4, e18, e19, e20, e21, e22, w6, show (a : Int) < i by omega, show ¬ (i : Int) < mid by omega]
                have mv1 : Mv a mid X X := Mv.refl _ _ _
                have len1 : X.length = T.length := by rw [mv1.len, r2l]
                have dX : Days X := dX.mv mv1
                by_cases qa : mid < mid + m - i
                · by_cases qb : mid + m - i < b
                  · simp only [go_sem, Nat.reduceBEq, Nat.reduceAdd, Nat.reduceMul, Nat.reduceSub, Nat.reduceLeDiff, Nat.le_refl, implies_true, Nat.reduceLT, reduceIte, decide_true, decide_false, true_and, and_true, reduceCtorEq, Nat.mul_one, Int.reduceToNat, Int.reduceLE, Int.reduceLT, Int.reduceAdd, Int.reduceSub, Int.reduceMul, Int.cast_ofNat_Int, cast_zero_int, cast_one_int, Nat.reducePow, Nat.reduceEqDiff, Nat.reduceMod, Nat.zero_add, Nat.sub_zero, Nat.add_zero, e0, e1, e2, e3, e4, e18, e19, e20, e21, e22, w6, show (mid : Int) < ((mid + m - i : Nat) : Int) by omega, show ((mid + m - i : Nat) : Int) < b by omega]
                    have hc := c_symMerge n (h := h.set id ⟨datT X, 4, .rw⟩ ++ t) (M := own h.length M) id X mid (mid + m - i) b (by omega) (hgs hidl _ _) hown qa qb (by rw [len1]; exact h3) (by omega) dX (nD.mv fun p p1 p2 => mv1.out p (.inr p1)) (sC.same fun p p1 p2 => mv1.out p (.inr p1)) (sD.same fun p p1 p2 => mv1.out p (.inr (by omega)))
                    rw [len1] at hc
                    refine ⟨by kernel_rfl, (hc).use (fun _ m => m) ?_⟩
                    rintro _ _ ⟨rfl, X2, t2, mv2, s2', rfl⟩
                    have mvT : Mv a b T X2 := (rX.mv (by omega) (by omega)).wide (by omega) (by omega) |>.trans ((mv1.wide (Nat.le_refl _) (by omega)).trans (mv2.wide (by omega) (Nat.le_refl _)))
                    have srtT : Srt dayK X2 a b := (s1.same fun p p1 p2 => mv2.out p (.inl p2)).join s2' (bel.mv mv1 mv2)
                    exact ⟨X2, _, mvT, srtT, by rw [sts hidl, List.append_assoc]⟩
                  · have sCD : Srt dayK X mid b := by
                      rw [show mid + m - i = b by omega] at sC
                      exact sC
                    simp only [go_sem, Nat.reduceBEq, Nat.reduceAdd, Nat.reduceMul, Nat.reduceSub, Nat.reduceLeDiff, Nat.le_refl, implies_true, Nat.reduceLT, reduceIte, decide_true, decide_false, true_and, and_true, reduceCtorEq, Nat.mul_one, Int.reduceToNat, Int.reduceLE, Int.reduceLT, Int.reduceAdd, Int.reduceSub, Int.reduceMul, Int.cast_ofNat_Int, cast_zero_int, cast_one_int, Nat.reducePow, Nat.reduceEqDiff, Nat.reduceMod, Nat.zero_add, Nat.sub_zero, Nat.add_zero, e0, e1, e2, e3, e4, e18, e19, e20, e21, e22, w6, show (mid : Int) < ((mid + m - i : Nat) : Int) by omega, show ¬ ((mid + m - i : Nat) : Int) < b by omega]
                    have mv2 : Mv mid b X X := Mv.refl _ _ _
                    have s2' : Srt dayK X mid b := sCD.same fun p p1 p2 => mv1.out p (.inr p1)
                    have mvT : Mv a b T X := (rX.mv (by omega) (by omega)).wide (by omega) (by omega) |>.trans ((mv1.wide (Nat.le_refl _) (by omega)).trans (mv2.wide (by omega) (Nat.le_refl _)))
                    have srtT : Srt dayK X a b := (s1.same fun p p1 p2 => mv2.out p (.inl p2)).join s2' (bel.mv mv1 mv2)
                    exact ⟨X, _, mvT, srtT, rfl⟩
                · have sCD : Srt dayK X mid b := by
                    rw [show mid + m - i = mid by omega] at sD
                    exact sD
                  simp only [go_sem, Nat.reduceBEq, Nat.reduceAdd, Nat.reduceMul, Nat.reduceSub, Nat.reduceLeDiff, Nat.le_refl, implies_true, Nat.reduceLT, reduceIte, decide_true, decide_false, true_and, and_true, reduceCtorEq, Nat.mul_one, Int.reduceToNat, Int.reduceLE, Int.reduceLT, Int.reduceAdd, Int.reduceSub, Int.reduceMul, Int.cast_ofNat_Int, cast_zero_int, cast_one_int, Nat.reducePow, Nat.reduceEqDiff, Nat.reduceMod, Nat.zero_add, Nat.sub_zero, Nat.add_zero, e0, e1, e2, e3, e4, e18, e19, e20, e21, e22, w6, show ¬ (mid : Int) < ((mid + m - i : Nat) : Int) by omega]
                  have mv2 : Mv mid b X X := Mv.refl _ _ _
                  have s2' : Srt dayK X mid b := sCD.same fun p p1 p2 => mv1.out p (.inr p1)
                  have mvT : Mv a b T X := (rX.mv (by omega) (by omega)).wide (by omega) (by omega) |>.trans ((mv1.wide (Nat.le_refl _) (by omega)).trans (mv2.wide (by omega) (Nat.le_refl _)))
                  have srtT : Srt dayK X a b := (s1.same fun p p1 p2 => mv2.out p (.inl p2)).join s2' (bel.mv mv1 mv2)
                  exact ⟨X, _, mvT, srtT, rfl⟩
            · have s1 : Srt dayK X a mid := by
                rw [show i = a by omega] at sB
                exact sB
              simp only [go_sem, Nat.reduceBEq, Nat.reduceAdd, Nat.reduceMul, Nat.reduceSub, Nat.reduceLeDiff, Nat.le_refl, implies_true, Nat.reduceLT, reduceIte, decide_true, decide_false, true_and, and_true, reduceCtorEq, Nat.mul_one, Int.reduceToNat, Int.reduceLE, Int.reduceLT, Int.reduceAdd, Int.reduceSub, Int.reduceMul, Int.cast_ofNat_Int, cast_zero_int, cast_one_int, Nat.reducePow, Nat.reduceEqDiff, Nat.reduceMod, Nat.zero_add, Nat.sub_zero, Nat.add_zero, e0, e1, e2, e3, e4, e18, e19, e20, e21, e22, w6, show ¬ (a : Int) < i by omega]
              have mv1 : Mv a mid X X := Mv.refl _ _ _
              have len1 : X.length = T.length := by rw [mv1.len, r2l]
              have dX : Days X := dX.mv mv1
              by_cases qa : mid < mid + m - i
              · by_cases qb : mid + m - i < b
                · simp only [go_sem, Nat.reduceBEq, Nat.reduceAdd, Nat.reduceMul, Nat.reduceSub, Nat.reduceLeDiff, Nat.le_refl, implies_true, Nat.reduceLT, reduceIte, decide_true, decide_false, true_and, and_true, reduceCtorEq, Nat.mul_one, Int.reduceToNat, Int.reduceLE, Int.reduceLT, Int.reduceAdd, Int.reduceSub, Int.reduceMul, Int.cast_ofNat_Int, cast_zero_int, cast_one_int, Nat.reducePow, Nat.reduceEqDiff, Nat.reduceMod, Nat.zero_add, Nat.sub_zero, Nat.add_zero, e0, e1, e2, e3, e4, e18, e19, e20, e21, e22, w6, show (mid : Int) < ((mid + m - i : Nat) : Int) by omega, show ((mid + m - i : Nat) : Int) < b by omega]
                  have hc := c_symMerge n (h := h.set id ⟨datT X, 4, .rw⟩ ++ t) (M := own h.length M) id X mid (mid + m - i) b (by omega) (hgs hidl _ _) hown qa qb (by rw [len1]; exact h3) (by omega) dX (nD.mv fun p p1 p2 => mv1.out p (.inr p1)) (sC.same fun p p1 p2 => mv1.out p (.inr p1)) (sD.same fun p p1 p2 => mv1.out p (.inr (by omega)))
                  rw [len1] at hc
                  refine ⟨by kernel_rfl, (hc).use (fun _ m => m) ?_⟩
                  rintro _ _ ⟨rfl, X2, t2, mv2, s2', rfl⟩
                  have mvT : Mv a b T X2 := (rX.mv (by omega) (by omega)).wide (by omega) (by omega) |>.trans ((mv1.wide (Nat.le_refl _) (by omega)).trans (mv2.wide (by omega) (Nat.le_refl _)))
                  have srtT : Srt dayK X2 a b := (s1.same fun p p1 p2 => mv2.out p (.inl p2)).join s2' (bel.mv mv1 mv2)
                  exact ⟨X2, _, mvT, srtT, by rw [sts hidl, List.append_assoc]⟩
                · have sCD : Srt dayK X mid b := by
                    rw [show mid + m - i = b by omega] at sC
                    exact sC
                  simp only [go_sem, Nat.reduceBEq, Nat.reduceAdd, Nat.reduceMul, Nat.reduceSub, Nat.reduceLeDiff, Nat.le_refl, implies_true, Nat.reduceLT, reduceIte, decide_true, decide_false, true_and, and_true, reduceCtorEq, Nat.mul_one, Int.reduceToNat, Int.reduceLE, Int.reduceLT, Int.reduceAdd, Int.reduceSub, Int.reduceMul, Int.cast_ofNat_Int, cast_zero_int, cast_one_int, Nat.reducePow, Nat.reduceEqDiff, Nat.reduceMod, Nat.zero_add, Nat.sub_zero, Nat.add_zero, e0, e1, e2, e3, e4, e18, e19, e20, e21, e22, w6, show (mid : Int) < ((mid + m - i : Nat) : Int) by omega, show ¬ ((mid + m - i : Nat) : Int) < b by omega]
                  have mv2 : Mv mid b X X := Mv.refl _ _ _
                  have s2' : Srt dayK X mid b := sCD.same fun p p1 p2 => mv1.out p (.inr p1)
                  have mvT : Mv a b T X := (rX.mv (by omega) (by omega)).wide (by omega) (by omega) |>.trans ((mv1.wide (Nat.le_refl _) (by omega)).trans (mv2.wide (by omega) (Nat.le_refl _)))
                  have srtT : Srt dayK X a b := (s1.same fun p p1 p2 => mv2.out p (.inl p2)).join s2' (bel.mv mv1 mv2)
                  exact ⟨X, _, mvT, srtT, rfl⟩
              · have sCD : Srt dayK X mid b := by
                  rw [show mid + m - i = mid by omega] at sD
                  exact sD
                simp only [go_sem, Nat.reduceBEq, Nat.reduceAdd, Nat.reduceMul, Nat.reduceSub, Nat.reduceLeDiff, Nat.le_refl, implies_true, Nat.reduceLT, reduceIte, decide_true, decide_false, true_and, and_true, reduceCtorEq, Nat.mul_one, Int.reduceToNat, Int.reduceLE, Int.reduceLT, Int.reduceAdd, Int.reduceSub, Int.reduceMul, Int.cast_ofNat_Int, cast_zero_int, cast_one_int, Nat.reducePow, Nat.reduceEqDiff, Nat.reduceMod, Nat.zero_add, Nat.sub_zero, Nat.add_zero, e0, e1, e2, e3, e4, e18, e19, e20, e21, e22, w6, show ¬ (mid : Int) < ((mid + m - i : Nat) : Int) by omega]
                have mv2 : Mv mid b X X := Mv.refl _ _ _
                have s2' : Srt dayK X mid b := sCD.same fun p p1 p2 => mv1.out p (.inr p1)
                have mvT : Mv a b T X := (rX.mv (by omega) (by omega)).wide (by omega) (by omega) |>.trans ((mv1.wide (Nat.le_refl _) (by omega)).trans (mv2.wide (by omega) (Nat.le_refl _)))
                have srtT : Srt dayK X a b := (s1.same fun p p1 p2 => mv2.out p (.inl p2)).join s2' (bel.mv mv1 mv2)
                exact ⟨X, _, mvT, srtT, rfl⟩
end
end Go.Proofs.Ytfolkgkcaiaifaa
