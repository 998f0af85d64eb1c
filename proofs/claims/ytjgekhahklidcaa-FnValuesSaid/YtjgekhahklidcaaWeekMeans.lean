
/- The means of the weeks of an archive. No condition. -/
import Derived.Test.YtjgekhahklidcaaArchive
namespace Go.Proofs.Ytjgekhahklidcaa
open Go.HH
set_option linter.unusedSimpArgs false
set_option linter.unusedVariables false

/-- The mean of a week. -/
def week (l : List Int) (k : Nat) : List Int := (l.drop (7 * k)).take 7
def mean (l : List Int) (k : Nat) : Int := (week l k).sum / 7
def means (l : List Int) (i : Nat) : List Int := (List.range i).map (mean l)
theorem means_len {l : List Int} {i : Nat} : (means l i).length = i := by simp [means]
theorem means_succ {l : List Int} {i : Nat} : means l (i + 1) = means l i ++ [mean l i] := by simp [means, List.range_succ]
def weekMeans (f : Int) (l : List Int) : List Int := if arGood f l then means l (l.length / 7) else []
theorem weekMeans_len (f : Int) {l : List Int} (hm : l.length ≤ 1048576) : (weekMeans f l).length ≤ 1048576 := by unfold weekMeans; split; rw [means_len]; omega; simp

theorem AI.sub {n : Nat} {h : Heap} {id off m : Nat} {l : List Int} {a c : Nat} (s : AI n h (.slice (some ⟨id, off, none⟩) m 0) l) (hc : a + c ≤ l.length) : AI n h (.slice (some ⟨id, off + a, none⟩) c 0) ((l.drop a).take c) := by
  obtain ⟨p, e, f⟩ := s
  have hl : ((l.drop a).take c).length = c := by simp; omega
  refine ⟨_, by rw [hl], fun h0 => ?_⟩
  rw [hl] at h0
  obtain ⟨id', off', k, e1, e2, e3, e4, e5, e6, e7⟩ := f (by omega)
  subst e1
  simp only [Value.slice.injEq, Option.some.injEq, Addr.mk.injEq, and_true] at e
  obtain ⟨⟨rfl, rfl⟩, rfl⟩ := e
  refine ⟨id, off + a, k, rfl, e2, e3, e4, e5, by omega, ?_⟩
  rw [hl, List.map_take, List.map_drop, ← e7, List.drop_take, List.take_take, List.drop_drop]
  congr 1
  omega

theorem tdiv_floor (a : Int) : (a < 7 * a.tdiv 7 → a.tdiv 7 - 1 = a / 7) ∧ (¬ a < 7 * a.tdiv 7 → a.tdiv 7 = a / 7) ∧ (a.tdiv 7 = a / 7 ∨ a.tdiv 7 = a / 7 + 1) := by
  rcases Int.le_total 0 a with h0 | h0
  · rw [Int.tdiv_eq_ediv_of_nonneg h0]; omega
  · obtain ⟨b, rfl⟩ : ∃ b, a = -b := ⟨-a, by omega⟩
    rw [Int.neg_tdiv, Int.tdiv_eq_ediv_of_nonneg (by omega)]; omega

section
variable {h : Heap} {M : Nat → Prop}

theorem c_sumInts {n : Nat} (v : Value) (l : List Int) (s : AI n h v l) (hmax : l.length ≤ 1048576) (hb : ∀ x ∈ l, -200000 ≤ x ∧ x ≤ 200000) : vCall [] Try.prog M 83 [v] h (fun r h' => r = .int .i64 l.sum ∧ h = h') := by
  obtain ⟨a, rfl⟩ := s.len
  refine body_of mo Try.func83 rfl (by kernel_rfl) (Nat.le_of_ble_eq_true (by kernel_rfl)) rfl ?_
  simp only [go_sem, Nat.reduceBEq, Nat.reduceAdd, Nat.reduceMul, Nat.reduceSub, Nat.reduceLeDiff, Nat.le_refl, implies_true, Nat.reduceLT, reduceIte, decide_true, decide_false, true_and, and_true, reduceCtorEq, Nat.mul_one, Int.reduceToNat, Int.reduceLE, Int.reduceLT, Int.reduceAdd, Int.reduceSub, Int.reduceMul, Int.cast_ofNat_Int, cast_zero_int, cast_one_int, Nat.reducePow, Nat.reduceEqDiff, Nat.reduceMod, Nat.zero_add, Nat.sub_zero, Nat.add_zero]
  refine vLoop.count mo l.length (fun i e h' => e 3 = .int .i64 (psum l i) ∧ e 6 = .slice a l.length 0 ∧ e 7 = .int .i64 l.length ∧ e 8 = .int .i64 i ∧ h' = h) ?_ ?_
  · exact ⟨rfl, rfl, rfl, rfl, rfl⟩
  · rintro i e h' hi ⟨e3, e6, e7, e8, rfl⟩
    simp only [go_sem, Nat.reduceBEq, Nat.reduceAdd, Nat.reduceMul, Nat.reduceSub, Nat.reduceLeDiff, Nat.le_refl, implies_true, Nat.reduceLT, reduceIte, decide_true, decide_false, true_and, and_true, reduceCtorEq, Nat.mul_one, Int.reduceToNat, Int.reduceLE, Int.reduceLT, Int.reduceAdd, Int.reduceSub, Int.reduceMul, Int.cast_ofNat_Int, cast_zero_int, cast_one_int, Nat.reducePow, Nat.reduceEqDiff, Nat.reduceMod, Nat.zero_add, Nat.sub_zero, Nat.add_zero, e3, e6, e7, e8]
    refine .intro (fun h1 => ?_) (fun h1 => ?_)
    · have hlt : i < l.length := by simpa using h1
      obtain ⟨id, off, k, hv, _, _, hk, hd, _, _, _, hat⟩ := s.at (Nat.zero_lt_of_lt hlt)
      obtain rfl : a = some ⟨id, off, none⟩ := by simpa using hv
      have hz : (i : Int) < l.length := by omega
      have bb := psum_bound (l := l) (i := i + 1) hlt (fun x hx => hb x (List.mem_of_mem_take hx))
      simp only [go_sem, Nat.reduceBEq, Nat.reduceAdd, Nat.reduceMul, Nat.reduceSub, Nat.reduceLeDiff, Nat.le_refl, implies_true, Nat.reduceLT, reduceIte, decide_true, decide_false, true_and, and_true, reduceCtorEq, Nat.mul_one, Int.reduceToNat, Int.reduceLE, Int.reduceLT, Int.reduceAdd, Int.reduceSub, Int.reduceMul, Int.cast_ofNat_Int, cast_zero_int, cast_one_int, Nat.reducePow, Nat.reduceEqDiff, Nat.reduceMod, Nat.zero_add, Nat.sub_zero, Nat.add_zero, e3, e6, e7, e8, hk, hat i hlt, hz, hd]
      exact ⟨hlt, by rw [← psum_succ hlt, wrap64 (by omega)], by rw [wrap64 (by omega)]; rfl⟩
    · simp only [go_sem, Nat.reduceBEq, Nat.reduceAdd, Nat.reduceMul, Nat.reduceSub, Nat.reduceLeDiff, Nat.le_refl, implies_true, Nat.reduceLT, reduceIte, decide_true, decide_false, true_and, and_true, reduceCtorEq, Nat.mul_one, Int.reduceToNat, Int.reduceLE, Int.reduceLT, Int.reduceAdd, Int.reduceSub, Int.reduceMul, Int.cast_ofNat_Int, cast_zero_int, cast_one_int, Nat.reducePow, Nat.reduceEqDiff, Nat.reduceMod, Nat.zero_add, Nat.sub_zero, Nat.add_zero, e3, e6, e7, e8]
      obtain rfl : i = l.length := by have : ¬ i < l.length := by simpa using h1
                                      omega
      rw [psum, List.take_length]

theorem c_floorDiv (a : Int) (ha : -1000000000000 ≤ a ∧ a ≤ 1000000000000) : vCall [] Try.prog M 82 [.int .i64 a, .int .i64 7] h (fun r h' => r = .int .i64 (a / 7) ∧ h = h') := by
  refine body_of mo Try.func82 rfl (by kernel_rfl) (Nat.le_of_ble_eq_true (by kernel_rfl)) rfl ?_
  simp only [go_sem, Nat.reduceBEq, Nat.reduceAdd, Nat.reduceMul, Nat.reduceSub, Nat.reduceLeDiff, Nat.le_refl, implies_true, Nat.reduceLT, reduceIte, decide_true, decide_false, true_and, and_true, reduceCtorEq, Nat.mul_one, Int.reduceToNat, Int.reduceLE, Int.reduceLT, Int.reduceAdd, Int.reduceSub, Int.reduceMul, Int.cast_ofNat_Int, cast_zero_int, cast_one_int, Nat.reducePow, Nat.reduceEqDiff, Nat.reduceMod, Nat.zero_add, Nat.sub_zero, Nat.add_zero, hBin_quo (show (7 : Int) ≠ 0 by omega), hBin_rem (show (7 : Int) ≠ 0 by omega)]
  have key : (a.tmod 7 < 0 → a.tdiv 7 - 1 = a / 7) ∧ (¬ a.tmod 7 < 0 → a.tdiv 7 = a / 7) ∧ -1000000000000 ≤ a.tdiv 7 ∧ a.tdiv 7 ≤ 1000000000000 := by
    rcases Int.le_total 0 a with h0 | h0
    · rw [Int.tdiv_eq_ediv_of_nonneg h0, Int.tmod_eq_emod_of_nonneg h0]; omega
    · obtain ⟨b, rfl⟩ : ∃ b, a = -b := ⟨-a, by omega⟩
      rw [Int.neg_tdiv, Int.neg_tmod, Int.tdiv_eq_ediv_of_nonneg (by omega), Int.tmod_eq_emod_of_nonneg (by omega)]; omega
  have e1 : IntKind.i64.wrap (a.tdiv 7) = a.tdiv 7 := wrap64 (by omega)
  have e2 : IntKind.i64.wrap (a.tdiv 7 - 1) = a.tdiv 7 - 1 := wrap64 (by omega)
  by_cases h1 : a.tmod 7 < 0
  · simp only [go_sem, Nat.reduceBEq, Nat.reduceAdd, Nat.reduceMul, Nat.reduceSub, Nat.reduceLeDiff, Nat.le_refl, implies_true, Nat.reduceLT, reduceIte, decide_true, decide_false, true_and, and_true, reduceCtorEq, Nat.mul_one, Int.reduceToNat, Int.reduceLE, Int.reduceLT, Int.reduceAdd, Int.reduceSub, Int.reduceMul, Int.cast_ofNat_Int, cast_zero_int, cast_one_int, Nat.reducePow, Nat.reduceEqDiff, Nat.reduceMod, Nat.zero_add, Nat.sub_zero, Nat.add_zero, h1, e1, e2]
    rw [key.1 h1]
  · simp only [go_sem, Nat.reduceBEq, Nat.reduceAdd, Nat.reduceMul, Nat.reduceSub, Nat.reduceLeDiff, Nat.le_refl, implies_true, Nat.reduceLT, reduceIte, decide_true, decide_false, true_and, and_true, reduceCtorEq, Nat.mul_one, Int.reduceToNat, Int.reduceLE, Int.reduceLT, Int.reduceAdd, Int.reduceSub, Int.reduceMul, Int.cast_ofNat_Int, cast_zero_int, cast_one_int, Nat.reducePow, Nat.reduceEqDiff, Nat.reduceMod, Nat.zero_add, Nat.sub_zero, Nat.add_zero, h1, e1]
    rw [key.2.1 h1]

theorem c_WeekMeans {n : Nat} (v : Value) (f : Int) (l : List Int) (s : AA n h v f l) (hmax : l.length ≤ 1048576) : vCall [] Try.prog M 39 [v] h (fun r h' => (∃ w, r = .tuple #[w, .bool (decide (arGood f l))] ∧ FI h.length h'.length h' w (weekMeans f l)) ∧ h <+: h') := by
  obtain ⟨w, rfl, s'⟩ := id s
  obtain ⟨a, rfl⟩ := s'.len
  refine body_of mo Try.func39 rfl (by kernel_rfl) (Nat.le_of_ble_eq_true (by kernel_rfl)) rfl ?_
  simp only [go_sem, Nat.reduceBEq, Nat.reduceAdd, Nat.reduceMul, Nat.reduceSub, Nat.reduceLeDiff, Nat.le_refl, implies_true, Nat.reduceLT, reduceIte, decide_true, decide_false, true_and, and_true, reduceCtorEq, Nat.mul_one, Int.reduceToNat, Int.reduceLE, Int.reduceLT, Int.reduceAdd, Int.reduceSub, Int.reduceMul, Int.cast_ofNat_Int, cast_zero_int, cast_one_int, Nat.reducePow, Nat.reduceEqDiff, Nat.reduceMod, Nat.zero_add, Nat.sub_zero, Nat.add_zero]
  refine ⟨by kernel_rfl, (c_IsValidArchive _ f l (s.mono (List.prefix_append _ _)) hmax).use (fun _ m => m) ?_⟩
  rintro _ _ ⟨rfl, ⟨t, rfl⟩⟩
  simp only [go_sem, Nat.reduceBEq, Nat.reduceAdd, Nat.reduceMul, Nat.reduceSub, Nat.reduceLeDiff, Nat.le_refl, implies_true, Nat.reduceLT, reduceIte, decide_true, decide_false, true_and, and_true, reduceCtorEq, Nat.mul_one, Int.reduceToNat, Int.reduceLE, Int.reduceLT, Int.reduceAdd, Int.reduceSub, Int.reduceMul, Int.cast_ofNat_Int, cast_zero_int, cast_one_int, Nat.reducePow, Nat.reduceEqDiff, Nat.reduceMod, Nat.zero_add, Nat.sub_zero, Nat.add_zero]
  by_cases h1 : arGood f l
  · obtain ⟨g1, g2, g3, g4⟩ := id h1
    simp only [go_sem, Nat.reduceBEq, Nat.reduceAdd, Nat.reduceMul, Nat.reduceSub, Nat.reduceLeDiff, Nat.le_refl, implies_true, Nat.reduceLT, reduceIte, decide_true, decide_false, true_and, and_true, reduceCtorEq, Nat.mul_one, Int.reduceToNat, Int.reduceLE, Int.reduceLT, Int.reduceAdd, Int.reduceSub, Int.reduceMul, Int.cast_ofNat_Int, cast_zero_int, cast_one_int, Nat.reducePow, Nat.reduceEqDiff, Nat.reduceMod, Nat.zero_add, Nat.sub_zero, Nat.add_zero, decb h1]
    refine vLoop.count mo l.length (fun i e h' => ∃ (t : Heap) (j : Nat), e 1 = .pointer (some ⟨h.length, 0, none⟩) ∧ e 5 = .int .i64 ((7 * i : Nat) : Int) ∧ 
      e 4 = .slice (some ⟨h.length + (j + 1), 0, none⟩) i 0 ∧ h' = h ++ ⟨[.int .i64 f, .slice a l.length 0], 2, .rw⟩ :: t ∧ t[j]? = some ⟨(means l i).map iv, 1, .rw⟩ ∧ 7 * i ≤ l.length) ?_ ?_
    · exact ⟨t ++ [⟨[], 1, .rw⟩], t.length, rfl, rfl, by simp [upd], by simp, by simp [means], by omega⟩
    · rintro i e _ hi ⟨t, j, e1, e5, e4, rfl, hj, h7⟩
      have w7 : IntKind.i64.wrap (((7 * i : Nat) : Int) + 7) = ((7 * i + 7 : Nat) : Int) := by rw [wrap64 (by omega)]; rfl
      simp only [go_sem, Nat.reduceBEq, Nat.reduceAdd, Nat.reduceMul, Nat.reduceSub, Nat.reduceLeDiff, Nat.le_refl, implies_true, Nat.reduceLT, reduceIte, decide_true, decide_false, true_and, and_true, reduceCtorEq, Nat.mul_one, Int.reduceToNat, Int.reduceLE, Int.reduceLT, Int.reduceAdd, Int.reduceSub, Int.reduceMul, Int.cast_ofNat_Int, cast_zero_int, cast_one_int, Nat.reducePow, Nat.reduceEqDiff, Nat.reduceMod, Nat.zero_add, Nat.sub_zero, Nat.add_zero, e1, e5, w7]
      refine .intro (fun h2 => ?_) (fun h2 => ?_)
      · have hlt : 7 * i + 7 ≤ l.length := by have : (((7 * i + 7 : Nat) : Int)) ≤ l.length := by simpa using h2
                                              omega
        obtain ⟨id, off, k, hv, _, hk, hk0, hd, hesz, _, _, hat⟩ := s'.at (by omega)
        obtain rfl : a = some ⟨id, off, none⟩ := by simpa using hv
        have hnn : (0 : Int) ≤ ((7 * i : Nat) : Int) ∧ (0 : Int) ≤ ((7 * i + 7 : Nat) : Int) := by omega
        have hw : ((l.drop (7 * i)).take (7 * i + 7 - 7 * i)) = week l i := by rw [Nat.add_sub_cancel_left]; rfl
        have hs := AI.sub s' (a := 7 * i) (c := 7 * i + 7 - 7 * i) (by omega)
        rw [hw] at hs
        have hwb : ∀ x ∈ week l i, -200000 ≤ x ∧ x ≤ 200000 := fun x hx => by
          have := g1 x (List.mem_of_mem_drop (List.mem_of_mem_take hx)); omega
        have hwl : (week l i).length = 7 := by simp [week]; omega
        have hsum := psum_bound (l := week l i) (i := 7) (by omega) (fun x hx => hwb x (List.mem_of_mem_take hx))
        rw [psum, List.take_of_length_le (by omega)] at hsum
        simp only [go_sem, Nat.reduceBEq, Nat.reduceAdd, Nat.reduceMul, Nat.reduceSub, Nat.reduceLeDiff, Nat.le_refl, implies_true, Nat.reduceLT, reduceIte, decide_true, decide_false, true_and, and_true, reduceCtorEq, Nat.mul_one, Int.reduceToNat, Int.reduceLE, Int.reduceLT, Int.reduceAdd, Int.reduceSub, Int.reduceMul, Int.cast_ofNat_Int, cast_zero_int, cast_one_int, Nat.reducePow, Nat.reduceEqDiff, Nat.reduceMod, Nat.zero_add, Nat.sub_zero, Nat.add_zero, onSl_more (show 0 < l.length by omega), e1, e5, e4, w7, hk, hesz, hnn.1, hnn.2, hlt, show 7 * i ≤ 7 * i + 7 by omega]
        refine ⟨by kernel_rfl, (c_sumInts _ (week l i) (hs.mono (List.prefix_append _ _)) (by omega) hwb).use (fun _ m => m) ?_⟩
        rintro _ _ ⟨rfl, rfl⟩
        try simp only [go_sem, Nat.reduceBEq, Nat.reduceAdd, Nat.reduceMul, Nat.reduceSub, Nat.reduceLeDiff, Nat.le_refl, implies_true, Nat.reduceLT, reduceIte, decide_true, decide_false, true_and, and_true, reduceCtorEq, Nat.mul_one, Int.reduceToNat, Int.reduceLE, Int.reduceLT, Int.reduceAdd, Int.reduceSub, Int.reduceMul, Int.cast_ofNat_Int, cast_zero_int, cast_one_int, Nat.reducePow, Nat.reduceEqDiff, Nat.reduceMod, Nat.zero_add, Nat.sub_zero, Nat.add_zero]
        refine ⟨by kernel_rfl, (c_floorDiv _ (by omega)).use (fun _ m => m) ?_⟩
        rintro _ _ ⟨rfl, rfl⟩
        simp only [go_sem, Nat.reduceBEq, Nat.reduceAdd, Nat.reduceMul, Nat.reduceSub, Nat.reduceLeDiff, Nat.le_refl, implies_true, Nat.reduceLT, reduceIte, decide_true, decide_false, true_and, and_true, reduceCtorEq, Nat.mul_one, Int.reduceToNat, Int.reduceLE, Int.reduceLT, Int.reduceAdd, Int.reduceSub, Int.reduceMul, Int.cast_ofNat_Int, cast_zero_int, cast_one_int, Nat.reducePow, Nat.reduceEqDiff, Nat.reduceMod, Nat.zero_add, Nat.sub_zero, Nat.add_zero, e1, e5, e4, app_old hj, w7, List.length_map, means_len, show i ≤ 9223372036854775806 by omega, show (i + 1) * 8 ≤ 140737488355328 by omega]
        exact ⟨by omega, _, t.length + 1, rfl, rfl, rfl, by rw [List.getElem?_append_right (by simp), List.length_set, List.length_append, List.length_singleton, Nat.sub_self, means_succ, List.map_append]; rfl, by omega⟩
      · simp only [go_sem, Nat.reduceBEq, Nat.reduceAdd, Nat.reduceMul, Nat.reduceSub, Nat.reduceLeDiff, Nat.le_refl, implies_true, Nat.reduceLT, reduceIte, decide_true, decide_false, true_and, and_true, reduceCtorEq, Nat.mul_one, Int.reduceToNat, Int.reduceLE, Int.reduceLT, Int.reduceAdd, Int.reduceSub, Int.reduceMul, Int.cast_ofNat_Int, cast_zero_int, cast_one_int, Nat.reducePow, Nat.reduceEqDiff, Nat.reduceMod, Nat.zero_add, Nat.sub_zero, Nat.add_zero, e1, e4, decb h1]
        have hge : ¬ 7 * i + 7 ≤ l.length := by
          have : ¬ (((7 * i + 7 : Nat) : Int)) ≤ l.length := by simpa using h2
          omega
        have hi7 : l.length / 7 = i := by omega
        have hl : (weekMeans f l).length = i := by rw [weekMeans, if_pos h1, means_len, hi7]
        exact ⟨_, rfl, FI.at' hl.symm (by omega) (by have := (List.getElem?_eq_some_iff.1 hj).1; omega) (by rw [hget_app, List.getElem?_cons_succ, hj, weekMeans, if_pos h1, hi7])⟩
  · simp only [go_sem, Nat.reduceBEq, Nat.reduceAdd, Nat.reduceMul, Nat.reduceSub, Nat.reduceLeDiff, Nat.le_refl, implies_true, Nat.reduceLT, reduceIte, decide_true, decide_false, true_and, and_true, reduceCtorEq, Nat.mul_one, Int.reduceToNat, Int.reduceLE, Int.reduceLT, Int.reduceAdd, Int.reduceSub, Int.reduceMul, Int.cast_ofNat_Int, cast_zero_int, cast_one_int, Nat.reducePow, Nat.reduceEqDiff, Nat.reduceMod, Nat.zero_add, Nat.sub_zero, Nat.add_zero, dect h1]
    exact ⟨_, rfl, by rw [weekMeans, if_neg h1]; exact .nil⟩

theorem c_sWeekMeans {n : Nat} (v : Value) (f : Int) (l : List Int) (s : AA n h v f l) (hmax : l.length ≤ 1048576) : vCall [] Try.prog M 40 [v] h (fun r h' => (∃ w, r = .tuple #[w, .bool (decide (arGood f l))] ∧ FI h.length h'.length h' w (weekMeans f l)) ∧ h <+: h') := by
  obtain ⟨w, rfl, s'⟩ := id s
  obtain ⟨a, rfl⟩ := s'.len
  refine body_of mo Try.func40 rfl (by kernel_rfl) (Nat.le_of_ble_eq_true (by kernel_rfl)) rfl ?_
  simp only [go_sem, Nat.reduceBEq, Nat.reduceAdd, Nat.reduceMul, Nat.reduceSub, Nat.reduceLeDiff, Nat.le_refl, implies_true, Nat.reduceLT, reduceIte, decide_true, decide_false, true_and, and_true, reduceCtorEq, Nat.mul_one, Int.reduceToNat, Int.reduceLE, Int.reduceLT, Int.reduceAdd, Int.reduceSub, Int.reduceMul, Int.cast_ofNat_Int, cast_zero_int, cast_one_int, Nat.reducePow, Nat.reduceEqDiff, Nat.reduceMod, Nat.zero_add, Nat.sub_zero, Nat.add_zero]
  refine ⟨by kernel_rfl, (c_l26Good _ f l (s.mono (List.prefix_append _ _)) hmax).use (fun _ m => m) ?_⟩
  rintro _ _ ⟨rfl, ⟨t, rfl⟩⟩
  simp only [go_sem, Nat.reduceBEq, Nat.reduceAdd, Nat.reduceMul, Nat.reduceSub, Nat.reduceLeDiff, Nat.le_refl, implies_true, Nat.reduceLT, reduceIte, decide_true, decide_false, true_and, and_true, reduceCtorEq, Nat.mul_one, Int.reduceToNat, Int.reduceLE, Int.reduceLT, Int.reduceAdd, Int.reduceSub, Int.reduceMul, Int.cast_ofNat_Int, cast_zero_int, cast_one_int, Nat.reducePow, Nat.reduceEqDiff, Nat.reduceMod, Nat.zero_add, Nat.sub_zero, Nat.add_zero]
  by_cases h1 : arGood f l
  · obtain ⟨g1, g2, g3, g4⟩ := id h1
    simp only [go_sem, Nat.reduceBEq, Nat.reduceAdd, Nat.reduceMul, Nat.reduceSub, Nat.reduceLeDiff, Nat.le_refl, implies_true, Nat.reduceLT, reduceIte, decide_true, decide_false, true_and, and_true, reduceCtorEq, Nat.mul_one, Int.reduceToNat, Int.reduceLE, Int.reduceLT, Int.reduceAdd, Int.reduceSub, Int.reduceMul, Int.cast_ofNat_Int, cast_zero_int, cast_one_int, Nat.reducePow, Nat.reduceEqDiff, Nat.reduceMod, Nat.zero_add, Nat.sub_zero, Nat.add_zero, decb h1]
    refine vLoop.count mo l.length (fun i e h' => ∃ (t : Heap) (j : Nat), e 1 = .pointer (some ⟨h.length, 0, none⟩) ∧ e 5 = .int .i64 ((7 * i : Nat) : Int) ∧ 
      e 4 = .slice (some ⟨h.length + (j + 1), 0, none⟩) i 0 ∧ h' = h ++ ⟨[.int .i64 f, .slice a l.length 0], 2, .rw⟩ :: t ∧ t[j]? = some ⟨(means l i).map iv, 1, .rw⟩ ∧ 7 * i ≤ l.length) ?_ ?_
    · exact ⟨[⟨[], 1, .rw⟩] ++ t, 0, rfl, rfl, rfl, by simp, by simp [means], by omega⟩
    · rintro i e _ hi ⟨t, j, e1, e5, e4, rfl, hj, h7⟩
      have w7 : IntKind.i64.wrap (((7 * i : Nat) : Int) + 7) = ((7 * i + 7 : Nat) : Int) := by rw [wrap64 (by omega)]; rfl
      simp only [go_sem, Nat.reduceBEq, Nat.reduceAdd, Nat.reduceMul, Nat.reduceSub, Nat.reduceLeDiff, Nat.le_refl, implies_true, Nat.reduceLT, reduceIte, decide_true, decide_false, true_and, and_true, reduceCtorEq, Nat.mul_one, Int.reduceToNat, Int.reduceLE, Int.reduceLT, Int.reduceAdd, Int.reduceSub, Int.reduceMul, Int.cast_ofNat_Int, cast_zero_int, cast_one_int, Nat.reducePow, Nat.reduceEqDiff, Nat.reduceMod, Nat.zero_add, Nat.sub_zero, Nat.add_zero, e1, e5, w7]
      refine .intro (fun h2 => ?_) (fun h2 => ?_)
      · have hlt : 7 * i + 7 ≤ l.length := by have : (((7 * i + 7 : Nat) : Int)) ≤ l.length := by simpa using h2
                                              omega
        obtain ⟨id, off, k, hv, _, hk, hk0, hd, hesz, _, _, hat⟩ := s'.at (by omega)
        obtain rfl : a = some ⟨id, off, none⟩ := by simpa using hv
        have hwb : ∀ x ∈ week l i, -200000 ≤ x ∧ x ≤ 200000 := fun x hx => by
          have := g1 x (List.mem_of_mem_drop (List.mem_of_mem_take hx)); omega
        have hwl : (week l i).length = 7 := by simp [week]; omega
        have hsum := psum_bound (l := week l i) (i := 7) (by omega) (fun x hx => hwb x (List.mem_of_mem_take hx))
        rw [psum, List.take_of_length_le (by omega)] at hsum
        simp only [go_sem, Nat.reduceBEq, Nat.reduceAdd, Nat.reduceMul, Nat.reduceSub, Nat.reduceLeDiff, Nat.le_refl, implies_true, Nat.reduceLT, reduceIte, decide_true, decide_false, true_and, and_true, reduceCtorEq, Nat.mul_one, Int.reduceToNat, Int.reduceLE, Int.reduceLT, Int.reduceAdd, Int.reduceSub, Int.reduceMul, Int.cast_ofNat_Int, cast_zero_int, cast_one_int, Nat.reducePow, Nat.reduceEqDiff, Nat.reduceMod, Nat.zero_add, Nat.sub_zero, Nat.add_zero, e1, e5]
        refine vLoop.count mo 7 (fun k e h' => e 1 = .pointer (some ⟨h.length, 0, none⟩) ∧ e 5 = .int .i64 ((7 * i : Nat) : Int) ∧ e 4 = .slice (some ⟨h.length + (j + 1), 0, none⟩) i 0 ∧ 
          e 7 = .int .i64 ((7 * i + k : Nat) : Int) ∧ e 6 = .int .i64 (psum (week l i) k) ∧ h' = h ++ ⟨[.int .i64 f, .slice (some ⟨id, off, none⟩) l.length 0], 2, .rw⟩ :: t) ?_ ?_
        · exact ⟨e1, e5, e4, rfl, rfl, rfl⟩
        · rintro c e _ hc ⟨e1, e5, e4, e7, e6, rfl⟩
          simp only [go_sem, Nat.reduceBEq, Nat.reduceAdd, Nat.reduceMul, Nat.reduceSub, Nat.reduceLeDiff, Nat.le_refl, implies_true, Nat.reduceLT, reduceIte, decide_true, decide_false, true_and, and_true, reduceCtorEq, Nat.mul_one, Int.reduceToNat, Int.reduceLE, Int.reduceLT, Int.reduceAdd, Int.reduceSub, Int.reduceMul, Int.cast_ofNat_Int, cast_zero_int, cast_one_int, Nat.reducePow, Nat.reduceEqDiff, Nat.reduceMod, Nat.zero_add, Nat.sub_zero, Nat.add_zero, e1, e5, e4, e6, e7, w7]
          refine .intro (fun h3 => ?_) (fun h3 => ?_)
          · have hc7 : c < 7 := by have : ((7 * i + c : Nat) : Int) < ((7 * i + 7 : Nat) : Int) := by simpa using h3
                                   omega
            have hci : 7 * i + c < l.length := by omega
            have hz : ((7 * i + c : Nat) : Int) < l.length := by omega
            have hnn : (0 : Int) ≤ ((7 * i + c : Nat) : Int) := by omega
            have bb := psum_bound (l := week l i) (i := c + 1) (by omega) (fun x hx => hwb x (List.mem_of_mem_take hx))
            have hx : (week l i)[c]'(by omega) = l[7 * i + c] := by simp [week]
            rw [psum_succ (show c < (week l i).length by omega), hx] at bb
            simp only [go_sem, Nat.reduceBEq, Nat.reduceAdd, Nat.reduceMul, Nat.reduceSub, Nat.reduceLeDiff, Nat.le_refl, implies_true, Nat.reduceLT, reduceIte, decide_true, decide_false, true_and, and_true, reduceCtorEq, Nat.mul_one, Int.reduceToNat, Int.reduceLE, Int.reduceLT, Int.reduceAdd, Int.reduceSub, Int.reduceMul, Int.cast_ofNat_Int, cast_zero_int, cast_one_int, Nat.reducePow, Nat.reduceEqDiff, Nat.reduceMod, Nat.zero_add, Nat.sub_zero, Nat.add_zero, e1, e5, e4, e6, e7, w7, hk, hd, hat _ hci, hz, hnn]
            exact ⟨hc7, by rw [wrap64 (by omega)]; rfl, by rw [psum_succ (show c < (week l i).length by omega), hx, wrap64 (by omega)]⟩
          · obtain rfl : c = 7 := by have : ¬ ((7 * i + c : Nat) : Int) < ((7 * i + 7 : Nat) : Int) := by simpa using h3
                                     omega
            have hS : psum (week l i) 7 = (week l i).sum := by rw [psum, List.take_of_length_le (by omega)]
            rw [hS] at e6
            have q := tdiv_floor (week l i).sum
            have v1 : IntKind.i64.wrap ((week l i).sum.tdiv 7) = (week l i).sum.tdiv 7 := wrap64 (by omega)
            have v2 : IntKind.i64.wrap (7 * (week l i).sum.tdiv 7) = 7 * (week l i).sum.tdiv 7 := wrap64 (by omega)
            have v3 : IntKind.i64.wrap ((week l i).sum.tdiv 7 - 1) = (week l i).sum.tdiv 7 - 1 := wrap64 (by omega)
            simp only [go_sem, Nat.reduceBEq, Nat.reduceAdd, Nat.reduceMul, Nat.reduceSub, Nat.reduceLeDiff, Nat.le_refl, implies_true, Nat.reduceLT, reduceIte, decide_true, decide_false, true_and, and_true, reduceCtorEq, Nat.mul_one, Int.reduceToNat, Int.reduceLE, Int.reduceLT, Int.reduceAdd, Int.reduceSub, Int.reduceMul, Int.cast_ofNat_Int, cast_zero_int, cast_one_int, Nat.reducePow, Nat.reduceEqDiff, Nat.reduceMod, Nat.zero_add, Nat.sub_zero, Nat.add_zero, e1, e5, e4, e6, hBin_quo (show (7 : Int) ≠ 0 by omega), v1, v2]
            by_cases h4 : (week l i).sum < 7 * (week l i).sum.tdiv 7
            · have hm : (week l i).sum.tdiv 7 - 1 = mean l i := by rw [mean]; omega
              simp only [go_sem, Nat.reduceBEq, Nat.reduceAdd, Nat.reduceMul, Nat.reduceSub, Nat.reduceLeDiff, Nat.le_refl, implies_true, Nat.reduceLT, reduceIte, decide_true, decide_false, true_and, and_true, reduceCtorEq, Nat.mul_one, Int.reduceToNat, Int.reduceLE, Int.reduceLT, Int.reduceAdd, Int.reduceSub, Int.reduceMul, Int.cast_ofNat_Int, cast_zero_int, cast_one_int, Nat.reducePow, Nat.reduceEqDiff, Nat.reduceMod, Nat.zero_add, Nat.sub_zero, Nat.add_zero, h4, v3, e1, e5, e4, app_old hj, w7, List.length_map, means_len, show i ≤ 9223372036854775806 by omega, show (i + 1) * 8 ≤ 140737488355328 by omega]
              exact ⟨by omega, _, t.length + 1, rfl, rfl, rfl, by rw [List.getElem?_append_right (by simp), List.length_set, List.length_append, List.length_singleton, Nat.sub_self, means_succ, List.map_append, ← hm]; rfl, by omega⟩
            · have hm : (week l i).sum.tdiv 7 = mean l i := by rw [mean]; omega
              simp only [go_sem, Nat.reduceBEq, Nat.reduceAdd, Nat.reduceMul, Nat.reduceSub, Nat.reduceLeDiff, Nat.le_refl, implies_true, Nat.reduceLT, reduceIte, decide_true, decide_false, true_and, and_true, reduceCtorEq, Nat.mul_one, Int.reduceToNat, Int.reduceLE, Int.reduceLT, Int.reduceAdd, Int.reduceSub, Int.reduceMul, Int.cast_ofNat_Int, cast_zero_int, cast_one_int, Nat.reducePow, Nat.reduceEqDiff, Nat.reduceMod, Nat.zero_add, Nat.sub_zero, Nat.add_zero, h4, e1, e5, e4, app_old hj, w7, List.length_map, means_len, show i ≤ 9223372036854775806 by omega, show (i + 1) * 8 ≤ 140737488355328 by omega]
              exact ⟨by omega, _, t.length + 1, rfl, rfl, rfl, by rw [List.getElem?_append_right (by simp), List.length_set, List.length_append, List.length_singleton, Nat.sub_self, means_succ, List.map_append, ← hm]; rfl, by omega⟩
      · simp only [go_sem, Nat.reduceBEq, Nat.reduceAdd, Nat.reduceMul, Nat.reduceSub, Nat.reduceLeDiff, Nat.le_refl, implies_true, Nat.reduceLT, reduceIte, decide_true, decide_false, true_and, and_true, reduceCtorEq, Nat.mul_one, Int.reduceToNat, Int.reduceLE, Int.reduceLT, Int.reduceAdd, Int.reduceSub, Int.reduceMul, Int.cast_ofNat_Int, cast_zero_int, cast_one_int, Nat.reducePow, Nat.reduceEqDiff, Nat.reduceMod, Nat.zero_add, Nat.sub_zero, Nat.add_zero, e1, e4, decb h1]
        have hge : ¬ 7 * i + 7 ≤ l.length := by
          have : ¬ (((7 * i + 7 : Nat) : Int)) ≤ l.length := by simpa using h2
          omega
        have hi7 : l.length / 7 = i := by omega
        have hl : (weekMeans f l).length = i := by rw [weekMeans, if_pos h1, means_len, hi7]
        exact ⟨_, rfl, FI.at' hl.symm (by omega) (by have := (List.getElem?_eq_some_iff.1 hj).1; omega) (by rw [hget_app, List.getElem?_cons_succ, hj, weekMeans, if_pos h1, hi7])⟩
  · simp only [go_sem, Nat.reduceBEq, Nat.reduceAdd, Nat.reduceMul, Nat.reduceSub, Nat.reduceLeDiff, Nat.le_refl, implies_true, Nat.reduceLT, reduceIte, decide_true, decide_false, true_and, and_true, reduceCtorEq, Nat.mul_one, Int.reduceToNat, Int.reduceLE, Int.reduceLT, Int.reduceAdd, Int.reduceSub, Int.reduceMul, Int.cast_ofNat_Int, cast_zero_int, cast_one_int, Nat.reducePow, Nat.reduceEqDiff, Nat.reduceMod, Nat.zero_add, Nat.sub_zero, Nat.add_zero, dect h1]
    exact ⟨_, rfl, by rw [weekMeans, if_neg h1]; exact .nil⟩

end

end Go.Proofs.Ytjgekhahklidcaa
