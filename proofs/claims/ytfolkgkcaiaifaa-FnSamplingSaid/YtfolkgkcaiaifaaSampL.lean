
/- The law of sampling. No condition. -/
import Derived.Test.YtfolkgkcaiaifaaSampN
import Derived.Test.YtfolkgkcaiaifaaMergeL
import Derived.Test.YtfolkgkcaiaifaaSampP
namespace Go.Proofs.Ytfolkgkcaiaifaa
open Go.HH Go.Proofs
set_option linter.unusedSimpArgs false
set_option linter.unusedVariables false

theorem lastN_kind {l : List Smp} {nd kd : Int} : ∀ i, i ≤ l.length → 0 ≤ lastN l nd kd i → (l.getD (lastN l nd kd i).toNat smp0).2.2.1 = kd
  | 0, _, h => by simp [lastN] at h
  | i + 1, hi, h => by
    rw [lastN] at h ⊢
    split
    · rename_i q
      simpa using q.2
    · rename_i q
      rw [if_neg q] at h
      exact lastN_kind i (by omega) h
theorem badNd_in {l : List Smp} {kd : Int} {x : Int} : ∀ m, x ∈ badNd l kd m → (1 ≤ x ∧ x ≤ m) ∧ 0 ≤ lastN l x kd l.length ∧ ¬ off (l.getD (lastN l x kd l.length).toNat smp0) = 0
  | 0, h => by simp [badNd] at h
  | m + 1, h => by
    by_cases q : 0 ≤ lastN l ((m + 1 : Nat) : Int) kd l.length ∧ ¬ off (l.getD (lastN l ((m + 1 : Nat) : Int) kd l.length).toNat smp0) = 0
    · rw [badNd_yes q] at h
      rcases List.mem_append.1 h with h1 | h1
      · obtain ⟨a, b⟩ := badNd_in m h1
        exact ⟨by omega, b⟩
      · obtain rfl := List.mem_singleton.1 h1
        exact ⟨by omega, q⟩
    · rw [badNd_no q] at h
      obtain ⟨a, b⟩ := badNd_in m h
      exact ⟨by omega, b⟩
theorem bad_next {l : List Smp} {kd x : Int} (h : x ∈ badNodes l kd) : nxtV l x kd 1 = nxtV l x kd 365 := by
  unfold badNodes at h
  split at h
  · rename_i g
    obtain ⟨a, b, c⟩ := badNd_in 8 h
    have o1 : nxtOk l x kd 1 := ⟨⟨⟨g.1, by omega⟩, g.2⟩, by omega⟩
    have o2 : nxtOk l x kd 365 := ⟨⟨⟨g.1, by omega⟩, g.2⟩, by omega⟩
    have e : nxtDay l x kd 1 = nxtDay l x kd 365 := by rw [nxtDay, nxtDay, if_neg c, if_neg c]
    rw [nxtV, nxtV, if_pos o1, if_pos o2, e]
  · cases h
theorem bad_worst {l : List Smp} {kd : Int} (h : 0 < (badNodes l kd).length) : ndOk l kd ∧ 0 ≤ (wrst l kd l.length).1 := by
  obtain ⟨x, hx⟩ := List.exists_mem_of_length_pos h
  unfold badNodes at hx
  split at hx
  · rename_i g
    refine ⟨g, ?_⟩
    obtain ⟨a, b, c⟩ := badNd_in 8 hx
    have hl := lastN_lt (l := l) (nd := x) (kd := kd) l.length
    have k := lastN_kind l.length (Nat.le_refl _) b
    have m := wrst_most (l := l) (kd := kd) l.length (lastN l x kd l.length).toNat (by omega) k
    have nn := offN_nn (l.getD (lastN l x kd l.length).toNat smp0)
    rcases wrst_spec (l := l) (kd := kd) l.length (Nat.le_refl _) with ⟨_, e⟩ | ⟨e, _⟩
    · omega
    · exact e
  · cases hx
theorem nxtV_shape (l : List Smp) (nd kd dy : Int) : ∃ x g, nxtV l nd kd dy = .tuple #[.int .i64 x, .bool g] := by
  unfold nxtV
  repeat' split
  all_goals exact ⟨_, _, rfl⟩
theorem smpRowN {h : Heap} {v : Value} {l : List Smp} (s : Sl h 4 v (l.map smp)) {i : Nat} (hi : i < l.length) : ∃ id o k, v = .slice (some ⟨id, o, none⟩) l.length 0 ∧ k.st ≠ .dead ∧ hget h id = some k ∧
    o + i * 4 + 4 ≤ k.cells.length ∧ (k.cells.drop (o + i * 4)).take 4 = [.int .i64 l[i].1, .int .i64 l[i].2.1, .int .i64 l[i].2.2.1, .int .i64 l[i].2.2.2] ∧ k.cells[o + i * 4 + 2]? = some (.int .i64 l[i].2.2.1) := by
  have hi' : i < (l.map smp).length := by simpa using hi
  obtain ⟨id, o, k, hv, _, hk, hd, hb, hrow, hat⟩ := s.at hi'
  have h2 := hat 2 (by omega)
  rw [List.length_map] at hv
  rw [List.getElem_map] at hrow h2
  exact ⟨id, o, k, hv, hd, hk, hb, hrow, by rw [h2]; rfl⟩
section
variable {h : Heap} {M : Nat → Prop}
theorem c_rBigN (b : Option Addr) (n : Nat) : vCall [] Try.prog M 12 [.slice b n 0] h (fun r h' => r = .bool (decide ((65536 : Int) < n)) ∧ h = h') := by
  refine body_of mo Try.func12 rfl (by kernel_rfl) (Nat.le_of_ble_eq_true (by kernel_rfl)) rfl ?_
  simp only [go_sem, Nat.reduceBEq, Nat.reduceAdd, Nat.reduceMul, Nat.reduceSub, Nat.reduceLeDiff, Nat.le_refl, implies_true, Nat.reduceLT, reduceIte, decide_true, decide_false, true_and, and_true, reduceCtorEq, Nat.mul_one, Int.reduceToNat, Int.reduceLE, Int.reduceLT, Int.reduceAdd, Int.reduceSub, Int.reduceMul, Int.cast_ofNat_Int, cast_zero_int, cast_one_int, Nat.reducePow, Nat.reduceEqDiff, Nat.reduceMod, Nat.zero_add, Nat.sub_zero, Nat.add_zero]
  all_goals first | exact rfl | exact ⟨rfl, rfl⟩ | exact List.prefix_append _ _ | exact ⟨rfl, List.prefix_append _ _⟩ | assumption | exact ⟨rfl, by assumption⟩ | exact List.prefix_rfl | exact ⟨rfl, List.prefix_rfl⟩ | exact List.IsPrefix.trans (by assumption) (by assumption) | exact ⟨rfl, List.IsPrefix.trans (by assumption) (by assumption)⟩
theorem smpLenN {h : Heap} {v : Value} {l : List Smp} (s : Sl h 4 v (l.map smp)) : ∃ a, v = .slice a l.length 0 := by
  obtain ⟨a, hv, _⟩ := s
  exact ⟨a, by rw [hv, List.length_map]⟩
theorem c_rSamples (v w : Value) (l : List Smp) (s : Sl h 4 v (l.map smp)) (s' : Sl h 4 w (l.map smp)) (hmax : l.length ≤ 1048576) : vCall [] Try.prog M 22 [v, w] h (fun r h' => r = .bool true ∧ h = h') := by
  obtain ⟨a, rfl⟩ := smpLenN s
  obtain ⟨b, rfl⟩ := smpLenN s'
  refine body_of mo Try.func22 rfl (by kernel_rfl) (Nat.le_of_ble_eq_true (by kernel_rfl)) rfl ?_
  simp only [go_sem, Nat.reduceBEq, Nat.reduceAdd, Nat.reduceMul, Nat.reduceSub, Nat.reduceLeDiff, Nat.le_refl, implies_true, Nat.reduceLT, reduceIte, decide_true, decide_false, true_and, and_true, reduceCtorEq, Nat.mul_one, Int.reduceToNat, Int.reduceLE, Int.reduceLT, Int.reduceAdd, Int.reduceSub, Int.reduceMul, Int.cast_ofNat_Int, cast_zero_int, cast_one_int, Nat.reducePow, Nat.reduceEqDiff, Nat.reduceMod, Nat.zero_add, Nat.sub_zero, Nat.add_zero, bne_self_eq_false]
  refine vLoop.count mo l.length (fun i e h' => e 0 = .slice a l.length 0 ∧ e 1 = .slice b l.length 0 ∧ e 5 = .int .i64 i ∧ HeapIs h h') ?_ ?_
  · exact ⟨rfl, rfl, rfl, HeapIs.rfl⟩
  · rintro i e _ hi ⟨e0, e1, e5, hh⟩
    cases hh
    simp only [go_sem, Nat.reduceBEq, Nat.reduceAdd, Nat.reduceMul, Nat.reduceSub, Nat.reduceLeDiff, Nat.le_refl, implies_true, Nat.reduceLT, reduceIte, decide_true, decide_false, true_and, and_true, reduceCtorEq, Nat.mul_one, Int.reduceToNat, Int.reduceLE, Int.reduceLT, Int.reduceAdd, Int.reduceSub, Int.reduceMul, Int.cast_ofNat_Int, cast_zero_int, cast_one_int, Nat.reducePow, Nat.reduceEqDiff, Nat.reduceMod, Nat.zero_add, Nat.sub_zero, Nat.add_zero, e0, e1, e5]
    refine .intro (fun h1 => ?_) (fun h1 => ?_)
    · have hlt : i < l.length := by simpa using h1
      have hz : (i : Int) < l.length := by omega
      have hlt' : i < (l.map smp).length := by simpa using hlt
      obtain ⟨id, off, k, hv, _, hk, hd, hb, hrow, hat⟩ := s.at hlt'
      obtain rfl : a = some ⟨id, off, none⟩ := by simpa using hv
      obtain ⟨id2, off2, k2, hv2, _, hk2, hd2, hb2, hrow2, hat2⟩ := s'.at hlt'
      obtain rfl : b = some ⟨id2, off2, none⟩ := by simpa using hv2
      rw [List.getElem_map] at hrow hrow2
      simp only [go_sem, Nat.reduceBEq, Nat.reduceAdd, Nat.reduceMul, Nat.reduceSub, Nat.reduceLeDiff, Nat.le_refl, implies_true, Nat.reduceLT, reduceIte, decide_true, decide_false, true_and, and_true, reduceCtorEq, Nat.mul_one, Int.reduceToNat, Int.reduceLE, Int.reduceLT, Int.reduceAdd, Int.reduceSub, Int.reduceMul, Int.cast_ofNat_Int, cast_zero_int, cast_one_int, Nat.reducePow, Nat.reduceEqDiff, Nat.reduceMod, Nat.zero_add, Nat.sub_zero, Nat.add_zero, e0, e1, e5, hz, hk, hk2, hd, hd2, hb, hb2, hrow, hrow2, smp, beq_self_eq_true, Bool.and_self, Bool.not_true]
      exact ⟨hlt, by rw [wrap64 (by omega)]; rfl, HeapIs.rfl⟩
    · simp only [go_sem, Nat.reduceBEq, Nat.reduceAdd, Nat.reduceMul, Nat.reduceSub, Nat.reduceLeDiff, Nat.le_refl, implies_true, Nat.reduceLT, reduceIte, decide_true, decide_false, true_and, and_true, reduceCtorEq, Nat.mul_one, Int.reduceToNat, Int.reduceLE, Int.reduceLT, Int.reduceAdd, Int.reduceSub, Int.reduceMul, Int.cast_ofNat_Int, cast_zero_int, cast_one_int, Nat.reducePow, Nat.reduceEqDiff, Nat.reduceMod, Nat.zero_add, Nat.sub_zero, Nat.add_zero, e0, e1, e5]
theorem c_rIntsN {n m : Nat} (v w : Value) (l : List Int) (s : AI n h v l) (s' : AI m h w l) (hmax : l.length ≤ 1048576) : vCall [] Try.prog M 16 [v, w] h (fun r h' => r = .bool true ∧ h = h') := by
  obtain ⟨a, rfl⟩ := s.len
  obtain ⟨b, rfl⟩ := s'.len
  refine body_of mo Try.func16 rfl (by kernel_rfl) (Nat.le_of_ble_eq_true (by kernel_rfl)) rfl ?_
  simp only [go_sem, Nat.reduceBEq, Nat.reduceAdd, Nat.reduceMul, Nat.reduceSub, Nat.reduceLeDiff, Nat.le_refl, implies_true, Nat.reduceLT, reduceIte, decide_true, decide_false, true_and, and_true, reduceCtorEq, Nat.mul_one, Int.reduceToNat, Int.reduceLE, Int.reduceLT, Int.reduceAdd, Int.reduceSub, Int.reduceMul, Int.cast_ofNat_Int, cast_zero_int, cast_one_int, Nat.reducePow, Nat.reduceEqDiff, Nat.reduceMod, Nat.zero_add, Nat.sub_zero, Nat.add_zero]
  refine vLoop.count mo l.length (fun i e h' => e 0 = .slice a l.length 0 ∧ e 1 = .slice b l.length 0 ∧ e 5 = .int .i64 i ∧ h' = h) ?_ ?_
  · simp only [go_sem, Nat.reduceBEq, Nat.reduceAdd, Nat.reduceMul, Nat.reduceSub, Nat.reduceLeDiff, Nat.le_refl, implies_true, Nat.reduceLT, reduceIte, decide_true, decide_false, true_and, and_true, reduceCtorEq, Nat.mul_one, Int.reduceToNat, Int.reduceLE, Int.reduceLT, Int.reduceAdd, Int.reduceSub, Int.reduceMul, Int.cast_ofNat_Int, cast_zero_int, cast_one_int, Nat.reducePow, Nat.reduceEqDiff, Nat.reduceMod, Nat.zero_add, Nat.sub_zero, Nat.add_zero]
    try simp
  · rintro i e _ hi ⟨e0, e1, e3, rfl⟩
    simp only [go_sem, Nat.reduceBEq, Nat.reduceAdd, Nat.reduceMul, Nat.reduceSub, Nat.reduceLeDiff, Nat.le_refl, implies_true, Nat.reduceLT, reduceIte, decide_true, decide_false, true_and, and_true, reduceCtorEq, Nat.mul_one, Int.reduceToNat, Int.reduceLE, Int.reduceLT, Int.reduceAdd, Int.reduceSub, Int.reduceMul, Int.cast_ofNat_Int, cast_zero_int, cast_one_int, Nat.reducePow, Nat.reduceEqDiff, Nat.reduceMod, Nat.zero_add, Nat.sub_zero, Nat.add_zero, e0, e1, e3]
    refine .intro (fun h1 => ?_) (fun h1 => ?_)
    · have hlt : i < l.length := by simpa using h1
      obtain ⟨id, off, k, hv, _, _, hk, hd, _, hb, _, hat⟩ := s.at (by omega)
      obtain rfl : a = some ⟨id, off, none⟩ := by simpa using hv
      obtain ⟨id2, off2, k2, hv2, _, _, hk2, hd2, _, hb2, _, hat2⟩ := s'.at (by omega)
      obtain rfl : b = some ⟨id2, off2, none⟩ := by simpa using hv2
      have hz : (i : Int) < l.length := by omega
      simp only [go_sem, Nat.reduceBEq, Nat.reduceAdd, Nat.reduceMul, Nat.reduceSub, Nat.reduceLeDiff, Nat.le_refl, implies_true, Nat.reduceLT, reduceIte, decide_true, decide_false, true_and, and_true, reduceCtorEq, Nat.mul_one, Int.reduceToNat, Int.reduceLE, Int.reduceLT, Int.reduceAdd, Int.reduceSub, Int.reduceMul, Int.cast_ofNat_Int, cast_zero_int, cast_one_int, Nat.reducePow, Nat.reduceEqDiff, Nat.reduceMod, Nat.zero_add, Nat.sub_zero, Nat.add_zero, e0, e1, e3, hk, hk2, hd, hd2, hz, hat _ hlt, hat2 _ hlt]
      try exact ⟨hlt, by rw [wrap64 (by omega)]; rfl⟩
    · simp only [go_sem, Nat.reduceBEq, Nat.reduceAdd, Nat.reduceMul, Nat.reduceSub, Nat.reduceLeDiff, Nat.le_refl, implies_true, Nat.reduceLT, reduceIte, decide_true, decide_false, true_and, and_true, reduceCtorEq, Nat.mul_one, Int.reduceToNat, Int.reduceLE, Int.reduceLT, Int.reduceAdd, Int.reduceSub, Int.reduceMul, Int.cast_ofNat_Int, cast_zero_int, cast_one_int, Nat.reducePow, Nat.reduceEqDiff, Nat.reduceMod, Nat.zero_add, Nat.sub_zero, Nat.add_zero, e0, e1, e3]
set_option maxRecDepth 20000 in
set_option maxHeartbeats 4000000 in
theorem l_FnSampling (b : Option Addr) (n : Nat) (hc : CodeOk h b n) : vCall [] Try.prog M 4 [.slice b n 0] h (fun r _ => r = .bool true) := by
  refine body_of mo Try.func4 rfl (by kernel_rfl) (Nat.le_of_ble_eq_true (by kernel_rfl)) rfl ?_
  simp only [go_sem, Nat.reduceBEq, Nat.reduceAdd, Nat.reduceMul, Nat.reduceSub, Nat.reduceLeDiff, Nat.le_refl, implies_true, Nat.reduceLT, reduceIte, decide_true, decide_false, true_and, and_true, reduceCtorEq, Nat.mul_one, Int.reduceToNat, Int.reduceLE, Int.reduceLT, Int.reduceAdd, Int.reduceSub, Int.reduceMul, Int.cast_ofNat_Int, cast_zero_int, cast_one_int, Nat.reducePow, Nat.reduceEqDiff, Nat.reduceMod, Nat.zero_add, Nat.sub_zero, Nat.add_zero]
  refine ⟨by kernel_rfl, (c_rBigN b n).use (fun _ m => m) ?_⟩
  rintro _ _ ⟨rfl, rfl⟩
  by_cases hb : (65536 : Int) < n
  · simp only [go_sem, Nat.reduceBEq, Nat.reduceAdd, Nat.reduceMul, Nat.reduceSub, Nat.reduceLeDiff, Nat.le_refl, implies_true, Nat.reduceLT, reduceIte, decide_true, decide_false, true_and, and_true, reduceCtorEq, Nat.mul_one, Int.reduceToNat, Int.reduceLE, Int.reduceLT, Int.reduceAdd, Int.reduceSub, Int.reduceMul, Int.cast_ofNat_Int, cast_zero_int, cast_one_int, Nat.reducePow, Nat.reduceEqDiff, Nat.reduceMod, Nat.zero_add, Nat.sub_zero, Nat.add_zero, hb]
  simp only [go_sem, Nat.reduceBEq, Nat.reduceAdd, Nat.reduceMul, Nat.reduceSub, Nat.reduceLeDiff, Nat.le_refl, implies_true, Nat.reduceLT, reduceIte, decide_true, decide_false, true_and, and_true, reduceCtorEq, Nat.mul_one, Int.reduceToNat, Int.reduceLE, Int.reduceLT, Int.reduceAdd, Int.reduceSub, Int.reduceMul, Int.cast_ofNat_Int, cast_zero_int, cast_one_int, Nat.reducePow, Nat.reduceEqDiff, Nat.reduceMod, Nat.zero_add, Nat.sub_zero, Nat.add_zero, hb]
  refine ⟨by kernel_rfl, (c_DrawBadNodes b n hc).use (fun _ m => m) ?_⟩
  rintro _ H1 ⟨⟨v, l, kd, rfl, s1, hl⟩, P1⟩
  have hm : l.length ≤ 1048576 := by omega
  have sl := FR.sl s1
  clear s1
  simp only [go_sem, Nat.reduceBEq, Nat.reduceAdd, Nat.reduceMul, Nat.reduceSub, Nat.reduceLeDiff, Nat.le_refl, implies_true, Nat.reduceLT, reduceIte, decide_true, decide_false, true_and, and_true, reduceCtorEq, Nat.mul_one, Int.reduceToNat, Int.reduceLE, Int.reduceLT, Int.reduceAdd, Int.reduceSub, Int.reduceMul, Int.cast_ofNat_Int, cast_zero_int, cast_one_int, Nat.reducePow, Nat.reduceEqDiff, Nat.reduceMod, Nat.zero_add, Nat.sub_zero, Nat.add_zero]
  refine ⟨by kernel_rfl, (c_BadNodes v l kd sl hm).use (fun _ m => m) ?_⟩
  rintro _ H2 ⟨⟨vn, rfl, fn⟩, P2⟩
  have sl2 := sl.mono P2
  have hnl := badNodes_len l kd
  simp only [go_sem, Nat.reduceBEq, Nat.reduceAdd, Nat.reduceMul, Nat.reduceSub, Nat.reduceLeDiff, Nat.le_refl, implies_true, Nat.reduceLT, reduceIte, decide_true, decide_false, true_and, and_true, reduceCtorEq, Nat.mul_one, Int.reduceToNat, Int.reduceLE, Int.reduceLT, Int.reduceAdd, Int.reduceSub, Int.reduceMul, Int.cast_ofNat_Int, cast_zero_int, cast_one_int, Nat.reducePow, Nat.reduceEqDiff, Nat.reduceMod, Nat.zero_add, Nat.sub_zero, Nat.add_zero]
  refine ⟨by kernel_rfl, (c_sBadNodes v l kd sl2 hm).use (fun _ m => m) ?_⟩
  rintro _ H3 ⟨⟨vw, rfl, fw⟩, P3⟩
  have sl3 := sl2.mono P3
  have an := (FI.mono fn P3).ai
  have aw := fw.ai
  have P : h <+: H3 := P1.trans (P2.trans P3)
  simp only [go_sem, Nat.reduceBEq, Nat.reduceAdd, Nat.reduceMul, Nat.reduceSub, Nat.reduceLeDiff, Nat.le_refl, implies_true, Nat.reduceLT, reduceIte, decide_true, decide_false, true_and, and_true, reduceCtorEq, Nat.mul_one, Int.reduceToNat, Int.reduceLE, Int.reduceLT, Int.reduceAdd, Int.reduceSub, Int.reduceMul, Int.cast_ofNat_Int, cast_zero_int, cast_one_int, Nat.reducePow, Nat.reduceEqDiff, Nat.reduceMod, Nat.zero_add, Nat.sub_zero, Nat.add_zero, Try.underlying4, bne_self_eq_false]
  refine ⟨by kernel_rfl, (c_rIntsN _ _ _ an aw hnl).use (fun _ m => m) ?_⟩
  rintro _ _ ⟨rfl, rfl⟩
  simp only [go_sem, Nat.reduceBEq, Nat.reduceAdd, Nat.reduceMul, Nat.reduceSub, Nat.reduceLeDiff, Nat.le_refl, implies_true, Nat.reduceLT, reduceIte, decide_true, decide_false, true_and, and_true, reduceCtorEq, Nat.mul_one, Int.reduceToNat, Int.reduceLE, Int.reduceLT, Int.reduceAdd, Int.reduceSub, Int.reduceMul, Int.cast_ofNat_Int, cast_zero_int, cast_one_int, Nat.reducePow, Nat.reduceEqDiff, Nat.reduceMod, Nat.zero_add, Nat.sub_zero, Nat.add_zero, Try.underlying4, bne_self_eq_false]
  obtain ⟨an0, ea⟩ := an.len
  subst ea
  clear fn fw aw P1 P2 P3 sl sl2
  refine vLoop.count mo (badNodes l kd).length (fun i e h' => ∃ t, e 0 = .slice b n 0 ∧ e 3 = v ∧ e 4 = .int .i64 kd ∧ e 5 = .slice an0 (badNodes l kd).length 0 ∧ e 9 = .int .i64 i ∧ h' = H3 ++ t) ?_ ?_
  · exact ⟨[], rfl, rfl, rfl, rfl, rfl, by simp⟩
  · rintro i e _ hi ⟨t, e0, e3, e4, e5, e9, rfl⟩
    simp only [go_sem, Nat.reduceBEq, Nat.reduceAdd, Nat.reduceMul, Nat.reduceSub, Nat.reduceLeDiff, Nat.le_refl, implies_true, Nat.reduceLT, reduceIte, decide_true, decide_false, true_and, and_true, reduceCtorEq, Nat.mul_one, Int.reduceToNat, Int.reduceLE, Int.reduceLT, Int.reduceAdd, Int.reduceSub, Int.reduceMul, Int.cast_ofNat_Int, cast_zero_int, cast_one_int, Nat.reducePow, Nat.reduceEqDiff, Nat.reduceMod, Nat.zero_add, Nat.sub_zero, Nat.add_zero, e0, e3, e4, e5, e9]
    by_cases hlt : i < (badNodes l kd).length
    · have hz : (i : Int) < (badNodes l kd).length := by omega
      have ws := wsucc hlt (by omega)
      obtain ⟨id, off, k, hv, _, hk, _, hd, _, _, _, hat⟩ := an.at (by omega)
      obtain rfl : an0 = some ⟨id, off, none⟩ := by simpa using hv
      have hx := hat i hlt
      obtain ⟨x, g, hs⟩ := nxtV_shape l (badNodes l kd)[i] kd 365
      have hs1 := (bad_next (List.getElem_mem hlt)).trans hs
      simp only [go_sem, Nat.reduceBEq, Nat.reduceAdd, Nat.reduceMul, Nat.reduceSub, Nat.reduceLeDiff, Nat.le_refl, implies_true, Nat.reduceLT, reduceIte, decide_true, decide_false, true_and, and_true, reduceCtorEq, Nat.mul_one, Int.reduceToNat, Int.reduceLE, Int.reduceLT, Int.reduceAdd, Int.reduceSub, Int.reduceMul, Int.cast_ofNat_Int, cast_zero_int, cast_one_int, Nat.reducePow, Nat.reduceEqDiff, Nat.reduceMod, Nat.zero_add, Nat.sub_zero, Nat.add_zero, e0, e3, e4, e5, e9, hz, hk, hd, hx]
      refine ⟨by kernel_rfl, (c_NextSampleDay v l _ kd 1 (sl3.mono (List.prefix_append _ _)) hm).use (fun _ m => m) ?_⟩
      rintro _ _ ⟨rfl, ⟨t2, rfl⟩⟩
      rw [hs1]
      simp only [go_sem, Nat.reduceBEq, Nat.reduceAdd, Nat.reduceMul, Nat.reduceSub, Nat.reduceLeDiff, Nat.le_refl, implies_true, Nat.reduceLT, reduceIte, decide_true, decide_false, true_and, and_true, reduceCtorEq, Nat.mul_one, Int.reduceToNat, Int.reduceLE, Int.reduceLT, Int.reduceAdd, Int.reduceSub, Int.reduceMul, Int.cast_ofNat_Int, cast_zero_int, cast_one_int, Nat.reducePow, Nat.reduceEqDiff, Nat.reduceMod, Nat.zero_add, Nat.sub_zero, Nat.add_zero, e0, e3, e4, e5, e9, hz, hk, hd, hx, List.append_assoc]
      refine ⟨by kernel_rfl, (c_NextSampleDay v l _ kd 365 (sl3.mono (List.prefix_append _ _)) hm).use (fun _ m => m) ?_⟩
      rintro _ _ ⟨rfl, ⟨t3, rfl⟩⟩
      rw [hs]
      simp only [go_sem, Nat.reduceBEq, Nat.reduceAdd, Nat.reduceMul, Nat.reduceSub, Nat.reduceLeDiff, Nat.le_refl, implies_true, Nat.reduceLT, reduceIte, decide_true, decide_false, true_and, and_true, reduceCtorEq, Nat.mul_one, Int.reduceToNat, Int.reduceLE, Int.reduceLT, Int.reduceAdd, Int.reduceSub, Int.reduceMul, Int.cast_ofNat_Int, cast_zero_int, cast_one_int, Nat.reducePow, Nat.reduceEqDiff, Nat.reduceMod, Nat.zero_add, Nat.sub_zero, Nat.add_zero, e0, e3, e4, e5, e9, Try.underlying4, bne_self_eq_false, List.append_assoc]
      exact ⟨hlt, _, congrArg _ ws, rfl⟩
    · obtain rfl : i = (badNodes l kd).length := by omega
      obtain ⟨H4, hH4⟩ : ∃ H, H = H3 ++ t := ⟨_, rfl⟩
      have sl4 : Sl H4 4 v (l.map smp) := by rw [hH4]; exact sl3.mono (List.prefix_append _ _)
      have hc4 : CodeOk H4 b n := by rw [hH4]; exact hc.mono (P.trans (List.prefix_append _ _))
      rw [← hH4]
      simp only [go_sem, Nat.reduceBEq, Nat.reduceAdd, Nat.reduceMul, Nat.reduceSub, Nat.reduceLeDiff, Nat.le_refl, implies_true, Nat.reduceLT, reduceIte, decide_true, decide_false, true_and, and_true, reduceCtorEq, Nat.mul_one, Int.reduceToNat, Int.reduceLE, Int.reduceLT, Int.reduceAdd, Int.reduceSub, Int.reduceMul, Int.cast_ofNat_Int, cast_zero_int, cast_one_int, Nat.reducePow, Nat.reduceEqDiff, Nat.reduceMod, Nat.zero_add, Nat.sub_zero, Nat.add_zero, e0, e3, e4, e5, e9, show ¬ (((badNodes l kd).length : Int) < (badNodes l kd).length) by omega]
      refine ⟨by kernel_rfl, (c_WorstValue v l kd sl4 hm).use (fun _ m => m) ?_⟩
      rintro _ H5 ⟨rfl, P5⟩
      have sl5 := sl4.mono P5
      have hc5 := hc4.mono P5
      by_cases q : ndOk l kd ∧ 0 ≤ (wrst l kd l.length).1
      · have hw : wrstV l kd = .tuple #[.int .i64 (wrst l kd l.length).1, .bool true] := by rw [wrstV, if_pos q]
        rw [hw]
        simp only [go_sem, Nat.reduceBEq, Nat.reduceAdd, Nat.reduceMul, Nat.reduceSub, Nat.reduceLeDiff, Nat.le_refl, implies_true, Nat.reduceLT, reduceIte, decide_true, decide_false, true_and, and_true, reduceCtorEq, Nat.mul_one, Int.reduceToNat, Int.reduceLE, Int.reduceLT, Int.reduceAdd, Int.reduceSub, Int.reduceMul, Int.cast_ofNat_Int, cast_zero_int, cast_one_int, Nat.reducePow, Nat.reduceEqDiff, Nat.reduceMod, Nat.zero_add, Nat.sub_zero, Nat.add_zero, e0, e3, e4, e5, e9]
        refine ⟨by kernel_rfl, (c_sWorstValue v l kd sl5 hm).use (fun _ m => m) ?_⟩
        rintro _ H6 ⟨rfl, P6⟩
        have sl6 := sl5.mono P6
        have hc6 := hc5.mono P6
        rw [hw]
        rcases wrst_spec (l := l) (kd := kd) l.length (Nat.le_refl _) with ⟨w1, _⟩ | ⟨w1, w2, w3, w4, w5⟩
        · omega
        obtain ⟨k, hk⟩ := Int.eq_ofNat_of_zero_le w1
        rw [hk] at w2 w4 w5
        rw [hk]
        have hkl : k < l.length := by omega
        rw [Int.toNat_natCast, getDs hkl] at w4 w5
        obtain ⟨id, o, K, hv, hd, hK, hbb, hrow, hc2⟩ := smpRowN sl6 hkl
        subst hv
        by_cases q0 : (0 : Int) < (badNodes l kd).length
        · simp only [go_sem, Nat.reduceBEq, Nat.reduceAdd, Nat.reduceMul, Nat.reduceSub, Nat.reduceLeDiff, Nat.le_refl, implies_true, Nat.reduceLT, reduceIte, decide_true, decide_false, true_and, and_true, reduceCtorEq, Nat.mul_one, Int.reduceToNat, Int.reduceLE, Int.reduceLT, Int.reduceAdd, Int.reduceSub, Int.reduceMul, Int.cast_ofNat_Int, cast_zero_int, cast_one_int, Nat.reducePow, Nat.reduceEqDiff, Nat.reduceMod, Nat.zero_add, Nat.sub_zero, Nat.add_zero, e0, e3, e4, e5, e9, Try.underlying4, bne_self_eq_false, q0, show (k : Int) < l.length by omega, hK, hd, hbb, hrow]
          refine ⟨by kernel_rfl, (c_IsGoodSampleW _ (q.1.1.ok hkl)).use (fun _ m => m) ?_⟩
          rintro _ H7 ⟨rfl, P7⟩
          have hK7 : hget H7 id = some K := by rw [hget_prefix P7 (hget_lt hK)]; exact hK
          have nz : ¬ off l[k] = 0 := by omega
          simp only [go_sem, Nat.reduceBEq, Nat.reduceAdd, Nat.reduceMul, Nat.reduceSub, Nat.reduceLeDiff, Nat.le_refl, implies_true, Nat.reduceLT, reduceIte, decide_true, decide_false, true_and, and_true, reduceCtorEq, Nat.mul_one, Int.reduceToNat, Int.reduceLE, Int.reduceLT, Int.reduceAdd, Int.reduceSub, Int.reduceMul, Int.cast_ofNat_Int, cast_zero_int, cast_one_int, Nat.reducePow, Nat.reduceEqDiff, Nat.reduceMod, Nat.zero_add, Nat.sub_zero, Nat.add_zero, e0, e3, e4, e5, e9, dect nz, show (k : Int) < l.length by omega, hK7, hd, hbb, hc2, w4, bne_self_eq_false]
          refine ⟨by kernel_rfl, (c_DrawMergeSamples b n (hc6.mono P7)).use (fun _ m => m) ?_⟩
          rintro _ H7b ⟨⟨va, vb, la, lb, rfl, fa, fb, ha, hb2⟩, P7b⟩
          have hc7 := (hc6.mono P7).mono P7b
          have sa := FR.sl fa
          have sb := FR.sl fb
          have eb := FR.esz fb
          obtain ⟨aa, eaa⟩ := smpLenN sa
          obtain ⟨bb, ebb⟩ := smpLenN sb
          subst eaa ebb
          try simp only [go_sem, Nat.reduceBEq, Nat.reduceAdd, Nat.reduceMul, Nat.reduceSub, Nat.reduceLeDiff, Nat.le_refl, implies_true, Nat.reduceLT, reduceIte, decide_true, decide_false, true_and, and_true, reduceCtorEq, Nat.mul_one, Int.reduceToNat, Int.reduceLE, Int.reduceLT, Int.reduceAdd, Int.reduceSub, Int.reduceMul, Int.cast_ofNat_Int, cast_zero_int, cast_one_int, Nat.reducePow, Nat.reduceEqDiff, Nat.reduceMod, Nat.zero_add, Nat.sub_zero, Nat.add_zero]
          refine ⟨by kernel_rfl, (c_MergeSamples _ _ la lb sa sb (by omega) (by omega)).use (fun _ m => m) ?_⟩
          rintro _ H8 ⟨⟨g0, rfl, sg⟩, P8⟩
          have hc8 := hc7.mono P8
          have hy := @mrgRes_len la lb
          obtain ⟨gg, egg⟩ := smpLenN sg.sl
          subst egg
          try simp only [go_sem, Nat.reduceBEq, Nat.reduceAdd, Nat.reduceMul, Nat.reduceSub, Nat.reduceLeDiff, Nat.le_refl, implies_true, Nat.reduceLT, reduceIte, decide_true, decide_false, true_and, and_true, reduceCtorEq, Nat.mul_one, Int.reduceToNat, Int.reduceLE, Int.reduceLT, Int.reduceAdd, Int.reduceSub, Int.reduceMul, Int.cast_ofNat_Int, cast_zero_int, cast_one_int, Nat.reducePow, Nat.reduceEqDiff, Nat.reduceMod, Nat.zero_add, Nat.sub_zero, Nat.add_zero]
          refine ⟨by kernel_rfl, (c_sMergeSamples _ _ la lb (sa.mono P8) (sb.mono P8) (eb.mono P8) (by omega) (by omega)).use (fun _ m => m) ?_⟩
          rintro _ H9 ⟨⟨w0, rfl, sw⟩, P9⟩
          have hc9 := hc8.mono P9
          simp only [go_sem, Nat.reduceBEq, Nat.reduceAdd, Nat.reduceMul, Nat.reduceSub, Nat.reduceLeDiff, Nat.le_refl, implies_true, Nat.reduceLT, reduceIte, decide_true, decide_false, true_and, and_true, reduceCtorEq, Nat.mul_one, Int.reduceToNat, Int.reduceLE, Int.reduceLT, Int.reduceAdd, Int.reduceSub, Int.reduceMul, Int.cast_ofNat_Int, cast_zero_int, cast_one_int, Nat.reducePow, Nat.reduceEqDiff, Nat.reduceMod, Nat.zero_add, Nat.sub_zero, Nat.add_zero, Try.underlying4, bne_self_eq_false]
          refine ⟨by kernel_rfl, (c_rSamples _ _ _ (sg.mono P9).sl sw.sl hy).use (fun _ m => m) ?_⟩
          rintro _ _ ⟨rfl, rfl⟩
          have wl : IntKind.i64.wrap ((la.length : Int) + lb.length) = (la.length : Int) + lb.length := wrap64 (by omega)
          have hlen : mrgOk la lb → ((mrgRes la lb).length : Int) = (la.length : Int) + lb.length := fun g => by rw [mrgRes, if_pos g, mergeD_len]; omega
          have fin : ∀ (H : Heap), CodeOk H b n → True := fun _ _ => trivial
          by_cases g : mrgOk la lb
          · simp only [go_sem, Nat.reduceBEq, Nat.reduceAdd, Nat.reduceMul, Nat.reduceSub, Nat.reduceLeDiff, Nat.le_refl, implies_true, Nat.reduceLT, reduceIte, decide_true, decide_false, true_and, and_true, reduceCtorEq, Nat.mul_one, Int.reduceToNat, Int.reduceLE, Int.reduceLT, Int.reduceAdd, Int.reduceSub, Int.reduceMul, Int.cast_ofNat_Int, cast_zero_int, cast_one_int, Nat.reducePow, Nat.reduceEqDiff, Nat.reduceMod, Nat.zero_add, Nat.sub_zero, Nat.add_zero, e0, e3, e4, e5, e9, decb g, Try.underlying4, bne_self_eq_false, wl, hlen g]
            refine ⟨by kernel_rfl, (c_DrawNextSampleDay b n hc9).use (fun _ m => m) ?_⟩
            rintro _ H10 ⟨⟨v2, l2, p, q2, k2, rfl, f2, h2⟩, P10⟩
            have s2 := FR.sl f2
            obtain ⟨x2, g2, hs2⟩ := nxtV_shape l2 p q2 k2
            try simp only [go_sem, Nat.reduceBEq, Nat.reduceAdd, Nat.reduceMul, Nat.reduceSub, Nat.reduceLeDiff, Nat.le_refl, implies_true, Nat.reduceLT, reduceIte, decide_true, decide_false, true_and, and_true, reduceCtorEq, Nat.mul_one, Int.reduceToNat, Int.reduceLE, Int.reduceLT, Int.reduceAdd, Int.reduceSub, Int.reduceMul, Int.cast_ofNat_Int, cast_zero_int, cast_one_int, Nat.reducePow, Nat.reduceEqDiff, Nat.reduceMod, Nat.zero_add, Nat.sub_zero, Nat.add_zero]
            refine ⟨by kernel_rfl, (c_NextSampleDay v2 l2 p q2 k2 s2 (by omega)).use (fun _ m => m) ?_⟩
            rintro _ H11 ⟨rfl, P11⟩
            rw [hs2]
            try simp only [go_sem, Nat.reduceBEq, Nat.reduceAdd, Nat.reduceMul, Nat.reduceSub, Nat.reduceLeDiff, Nat.le_refl, implies_true, Nat.reduceLT, reduceIte, decide_true, decide_false, true_and, and_true, reduceCtorEq, Nat.mul_one, Int.reduceToNat, Int.reduceLE, Int.reduceLT, Int.reduceAdd, Int.reduceSub, Int.reduceMul, Int.cast_ofNat_Int, cast_zero_int, cast_one_int, Nat.reducePow, Nat.reduceEqDiff, Nat.reduceMod, Nat.zero_add, Nat.sub_zero, Nat.add_zero]
            refine ⟨by kernel_rfl, (c_sNextSampleDay v2 l2 p q2 k2 (s2.mono P11) (by omega)).use (fun _ m => m) ?_⟩
            rintro _ H12 ⟨rfl, P12⟩
            rw [hs2]
            simp only [go_sem, Nat.reduceBEq, Nat.reduceAdd, Nat.reduceMul, Nat.reduceSub, Nat.reduceLeDiff, Nat.le_refl, implies_true, Nat.reduceLT, reduceIte, decide_true, decide_false, true_and, and_true, reduceCtorEq, Nat.mul_one, Int.reduceToNat, Int.reduceLE, Int.reduceLT, Int.reduceAdd, Int.reduceSub, Int.reduceMul, Int.cast_ofNat_Int, cast_zero_int, cast_one_int, Nat.reducePow, Nat.reduceEqDiff, Nat.reduceMod, Nat.zero_add, Nat.sub_zero, Nat.add_zero, Try.underlying4, beq_self_eq_true]
          · simp only [go_sem, Nat.reduceBEq, Nat.reduceAdd, Nat.reduceMul, Nat.reduceSub, Nat.reduceLeDiff, Nat.le_refl, implies_true, Nat.reduceLT, reduceIte, decide_true, decide_false, true_and, and_true, reduceCtorEq, Nat.mul_one, Int.reduceToNat, Int.reduceLE, Int.reduceLT, Int.reduceAdd, Int.reduceSub, Int.reduceMul, Int.cast_ofNat_Int, cast_zero_int, cast_one_int, Nat.reducePow, Nat.reduceEqDiff, Nat.reduceMod, Nat.zero_add, Nat.sub_zero, Nat.add_zero, e0, e3, e4, e5, e9, dect g, Try.underlying4, bne_self_eq_false, wl]
            refine ⟨by kernel_rfl, (c_DrawNextSampleDay b n hc9).use (fun _ m => m) ?_⟩
            rintro _ H10 ⟨⟨v2, l2, p, q2, k2, rfl, f2, h2⟩, P10⟩
            have s2 := FR.sl f2
            obtain ⟨x2, g2, hs2⟩ := nxtV_shape l2 p q2 k2
            try simp only [go_sem, Nat.reduceBEq, Nat.reduceAdd, Nat.reduceMul, Nat.reduceSub, Nat.reduceLeDiff, Nat.le_refl, implies_true, Nat.reduceLT, reduceIte, decide_true, decide_false, true_and, and_true, reduceCtorEq, Nat.mul_one, Int.reduceToNat, Int.reduceLE, Int.reduceLT, Int.reduceAdd, Int.reduceSub, Int.reduceMul, Int.cast_ofNat_Int, cast_zero_int, cast_one_int, Nat.reducePow, Nat.reduceEqDiff, Nat.reduceMod, Nat.zero_add, Nat.sub_zero, Nat.add_zero]
            refine ⟨by kernel_rfl, (c_NextSampleDay v2 l2 p q2 k2 s2 (by omega)).use (fun _ m => m) ?_⟩
            rintro _ H11 ⟨rfl, P11⟩
            rw [hs2]
            try simp only [go_sem, Nat.reduceBEq, Nat.reduceAdd, Nat.reduceMul, Nat.reduceSub, Nat.reduceLeDiff, Nat.le_refl, implies_true, Nat.reduceLT, reduceIte, decide_true, decide_false, true_and, and_true, reduceCtorEq, Nat.mul_one, Int.reduceToNat, Int.reduceLE, Int.reduceLT, Int.reduceAdd, Int.reduceSub, Int.reduceMul, Int.cast_ofNat_Int, cast_zero_int, cast_one_int, Nat.reducePow, Nat.reduceEqDiff, Nat.reduceMod, Nat.zero_add, Nat.sub_zero, Nat.add_zero]
            refine ⟨by kernel_rfl, (c_sNextSampleDay v2 l2 p q2 k2 (s2.mono P11) (by omega)).use (fun _ m => m) ?_⟩
            rintro _ H12 ⟨rfl, P12⟩
            rw [hs2]
            simp only [go_sem, Nat.reduceBEq, Nat.reduceAdd, Nat.reduceMul, Nat.reduceSub, Nat.reduceLeDiff, Nat.le_refl, implies_true, Nat.reduceLT, reduceIte, decide_true, decide_false, true_and, and_true, reduceCtorEq, Nat.mul_one, Int.reduceToNat, Int.reduceLE, Int.reduceLT, Int.reduceAdd, Int.reduceSub, Int.reduceMul, Int.cast_ofNat_Int, cast_zero_int, cast_one_int, Nat.reducePow, Nat.reduceEqDiff, Nat.reduceMod, Nat.zero_add, Nat.sub_zero, Nat.add_zero, Try.underlying4, beq_self_eq_true]
        · simp only [go_sem, Nat.reduceBEq, Nat.reduceAdd, Nat.reduceMul, Nat.reduceSub, Nat.reduceLeDiff, Nat.le_refl, implies_true, Nat.reduceLT, reduceIte, decide_true, decide_false, true_and, and_true, reduceCtorEq, Nat.mul_one, Int.reduceToNat, Int.reduceLE, Int.reduceLT, Int.reduceAdd, Int.reduceSub, Int.reduceMul, Int.cast_ofNat_Int, cast_zero_int, cast_one_int, Nat.reducePow, Nat.reduceEqDiff, Nat.reduceMod, Nat.zero_add, Nat.sub_zero, Nat.add_zero, e0, e3, e4, e5, e9, Try.underlying4, bne_self_eq_false, q0, show (k : Int) < l.length by omega, hK, hd, hbb, hrow]
          refine ⟨by kernel_rfl, (c_IsGoodSampleW _ (q.1.1.ok hkl)).use (fun _ m => m) ?_⟩
          rintro _ H7 ⟨rfl, P7⟩
          have hK7 : hget H7 id = some K := by rw [hget_prefix P7 (hget_lt hK)]; exact hK
          have nz : ¬ off l[k] = 0 := by omega
          simp only [go_sem, Nat.reduceBEq, Nat.reduceAdd, Nat.reduceMul, Nat.reduceSub, Nat.reduceLeDiff, Nat.le_refl, implies_true, Nat.reduceLT, reduceIte, decide_true, decide_false, true_and, and_true, reduceCtorEq, Nat.mul_one, Int.reduceToNat, Int.reduceLE, Int.reduceLT, Int.reduceAdd, Int.reduceSub, Int.reduceMul, Int.cast_ofNat_Int, cast_zero_int, cast_one_int, Nat.reducePow, Nat.reduceEqDiff, Nat.reduceMod, Nat.zero_add, Nat.sub_zero, Nat.add_zero, e0, e3, e4, e5, e9, dect nz, show (k : Int) < l.length by omega, hK7, hd, hbb, hc2, w4, bne_self_eq_false]
          refine ⟨by kernel_rfl, (c_DrawMergeSamples b n (hc6.mono P7)).use (fun _ m => m) ?_⟩
          rintro _ H7b ⟨⟨va, vb, la, lb, rfl, fa, fb, ha, hb2⟩, P7b⟩
          have hc7 := (hc6.mono P7).mono P7b
          have sa := FR.sl fa
          have sb := FR.sl fb
          have eb := FR.esz fb
          obtain ⟨aa, eaa⟩ := smpLenN sa
          obtain ⟨bb, ebb⟩ := smpLenN sb
          subst eaa ebb
          try simp only [go_sem, Nat.reduceBEq, Nat.reduceAdd, Nat.reduceMul, Nat.reduceSub, Nat.reduceLeDiff, Nat.le_refl, implies_true, Nat.reduceLT, reduceIte, decide_true, decide_false, true_and, and_true, reduceCtorEq, Nat.mul_one, Int.reduceToNat, Int.reduceLE, Int.reduceLT, Int.reduceAdd, Int.reduceSub, Int.reduceMul, Int.cast_ofNat_Int, cast_zero_int, cast_one_int, Nat.reducePow, Nat.reduceEqDiff, Nat.reduceMod, Nat.zero_add, Nat.sub_zero, Nat.add_zero]
          refine ⟨by kernel_rfl, (c_MergeSamples _ _ la lb sa sb (by omega) (by omega)).use (fun _ m => m) ?_⟩
          rintro _ H8 ⟨⟨g0, rfl, sg⟩, P8⟩
          have hc8 := hc7.mono P8
          have hy := @mrgRes_len la lb
          obtain ⟨gg, egg⟩ := smpLenN sg.sl
          subst egg
          try simp only [go_sem, Nat.reduceBEq, Nat.reduceAdd, Nat.reduceMul, Nat.reduceSub, Nat.reduceLeDiff, Nat.le_refl, implies_true, Nat.reduceLT, reduceIte, decide_true, decide_false, true_and, and_true, reduceCtorEq, Nat.mul_one, Int.reduceToNat, Int.reduceLE, Int.reduceLT, Int.reduceAdd, Int.reduceSub, Int.reduceMul, Int.cast_ofNat_Int, cast_zero_int, cast_one_int, Nat.reducePow, Nat.reduceEqDiff, Nat.reduceMod, Nat.zero_add, Nat.sub_zero, Nat.add_zero]
          refine ⟨by kernel_rfl, (c_sMergeSamples _ _ la lb (sa.mono P8) (sb.mono P8) (eb.mono P8) (by omega) (by omega)).use (fun _ m => m) ?_⟩
          rintro _ H9 ⟨⟨w0, rfl, sw⟩, P9⟩
          have hc9 := hc8.mono P9
          simp only [go_sem, Nat.reduceBEq, Nat.reduceAdd, Nat.reduceMul, Nat.reduceSub, Nat.reduceLeDiff, Nat.le_refl, implies_true, Nat.reduceLT, reduceIte, decide_true, decide_false, true_and, and_true, reduceCtorEq, Nat.mul_one, Int.reduceToNat, Int.reduceLE, Int.reduceLT, Int.reduceAdd, Int.reduceSub, Int.reduceMul, Int.cast_ofNat_Int, cast_zero_int, cast_one_int, Nat.reducePow, Nat.reduceEqDiff, Nat.reduceMod, Nat.zero_add, Nat.sub_zero, Nat.add_zero, Try.underlying4, bne_self_eq_false]
          refine ⟨by kernel_rfl, (c_rSamples _ _ _ (sg.mono P9).sl sw.sl hy).use (fun _ m => m) ?_⟩
          rintro _ _ ⟨rfl, rfl⟩
          have wl : IntKind.i64.wrap ((la.length : Int) + lb.length) = (la.length : Int) + lb.length := wrap64 (by omega)
          have hlen : mrgOk la lb → ((mrgRes la lb).length : Int) = (la.length : Int) + lb.length := fun g => by rw [mrgRes, if_pos g, mergeD_len]; omega
          have fin : ∀ (H : Heap), CodeOk H b n → True := fun _ _ => trivial
          by_cases g : mrgOk la lb
          · simp only [go_sem, Nat.reduceBEq, Nat.reduceAdd, Nat.reduceMul, Nat.reduceSub, Nat.reduceLeDiff, Nat.le_refl, implies_true, Nat.reduceLT, reduceIte, decide_true, decide_false, true_and, and_true, reduceCtorEq, Nat.mul_one, Int.reduceToNat, Int.reduceLE, Int.reduceLT, Int.reduceAdd, Int.reduceSub, Int.reduceMul, Int.cast_ofNat_Int, cast_zero_int, cast_one_int, Nat.reducePow, Nat.reduceEqDiff, Nat.reduceMod, Nat.zero_add, Nat.sub_zero, Nat.add_zero, e0, e3, e4, e5, e9, decb g, Try.underlying4, bne_self_eq_false, wl, hlen g]
            refine ⟨by kernel_rfl, (c_DrawNextSampleDay b n hc9).use (fun _ m => m) ?_⟩
            rintro _ H10 ⟨⟨v2, l2, p, q2, k2, rfl, f2, h2⟩, P10⟩
            have s2 := FR.sl f2
            obtain ⟨x2, g2, hs2⟩ := nxtV_shape l2 p q2 k2
            try simp only [go_sem, Nat.reduceBEq, Nat.reduceAdd, Nat.reduceMul, Nat.reduceSub, Nat.reduceLeDiff, Nat.le_refl, implies_true, Nat.reduceLT, reduceIte, decide_true, decide_false, true_and, and_true, reduceCtorEq, Nat.mul_one, Int.reduceToNat, Int.reduceLE, Int.reduceLT, Int.reduceAdd, Int.reduceSub, Int.reduceMul, Int.cast_ofNat_Int, cast_zero_int, cast_one_int, Nat.reducePow, Nat.reduceEqDiff, Nat.reduceMod, Nat.zero_add, Nat.sub_zero, Nat.add_zero]
            refine ⟨by kernel_rfl, (c_NextSampleDay v2 l2 p q2 k2 s2 (by omega)).use (fun _ m => m) ?_⟩
            rintro _ H11 ⟨rfl, P11⟩
            rw [hs2]
            try simp only [go_sem, Nat.reduceBEq, Nat.reduceAdd, Nat.reduceMul, Nat.reduceSub, Nat.reduceLeDiff, Nat.le_refl, implies_true, Nat.reduceLT, reduceIte, decide_true, decide_false, true_and, and_true, reduceCtorEq, Nat.mul_one, Int.reduceToNat, Int.reduceLE, Int.reduceLT, Int.reduceAdd, Int.reduceSub, Int.reduceMul, Int.cast_ofNat_Int, cast_zero_int, cast_one_int, Nat.reducePow, Nat.reduceEqDiff, Nat.reduceMod, Nat.zero_add, Nat.sub_zero, Nat.add_zero]
            refine ⟨by kernel_rfl, (c_sNextSampleDay v2 l2 p q2 k2 (s2.mono P11) (by omega)).use (fun _ m => m) ?_⟩
            rintro _ H12 ⟨rfl, P12⟩
            rw [hs2]
            simp only [go_sem, Nat.reduceBEq, Nat.reduceAdd, Nat.reduceMul, Nat.reduceSub, Nat.reduceLeDiff, Nat.le_refl, implies_true, Nat.reduceLT, reduceIte, decide_true, decide_false, true_and, and_true, reduceCtorEq, Nat.mul_one, Int.reduceToNat, Int.reduceLE, Int.reduceLT, Int.reduceAdd, Int.reduceSub, Int.reduceMul, Int.cast_ofNat_Int, cast_zero_int, cast_one_int, Nat.reducePow, Nat.reduceEqDiff, Nat.reduceMod, Nat.zero_add, Nat.sub_zero, Nat.add_zero, Try.underlying4, beq_self_eq_true]
          · simp only [go_sem, Nat.reduceBEq, Nat.reduceAdd, Nat.reduceMul, Nat.reduceSub, Nat.reduceLeDiff, Nat.le_refl, implies_true, Nat.reduceLT, reduceIte, decide_true, decide_false, true_and, and_true, reduceCtorEq, Nat.mul_one, Int.reduceToNat, Int.reduceLE, Int.reduceLT, Int.reduceAdd, Int.reduceSub, Int.reduceMul, Int.cast_ofNat_Int, cast_zero_int, cast_one_int, Nat.reducePow, Nat.reduceEqDiff, Nat.reduceMod, Nat.zero_add, Nat.sub_zero, Nat.add_zero, e0, e3, e4, e5, e9, dect g, Try.underlying4, bne_self_eq_false, wl]
            refine ⟨by kernel_rfl, (c_DrawNextSampleDay b n hc9).use (fun _ m => m) ?_⟩
            rintro _ H10 ⟨⟨v2, l2, p, q2, k2, rfl, f2, h2⟩, P10⟩
            have s2 := FR.sl f2
            obtain ⟨x2, g2, hs2⟩ := nxtV_shape l2 p q2 k2
            try simp only [go_sem, Nat.reduceBEq, Nat.reduceAdd, Nat.reduceMul, Nat.reduceSub, Nat.reduceLeDiff, Nat.le_refl, implies_true, Nat.reduceLT, reduceIte, decide_true, decide_false, true_and, and_true, reduceCtorEq, Nat.mul_one, Int.reduceToNat, Int.reduceLE, Int.reduceLT, Int.reduceAdd, Int.reduceSub, Int.reduceMul, Int.cast_ofNat_Int, cast_zero_int, cast_one_int, Nat.reducePow, Nat.reduceEqDiff, Nat.reduceMod, Nat.zero_add, Nat.sub_zero, Nat.add_zero]
            refine ⟨by kernel_rfl, (c_NextSampleDay v2 l2 p q2 k2 s2 (by omega)).use (fun _ m => m) ?_⟩
            rintro _ H11 ⟨rfl, P11⟩
            rw [hs2]
            try simp only [go_sem, Nat.reduceBEq, Nat.reduceAdd, Nat.reduceMul, Nat.reduceSub, Nat.reduceLeDiff, Nat.le_refl, implies_true, Nat.reduceLT, reduceIte, decide_true, decide_false, true_and, and_true, reduceCtorEq, Nat.mul_one, Int.reduceToNat, Int.reduceLE, Int.reduceLT, Int.reduceAdd, Int.reduceSub, Int.reduceMul, Int.cast_ofNat_Int, cast_zero_int, cast_one_int, Nat.reducePow, Nat.reduceEqDiff, Nat.reduceMod, Nat.zero_add, Nat.sub_zero, Nat.add_zero]
            refine ⟨by kernel_rfl, (c_sNextSampleDay v2 l2 p q2 k2 (s2.mono P11) (by omega)).use (fun _ m => m) ?_⟩
            rintro _ H12 ⟨rfl, P12⟩
            rw [hs2]
            simp only [go_sem, Nat.reduceBEq, Nat.reduceAdd, Nat.reduceMul, Nat.reduceSub, Nat.reduceLeDiff, Nat.le_refl, implies_true, Nat.reduceLT, reduceIte, decide_true, decide_false, true_and, and_true, reduceCtorEq, Nat.mul_one, Int.reduceToNat, Int.reduceLE, Int.reduceLT, Int.reduceAdd, Int.reduceSub, Int.reduceMul, Int.cast_ofNat_Int, cast_zero_int, cast_one_int, Nat.reducePow, Nat.reduceEqDiff, Nat.reduceMod, Nat.zero_add, Nat.sub_zero, Nat.add_zero, Try.underlying4, beq_self_eq_true]
      · have hw : wrstV l kd = .tuple #[.int .i64 0, .bool false] := by rw [wrstV, if_neg q]
        have q0 : ¬ (0 : Int) < (badNodes l kd).length := fun h0 => q (bad_worst (by omega))
        rw [hw]
        simp only [go_sem, Nat.reduceBEq, Nat.reduceAdd, Nat.reduceMul, Nat.reduceSub, Nat.reduceLeDiff, Nat.le_refl, implies_true, Nat.reduceLT, reduceIte, decide_true, decide_false, true_and, and_true, reduceCtorEq, Nat.mul_one, Int.reduceToNat, Int.reduceLE, Int.reduceLT, Int.reduceAdd, Int.reduceSub, Int.reduceMul, Int.cast_ofNat_Int, cast_zero_int, cast_one_int, Nat.reducePow, Nat.reduceEqDiff, Nat.reduceMod, Nat.zero_add, Nat.sub_zero, Nat.add_zero, e0, e3, e4, e5, e9]
        refine ⟨by kernel_rfl, (c_sWorstValue v l kd sl5 hm).use (fun _ m => m) ?_⟩
        rintro _ H6 ⟨rfl, P6⟩
        have sl6 := sl5.mono P6
        have hc6 := hc5.mono P6
        rw [hw]
        simp only [go_sem, Nat.reduceBEq, Nat.reduceAdd, Nat.reduceMul, Nat.reduceSub, Nat.reduceLeDiff, Nat.le_refl, implies_true, Nat.reduceLT, reduceIte, decide_true, decide_false, true_and, and_true, reduceCtorEq, Nat.mul_one, Int.reduceToNat, Int.reduceLE, Int.reduceLT, Int.reduceAdd, Int.reduceSub, Int.reduceMul, Int.cast_ofNat_Int, cast_zero_int, cast_one_int, Nat.reducePow, Nat.reduceEqDiff, Nat.reduceMod, Nat.zero_add, Nat.sub_zero, Nat.add_zero, e0, e3, e4, e5, e9, Try.underlying4, bne_self_eq_false, q0]
        refine ⟨by kernel_rfl, (c_DrawMergeSamples b n hc6).use (fun _ m => m) ?_⟩
        rintro _ H7 ⟨⟨va, vb, la, lb, rfl, fa, fb, ha, hb2⟩, P7⟩
        have hc7 := hc6.mono P7
        have sa := FR.sl fa
        have sb := FR.sl fb
        have eb := FR.esz fb
        obtain ⟨aa, eaa⟩ := smpLenN sa
        obtain ⟨bb, ebb⟩ := smpLenN sb
        subst eaa ebb
        try simp only [go_sem, Nat.reduceBEq, Nat.reduceAdd, Nat.reduceMul, Nat.reduceSub, Nat.reduceLeDiff, Nat.le_refl, implies_true, Nat.reduceLT, reduceIte, decide_true, decide_false, true_and, and_true, reduceCtorEq, Nat.mul_one, Int.reduceToNat, Int.reduceLE, Int.reduceLT, Int.reduceAdd, Int.reduceSub, Int.reduceMul, Int.cast_ofNat_Int, cast_zero_int, cast_one_int, Nat.reducePow, Nat.reduceEqDiff, Nat.reduceMod, Nat.zero_add, Nat.sub_zero, Nat.add_zero]
        refine ⟨by kernel_rfl, (c_MergeSamples _ _ la lb sa sb (by omega) (by omega)).use (fun _ m => m) ?_⟩
        rintro _ H8 ⟨⟨g0, rfl, sg⟩, P8⟩
        have hc8 := hc7.mono P8
        have hy := @mrgRes_len la lb
        obtain ⟨gg, egg⟩ := smpLenN sg.sl
        subst egg
        try simp only [go_sem, Nat.reduceBEq, Nat.reduceAdd, Nat.reduceMul, Nat.reduceSub, Nat.reduceLeDiff, Nat.le_refl, implies_true, Nat.reduceLT, reduceIte, decide_true, decide_false, true_and, and_true, reduceCtorEq, Nat.mul_one, Int.reduceToNat, Int.reduceLE, Int.reduceLT, Int.reduceAdd, Int.reduceSub, Int.reduceMul, Int.cast_ofNat_Int, cast_zero_int, cast_one_int, Nat.reducePow, Nat.reduceEqDiff, Nat.reduceMod, Nat.zero_add, Nat.sub_zero, Nat.add_zero]
        refine ⟨by kernel_rfl, (c_sMergeSamples _ _ la lb (sa.mono P8) (sb.mono P8) (eb.mono P8) (by omega) (by omega)).use (fun _ m => m) ?_⟩
        rintro _ H9 ⟨⟨w0, rfl, sw⟩, P9⟩
        have hc9 := hc8.mono P9
        simp only [go_sem, Nat.reduceBEq, Nat.reduceAdd, Nat.reduceMul, Nat.reduceSub, Nat.reduceLeDiff, Nat.le_refl, implies_true, Nat.reduceLT, reduceIte, decide_true, decide_false, true_and, and_true, reduceCtorEq, Nat.mul_one, Int.reduceToNat, Int.reduceLE, Int.reduceLT, Int.reduceAdd, Int.reduceSub, Int.reduceMul, Int.cast_ofNat_Int, cast_zero_int, cast_one_int, Nat.reducePow, Nat.reduceEqDiff, Nat.reduceMod, Nat.zero_add, Nat.sub_zero, Nat.add_zero, Try.underlying4, bne_self_eq_false]
        refine ⟨by kernel_rfl, (c_rSamples _ _ _ (sg.mono P9).sl sw.sl hy).use (fun _ m => m) ?_⟩
        rintro _ _ ⟨rfl, rfl⟩
        have wl : IntKind.i64.wrap ((la.length : Int) + lb.length) = (la.length : Int) + lb.length := wrap64 (by omega)
        have hlen : mrgOk la lb → ((mrgRes la lb).length : Int) = (la.length : Int) + lb.length := fun g => by rw [mrgRes, if_pos g, mergeD_len]; omega
        have fin : ∀ (H : Heap), CodeOk H b n → True := fun _ _ => trivial
        by_cases g : mrgOk la lb
        · simp only [go_sem, Nat.reduceBEq, Nat.reduceAdd, Nat.reduceMul, Nat.reduceSub, Nat.reduceLeDiff, Nat.le_refl, implies_true, Nat.reduceLT, reduceIte, decide_true, decide_false, true_and, and_true, reduceCtorEq, Nat.mul_one, Int.reduceToNat, Int.reduceLE, Int.reduceLT, Int.reduceAdd, Int.reduceSub, Int.reduceMul, Int.cast_ofNat_Int, cast_zero_int, cast_one_int, Nat.reducePow, Nat.reduceEqDiff, Nat.reduceMod, Nat.zero_add, Nat.sub_zero, Nat.add_zero, e0, e3, e4, e5, e9, decb g, Try.underlying4, bne_self_eq_false, wl, hlen g]
          refine ⟨by kernel_rfl, (c_DrawNextSampleDay b n hc9).use (fun _ m => m) ?_⟩
          rintro _ H10 ⟨⟨v2, l2, p, q2, k2, rfl, f2, h2⟩, P10⟩
          have s2 := FR.sl f2
          obtain ⟨x2, g2, hs2⟩ := nxtV_shape l2 p q2 k2
          try simp only [go_sem, Nat.reduceBEq, Nat.reduceAdd, Nat.reduceMul, Nat.reduceSub, Nat.reduceLeDiff, Nat.le_refl, implies_true, Nat.reduceLT, reduceIte, decide_true, decide_false, true_and, and_true, reduceCtorEq, Nat.mul_one, Int.reduceToNat, Int.reduceLE, Int.reduceLT, Int.reduceAdd, Int.reduceSub, Int.reduceMul, Int.cast_ofNat_Int, cast_zero_int, cast_one_int, Nat.reducePow, Nat.reduceEqDiff, Nat.reduceMod, Nat.zero_add, Nat.sub_zero, Nat.add_zero]
          refine ⟨by kernel_rfl, (c_NextSampleDay v2 l2 p q2 k2 s2 (by omega)).use (fun _ m => m) ?_⟩
          rintro _ H11 ⟨rfl, P11⟩
          rw [hs2]
          try simp only [go_sem, Nat.reduceBEq, Nat.reduceAdd, Nat.reduceMul, Nat.reduceSub, Nat.reduceLeDiff, Nat.le_refl, implies_true, Nat.reduceLT, reduceIte, decide_true, decide_false, true_and, and_true, reduceCtorEq, Nat.mul_one, Int.reduceToNat, Int.reduceLE, Int.reduceLT, Int.reduceAdd, Int.reduceSub, Int.reduceMul, Int.cast_ofNat_Int, cast_zero_int, cast_one_int, Nat.reducePow, Nat.reduceEqDiff, Nat.reduceMod, Nat.zero_add, Nat.sub_zero, Nat.add_zero]
          refine ⟨by kernel_rfl, (c_sNextSampleDay v2 l2 p q2 k2 (s2.mono P11) (by omega)).use (fun _ m => m) ?_⟩
          rintro _ H12 ⟨rfl, P12⟩
          rw [hs2]
          simp only [go_sem, Nat.reduceBEq, Nat.reduceAdd, Nat.reduceMul, Nat.reduceSub, Nat.reduceLeDiff, Nat.le_refl, implies_true, Nat.reduceLT, reduceIte, decide_true, decide_false, true_and, and_true, reduceCtorEq, Nat.mul_one, Int.reduceToNat, Int.reduceLE, Int.reduceLT, Int.reduceAdd, Int.reduceSub, Int.reduceMul, Int.cast_ofNat_Int, cast_zero_int, cast_one_int, Nat.reducePow, Nat.reduceEqDiff, Nat.reduceMod, Nat.zero_add, Nat.sub_zero, Nat.add_zero, Try.underlying4, beq_self_eq_true]
        · simp only [go_sem, Nat.reduceBEq, Nat.reduceAdd, Nat.reduceMul, Nat.reduceSub, Nat.reduceLeDiff, Nat.le_refl, implies_true, Nat.reduceLT, reduceIte, decide_true, decide_false, true_and, and_true, reduceCtorEq, Nat.mul_one, Int.reduceToNat, Int.reduceLE, Int.reduceLT, Int.reduceAdd, Int.reduceSub, Int.reduceMul, Int.cast_ofNat_Int, cast_zero_int, cast_one_int, Nat.reducePow, Nat.reduceEqDiff, Nat.reduceMod, Nat.zero_add, Nat.sub_zero, Nat.add_zero, e0, e3, e4, e5, e9, dect g, Try.underlying4, bne_self_eq_false, wl]
          refine ⟨by kernel_rfl, (c_DrawNextSampleDay b n hc9).use (fun _ m => m) ?_⟩
          rintro _ H10 ⟨⟨v2, l2, p, q2, k2, rfl, f2, h2⟩, P10⟩
          have s2 := FR.sl f2
          obtain ⟨x2, g2, hs2⟩ := nxtV_shape l2 p q2 k2
          try simp only [go_sem, Nat.reduceBEq, Nat.reduceAdd, Nat.reduceMul, Nat.reduceSub, Nat.reduceLeDiff, Nat.le_refl, implies_true, Nat.reduceLT, reduceIte, decide_true, decide_false, true_and, and_true, reduceCtorEq, Nat.mul_one, Int.reduceToNat, Int.reduceLE, Int.reduceLT, Int.reduceAdd, Int.reduceSub, Int.reduceMul, Int.cast_ofNat_Int, cast_zero_int, cast_one_int, Nat.reducePow, Nat.reduceEqDiff, Nat.reduceMod, Nat.zero_add, Nat.sub_zero, Nat.add_zero]
          refine ⟨by kernel_rfl, (c_NextSampleDay v2 l2 p q2 k2 s2 (by omega)).use (fun _ m => m) ?_⟩
          rintro _ H11 ⟨rfl, P11⟩
          rw [hs2]
          try simp only [go_sem, Nat.reduceBEq, Nat.reduceAdd, Nat.reduceMul, Nat.reduceSub, Nat.reduceLeDiff, Nat.le_refl, implies_true, Nat.reduceLT, reduceIte, decide_true, decide_false, true_and, and_true, reduceCtorEq, Nat.mul_one, Int.reduceToNat, Int.reduceLE, Int.reduceLT, Int.reduceAdd, Int.reduceSub, Int.reduceMul, Int.cast_ofNat_Int, cast_zero_int, cast_one_int, Nat.reducePow, Nat.reduceEqDiff, Nat.reduceMod, Nat.zero_add, Nat.sub_zero, Nat.add_zero]
          refine ⟨by kernel_rfl, (c_sNextSampleDay v2 l2 p q2 k2 (s2.mono P11) (by omega)).use (fun _ m => m) ?_⟩
          rintro _ H12 ⟨rfl, P12⟩
          rw [hs2]
          simp only [go_sem, Nat.reduceBEq, Nat.reduceAdd, Nat.reduceMul, Nat.reduceSub, Nat.reduceLeDiff, Nat.le_refl, implies_true, Nat.reduceLT, reduceIte, decide_true, decide_false, true_and, and_true, reduceCtorEq, Nat.mul_one, Int.reduceToNat, Int.reduceLE, Int.reduceLT, Int.reduceAdd, Int.reduceSub, Int.reduceMul, Int.cast_ofNat_Int, cast_zero_int, cast_one_int, Nat.reducePow, Nat.reduceEqDiff, Nat.reduceMod, Nat.zero_add, Nat.sub_zero, Nat.add_zero, Try.underlying4, beq_self_eq_true]
end
theorem a_FnSampling (h : Heap) (a : List Value) (ft : FitsAll h [.slice (.int .u8)] a) : vCall [] Try.prog (fun _ => False) 4 a h (fun r _ => r = .bool true) := by
  obtain ⟨v, vs, rfl, f, g⟩ := ft.cons
  obtain rfl := g.nil
  obtain ⟨b, n, rfl, hc⟩ := Fits.code f
  exact l_FnSampling b n hc
end Go.Proofs.Ytfolkgkcaiaifaa
