
/- Merging samples. No condition. -/
import Derived.Test.YtfolkgkcaiaifaaMrgF
import Derived.Test.YtfolkgkcaiaifaaMark4
namespace Go.Proofs.Ytfolkgkcaiaifaa
open Go.HH
set_option linter.unusedSimpArgs false
set_option linter.unusedVariables false

theorem smpGood.sorted {l : List Smp} (g : smpGood l) : l.Pairwise fun x y => x.1 ≤ y.1 := by
  rw [List.pairwise_iff_getElem]
  have step : ∀ i, (hi : i + 1 < l.length) → (l[i]'(by omega)).1 ≤ l[i + 1].1 := fun i hi => by
    have := (g.1 (i + 1) hi).2 (by omega)
    rw [Nat.add_sub_cancel, getDs hi, getDs (by omega)] at this
    exact this
  have key : ∀ d i, (hi : i + d < l.length) → (l[i]'(by omega)).1 ≤ l[i + d].1 := by
    intro d
    induction d with
    | zero => intro i hi; exact Int.le_refl _
    | succ d ih => intro i hi; exact Int.le_trans (ih i (by omega)) (step (i + d) hi)
  intro i j hi hj hij
  obtain ⟨d, rfl⟩ : ∃ d, j = i + d := ⟨j - i, by omega⟩
  exact key d i hj
def mrgOk (a b : List Smp) : Prop := (smpGood a ∧ smpGood b) ∧ smpGood (mergeD a b)
instance {a b : List Smp} : Decidable (mrgOk a b) := by unfold mrgOk; infer_instance
def mrgRes (a b : List Smp) : List Smp := if mrgOk a b then mergeD a b else []
theorem mergeD_len {a b : List Smp} : (mergeD a b).length = a.length + b.length := by
  rw [mergeD, List.length_merge]
section
variable {h : Heap} {M : Nat → Prop}
theorem c_markSampleF {lo hi : Nat} (v : Value) (l : List Smp) (s : FR lo hi 4 h v (l.map smp)) (hM : ∀ i, lo ≤ i → i < hi → M i) (k : Int) (hk : 0 ≤ k ∧ k ≤ 1000000000000) (hmax : l.length ≤ 1048576) :
    vCall [] Try.prog M 10 [v, .int .i64 k] h (fun r h' => r = .int .i64 (k + 4 * l.length) ∧ FR lo hi 4 h' v (mks4 k l.length) ∧ Agr lo hi h h') := by
  obtain ⟨id, rfl, g1, g2, g3, hlen⟩ := s
  rw [List.length_map]
  have hown : own h.length M id := Or.inr (hM id g1 g2)
  refine body_of mo Try.func10 rfl (by kernel_rfl) (Nat.le_of_ble_eq_true (by kernel_rfl)) rfl ?_
  simp only [go_sem, Nat.reduceBEq, Nat.reduceAdd, Nat.reduceMul, Nat.reduceSub, Nat.reduceLeDiff, Nat.le_refl, implies_true, Nat.reduceLT, reduceIte, decide_true, decide_false, true_and, and_true, reduceCtorEq, Nat.mul_one, Int.reduceToNat, Int.reduceLE, Int.reduceLT, Int.reduceAdd, Int.reduceSub, Int.reduceMul, Int.cast_ofNat_Int, cast_zero_int, cast_one_int, Nat.reducePow, Nat.reduceEqDiff, Nat.reduceMod, Nat.zero_add, Nat.sub_zero, Nat.add_zero]
  refine vLoop.count mo l.length (fun i e h' => e 0 = .slice (some ⟨id, 0, none⟩) l.length 0 ∧ e 1 = .int .i64 (k + 4 * i) ∧ e 5 = .int .i64 i ∧
    Agr lo hi h h' ∧ hget h' id = some ⟨(mks4 k i).flatten ++ ((l.drop i).map smp).flatten, 4, .rw⟩) ?_ ?_
  · exact ⟨rfl, by simp [upd, env0], rfl, Agr.refl, by simpa [mks4] using g3⟩
  · rintro i e h' hi ⟨e0, e1, e5, hag, hg⟩
    simp only [go_sem, Nat.reduceBEq, Nat.reduceAdd, Nat.reduceMul, Nat.reduceSub, Nat.reduceLeDiff, Nat.le_refl, implies_true, Nat.reduceLT, reduceIte, decide_true, decide_false, true_and, and_true, reduceCtorEq, Nat.mul_one, Int.reduceToNat, Int.reduceLE, Int.reduceLT, Int.reduceAdd, Int.reduceSub, Int.reduceMul, Int.cast_ofNat_Int, cast_zero_int, cast_one_int, Nat.reducePow, Nat.reduceEqDiff, Nat.reduceMod, Nat.zero_add, Nat.sub_zero, Nat.add_zero, e0, e1, e5]
    refine .intro (fun h1 => ?_) (fun h1 => ?_)
    · have hlt : i < l.length := by simpa using h1
      have hz : (i : Int) < l.length := by omega
      have hidl := hget_lt hg
      have hset : ∀ b, hget (h'.set id b) id = some b := fun b => hget_set_same hidl
      have w1 : IntKind.i64.wrap (k + 4 * (i : Int) + 1) = k + 4 * i + 1 := wrap64 (by omega)
      have w2 : IntKind.i64.wrap (k + 4 * (i : Int) + 1 + 1) = k + 4 * i + 1 + 1 := wrap64 (by omega)
      have w3 : IntKind.i64.wrap (k + 4 * (i : Int) + 1 + 1 + 1) = k + 4 * i + 1 + 1 + 1 := wrap64 (by omega)
      have w4 : IntKind.i64.wrap (k + 4 * (i : Int) + 1 + 1 + 1 + 1) = k + 4 * i + 1 + 1 + 1 + 1 := wrap64 (by omega)
      have hP : (mks4 k i).flatten.length = i * 4 := by rw [flatten_len mks4_row, mks4_len]
      have hdrop : l.drop i = l[i] :: l.drop (i + 1) := List.drop_eq_getElem_cons hlt
      rw [hdrop] at hg
      simp only [List.map_cons, List.flatten_cons, smp, List.cons_append, List.nil_append] at hg
      have L1 : ∀ (c : List Value) (off : Nat) (v : Value), off + 1 ≤ c.length → (setRange c off [v]).length = c.length := fun c off v hh => setRange_length hh
      have q0 : i * 4 + 4 ≤ ((mks4 k i).flatten ++ Value.int IntKind.i64 l[i].1 :: Value.int IntKind.i64 l[i].2.1 :: Value.int IntKind.i64 l[i].2.2.1 :: Value.int IntKind.i64 l[i].2.2.2 :: ((l.drop (i + 1)).map smp).flatten).length := by
        rw [List.length_append, hP]; simp only [List.length_cons]; omega
      obtain ⟨C, hC⟩ : ∃ C : List Value, (mks4 k i).flatten ++ Value.int IntKind.i64 l[i].1 :: Value.int IntKind.i64 l[i].2.1 :: Value.int IntKind.i64 l[i].2.2.1 :: Value.int IntKind.i64 l[i].2.2.2 :: ((l.drop (i + 1)).map smp).flatten = C := ⟨_, rfl⟩
      rw [hC] at hg q0
      have q1 := L1 C (i * 4) (.int .i64 (k + 4 * ↑i)) (by omega)
      have q2 := L1 (setRange C (i * 4) [.int .i64 (k + 4 * ↑i)]) (i * 4 + 1) (.int .i64 (k + 4 * ↑i + 1)) (by omega)
      have q3 := L1 (setRange (setRange C (i * 4) [.int .i64 (k + 4 * ↑i)]) (i * 4 + 1) [.int .i64 (k + 4 * ↑i + 1)]) (i * 4 + 2) (.int .i64 (k + 4 * ↑i + 1 + 1)) (by omega)
      simp only [go_sem, Nat.reduceBEq, Nat.reduceAdd, Nat.reduceMul, Nat.reduceSub, Nat.reduceLeDiff, Nat.le_refl, implies_true, Nat.reduceLT, reduceIte, decide_true, decide_false, true_and, and_true, reduceCtorEq, Nat.mul_one, Int.reduceToNat, Int.reduceLE, Int.reduceLT, Int.reduceAdd, Int.reduceSub, Int.reduceMul, Int.cast_ofNat_Int, cast_zero_int, cast_one_int, Nat.reducePow, Nat.reduceEqDiff, Nat.reduceMod, Nat.zero_add, Nat.sub_zero, Nat.add_zero, e0, e1, e5, hz, hg, hown, hset, w1, w2, w3, w4, List.set_set]
      refine ⟨by omega, by omega, by omega, by omega, hlt, by congr 1; omega, by rw [wrap64 (by omega)]; rfl, hag.trans (Agr.set g1 g2), ?_⟩
      rw [← hC]
      rw [set4 hP, mks4_succ, List.flatten_append]
      simp [mk4]
    · simp only [go_sem, Nat.reduceBEq, Nat.reduceAdd, Nat.reduceMul, Nat.reduceSub, Nat.reduceLeDiff, Nat.le_refl, implies_true, Nat.reduceLT, reduceIte, decide_true, decide_false, true_and, and_true, reduceCtorEq, Nat.mul_one, Int.reduceToNat, Int.reduceLE, Int.reduceLT, Int.reduceAdd, Int.reduceSub, Int.reduceMul, Int.cast_ofNat_Int, cast_zero_int, cast_one_int, Nat.reducePow, Nat.reduceEqDiff, Nat.reduceMod, Nat.zero_add, Nat.sub_zero, Nat.add_zero, e0, e1, e5]
      obtain rfl : i = l.length := by have : ¬ i < l.length := by simpa using h1
                                      omega
      rw [List.drop_length, List.map_nil, List.flatten_nil, List.append_nil] at hg
      exact ⟨rfl, ⟨id, by rw [mks4_len], g1, g2, hg, mks4_row⟩, hag⟩
theorem c_markSampleQ {lo hi : Nat} (v : Value) (l : List Smp) (s : FQs lo hi 4 h v (l.map smp)) (hM : ∀ i, lo ≤ i → i < hi → M i) (k : Int) (hk : 0 ≤ k ∧ k ≤ 1000000000000) (hmax : l.length ≤ 1048576) :
    vCall [] Try.prog M 10 [v, .int .i64 k] h (fun r h' => r = .int .i64 (k + 4 * l.length) ∧ FQs lo hi 4 h' v (mks4 k l.length) ∧ Agr lo hi h h') := by
  rcases s with s | ⟨hl, a, rfl⟩
  · exact (c_markSampleF v l s hM k hk hmax).use (fun _ m => m) fun r h' ⟨a, b, c⟩ => ⟨a, .inl b, c⟩
  · obtain rfl : l = [] := by simpa using hl
    refine body_of mo Try.func10 rfl (by kernel_rfl) (Nat.le_of_ble_eq_true (by kernel_rfl)) rfl ?_
    simp only [go_sem, Nat.reduceBEq, Nat.reduceAdd, Nat.reduceMul, Nat.reduceSub, Nat.reduceLeDiff, Nat.le_refl, implies_true, Nat.reduceLT, reduceIte, decide_true, decide_false, true_and, and_true, reduceCtorEq, Nat.mul_one, Int.reduceToNat, Int.reduceLE, Int.reduceLT, Int.reduceAdd, Int.reduceSub, Int.reduceMul, Int.cast_ofNat_Int, cast_zero_int, cast_one_int, Nat.reducePow, Nat.reduceEqDiff, Nat.reduceMod, Nat.zero_add, Nat.sub_zero, Nat.add_zero]
    refine vLoop.count mo 0 (fun i e h' => e 0 = .slice a 0 0 ∧ e 1 = .int .i64 k ∧ e 5 = .int .i64 0 ∧ h' = h) ?_ ?_
    · exact ⟨rfl, rfl, rfl, rfl⟩
    · rintro i e h' hi ⟨e0, e1, e5, rfl⟩
      simp only [go_sem, Nat.reduceBEq, Nat.reduceAdd, Nat.reduceMul, Nat.reduceSub, Nat.reduceLeDiff, Nat.le_refl, implies_true, Nat.reduceLT, reduceIte, decide_true, decide_false, true_and, and_true, reduceCtorEq, Nat.mul_one, Int.reduceToNat, Int.reduceLE, Int.reduceLT, Int.reduceAdd, Int.reduceSub, Int.reduceMul, Int.cast_ofNat_Int, cast_zero_int, cast_one_int, Nat.reducePow, Nat.reduceEqDiff, Nat.reduceMod, Nat.zero_add, Nat.sub_zero, Nat.add_zero, e0, e1, e5]
      exact ⟨by simp, .inr ⟨by simp [mks4], a, rfl⟩, Agr.refl⟩
theorem c_heldSampleS (v : Value) (n : Nat) (k : Int) (hk : 0 ≤ k ∧ k ≤ 1000000000000) (s : Sl h 4 v (mks4 k n)) (hmax : n ≤ 1048576) :
    vCall [] Try.prog M 11 [v, .int .i64 k] h (fun r h' => r = .int .i64 (k + 4 * n) ∧ h <+: h') := by
  obtain ⟨a, hv, _, _⟩ := id s
  rw [mks4_len] at hv
  refine body_of mo Try.func11 rfl (by kernel_rfl) (Nat.le_of_ble_eq_true (by kernel_rfl)) rfl ?_
  subst hv
  simp only [go_sem, Nat.reduceBEq, Nat.reduceAdd, Nat.reduceMul, Nat.reduceSub, Nat.reduceLeDiff, Nat.le_refl, implies_true, Nat.reduceLT, reduceIte, decide_true, decide_false, true_and, and_true, reduceCtorEq, Nat.mul_one, Int.reduceToNat, Int.reduceLE, Int.reduceLT, Int.reduceAdd, Int.reduceSub, Int.reduceMul, Int.cast_ofNat_Int, cast_zero_int, cast_one_int, Nat.reducePow, Nat.reduceEqDiff, Nat.reduceMod, Nat.zero_add, Nat.sub_zero, Nat.add_zero]
  refine vLoop.count mo n (fun i e h' => e 0 = .slice a n 0 ∧ e 1 = .int .i64 (k + 4 * i) ∧ e 5 = .int .i64 i ∧ ∃ t, h' = h ++ t) ?_ ?_
  · exact ⟨rfl, by simp [upd, env0], rfl, [], by simp⟩
  · rintro i e h' hi ⟨e0, e1, e5, t, rfl⟩
    simp only [go_sem, Nat.reduceBEq, Nat.reduceAdd, Nat.reduceMul, Nat.reduceSub, Nat.reduceLeDiff, Nat.le_refl, implies_true, Nat.reduceLT, reduceIte, decide_true, decide_false, true_and, and_true, reduceCtorEq, Nat.mul_one, Int.reduceToNat, Int.reduceLE, Int.reduceLT, Int.reduceAdd, Int.reduceSub, Int.reduceMul, Int.cast_ofNat_Int, cast_zero_int, cast_one_int, Nat.reducePow, Nat.reduceEqDiff, Nat.reduceMod, Nat.zero_add, Nat.sub_zero, Nat.add_zero, e0, e1, e5]
    refine .intro (fun h1 => ?_) (fun h1 => ?_)
    · have hlt : i < n := by simpa using h1
      have hlt' : i < (mks4 k n).length := by rw [mks4_len]; exact hlt
      have hz : (i : Int) < n := by omega
      obtain ⟨id, off, b, hv, hk2, _, hd, hb, hrow, hat⟩ := s.at hlt'
      obtain rfl : a = some ⟨id, off, none⟩ := by simp only [Value.slice.injEq] at hv; exact hv.1
      have g0 := hat 0 (by omega)
      have g1 := hat 1 (by omega)
      have g2 := hat 2 (by omega)
      have g3 := hat 3 (by omega)
      rw [mks4_at hlt'] at g0 g1 g2 g3
      simp only [mk4, List.getElem?_cons_zero, List.getElem?_cons_succ, Nat.add_zero] at g0 g1 g2 g3
      have w1 : IntKind.i64.wrap (k + 4 * (i : Int) + 1) = k + 4 * i + 1 := wrap64 (by omega)
      have w2 : IntKind.i64.wrap (k + 4 * (i : Int) + 1 + 1) = k + 4 * i + 1 + 1 := wrap64 (by omega)
      have w3 : IntKind.i64.wrap (k + 4 * (i : Int) + 1 + 1 + 1) = k + 4 * i + 1 + 1 + 1 := wrap64 (by omega)
      have w4 : IntKind.i64.wrap (k + 4 * (i : Int) + 1 + 1 + 1 + 1) = k + 4 * i + 1 + 1 + 1 + 1 := wrap64 (by omega)
      simp only [go_sem, Nat.reduceBEq, Nat.reduceAdd, Nat.reduceMul, Nat.reduceSub, Nat.reduceLeDiff, Nat.le_refl, implies_true, Nat.reduceLT, reduceIte, decide_true, decide_false, true_and, and_true, reduceCtorEq, Nat.mul_one, Int.reduceToNat, Int.reduceLE, Int.reduceLT, Int.reduceAdd, Int.reduceSub, Int.reduceMul, Int.cast_ofNat_Int, cast_zero_int, cast_one_int, Nat.reducePow, Nat.reduceEqDiff, Nat.reduceMod, Nat.zero_add, Nat.sub_zero, Nat.add_zero, e0, e1, e5, hz, hk2, hd, g0, g1, g2, g3, w1, w2, w3, w4]
      exact ⟨hlt, by congr 1; omega, by rw [wrap64 (by omega)]; rfl, t, rfl⟩
    · simp only [go_sem, Nat.reduceBEq, Nat.reduceAdd, Nat.reduceMul, Nat.reduceSub, Nat.reduceLeDiff, Nat.le_refl, implies_true, Nat.reduceLT, reduceIte, decide_true, decide_false, true_and, and_true, reduceCtorEq, Nat.mul_one, Int.reduceToNat, Int.reduceLE, Int.reduceLT, Int.reduceAdd, Int.reduceSub, Int.reduceMul, Int.cast_ofNat_Int, cast_zero_int, cast_one_int, Nat.reducePow, Nat.reduceEqDiff, Nat.reduceMod, Nat.zero_add, Nat.sub_zero, Nat.add_zero, e0, e1, e5]
      obtain rfl : i = n := by have : ¬ i < n := by simpa using h1
                               omega
      rfl


/-- The sort of the joined lists. -/
theorem c_sortTwo (t : Heap) (j n : Nat) (a b : List Smp) (hj : t[j]? = some ⟨((a ++ b).map smp).flatten, 4, .rw⟩) (hn : n = a.length + b.length) (ga : smpGood a) (gb : smpGood b) :
    vCall [] Try.prog (own h.length M) 28 [.slice (some ⟨h.length + j, 0, none⟩) n 0, .func (.func 29) #[] #[]] (h ++ t)
      (fun r h' => r = .tuple #[] ∧ ∃ t', h' = h ++ t' ∧ t'[j]? = some ⟨((mergeD a b).map smp).flatten, 4, .rw⟩) := by
  have hla := ga.2
  have hlb := gb.2
  have hm : (numd (a ++ b)).map (fun x => smp x.1) = (a ++ b).map smp := by
    have := numd_fst (a ++ b)
    rw [show (fun x : Smp × Nat => smp x.1) = smp ∘ Prod.fst from rfl, ← List.map_map, this]
  have hlen : (numd (a ++ b)).length = n := by rw [numd, List.length_zipIdx, List.length_append, hn]
  have hd : Days (numd (a ++ b)) := fun x hx => by
    obtain ⟨i, hi⟩ := List.mem_iff_getElem?.1 hx
    have h2 := List.mem_of_getElem? (numd_at hi).2
    rcases List.mem_append.1 h2 with h3 | h3
    · obtain ⟨k, hk, e⟩ := List.mem_iff_getElem.1 h3
      have := (ga.ok hk).1
      rw [e] at this
      exact this
    · obtain ⟨k, hk, e⟩ := List.mem_iff_getElem.1 h3
      have := (gb.ok hk).1
      rw [e] at this
      exact this
  have hg : hget (h ++ t) (h.length + j) = some ⟨datT (numd (a ++ b)), 4, .rw⟩ := by
    rw [hget_app, hj, datT, hm]
  have hc := c_SortStable (h := h ++ t) (M := own h.length M) (h.length + j) (numd (a ++ b)) hg (.inl (Nat.le_add_right _ _)) (by omega) hd (fun p q u v _ p2 _ hu hv => by
    have h1 := (numd_at hu).1
    have h2 := (numd_at hv).1
    omega)
  rw [hlen] at hc
  refine hc.use (fun _ m => m) ?_
  rintro r h' ⟨rfl, X, t2, mX, sX, rfl⟩
  have lX : X.length = n := by rw [mX.len, hlen]
  have e := merge_unique ga.sorted gb.sorted mX.perm (by rw [lX]; exact sX)
  have hjl : j < t.length := (List.getElem?_eq_some_iff.1 hj).1
  refine ⟨rfl, t.set j ⟨datT X, 4, .rw⟩ ++ t2, ?_, ?_⟩
  · rw [hset_app, List.append_assoc]
  · rw [List.getElem?_append_left (by simpa using hjl), List.getElem?_set_self hjl, datT]
    rw [show (fun x : Smp × Nat => smp x.1) = smp ∘ Prod.fst from rfl, ← List.map_map, e]
theorem frTwo {t : Heap} {j n m : Nat} {a b : List Smp} (hj : t[j]? = some ⟨((mergeD a b).map smp).flatten, 4, .rw⟩) (hn : n = a.length + b.length) (hm : h.length + t.length ≤ m) : FR h.length m 4 (h ++ t) (.slice (some ⟨h.length + j, 0, none⟩) n 0) ((mergeD a b).map smp) := by
  have := (List.getElem?_eq_some_iff.1 hj).1
  exact ⟨h.length + j, by rw [List.length_map, mergeD_len, hn], by omega, by omega, by rw [hget_app]; exact hj, smp_len⟩
theorem c_MergeSamples (va vb : Value) (a b : List Smp) (sa : Sl h 4 va (a.map smp)) (sb : Sl h 4 vb (b.map smp)) (ha : a.length ≤ 1048576) (hb : b.length ≤ 1048576) :
    vCall [] Try.prog M 8 [va, vb] h (fun r h' => (∃ w, r = .tuple #[w, .bool (decide (mrgOk a b))] ∧ FQs h.length h'.length 4 h' w ((mrgRes a b).map smp)) ∧ h <+: h') := by
  have bad : ∀ (n : Nat) (H : Heap), ¬ mrgOk a b → (∃ w, Value.tuple #[Value.slice none 0 0, .bool false] = .tuple #[w, .bool (decide (mrgOk a b))] ∧ FQs h.length n 4 H w ((mrgRes a b).map smp)) := fun n H hn =>
    ⟨.slice none 0 0, by rw [decide_eq_false hn], .inr ⟨by rw [mrgRes, if_neg hn]; rfl, none, rfl⟩⟩
  refine body_of mo Try.func8 rfl (by kernel_rfl) (Nat.le_of_ble_eq_true (by kernel_rfl)) rfl ?_
  simp only [go_sem, Nat.reduceBEq, Nat.reduceAdd, Nat.reduceMul, Nat.reduceSub, Nat.reduceLeDiff, Nat.le_refl, implies_true, Nat.reduceLT, reduceIte, decide_true, decide_false, true_and, and_true, reduceCtorEq, Nat.mul_one, Int.reduceToNat, Int.reduceLE, Int.reduceLT, Int.reduceAdd, Int.reduceSub, Int.reduceMul, Int.cast_ofNat_Int, cast_zero_int, cast_one_int, Nat.reducePow, Nat.reduceEqDiff, Nat.reduceMod, Nat.zero_add, Nat.sub_zero, Nat.add_zero]
  refine ⟨by kernel_rfl, (c_areSamples va a sa ha).use (fun _ m => m) ?_⟩
  rintro _ _ ⟨rfl, ⟨t, rfl⟩⟩
  by_cases g1 : smpGood a
  · simp only [go_sem, Nat.reduceBEq, Nat.reduceAdd, Nat.reduceMul, Nat.reduceSub, Nat.reduceLeDiff, Nat.le_refl, implies_true, Nat.reduceLT, reduceIte, decide_true, decide_false, true_and, and_true, reduceCtorEq, Nat.mul_one, Int.reduceToNat, Int.reduceLE, Int.reduceLT, Int.reduceAdd, Int.reduceSub, Int.reduceMul, Int.cast_ofNat_Int, cast_zero_int, cast_one_int, Nat.reducePow, Nat.reduceEqDiff, Nat.reduceMod, Nat.zero_add, Nat.sub_zero, Nat.add_zero, decb g1]
    refine ⟨by kernel_rfl, (c_areSamples vb b (sb.mono (List.prefix_append _ _)) hb).use (fun _ m => m) ?_⟩
    rintro _ _ ⟨rfl, ⟨t2, rfl⟩⟩
    by_cases g2 : smpGood b
    · simp only [go_sem, Nat.reduceBEq, Nat.reduceAdd, Nat.reduceMul, Nat.reduceSub, Nat.reduceLeDiff, Nat.le_refl, implies_true, Nat.reduceLT, reduceIte, decide_true, decide_false, true_and, and_true, reduceCtorEq, Nat.mul_one, Int.reduceToNat, Int.reduceLE, Int.reduceLT, Int.reduceAdd, Int.reduceSub, Int.reduceMul, Int.cast_ofNat_Int, cast_zero_int, cast_one_int, Nat.reducePow, Nat.reduceEqDiff, Nat.reduceMod, Nat.zero_add, Nat.sub_zero, Nat.add_zero, decb g1, decb g2]
      obtain ⟨aa, ea, _, _⟩ := id sa
      obtain ⟨bb, eb, _, _⟩ := id sb
      rw [List.length_map] at ea eb
      have one : ∀ l : List Smp, ((l.map smp).flatten).all oneC = true := fun l => rows_one fun r hr => by
        obtain ⟨x, _, rfl⟩ := List.mem_map.1 hr
        rfl
      have fl : ∀ l : List Smp, ((l.map smp).flatten).length = l.length * 4 := fun l => by rw [flatten_len smp_len, List.length_map]
      have la := g1.2
      have lb := g2.2
      by_cases a0 : a = []
      · subst a0
        subst ea
        simp only [go_sem, Nat.reduceBEq, Nat.reduceAdd, Nat.reduceMul, Nat.reduceSub, Nat.reduceLeDiff, Nat.le_refl, implies_true, Nat.reduceLT, reduceIte, decide_true, decide_false, true_and, and_true, reduceCtorEq, Nat.mul_one, Int.reduceToNat, Int.reduceLE, Int.reduceLT, Int.reduceAdd, Int.reduceSub, Int.reduceMul, Int.cast_ofNat_Int, cast_zero_int, cast_one_int, Nat.reducePow, Nat.reduceEqDiff, Nat.reduceMod, Nat.zero_add, Nat.sub_zero, Nat.add_zero]
        by_cases b0 : b = []
        · subst b0
          subst eb
          simp only [go_sem, Nat.reduceBEq, Nat.reduceAdd, Nat.reduceMul, Nat.reduceSub, Nat.reduceLeDiff, Nat.le_refl, implies_true, Nat.reduceLT, reduceIte, decide_true, decide_false, true_and, and_true, reduceCtorEq, Nat.mul_one, Int.reduceToNat, Int.reduceLE, Int.reduceLT, Int.reduceAdd, Int.reduceSub, Int.reduceMul, Int.cast_ofNat_Int, cast_zero_int, cast_one_int, Nat.reducePow, Nat.reduceEqDiff, Nat.reduceMod, Nat.zero_add, Nat.sub_zero, Nat.add_zero]
          refine ⟨by kernel_rfl, (c_sortTwo _ (t.length + t2.length) (0) [] [] (by simp ) (by simp) g1 g2).use (fun _ m => m) ?_⟩
          rintro _ _ ⟨rfl, t3, rfl, hj3⟩
          have fr := frTwo (h := h) (n := 0) hj3 (by simp) (Nat.le_refl _)
          refine ⟨by kernel_rfl, (c_areSamples _ (mergeD [] []) fr.sl (by rw [mergeD_len]; (try simp only [List.length_nil]); omega)).use (fun _ m => m) ?_⟩
          rintro _ _ ⟨rfl, ⟨t4, rfl⟩⟩
          by_cases g3 : smpGood (mergeD [] [])
          · simp only [go_sem, Nat.reduceBEq, Nat.reduceAdd, Nat.reduceMul, Nat.reduceSub, Nat.reduceLeDiff, Nat.le_refl, implies_true, Nat.reduceLT, reduceIte, decide_true, decide_false, true_and, and_true, reduceCtorEq, Nat.mul_one, Int.reduceToNat, Int.reduceLE, Int.reduceLT, Int.reduceAdd, Int.reduceSub, Int.reduceMul, Int.cast_ofNat_Int, cast_zero_int, cast_one_int, Nat.reducePow, Nat.reduceEqDiff, Nat.reduceMod, Nat.zero_add, Nat.sub_zero, Nat.add_zero, decb g1, decb g2, decb g3]
            have ok : mrgOk [] [] := ⟨⟨g1, g2⟩, g3⟩
            refine ⟨_, by rw [decide_eq_true ok], ?_⟩
            rw [mrgRes, if_pos ok]
            exact .inl (frTwo (h := h) (n := 0) (t := t3 ++ t4) (app_old hj3 t4) (by simp) (by simp))
          · simp only [go_sem, Nat.reduceBEq, Nat.reduceAdd, Nat.reduceMul, Nat.reduceSub, Nat.reduceLeDiff, Nat.le_refl, implies_true, Nat.reduceLT, reduceIte, decide_true, decide_false, true_and, and_true, reduceCtorEq, Nat.mul_one, Int.reduceToNat, Int.reduceLE, Int.reduceLT, Int.reduceAdd, Int.reduceSub, Int.reduceMul, Int.cast_ofNat_Int, cast_zero_int, cast_one_int, Nat.reducePow, Nat.reduceEqDiff, Nat.reduceMod, Nat.zero_add, Nat.sub_zero, Nat.add_zero, decb g1, decb g2, dect g3]
            exact bad _ _ (fun hh => g3 hh.2)
        · have hb0 : 0 < b.length := List.length_pos_iff.2 b0
          obtain ⟨id, off, k, ev, hk, hd, hbb, hfl⟩ := sb.copy (by simpa using b0)
          rw [List.length_map] at ev hbb hfl
          rw [eb] at ev
          obtain rfl : bb = some ⟨id, off, none⟩ := by simpa using ev
          subst eb
          simp only [go_sem, Nat.reduceBEq, Nat.reduceAdd, Nat.reduceMul, Nat.reduceSub, Nat.reduceLeDiff, Nat.le_refl, implies_true, Nat.reduceLT, reduceIte, decide_true, decide_false, true_and, and_true, reduceCtorEq, Nat.mul_one, Int.reduceToNat, Int.reduceLE, Int.reduceLT, Int.reduceAdd, Int.reduceSub, Int.reduceMul, Int.cast_ofNat_Int, cast_zero_int, cast_one_int, Nat.reducePow, Nat.reduceEqDiff, Nat.reduceMod, Nat.zero_add, Nat.sub_zero, Nat.add_zero, onApp_more hb0, hk, hd, hbb, hfl, hb0, one, fl, show b.length ≤ 9223372036854775807 by omega, show b.length * 32 ≤ 140737488355328 by omega]
          refine ⟨by kernel_rfl, (c_sortTwo _ (t.length + (t2.length + 1)) (b.length) [] b (by simp ) (by simp) g1 g2).use (fun _ m => m) ?_⟩
          rintro _ _ ⟨rfl, t3, rfl, hj3⟩
          have fr := frTwo (h := h) (n := b.length) hj3 (by simp) (Nat.le_refl _)
          refine ⟨by kernel_rfl, (c_areSamples _ (mergeD [] b) fr.sl (by rw [mergeD_len]; (try simp only [List.length_nil]); omega)).use (fun _ m => m) ?_⟩
          rintro _ _ ⟨rfl, ⟨t4, rfl⟩⟩
          by_cases g3 : smpGood (mergeD [] b)
          · simp only [go_sem, Nat.reduceBEq, Nat.reduceAdd, Nat.reduceMul, Nat.reduceSub, Nat.reduceLeDiff, Nat.le_refl, implies_true, Nat.reduceLT, reduceIte, decide_true, decide_false, true_and, and_true, reduceCtorEq, Nat.mul_one, Int.reduceToNat, Int.reduceLE, Int.reduceLT, Int.reduceAdd, Int.reduceSub, Int.reduceMul, Int.cast_ofNat_Int, cast_zero_int, cast_one_int, Nat.reducePow, Nat.reduceEqDiff, Nat.reduceMod, Nat.zero_add, Nat.sub_zero, Nat.add_zero, decb g1, decb g2, decb g3]
            have ok : mrgOk [] b := ⟨⟨g1, g2⟩, g3⟩
            refine ⟨_, by rw [decide_eq_true ok], ?_⟩
            rw [mrgRes, if_pos ok]
            exact .inl (frTwo (h := h) (n := b.length) (t := t3 ++ t4) (app_old hj3 t4) (by simp) (by simp))
          · simp only [go_sem, Nat.reduceBEq, Nat.reduceAdd, Nat.reduceMul, Nat.reduceSub, Nat.reduceLeDiff, Nat.le_refl, implies_true, Nat.reduceLT, reduceIte, decide_true, decide_false, true_and, and_true, reduceCtorEq, Nat.mul_one, Int.reduceToNat, Int.reduceLE, Int.reduceLT, Int.reduceAdd, Int.reduceSub, Int.reduceMul, Int.cast_ofNat_Int, cast_zero_int, cast_one_int, Nat.reducePow, Nat.reduceEqDiff, Nat.reduceMod, Nat.zero_add, Nat.sub_zero, Nat.add_zero, decb g1, decb g2, dect g3]
            exact bad _ _ (fun hh => g3 hh.2)
      · have ha0 : 0 < a.length := List.length_pos_iff.2 a0
        obtain ⟨id, off, k, ev, hk, hd, hbb, hfl⟩ := sa.copy (by simpa using a0)
        rw [List.length_map] at ev hbb hfl
        rw [ea] at ev
        obtain rfl : aa = some ⟨id, off, none⟩ := by simpa using ev
        subst ea
        simp only [go_sem, Nat.reduceBEq, Nat.reduceAdd, Nat.reduceMul, Nat.reduceSub, Nat.reduceLeDiff, Nat.le_refl, implies_true, Nat.reduceLT, reduceIte, decide_true, decide_false, true_and, and_true, reduceCtorEq, Nat.mul_one, Int.reduceToNat, Int.reduceLE, Int.reduceLT, Int.reduceAdd, Int.reduceSub, Int.reduceMul, Int.cast_ofNat_Int, cast_zero_int, cast_one_int, Nat.reducePow, Nat.reduceEqDiff, Nat.reduceMod, Nat.zero_add, Nat.sub_zero, Nat.add_zero, onApp_more ha0, hk, hd, hbb, hfl, ha0, one, fl, show a.length ≤ 9223372036854775807 by omega, show a.length * 32 ≤ 140737488355328 by omega]
        by_cases b0 : b = []
        · subst b0
          subst eb
          simp only [go_sem, Nat.reduceBEq, Nat.reduceAdd, Nat.reduceMul, Nat.reduceSub, Nat.reduceLeDiff, Nat.le_refl, implies_true, Nat.reduceLT, reduceIte, decide_true, decide_false, true_and, and_true, reduceCtorEq, Nat.mul_one, Int.reduceToNat, Int.reduceLE, Int.reduceLT, Int.reduceAdd, Int.reduceSub, Int.reduceMul, Int.cast_ofNat_Int, cast_zero_int, cast_one_int, Nat.reducePow, Nat.reduceEqDiff, Nat.reduceMod, Nat.zero_add, Nat.sub_zero, Nat.add_zero]
          refine ⟨by kernel_rfl, (c_sortTwo _ (t.length + (t2.length + 1)) (a.length) a [] (by simp [hfl]) (by simp) g1 g2).use (fun _ m => m) ?_⟩
          rintro _ _ ⟨rfl, t3, rfl, hj3⟩
          have fr := frTwo (h := h) (n := a.length) hj3 (by simp) (Nat.le_refl _)
          refine ⟨by kernel_rfl, (c_areSamples _ (mergeD a []) fr.sl (by rw [mergeD_len]; (try simp only [List.length_nil]); omega)).use (fun _ m => m) ?_⟩
          rintro _ _ ⟨rfl, ⟨t4, rfl⟩⟩
          by_cases g3 : smpGood (mergeD a [])
          · simp only [go_sem, Nat.reduceBEq, Nat.reduceAdd, Nat.reduceMul, Nat.reduceSub, Nat.reduceLeDiff, Nat.le_refl, implies_true, Nat.reduceLT, reduceIte, decide_true, decide_false, true_and, and_true, reduceCtorEq, Nat.mul_one, Int.reduceToNat, Int.reduceLE, Int.reduceLT, Int.reduceAdd, Int.reduceSub, Int.reduceMul, Int.cast_ofNat_Int, cast_zero_int, cast_one_int, Nat.reducePow, Nat.reduceEqDiff, Nat.reduceMod, Nat.zero_add, Nat.sub_zero, Nat.add_zero, decb g1, decb g2, decb g3]
            have ok : mrgOk a [] := ⟨⟨g1, g2⟩, g3⟩
            refine ⟨_, by rw [decide_eq_true ok], ?_⟩
            rw [mrgRes, if_pos ok]
            exact .inl (frTwo (h := h) (n := a.length) (t := t3 ++ t4) (app_old hj3 t4) (by simp) (by simp))
          · simp only [go_sem, Nat.reduceBEq, Nat.reduceAdd, Nat.reduceMul, Nat.reduceSub, Nat.reduceLeDiff, Nat.le_refl, implies_true, Nat.reduceLT, reduceIte, decide_true, decide_false, true_and, and_true, reduceCtorEq, Nat.mul_one, Int.reduceToNat, Int.reduceLE, Int.reduceLT, Int.reduceAdd, Int.reduceSub, Int.reduceMul, Int.cast_ofNat_Int, cast_zero_int, cast_one_int, Nat.reducePow, Nat.reduceEqDiff, Nat.reduceMod, Nat.zero_add, Nat.sub_zero, Nat.add_zero, decb g1, decb g2, dect g3]
            exact bad _ _ (fun hh => g3 hh.2)
        · have hb0 : 0 < b.length := List.length_pos_iff.2 b0
          obtain ⟨id2, off2, k2, ev2, hk2, hd2, hbb2, hfl2⟩ := sb.copy (by simpa using b0)
          rw [List.length_map] at ev2 hbb2 hfl2
          rw [eb] at ev2
          obtain rfl : bb = some ⟨id2, off2, none⟩ := by simpa using ev2
          subst eb
          simp only [go_sem, Nat.reduceBEq, Nat.reduceAdd, Nat.reduceMul, Nat.reduceSub, Nat.reduceLeDiff, Nat.le_refl, implies_true, Nat.reduceLT, reduceIte, decide_true, decide_false, true_and, and_true, reduceCtorEq, Nat.mul_one, Int.reduceToNat, Int.reduceLE, Int.reduceLT, Int.reduceAdd, Int.reduceSub, Int.reduceMul, Int.cast_ofNat_Int, cast_zero_int, cast_one_int, Nat.reducePow, Nat.reduceEqDiff, Nat.reduceMod, Nat.zero_add, Nat.sub_zero, Nat.add_zero, onApp_more hb0, hfl, hk2, hd2, hbb2, hfl2, hb0, one, fl, show b.length ≤ 9223372036854775807 by omega, show a.length + b.length ≤ 9223372036854775807 by omega, show (a.length + b.length) * 32 ≤ 140737488355328 by omega]
          refine ⟨by kernel_rfl, (c_sortTwo _ (t.length + (t2.length + 2)) (a.length + b.length) a b (by simp [hfl, hfl2]) (by simp) g1 g2).use (fun _ m => m) ?_⟩
          rintro _ _ ⟨rfl, t3, rfl, hj3⟩
          have fr := frTwo (h := h) (n := a.length + b.length) hj3 (by simp) (Nat.le_refl _)
          refine ⟨by kernel_rfl, (c_areSamples _ (mergeD a b) fr.sl (by rw [mergeD_len]; (try simp only [List.length_nil]); omega)).use (fun _ m => m) ?_⟩
          rintro _ _ ⟨rfl, ⟨t4, rfl⟩⟩
          by_cases g3 : smpGood (mergeD a b)
          · simp only [go_sem, Nat.reduceBEq, Nat.reduceAdd, Nat.reduceMul, Nat.reduceSub, Nat.reduceLeDiff, Nat.le_refl, implies_true, Nat.reduceLT, reduceIte, decide_true, decide_false, true_and, and_true, reduceCtorEq, Nat.mul_one, Int.reduceToNat, Int.reduceLE, Int.reduceLT, Int.reduceAdd, Int.reduceSub, Int.reduceMul, Int.cast_ofNat_Int, cast_zero_int, cast_one_int, Nat.reducePow, Nat.reduceEqDiff, Nat.reduceMod, Nat.zero_add, Nat.sub_zero, Nat.add_zero, decb g1, decb g2, decb g3]
            have ok : mrgOk a b := ⟨⟨g1, g2⟩, g3⟩
            refine ⟨_, by rw [decide_eq_true ok], ?_⟩
            rw [mrgRes, if_pos ok]
            exact .inl (frTwo (h := h) (n := a.length + b.length) (t := t3 ++ t4) (app_old hj3 t4) (by simp) (by simp))
          · simp only [go_sem, Nat.reduceBEq, Nat.reduceAdd, Nat.reduceMul, Nat.reduceSub, Nat.reduceLeDiff, Nat.le_refl, implies_true, Nat.reduceLT, reduceIte, decide_true, decide_false, true_and, and_true, reduceCtorEq, Nat.mul_one, Int.reduceToNat, Int.reduceLE, Int.reduceLT, Int.reduceAdd, Int.reduceSub, Int.reduceMul, Int.cast_ofNat_Int, cast_zero_int, cast_one_int, Nat.reducePow, Nat.reduceEqDiff, Nat.reduceMod, Nat.zero_add, Nat.sub_zero, Nat.add_zero, decb g1, decb g2, dect g3]
            exact bad _ _ (fun hh => g3 hh.2)
    · simp only [go_sem, Nat.reduceBEq, Nat.reduceAdd, Nat.reduceMul, Nat.reduceSub, Nat.reduceLeDiff, Nat.le_refl, implies_true, Nat.reduceLT, reduceIte, decide_true, decide_false, true_and, and_true, reduceCtorEq, Nat.mul_one, Int.reduceToNat, Int.reduceLE, Int.reduceLT, Int.reduceAdd, Int.reduceSub, Int.reduceMul, Int.cast_ofNat_Int, cast_zero_int, cast_one_int, Nat.reducePow, Nat.reduceEqDiff, Nat.reduceMod, Nat.zero_add, Nat.sub_zero, Nat.add_zero, decb g1, dect g2]
      exact bad _ _ (fun hh => g2 hh.1.2)
  · simp only [go_sem, Nat.reduceBEq, Nat.reduceAdd, Nat.reduceMul, Nat.reduceSub, Nat.reduceLeDiff, Nat.le_refl, implies_true, Nat.reduceLT, reduceIte, decide_true, decide_false, true_and, and_true, reduceCtorEq, Nat.mul_one, Int.reduceToNat, Int.reduceLE, Int.reduceLT, Int.reduceAdd, Int.reduceSub, Int.reduceMul, Int.cast_ofNat_Int, cast_zero_int, cast_one_int, Nat.reducePow, Nat.reduceEqDiff, Nat.reduceMod, Nat.zero_add, Nat.sub_zero, Nat.add_zero, dect g1]
    exact bad _ _ (fun hh => g1 hh.1.1)
theorem new_endR {u : Heap} {K b : Blk} {j n : Nat} (hn : n = u.length) : (u.set j b ++ [K])[n]? = some K := by
  subst hn
  rw [List.getElem?_append_right (by simp), List.length_set, Nat.sub_self]; rfl
/-- The cells of the slice's block are those of its rows' type. -/
def Esz (h : Heap) (sz : Nat) (v : Value) : Prop := ∀ id o n, v = .slice (some ⟨id, o, none⟩) n 0 → 0 < n → ∃ k, hget h id = some k ∧ k.esz = sz
theorem Esz.mono {h h' : Heap} {sz : Nat} {v : Value} (s : Esz h sz v) (hp : h <+: h') : Esz h' sz v := fun id o n e hn => by
  obtain ⟨k, a, b⟩ := s id o n e hn
  exact ⟨k, by rw [hget_prefix hp (hget_lt a)]; exact a, b⟩
theorem FR.esz {lo hi sz : Nat} {h : Heap} {v : Value} {rows : List (List Value)} (s : FR lo hi sz h v rows) : Esz h sz v := fun id o n e hn => by
  obtain ⟨id2, rfl, _, _, hg, _⟩ := s
  simp only [Value.slice.injEq, Option.some.injEq, Addr.mk.injEq] at e
  obtain ⟨⟨rfl, _, _⟩, _⟩ := e
  exact ⟨_, hg, rfl⟩
theorem mergeD_cons {x y : Smp} {a b : List Smp} : mergeD (x :: a) (y :: b) = if x.1 ≤ y.1 then x :: mergeD a (y :: b) else y :: mergeD (x :: a) b := by
  simp only [mergeD, List.cons_merge_cons, decide_eq_true_eq]
theorem mergeD_nil (b : List Smp) : mergeD [] b = b := by simp [mergeD]
theorem mergeD_none (a : List Smp) : mergeD a [] = a := by simp [mergeD]
theorem c_sMergeSamples (va vb : Value) (a b : List Smp) (sa : Sl h 4 va (a.map smp)) (sb : Sl h 4 vb (b.map smp)) (hes : Esz h 4 vb) (ha : a.length ≤ 1048576) (hb : b.length ≤ 1048576) :
    vCall [] Try.prog M 6 [va, vb] h (fun r h' => (∃ w, r = .tuple #[w, .bool (decide (mrgOk a b))] ∧ FQs h.length h'.length 4 h' w ((mrgRes a b).map smp)) ∧ h <+: h') := by
  have bad : ∀ (n : Nat) (H : Heap) (p : Option Addr), ¬ mrgOk a b → (∃ w, Value.tuple #[Value.slice p 0 0, .bool false] = .tuple #[w, .bool (decide (mrgOk a b))] ∧ FQs h.length n 4 H w ((mrgRes a b).map smp)) := fun n H p hn =>
    ⟨.slice p 0 0, by rw [decide_eq_false hn], .inr ⟨by rw [mrgRes, if_neg hn]; rfl, p, rfl⟩⟩
  obtain ⟨aa, ea, _, _⟩ := id sa
  obtain ⟨bb, eb, _, _⟩ := id sb
  rw [List.length_map] at ea eb
  refine body_of mo Try.func6 rfl (by kernel_rfl) (Nat.le_of_ble_eq_true (by kernel_rfl)) rfl ?_
  subst ea eb
  simp only [go_sem, Nat.reduceBEq, Nat.reduceAdd, Nat.reduceMul, Nat.reduceSub, Nat.reduceLeDiff, Nat.le_refl, implies_true, Nat.reduceLT, reduceIte, decide_true, decide_false, true_and, and_true, reduceCtorEq, Nat.mul_one, Int.reduceToNat, Int.reduceLE, Int.reduceLT, Int.reduceAdd, Int.reduceSub, Int.reduceMul, Int.cast_ofNat_Int, cast_zero_int, cast_one_int, Nat.reducePow, Nat.reduceEqDiff, Nat.reduceMod, Nat.zero_add, Nat.sub_zero, Nat.add_zero]
  refine ⟨by kernel_rfl, (c_l23Good _ a (sa.mono (List.prefix_append _ _)) ha).use (fun _ m => m) ?_⟩
  rintro _ _ ⟨rfl, ⟨t, rfl⟩⟩
  by_cases g1 : smpGood a
  · simp only [go_sem, Nat.reduceBEq, Nat.reduceAdd, Nat.reduceMul, Nat.reduceSub, Nat.reduceLeDiff, Nat.le_refl, implies_true, Nat.reduceLT, reduceIte, decide_true, decide_false, true_and, and_true, reduceCtorEq, Nat.mul_one, Int.reduceToNat, Int.reduceLE, Int.reduceLT, Int.reduceAdd, Int.reduceSub, Int.reduceMul, Int.cast_ofNat_Int, cast_zero_int, cast_one_int, Nat.reducePow, Nat.reduceEqDiff, Nat.reduceMod, Nat.zero_add, Nat.sub_zero, Nat.add_zero, decb g1]
    refine ⟨by kernel_rfl, (c_l23Good _ b (sb.mono (by simp)) hb).use (fun _ m => m) ?_⟩
    rintro _ _ ⟨rfl, ⟨t2, rfl⟩⟩
    by_cases g2 : smpGood b
    · have la := g1.2
      have lb := g2.2
      simp only [go_sem, Nat.reduceBEq, Nat.reduceAdd, Nat.reduceMul, Nat.reduceSub, Nat.reduceLeDiff, Nat.le_refl, implies_true, Nat.reduceLT, reduceIte, decide_true, decide_false, true_and, and_true, reduceCtorEq, Nat.mul_one, Int.reduceToNat, Int.reduceLE, Int.reduceLT, Int.reduceAdd, Int.reduceSub, Int.reduceMul, Int.cast_ofNat_Int, cast_zero_int, cast_one_int, Nat.reducePow, Nat.reduceEqDiff, Nat.reduceMod, Nat.zero_add, Nat.sub_zero, Nat.add_zero, decb g1, decb g2]
      refine vLoop.count mo a.length (fun i e h' => ∃ (t : Heap) (j k : Nat) (O : List Smp), e 0 = .slice aa a.length 0 ∧ e 1 = .slice bb b.length 0 ∧ e 6 = .slice (some ⟨h.length + j, 0, none⟩) O.length 0 ∧ e 7 = .int .i64 k ∧ e 8 = .int .i64 i ∧
        h' = h ++ t ∧ t[j]? = some ⟨(O.map smp).flatten, 4, .rw⟩ ∧ k ≤ b.length ∧ O.length = i + k ∧ O ++ mergeD (a.drop i) (b.drop k) = mergeD a b) ?_ ?_
      · exact ⟨⟨[], 4, .rw⟩ :: (t ++ t2), 0, 0, [], rfl, rfl, by simp [upd], rfl, rfl, by simp, by simp, by omega, rfl, by simp⟩
      · rintro i e _ hi ⟨t, j, k, O, e0, e1, e6, e7, e8, rfl, hj, hk, hO, hm⟩
        simp only [go_sem, Nat.reduceBEq, Nat.reduceAdd, Nat.reduceMul, Nat.reduceSub, Nat.reduceLeDiff, Nat.le_refl, implies_true, Nat.reduceLT, reduceIte, decide_true, decide_false, true_and, and_true, reduceCtorEq, Nat.mul_one, Int.reduceToNat, Int.reduceLE, Int.reduceLT, Int.reduceAdd, Int.reduceSub, Int.reduceMul, Int.cast_ofNat_Int, cast_zero_int, cast_one_int, Nat.reducePow, Nat.reduceEqDiff, Nat.reduceMod, Nat.zero_add, Nat.sub_zero, Nat.add_zero, e0, e1, e6, e7, e8]
        by_cases hlt : i < a.length
        · have hlt' : i < (a.map smp).length := by simpa using hlt
          obtain ⟨id, o, K, hv, hKg, _, hd, hbb, hrow, hcell⟩ := sa.at hlt'
          obtain rfl : aa = some ⟨id, o, none⟩ := by simpa using hv
          have hc0 := hcell 0 (by omega)
          rw [List.getElem_map] at hc0 hrow
          simp only [smp, List.getElem?_cons_zero, Nat.add_zero] at hc0 hrow
          have hz : (i : Int) < a.length := by omega
          have hdrop : a.drop i = a[i] :: a.drop (i + 1) := List.drop_eq_getElem_cons hlt
          simp only [go_sem, Nat.reduceBEq, Nat.reduceAdd, Nat.reduceMul, Nat.reduceSub, Nat.reduceLeDiff, Nat.le_refl, implies_true, Nat.reduceLT, reduceIte, decide_true, decide_false, true_and, and_true, reduceCtorEq, Nat.mul_one, Int.reduceToNat, Int.reduceLE, Int.reduceLT, Int.reduceAdd, Int.reduceSub, Int.reduceMul, Int.cast_ofNat_Int, cast_zero_int, cast_one_int, Nat.reducePow, Nat.reduceEqDiff, Nat.reduceMod, Nat.zero_add, Nat.sub_zero, Nat.add_zero, e0, e1, e6, e7, e8, hz]
          refine vLoop.rank mo b.length (fun n e h' => ∃ (t : Heap) (j k : Nat) (O : List Smp), b.length - k ≤ n ∧ e 0 = .slice (some ⟨id, o, none⟩) a.length 0 ∧ e 1 = .slice bb b.length 0 ∧ e 6 = .slice (some ⟨h.length + j, 0, none⟩) O.length 0 ∧ e 7 = .int .i64 k ∧ e 8 = .int .i64 i ∧
            h' = h ++ t ∧ t[j]? = some ⟨(O.map smp).flatten, 4, .rw⟩ ∧ k ≤ b.length ∧ O.length = i + k ∧ O ++ mergeD (a.drop i) (b.drop k) = mergeD a b) ?_ ?_
          · exact ⟨t, j, k, O, by omega, by simp [upd, e0], by simp [upd, e1], by simp [upd, e6], by simp [upd, e7], by simp [upd, e8], rfl, hj, hk, hO, hm⟩
          · rintro n e _ ⟨t, j, k, O, hn, e0, e1, e6, e7, e8, rfl, hj, hk, hO, hm⟩
            have hjl := (List.getElem?_eq_some_iff.1 hj).1
            have hfl : ((O.map smp).flatten).length = O.length * 4 := by rw [flatten_len smp_len, List.length_map]
            have last : (k = b.length ∨ ∃ hk2 : k < b.length, ¬ b[k].1 < a[i].1) → (O ++ [a[i]]) ++ mergeD (a.drop (i + 1)) (b.drop k) = mergeD a b := fun hs => by
              rw [← hm, hdrop]
              rcases hs with hs | ⟨hk2, hs⟩
              · rw [List.drop_of_length_le (Nat.le_of_eq hs.symm), mergeD_none, mergeD_none]; simp
              · rw [List.drop_eq_getElem_cons hk2, mergeD_cons, if_pos (by omega)]; simp
            simp only [go_sem, Nat.reduceBEq, Nat.reduceAdd, Nat.reduceMul, Nat.reduceSub, Nat.reduceLeDiff, Nat.le_refl, implies_true, Nat.reduceLT, reduceIte, decide_true, decide_false, true_and, and_true, reduceCtorEq, Nat.mul_one, Int.reduceToNat, Int.reduceLE, Int.reduceLT, Int.reduceAdd, Int.reduceSub, Int.reduceMul, Int.cast_ofNat_Int, cast_zero_int, cast_one_int, Nat.reducePow, Nat.reduceEqDiff, Nat.reduceMod, Nat.zero_add, Nat.sub_zero, Nat.add_zero, e0, e1, e6, e7, e8]
            by_cases hk2 : k < b.length
            · have hk2' : k < (b.map smp).length := by simpa using hk2
              obtain ⟨id2, o2, K2, hv2, hK2, _, hd2, hbb2, hrow2, hcell2⟩ := sb.at hk2'
              obtain rfl : bb = some ⟨id2, o2, none⟩ := by simpa using hv2
              have hc2 := hcell2 0 (by omega)
              rw [List.getElem_map] at hc2 hrow2
              simp only [smp, List.getElem?_cons_zero, Nat.add_zero] at hc2 hrow2
              by_cases hlt2 : b[k].1 < a[i].1
              · simp only [go_sem, Nat.reduceBEq, Nat.reduceAdd, Nat.reduceMul, Nat.reduceSub, Nat.reduceLeDiff, Nat.le_refl, implies_true, Nat.reduceLT, reduceIte, decide_true, decide_false, true_and, and_true, reduceCtorEq, Nat.mul_one, Int.reduceToNat, Int.reduceLE, Int.reduceLT, Int.reduceAdd, Int.reduceSub, Int.reduceMul, Int.cast_ofNat_Int, cast_zero_int, cast_one_int, Nat.reducePow, Nat.reduceEqDiff, Nat.reduceMod, Nat.zero_add, Nat.sub_zero, Nat.add_zero, e0, e1, e6, e7, e8, hz, show (k : Int) < b.length by omega, hKg, hK2, hd, hd2, hc0, hc2, hlt2, hrow2, hbb2, hfl, app_old hj, List.getElem?_append_left hjl, hj, show O.length ≤ 9223372036854775806 by omega, show (O.length + 1) * 32 ≤ 140737488355328 by omega]
                refine ⟨n - 1, by omega, _, t.length + 1, k + 1, O ++ [b[k]], by omega, by rw [List.length_append]; rfl, by rw [wrap64 (by omega)]; rfl, rfl, ?_, by omega, by rw [List.length_append, List.length_singleton]; omega, ?_⟩
                · rw [List.map_append, List.flatten_append]; exact new_endR (by simp)
                · rw [← hm, hdrop, List.drop_eq_getElem_cons hk2, mergeD_cons, if_neg (by omega)]; simp
              · simp only [go_sem, Nat.reduceBEq, Nat.reduceAdd, Nat.reduceMul, Nat.reduceSub, Nat.reduceLeDiff, Nat.le_refl, implies_true, Nat.reduceLT, reduceIte, decide_true, decide_false, true_and, and_true, reduceCtorEq, Nat.mul_one, Int.reduceToNat, Int.reduceLE, Int.reduceLT, Int.reduceAdd, Int.reduceSub, Int.reduceMul, Int.cast_ofNat_Int, cast_zero_int, cast_one_int, Nat.reducePow, Nat.reduceEqDiff, Nat.reduceMod, Nat.zero_add, Nat.sub_zero, Nat.add_zero, e0, e1, e6, e7, e8, hz, show (k : Int) < b.length by omega, hKg, hK2, hd, hd2, hc0, hc2, hlt2, hrow, hbb, hfl, app_old hj, List.getElem?_append_left hjl, hj, show O.length ≤ 9223372036854775806 by omega, show (O.length + 1) * 32 ≤ 140737488355328 by omega]
                refine ⟨hlt, _, t.length + 1, k, O ++ [a[i]], by rw [List.length_append]; rfl, rfl, by rw [wrap64 (by omega)]; rfl, rfl, ?_, hk, by rw [List.length_append, List.length_singleton]; omega, last (.inr ⟨hk2, hlt2⟩)⟩
                rw [List.map_append, List.flatten_append]; exact new_endR (by simp)
            · simp only [go_sem, Nat.reduceBEq, Nat.reduceAdd, Nat.reduceMul, Nat.reduceSub, Nat.reduceLeDiff, Nat.le_refl, implies_true, Nat.reduceLT, reduceIte, decide_true, decide_false, true_and, and_true, reduceCtorEq, Nat.mul_one, Int.reduceToNat, Int.reduceLE, Int.reduceLT, Int.reduceAdd, Int.reduceSub, Int.reduceMul, Int.cast_ofNat_Int, cast_zero_int, cast_one_int, Nat.reducePow, Nat.reduceEqDiff, Nat.reduceMod, Nat.zero_add, Nat.sub_zero, Nat.add_zero, e0, e1, e6, e7, e8, hz, show ¬ (k : Int) < b.length by omega, hKg, hd, hc0, hrow, hbb, hfl, app_old hj, List.getElem?_append_left hjl, hj, show O.length ≤ 9223372036854775806 by omega, show (O.length + 1) * 32 ≤ 140737488355328 by omega]
              refine ⟨hlt, _, t.length + 1, k, O ++ [a[i]], by rw [List.length_append]; rfl, rfl, by rw [wrap64 (by omega)]; rfl, rfl, ?_, hk, by rw [List.length_append, List.length_singleton]; omega, last (.inl (by omega))⟩
              rw [List.map_append, List.flatten_append]; exact new_endR (by simp)
        · obtain rfl : i = a.length := by omega
          rw [List.drop_length, mergeD_nil] at hm
          have hjl := (List.getElem?_eq_some_iff.1 hj).1
          have hfl : ((O.map smp).flatten).length = O.length * 4 := by rw [flatten_len smp_len, List.length_map]
          simp only [go_sem, Nat.reduceBEq, Nat.reduceAdd, Nat.reduceMul, Nat.reduceSub, Nat.reduceLeDiff, Nat.le_refl, implies_true, Nat.reduceLT, reduceIte, decide_true, decide_false, true_and, and_true, reduceCtorEq, Nat.mul_one, Int.reduceToNat, Int.reduceLE, Int.reduceLT, Int.reduceAdd, Int.reduceSub, Int.reduceMul, Int.cast_ofNat_Int, cast_zero_int, cast_one_int, Nat.reducePow, Nat.reduceEqDiff, Nat.reduceMod, Nat.zero_add, Nat.sub_zero, Nat.add_zero, e0, e1, e6, e7, e8, show ¬ ((a.length : Int) < a.length) by omega]
          by_cases hk2 : k < b.length
          · have hk2' : k < (b.map smp).length := by simpa using hk2
            obtain ⟨id2, o2, K2, hv2, hK2, _, hd2, hbb2, hrow2, hcell2⟩ := sb.at hk2'
            obtain rfl : bb = some ⟨id2, o2, none⟩ := by simpa using hv2
            have hb0 : 0 < b.length := by omega
            obtain ⟨id3, o3, K3, hv3, hK3, hd3, hb3, hf3⟩ := sb.copy (fun h0 => by have := congrArg List.length h0; simp only [List.length_map, List.length_nil] at this; omega)
            rw [List.length_map] at hv3 hb3 hf3
            obtain ⟨rfl, rfl⟩ : id2 = id3 ∧ o2 = o3 := by simpa using hv3
            obtain rfl : K2 = K3 := Option.some.inj ((hK2 []).symm.trans (hK3 []))
            obtain ⟨K4, hK4, hesz⟩ := hes _ _ _ rfl hb0
            obtain rfl : K2 = K4 := by
              have := hK2 []
              rw [List.append_nil] at this
              exact Option.some.inj (this.symm.trans hK4)
            have hkk : 0 < b.length - k := by omega
            have hrest : (K2.cells.drop (o2 + k * 4)).take ((b.length - k) * 4) = ((b.drop k).map smp).flatten := by
              have e1 : ((b.map smp).flatten).drop (k * 4) = ((b.drop k).map smp).flatten := by
                conv => lhs; rw [← List.take_append_drop k b, List.map_append, List.flatten_append]
                rw [List.drop_left' (by rw [flatten_len smp_len, List.length_map, List.length_take]; omega)]
              rw [← e1, ← hf3, List.drop_take, List.drop_drop, Nat.sub_mul]
            have one : (((b.drop k).map smp).flatten).all oneC = true := rows_one fun r hr => by
              obtain ⟨x, _, rfl⟩ := List.mem_map.1 hr
              rfl
            have hle : O.length + (b.length - k) ≤ 9223372036854775807 := by omega
            have hle2 : (O.length + (b.length - k)) * 32 ≤ 140737488355328 := by omega
            simp only [go_sem, Nat.reduceBEq, Nat.reduceAdd, Nat.reduceMul, Nat.reduceSub, Nat.reduceLeDiff, Nat.le_refl, implies_true, Nat.reduceLT, reduceIte, decide_true, decide_false, true_and, and_true, reduceCtorEq, Nat.mul_one, Int.reduceToNat, Int.reduceLE, Int.reduceLT, Int.reduceAdd, Int.reduceSub, Int.reduceMul, Int.cast_ofNat_Int, cast_zero_int, cast_one_int, Nat.reducePow, Nat.reduceEqDiff, Nat.reduceMod, Nat.zero_add, Nat.sub_zero, Nat.add_zero, e0, e1, e6, e7, e8, onSl_more hb0, hK2, hesz, show k ≤ b.length by omega, show b.length ≤ b.length from Nat.le_refl _, onApp_more hkk, hkk, app_old hj, hj, hfl, hd3, hrest, one, hle, hle2, show o2 + k * 4 + (b.length - k) * 4 ≤ K2.cells.length by omega, List.getElem?_append_left hjl]
            have hj2 : ((t.set j (Blk.mk ((O.map smp).flatten) 4 .dead)) ++ [Blk.mk ((O.map smp).flatten ++ ((b.drop k).map smp).flatten) 4 .rw])[t.length]? = some ⟨((mergeD a b).map smp).flatten, 4, .rw⟩ := by
              rw [← hm, List.map_append, List.flatten_append]; exact new_endR rfl
            have fr := frTwo (h := h) (t := (t.set j (Blk.mk ((O.map smp).flatten) 4 .dead)) ++ [Blk.mk ((O.map smp).flatten ++ ((b.drop k).map smp).flatten) 4 .rw]) (n := O.length + (b.length - k)) hj2 (by omega) (Nat.le_refl _)
            refine ⟨by kernel_rfl, (c_l23Good _ (mergeD a b) fr.sl (by rw [mergeD_len]; omega)).use (fun _ m => m) ?_⟩
            rintro _ _ ⟨rfl, ⟨t4, rfl⟩⟩
            by_cases g3 : smpGood (mergeD a b)
            · simp only [go_sem, Nat.reduceBEq, Nat.reduceAdd, Nat.reduceMul, Nat.reduceSub, Nat.reduceLeDiff, Nat.le_refl, implies_true, Nat.reduceLT, reduceIte, decide_true, decide_false, true_and, and_true, reduceCtorEq, Nat.mul_one, Int.reduceToNat, Int.reduceLE, Int.reduceLT, Int.reduceAdd, Int.reduceSub, Int.reduceMul, Int.cast_ofNat_Int, cast_zero_int, cast_one_int, Nat.reducePow, Nat.reduceEqDiff, Nat.reduceMod, Nat.zero_add, Nat.sub_zero, Nat.add_zero, e0, e1, e6, e7, e8, decb g1, decb g2, decb g3]
              have ok : mrgOk a b := ⟨⟨g1, g2⟩, g3⟩
              refine ⟨_, by rw [decide_eq_true ok], ?_⟩
              rw [mrgRes, if_pos ok]
              have := frTwo (h := h) (t := ((t.set j (Blk.mk ((O.map smp).flatten) 4 .dead)) ++ [Blk.mk ((O.map smp).flatten ++ ((b.drop k).map smp).flatten) 4 .rw]) ++ t4) (n := O.length + (b.length - k)) (m := h.length + (((t.set j (Blk.mk ((O.map smp).flatten) 4 .dead)) ++ [Blk.mk ((O.map smp).flatten ++ ((b.drop k).map smp).flatten) 4 .rw]) ++ t4).length) (app_old hj2 t4) (by omega) (Nat.le_refl _)
              exact .inl (by simpa using this)
            · simp only [go_sem, Nat.reduceBEq, Nat.reduceAdd, Nat.reduceMul, Nat.reduceSub, Nat.reduceLeDiff, Nat.le_refl, implies_true, Nat.reduceLT, reduceIte, decide_true, decide_false, true_and, and_true, reduceCtorEq, Nat.mul_one, Int.reduceToNat, Int.reduceLE, Int.reduceLT, Int.reduceAdd, Int.reduceSub, Int.reduceMul, Int.cast_ofNat_Int, cast_zero_int, cast_one_int, Nat.reducePow, Nat.reduceEqDiff, Nat.reduceMod, Nat.zero_add, Nat.sub_zero, Nat.add_zero, e0, e1, e6, e7, e8, decb g1, decb g2, dect g3]
              exact bad _ _ _ (fun hh => g3 hh.2)
          · obtain rfl : k = b.length := by omega
            rw [List.drop_length, List.append_nil] at hm
            subst hm
            by_cases hb0 : 0 < b.length
            · obtain ⟨id3, o3, K3, hv3, hK3, hd3, hb3, hf3⟩ := sb.copy (fun h0 => by have := congrArg List.length h0; simp only [List.length_map, List.length_nil] at this; omega)
              rw [List.length_map] at hv3 hb3 hf3
              obtain rfl : bb = some ⟨id3, o3, none⟩ := by simpa using hv3
              obtain ⟨K4, hK4, hesz⟩ := hes _ _ _ rfl hb0
              obtain rfl : K3 = K4 := by
                have := hK3 []
                rw [List.append_nil] at this
                exact Option.some.inj (this.symm.trans hK4)
              simp only [go_sem, Nat.reduceBEq, Nat.reduceAdd, Nat.reduceMul, Nat.reduceSub, Nat.reduceLeDiff, Nat.le_refl, implies_true, Nat.reduceLT, reduceIte, decide_true, decide_false, true_and, and_true, reduceCtorEq, Nat.mul_one, Int.reduceToNat, Int.reduceLE, Int.reduceLT, Int.reduceAdd, Int.reduceSub, Int.reduceMul, Int.cast_ofNat_Int, cast_zero_int, cast_one_int, Nat.reducePow, Nat.reduceEqDiff, Nat.reduceMod, Nat.zero_add, Nat.sub_zero, Nat.add_zero, e0, e1, e6, e7, e8, onSl_more hb0, hK3, hesz, show b.length ≤ b.length from Nat.le_refl _, Nat.sub_self]
              have hj2 : (t)[j]? = some ⟨((mergeD a b).map smp).flatten, 4, .rw⟩ := by
                exact hj
              have fr := frTwo (h := h) (t := t) (n := (mergeD a b).length) hj2 (mergeD_len) (Nat.le_refl _)
              refine ⟨by kernel_rfl, (c_l23Good _ (mergeD a b) fr.sl (by rw [mergeD_len]; omega)).use (fun _ m => m) ?_⟩
              rintro _ _ ⟨rfl, ⟨t4, rfl⟩⟩
              by_cases g3 : smpGood (mergeD a b)
              · simp only [go_sem, Nat.reduceBEq, Nat.reduceAdd, Nat.reduceMul, Nat.reduceSub, Nat.reduceLeDiff, Nat.le_refl, implies_true, Nat.reduceLT, reduceIte, decide_true, decide_false, true_and, and_true, reduceCtorEq, Nat.mul_one, Int.reduceToNat, Int.reduceLE, Int.reduceLT, Int.reduceAdd, Int.reduceSub, Int.reduceMul, Int.cast_ofNat_Int, cast_zero_int, cast_one_int, Nat.reducePow, Nat.reduceEqDiff, Nat.reduceMod, Nat.zero_add, Nat.sub_zero, Nat.add_zero, e0, e1, e6, e7, e8, decb g1, decb g2, decb g3]
                have ok : mrgOk a b := ⟨⟨g1, g2⟩, g3⟩
                refine ⟨_, by rw [decide_eq_true ok], ?_⟩
                rw [mrgRes, if_pos ok]
                have := frTwo (h := h) (t := (t) ++ t4) (n := (mergeD a b).length) (m := h.length + ((t) ++ t4).length) (app_old hj2 t4) (mergeD_len) (Nat.le_refl _)
                exact .inl (by simpa using this)
              · simp only [go_sem, Nat.reduceBEq, Nat.reduceAdd, Nat.reduceMul, Nat.reduceSub, Nat.reduceLeDiff, Nat.le_refl, implies_true, Nat.reduceLT, reduceIte, decide_true, decide_false, true_and, and_true, reduceCtorEq, Nat.mul_one, Int.reduceToNat, Int.reduceLE, Int.reduceLT, Int.reduceAdd, Int.reduceSub, Int.reduceMul, Int.cast_ofNat_Int, cast_zero_int, cast_one_int, Nat.reducePow, Nat.reduceEqDiff, Nat.reduceMod, Nat.zero_add, Nat.sub_zero, Nat.add_zero, e0, e1, e6, e7, e8, decb g1, decb g2, dect g3]
                exact bad _ _ _ (fun hh => g3 hh.2)
            · obtain rfl : b = [] := List.length_eq_zero_iff.1 (by omega)
              simp only [go_sem, Nat.reduceBEq, Nat.reduceAdd, Nat.reduceMul, Nat.reduceSub, Nat.reduceLeDiff, Nat.le_refl, implies_true, Nat.reduceLT, reduceIte, decide_true, decide_false, true_and, and_true, reduceCtorEq, Nat.mul_one, Int.reduceToNat, Int.reduceLE, Int.reduceLT, Int.reduceAdd, Int.reduceSub, Int.reduceMul, Int.cast_ofNat_Int, cast_zero_int, cast_one_int, Nat.reducePow, Nat.reduceEqDiff, Nat.reduceMod, Nat.zero_add, Nat.sub_zero, Nat.add_zero, e0, e1, e6, e7, e8]
              have hj2 : (t)[j]? = some ⟨((mergeD a []).map smp).flatten, 4, .rw⟩ := by
                exact hj
              have fr := frTwo (h := h) (t := t) (n := (mergeD a []).length) hj2 (mergeD_len) (Nat.le_refl _)
              refine ⟨by kernel_rfl, (c_l23Good _ (mergeD a []) fr.sl (by rw [mergeD_len]; omega)).use (fun _ m => m) ?_⟩
              rintro _ _ ⟨rfl, ⟨t4, rfl⟩⟩
              by_cases g3 : smpGood (mergeD a [])
              · simp only [go_sem, Nat.reduceBEq, Nat.reduceAdd, Nat.reduceMul, Nat.reduceSub, Nat.reduceLeDiff, Nat.le_refl, implies_true, Nat.reduceLT, reduceIte, decide_true, decide_false, true_and, and_true, reduceCtorEq, Nat.mul_one, Int.reduceToNat, Int.reduceLE, Int.reduceLT, Int.reduceAdd, Int.reduceSub, Int.reduceMul, Int.cast_ofNat_Int, cast_zero_int, cast_one_int, Nat.reducePow, Nat.reduceEqDiff, Nat.reduceMod, Nat.zero_add, Nat.sub_zero, Nat.add_zero, e0, e1, e6, e7, e8, decb g1, decb g2, decb g3]
                have ok : mrgOk a [] := ⟨⟨g1, g2⟩, g3⟩
                refine ⟨_, by rw [decide_eq_true ok], ?_⟩
                rw [mrgRes, if_pos ok]
                have := frTwo (h := h) (t := (t) ++ t4) (n := (mergeD a []).length) (m := h.length + ((t) ++ t4).length) (app_old hj2 t4) (mergeD_len) (Nat.le_refl _)
                exact .inl (by simpa using this)
              · simp only [go_sem, Nat.reduceBEq, Nat.reduceAdd, Nat.reduceMul, Nat.reduceSub, Nat.reduceLeDiff, Nat.le_refl, implies_true, Nat.reduceLT, reduceIte, decide_true, decide_false, true_and, and_true, reduceCtorEq, Nat.mul_one, Int.reduceToNat, Int.reduceLE, Int.reduceLT, Int.reduceAdd, Int.reduceSub, Int.reduceMul, Int.cast_ofNat_Int, cast_zero_int, cast_one_int, Nat.reducePow, Nat.reduceEqDiff, Nat.reduceMod, Nat.zero_add, Nat.sub_zero, Nat.add_zero, e0, e1, e6, e7, e8, decb g1, decb g2, dect g3]
                exact bad _ _ _ (fun hh => g3 hh.2)
    · simp only [go_sem, Nat.reduceBEq, Nat.reduceAdd, Nat.reduceMul, Nat.reduceSub, Nat.reduceLeDiff, Nat.le_refl, implies_true, Nat.reduceLT, reduceIte, decide_true, decide_false, true_and, and_true, reduceCtorEq, Nat.mul_one, Int.reduceToNat, Int.reduceLE, Int.reduceLT, Int.reduceAdd, Int.reduceSub, Int.reduceMul, Int.cast_ofNat_Int, cast_zero_int, cast_one_int, Nat.reducePow, Nat.reduceEqDiff, Nat.reduceMod, Nat.zero_add, Nat.sub_zero, Nat.add_zero, decb g1, dect g2]
      exact bad _ _ _ (fun hh => g2 hh.1.2)
  · simp only [go_sem, Nat.reduceBEq, Nat.reduceAdd, Nat.reduceMul, Nat.reduceSub, Nat.reduceLeDiff, Nat.le_refl, implies_true, Nat.reduceLT, reduceIte, decide_true, decide_false, true_and, and_true, reduceCtorEq, Nat.mul_one, Int.reduceToNat, Int.reduceLE, Int.reduceLT, Int.reduceAdd, Int.reduceSub, Int.reduceMul, Int.cast_ofNat_Int, cast_zero_int, cast_one_int, Nat.reducePow, Nat.reduceEqDiff, Nat.reduceMod, Nat.zero_add, Nat.sub_zero, Nat.add_zero, dect g1]
    exact bad _ _ _ (fun hh => g1 hh.1.1)
end
end Go.Proofs.Ytfolkgkcaiaifaa
