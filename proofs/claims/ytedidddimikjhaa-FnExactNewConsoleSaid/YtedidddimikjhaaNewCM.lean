
/- Marks of consoles. No condition. -/
import Derived.Test.YtedidddimikjhaaNewC
import Derived.Test.YtedidddimikjhaaMark4
import Derived.Test.YtedidddimikjhaaH3
namespace Go.Proofs.Ytedidddimikjhaa
open Go.HH Go.Proofs
set_option linter.unusedSimpArgs false
set_option linter.unusedVariables false

section
variable {h : Heap} {M : Nat → Prop}
theorem c_markPipeF {lo hi : Nat} (v : Value) (l : List Pip) (s : FR lo hi 4 h v (l.map pip)) (hM : ∀ i, lo ≤ i → i < hi → M i) (k : Int) (hk : 0 ≤ k ∧ k ≤ 1000000000000) (hmax : l.length ≤ 1048576) :
    vCall [] Try.prog M 22 [v, .int .i64 k] h (fun r h' => r = .int .i64 (k + 4 * l.length) ∧ FR lo hi 4 h' v (mks4 k l.length) ∧ Agr lo hi h h') := by
  obtain ⟨id, rfl, g1, g2, g3, hlen⟩ := s
  rw [List.length_map]
  have hown : own h.length M id := Or.inr (hM id g1 g2)
  refine body_of mo Try.func22 rfl (by kernel_rfl) (Nat.le_of_ble_eq_true (by kernel_rfl)) rfl ?_
  simp only [go_sem, Nat.reduceBEq, Nat.reduceAdd, Nat.reduceMul, Nat.reduceSub, Nat.reduceLeDiff, Nat.le_refl, implies_true, Nat.reduceLT, reduceIte, decide_true, decide_false, true_and, and_true, reduceCtorEq, Nat.mul_one, Int.reduceToNat, Int.reduceLE, Int.reduceLT, Int.reduceAdd, Int.reduceSub, Int.reduceMul, Int.cast_ofNat_Int, cast_zero_int, cast_one_int, Nat.reducePow, Nat.reduceEqDiff, Nat.reduceMod, Nat.zero_add, Nat.sub_zero, Nat.add_zero]
  refine vLoop.count mo l.length (fun i e h' => e 0 = .slice (some ⟨id, 0, none⟩) l.length 0 ∧ e 1 = .int .i64 (k + 4 * i) ∧ e 5 = .int .i64 i ∧
    Agr lo hi h h' ∧ hget h' id = some ⟨(mks4 k i).flatten ++ ((l.drop i).map pip).flatten, 4, .rw⟩) ?_ ?_
  · exact ⟨rfl, by simp [upd, env0], rfl, Agr.refl, by simpa [mks4] using g3⟩
  · rintro i e h' hi ⟨e0, e1, e5, hag, hg⟩
    simp only [go_sem, Nat.reduceBEq, Nat.reduceAdd, Nat.reduceMul, Nat.reduceSub, Nat.reduceLeDiff, Nat.le_refl, implies_true, Nat.reduceLT, reduceIte, decide_true, decide_false, true_and, and_true, reduceCtorEq, Nat.mul_one, Int.reduceToNat, Int.reduceLE, Int.reduceLT, Int.reduceAdd, Int.reduceSub, Int.reduceMul, Int.cast_ofNat_Int, cast_zero_int, cast_one_int, Nat.reducePow, Nat.reduceEqDiff, Nat.reduceMod, Nat.zero_add, Nat.sub_zero, Nat.add_zero, e0, e1, e5]
    refine .intro (fun h1 => ?_) (fun h1 => ?_)
    · have hlt : i < l.length := by simpa using h1
      have hz : (i : Int) < l.length := by omega
      have hidl := hget_lt hg
      have hset : ∀ b, hget (h'.set id b) id = some b := fun b => hget_set_same hidl
      have w1 : IntKind.i64.wrap (k + 4 * (i : Int) + 1) = k + 4 * i + 1 := wrap64 (by omega)
      have w2 : IntKind.i64.wrap (k + 4 * (i : Int) + 1 + 1) = k + 4 * i + 1 + 1 := wrap64 (by omega)
      have w3 : IntKind.i64.wrap (k + 4 * (i : Int) + 1 + 1 + 1) = k + 4 * i + 1 + 1 + 1 := wrap64 (by omega)
      have w4 : IntKind.i64.wrap (k + 4 * (i : Int) + 1 + 1 + 1 + 1) = k + 4 * i + 1 + 1 + 1 + 1 := wrap64 (by omega)
      have hP : (mks4 k i).flatten.length = i * 4 := by rw [flatten_len mks4_row, mks4_len]
      have hdrop : l.drop i = l[i] :: l.drop (i + 1) := List.drop_eq_getElem_cons hlt
      rw [hdrop] at hg
      simp only [List.map_cons, List.flatten_cons, pip, List.cons_append, List.nil_append] at hg
      have L1 : ∀ (c : List Value) (off : Nat) (v : Value), off + 1 ≤ c.length → (setRange c off [v]).length = c.length := fun c off v hh => setRange_length hh
      have q0 : i * 4 + 4 ≤ ((mks4 k i).flatten ++ Value.int IntKind.i64 l[i].1 :: Value.int IntKind.i64 l[i].2.1 :: Value.int IntKind.i64 l[i].2.2.1 :: Value.int IntKind.i64 l[i].2.2.2 :: ((l.drop (i + 1)).map pip).flatten).length := by
        rw [List.length_append, hP]; simp only [List.length_cons]; omega
      obtain ⟨C, hC⟩ : ∃ C : List Value, (mks4 k i).flatten ++ Value.int IntKind.i64 l[i].1 :: Value.int IntKind.i64 l[i].2.1 :: Value.int IntKind.i64 l[i].2.2.1 :: Value.int IntKind.i64 l[i].2.2.2 :: ((l.drop (i + 1)).map pip).flatten = C := ⟨_, rfl⟩
      rw [hC] at hg q0
      have q1 := L1 C (i * 4) (.int .i64 (k + 4 * ↑i)) (by omega)
      have q2 := L1 (setRange C (i * 4) [.int .i64 (k + 4 * ↑i)]) (i * 4 + 1) (.int .i64 (k + 4 * ↑i + 1)) (by omega)
      have q3 := L1 (setRange (setRange C (i * 4) [.int .i64 (k + 4 * ↑i)]) (i * 4 + 1) [.int .i64 (k + 4 * ↑i + 1)]) (i * 4 + 2) (.int .i64 (k + 4 * ↑i + 1 + 1)) (by omega)
      simp only [go_sem, Nat.reduceBEq, Nat.reduceAdd, Nat.reduceMul, Nat.reduceSub, Nat.reduceLeDiff, Nat.le_refl, implies_true, Nat.reduceLT, reduceIte, decide_true, decide_false, true_and, and_true, reduceCtorEq, Nat.mul_one, Int.reduceToNat, Int.reduceLE, Int.reduceLT, Int.reduceAdd, Int.reduceSub, Int.reduceMul, Int.cast_ofNat_Int, cast_zero_int, cast_one_int, Nat.reducePow, Nat.reduceEqDiff, Nat.reduceMod, Nat.zero_add, Nat.sub_zero, Nat.add_zero, e0, e1, e5, hz, hg, hown, hset, w1, w2, w3, w4, List.set_set]
      refine ⟨by omega, by omega, by omega, by omega, hlt, by congr 1; omega, by rw [wrap64 (by omega)]; rfl, hag.trans (Agr.set g1 g2), ?_⟩
      rw [← hC]
      rw [set4 hP, mks4_succ, List.flatten_append]
      simp [mk4]
    · simp only [go_sem, Nat.reduceBEq, Nat.reduceAdd, Nat.reduceMul, Nat.reduceSub, Nat.reduceLeDiff, Nat.le_refl, implies_true, Nat.reduceLT, reduceIte, decide_true, decide_false, true_and, and_true, reduceCtorEq, Nat.mul_one, Int.reduceToNat, Int.reduceLE, Int.reduceLT, Int.reduceAdd, Int.reduceSub, Int.reduceMul, Int.cast_ofNat_Int, cast_zero_int, cast_one_int, Nat.reducePow, Nat.reduceEqDiff, Nat.reduceMod, Nat.zero_add, Nat.sub_zero, Nat.add_zero, e0, e1, e5]
      obtain rfl : i = l.length := by have : ¬ i < l.length := by simpa using h1
                                      omega
      rw [List.drop_length, List.map_nil, List.flatten_nil, List.append_nil] at hg
      exact ⟨rfl, ⟨id, by rw [mks4_len], g1, g2, hg, mks4_row⟩, hag⟩
theorem c_markPipeQ {lo hi : Nat} (v : Value) (l : List Pip) (s : FQs lo hi 4 h v (l.map pip)) (hM : ∀ i, lo ≤ i → i < hi → M i) (k : Int) (hk : 0 ≤ k ∧ k ≤ 1000000000000) (hmax : l.length ≤ 1048576) :
    vCall [] Try.prog M 22 [v, .int .i64 k] h (fun r h' => r = .int .i64 (k + 4 * l.length) ∧ FQs lo hi 4 h' v (mks4 k l.length) ∧ Agr lo hi h h') := by
  rcases s with s | ⟨hl, a, rfl⟩
  · exact (c_markPipeF v l s hM k hk hmax).use (fun _ m => m) fun r h' ⟨a, b, c⟩ => ⟨a, .inl b, c⟩
  · obtain rfl : l = [] := by simpa using hl
    refine body_of mo Try.func22 rfl (by kernel_rfl) (Nat.le_of_ble_eq_true (by kernel_rfl)) rfl ?_
    simp only [go_sem, Nat.reduceBEq, Nat.reduceAdd, Nat.reduceMul, Nat.reduceSub, Nat.reduceLeDiff, Nat.le_refl, implies_true, Nat.reduceLT, reduceIte, decide_true, decide_false, true_and, and_true, reduceCtorEq, Nat.mul_one, Int.reduceToNat, Int.reduceLE, Int.reduceLT, Int.reduceAdd, Int.reduceSub, Int.reduceMul, Int.cast_ofNat_Int, cast_zero_int, cast_one_int, Nat.reducePow, Nat.reduceEqDiff, Nat.reduceMod, Nat.zero_add, Nat.sub_zero, Nat.add_zero]
    refine vLoop.count mo 0 (fun i e h' => e 0 = .slice a 0 0 ∧ e 1 = .int .i64 k ∧ e 5 = .int .i64 0 ∧ h' = h) ?_ ?_
    · exact ⟨rfl, rfl, rfl, rfl⟩
    · rintro i e h' hi ⟨e0, e1, e5, rfl⟩
      simp only [go_sem, Nat.reduceBEq, Nat.reduceAdd, Nat.reduceMul, Nat.reduceSub, Nat.reduceLeDiff, Nat.le_refl, implies_true, Nat.reduceLT, reduceIte, decide_true, decide_false, true_and, and_true, reduceCtorEq, Nat.mul_one, Int.reduceToNat, Int.reduceLE, Int.reduceLT, Int.reduceAdd, Int.reduceSub, Int.reduceMul, Int.cast_ofNat_Int, cast_zero_int, cast_one_int, Nat.reducePow, Nat.reduceEqDiff, Nat.reduceMod, Nat.zero_add, Nat.sub_zero, Nat.add_zero, e0, e1, e5]
      exact ⟨by simp, .inr ⟨by simp [mks4], a, rfl⟩, Agr.refl⟩
theorem c_heldPipeS (v : Value) (n : Nat) (k : Int) (hk : 0 ≤ k ∧ k ≤ 1000000000000) (s : Sl h 4 v (mks4 k n)) (hmax : n ≤ 1048576) :
    vCall [] Try.prog M 33 [v, .int .i64 k] h (fun r h' => r = .int .i64 (k + 4 * n) ∧ h <+: h') := by
  obtain ⟨a, hv, _, _⟩ := id s
  rw [mks4_len] at hv
  refine body_of mo Try.func33 rfl (by kernel_rfl) (Nat.le_of_ble_eq_true (by kernel_rfl)) rfl ?_
  subst hv
  simp only [go_sem, Nat.reduceBEq, Nat.reduceAdd, Nat.reduceMul, Nat.reduceSub, Nat.reduceLeDiff, Nat.le_refl, implies_true, Nat.reduceLT, reduceIte, decide_true, decide_false, true_and, and_true, reduceCtorEq, Nat.mul_one, Int.reduceToNat, Int.reduceLE, Int.reduceLT, Int.reduceAdd, Int.reduceSub, Int.reduceMul, Int.cast_ofNat_Int, cast_zero_int, cast_one_int, Nat.reducePow, Nat.reduceEqDiff, Nat.reduceMod, Nat.zero_add, Nat.sub_zero, Nat.add_zero]
  refine vLoop.count mo n (fun i e h' => e 0 = .slice a n 0 ∧ e 1 = .int .i64 (k + 4 * i) ∧ e 5 = .int .i64 i ∧ ∃ t, h' = h ++ t) ?_ ?_
  · exact ⟨rfl, by simp [upd, env0], rfl, [], by simp⟩
  · rintro i e h' hi ⟨e0, e1, e5, t, rfl⟩
    simp only [go_sem, Nat.reduceBEq, Nat.reduceAdd, Nat.reduceMul, Nat.reduceSub, Nat.reduceLeDiff, Nat.le_refl, implies_true, Nat.reduceLT, reduceIte, decide_true, decide_false, true_and, and_true, reduceCtorEq, Nat.mul_one, Int.reduceToNat, Int.reduceLE, Int.reduceLT, Int.reduceAdd, Int.reduceSub, Int.reduceMul, Int.cast_ofNat_Int, cast_zero_int, cast_one_int, Nat.reducePow, Nat.reduceEqDiff, Nat.reduceMod, Nat.zero_add, Nat.sub_zero, Nat.add_zero, e0, e1, e5]
    refine .intro (fun h1 => ?_) (fun h1 => ?_)
    · have hlt : i < n := by simpa using h1
      have hlt' : i < (mks4 k n).length := by rw [mks4_len]; exact hlt
      have hz : (i : Int) < n := by omega
      obtain ⟨id, off, b, hv, hk2, _, hd, hb, hrow, hat⟩ := s.at hlt'
      obtain rfl : a = some ⟨id, off, none⟩ := by simp only [Value.slice.injEq] at hv; exact hv.1
      have g0 := hat 0 (by omega)
      have g1 := hat 1 (by omega)
      have g2 := hat 2 (by omega)
      have g3 := hat 3 (by omega)
      rw [mks4_at hlt'] at g0 g1 g2 g3
      simp only [mk4, List.getElem?_cons_zero, List.getElem?_cons_succ, Nat.add_zero] at g0 g1 g2 g3
      have w1 : IntKind.i64.wrap (k + 4 * (i : Int) + 1) = k + 4 * i + 1 := wrap64 (by omega)
      have w2 : IntKind.i64.wrap (k + 4 * (i : Int) + 1 + 1) = k + 4 * i + 1 + 1 := wrap64 (by omega)
      have w3 : IntKind.i64.wrap (k + 4 * (i : Int) + 1 + 1 + 1) = k + 4 * i + 1 + 1 + 1 := wrap64 (by omega)
      have w4 : IntKind.i64.wrap (k + 4 * (i : Int) + 1 + 1 + 1 + 1) = k + 4 * i + 1 + 1 + 1 + 1 := wrap64 (by omega)
      simp only [go_sem, Nat.reduceBEq, Nat.reduceAdd, Nat.reduceMul, Nat.reduceSub, Nat.reduceLeDiff, Nat.le_refl, implies_true, Nat.reduceLT, reduceIte, decide_true, decide_false, true_and, and_true, reduceCtorEq, Nat.mul_one, Int.reduceToNat, Int.reduceLE, Int.reduceLT, Int.reduceAdd, Int.reduceSub, Int.reduceMul, Int.cast_ofNat_Int, cast_zero_int, cast_one_int, Nat.reducePow, Nat.reduceEqDiff, Nat.reduceMod, Nat.zero_add, Nat.sub_zero, Nat.add_zero, e0, e1, e5, hz, hk2, hd, g0, g1, g2, g3, w1, w2, w3, w4]
      exact ⟨hlt, by congr 1; omega, by rw [wrap64 (by omega)]; rfl, t, rfl⟩
    · simp only [go_sem, Nat.reduceBEq, Nat.reduceAdd, Nat.reduceMul, Nat.reduceSub, Nat.reduceLeDiff, Nat.le_refl, implies_true, Nat.reduceLT, reduceIte, decide_true, decide_false, true_and, and_true, reduceCtorEq, Nat.mul_one, Int.reduceToNat, Int.reduceLE, Int.reduceLT, Int.reduceAdd, Int.reduceSub, Int.reduceMul, Int.cast_ofNat_Int, cast_zero_int, cast_one_int, Nat.reducePow, Nat.reduceEqDiff, Nat.reduceMod, Nat.zero_add, Nat.sub_zero, Nat.add_zero, e0, e1, e5]
      obtain rfl : i = n := by have : ¬ i < n := by simpa using h1
                               omega
      rfl

theorem c_markValveF {lo hi : Nat} (v : Value) (l : List Vlv) (s : FR lo hi 4 h v (l.map vlv)) (hM : ∀ i, lo ≤ i → i < hi → M i) (k : Int) (hk : 0 ≤ k ∧ k ≤ 1000000000000) (hmax : l.length ≤ 1048576) :
    vCall [] Try.prog M 23 [v, .int .i64 k] h (fun r h' => r = .int .i64 (k + 4 * l.length) ∧ FR lo hi 4 h' v (mksV k l.length) ∧ Agr lo hi h h') := by
  obtain ⟨id, rfl, g1, g2, g3, hlen⟩ := s
  rw [List.length_map]
  have hown : own h.length M id := Or.inr (hM id g1 g2)
  refine body_of mo Try.func23 rfl (by kernel_rfl) (Nat.le_of_ble_eq_true (by kernel_rfl)) rfl ?_
  simp only [go_sem, Nat.reduceBEq, Nat.reduceAdd, Nat.reduceMul, Nat.reduceSub, Nat.reduceLeDiff, Nat.le_refl, implies_true, Nat.reduceLT, reduceIte, decide_true, decide_false, true_and, and_true, reduceCtorEq, Nat.mul_one, Int.reduceToNat, Int.reduceLE, Int.reduceLT, Int.reduceAdd, Int.reduceSub, Int.reduceMul, Int.cast_ofNat_Int, cast_zero_int, cast_one_int, Nat.reducePow, Nat.reduceEqDiff, Nat.reduceMod, Nat.zero_add, Nat.sub_zero, Nat.add_zero]
  refine vLoop.count mo l.length (fun i e h' => e 0 = .slice (some ⟨id, 0, none⟩) l.length 0 ∧ e 1 = .int .i64 (k + 4 * i) ∧ e 5 = .int .i64 i ∧
    Agr lo hi h h' ∧ hget h' id = some ⟨(mksV k i).flatten ++ ((l.drop i).map vlv).flatten, 4, .rw⟩) ?_ ?_
  · exact ⟨rfl, by simp [upd, env0], rfl, Agr.refl, by simpa [mksV] using g3⟩
  · rintro i e h' hi ⟨e0, e1, e5, hag, hg⟩
    simp only [go_sem, Nat.reduceBEq, Nat.reduceAdd, Nat.reduceMul, Nat.reduceSub, Nat.reduceLeDiff, Nat.le_refl, implies_true, Nat.reduceLT, reduceIte, decide_true, decide_false, true_and, and_true, reduceCtorEq, Nat.mul_one, Int.reduceToNat, Int.reduceLE, Int.reduceLT, Int.reduceAdd, Int.reduceSub, Int.reduceMul, Int.cast_ofNat_Int, cast_zero_int, cast_one_int, Nat.reducePow, Nat.reduceEqDiff, Nat.reduceMod, Nat.zero_add, Nat.sub_zero, Nat.add_zero, e0, e1, e5]
    refine .intro (fun h1 => ?_) (fun h1 => ?_)
    · have hlt : i < l.length := by simpa using h1
      have hz : (i : Int) < l.length := by omega
      have hidl := hget_lt hg
      have hset : ∀ b, hget (h'.set id b) id = some b := fun b => hget_set_same hidl
      have w1 : IntKind.i64.wrap (k + 4 * (i : Int) + 1) = k + 4 * i + 1 := wrap64 (by omega)
      have w2 : IntKind.i64.wrap (k + 4 * (i : Int) + 1 + 1) = k + 4 * i + 1 + 1 := wrap64 (by omega)
      have w3 : IntKind.i64.wrap (k + 4 * (i : Int) + 1 + 1 + 1) = k + 4 * i + 1 + 1 + 1 := wrap64 (by omega)
      have w4 : IntKind.i64.wrap (k + 4 * (i : Int) + 1 + 1 + 1 + 1) = k + 4 * i + 1 + 1 + 1 + 1 := wrap64 (by omega)
      have hP : (mksV k i).flatten.length = i * 4 := by rw [flatten_len mksV_row, mksV_len]
      have hdrop : l.drop i = l[i] :: l.drop (i + 1) := List.drop_eq_getElem_cons hlt
      rw [hdrop] at hg
      simp only [List.map_cons, List.flatten_cons, vlv, List.cons_append, List.nil_append] at hg
      have L1 : ∀ (c : List Value) (off : Nat) (v : Value), off + 1 ≤ c.length → (setRange c off [v]).length = c.length := fun c off v hh => setRange_length hh
      have q0 : i * 4 + 4 ≤ ((mksV k i).flatten ++ Value.int IntKind.i64 l[i].1 :: Value.int IntKind.i64 l[i].2.1 :: Value.int IntKind.i64 l[i].2.2.1 :: Value.bool l[i].2.2.2 :: ((l.drop (i + 1)).map vlv).flatten).length := by
        rw [List.length_append, hP]; simp only [List.length_cons]; omega
      obtain ⟨C, hC⟩ : ∃ C : List Value, (mksV k i).flatten ++ Value.int IntKind.i64 l[i].1 :: Value.int IntKind.i64 l[i].2.1 :: Value.int IntKind.i64 l[i].2.2.1 :: Value.bool l[i].2.2.2 :: ((l.drop (i + 1)).map vlv).flatten = C := ⟨_, rfl⟩
      rw [hC] at hg q0
      have q1 := L1 C (i * 4) (.int .i64 (k + 4 * ↑i)) (by omega)
      have q2 := L1 (setRange C (i * 4) [.int .i64 (k + 4 * ↑i)]) (i * 4 + 1) (.int .i64 (k + 4 * ↑i + 1)) (by omega)
      have q3 := L1 (setRange (setRange C (i * 4) [.int .i64 (k + 4 * ↑i)]) (i * 4 + 1) [.int .i64 (k + 4 * ↑i + 1)]) (i * 4 + 2) (.int .i64 (k + 4 * ↑i + 1 + 1)) (by omega)
      simp only [go_sem, Nat.reduceBEq, Nat.reduceAdd, Nat.reduceMul, Nat.reduceSub, Nat.reduceLeDiff, Nat.le_refl, implies_true, Nat.reduceLT, reduceIte, decide_true, decide_false, true_and, and_true, reduceCtorEq, Nat.mul_one, Int.reduceToNat, Int.reduceLE, Int.reduceLT, Int.reduceAdd, Int.reduceSub, Int.reduceMul, Int.cast_ofNat_Int, cast_zero_int, cast_one_int, Nat.reducePow, Nat.reduceEqDiff, Nat.reduceMod, Nat.zero_add, Nat.sub_zero, Nat.add_zero, e0, e1, e5, hz, hg, hown, hset, w1, w2, w3, w4, List.set_set, hBin_rem (show (3 : Int) ≠ 0 by decide)]
      refine ⟨by omega, by omega, by omega, by omega, hlt, by congr 1; omega, by rw [wrap64 (by omega)]; rfl, hag.trans (Agr.set g1 g2), ?_⟩
      rw [← hC]
      rw [set4 hP, mksV_succ, List.flatten_append]
      simp [mkV]
    · simp only [go_sem, Nat.reduceBEq, Nat.reduceAdd, Nat.reduceMul, Nat.reduceSub, Nat.reduceLeDiff, Nat.le_refl, implies_true, Nat.reduceLT, reduceIte, decide_true, decide_false, true_and, and_true, reduceCtorEq, Nat.mul_one, Int.reduceToNat, Int.reduceLE, Int.reduceLT, Int.reduceAdd, Int.reduceSub, Int.reduceMul, Int.cast_ofNat_Int, cast_zero_int, cast_one_int, Nat.reducePow, Nat.reduceEqDiff, Nat.reduceMod, Nat.zero_add, Nat.sub_zero, Nat.add_zero, e0, e1, e5]
      obtain rfl : i = l.length := by have : ¬ i < l.length := by simpa using h1
                                      omega
      rw [List.drop_length, List.map_nil, List.flatten_nil, List.append_nil] at hg
      exact ⟨rfl, ⟨id, by rw [mksV_len], g1, g2, hg, mksV_row⟩, hag⟩
theorem c_markValveQ {lo hi : Nat} (v : Value) (l : List Vlv) (s : FQs lo hi 4 h v (l.map vlv)) (hM : ∀ i, lo ≤ i → i < hi → M i) (k : Int) (hk : 0 ≤ k ∧ k ≤ 1000000000000) (hmax : l.length ≤ 1048576) :
    vCall [] Try.prog M 23 [v, .int .i64 k] h (fun r h' => r = .int .i64 (k + 4 * l.length) ∧ FQs lo hi 4 h' v (mksV k l.length) ∧ Agr lo hi h h') := by
  rcases s with s | ⟨hl, a, rfl⟩
  · exact (c_markValveF v l s hM k hk hmax).use (fun _ m => m) fun r h' ⟨a, b, c⟩ => ⟨a, .inl b, c⟩
  · obtain rfl : l = [] := by simpa using hl
    refine body_of mo Try.func23 rfl (by kernel_rfl) (Nat.le_of_ble_eq_true (by kernel_rfl)) rfl ?_
    simp only [go_sem, Nat.reduceBEq, Nat.reduceAdd, Nat.reduceMul, Nat.reduceSub, Nat.reduceLeDiff, Nat.le_refl, implies_true, Nat.reduceLT, reduceIte, decide_true, decide_false, true_and, and_true, reduceCtorEq, Nat.mul_one, Int.reduceToNat, Int.reduceLE, Int.reduceLT, Int.reduceAdd, Int.reduceSub, Int.reduceMul, Int.cast_ofNat_Int, cast_zero_int, cast_one_int, Nat.reducePow, Nat.reduceEqDiff, Nat.reduceMod, Nat.zero_add, Nat.sub_zero, Nat.add_zero]
    refine vLoop.count mo 0 (fun i e h' => e 0 = .slice a 0 0 ∧ e 1 = .int .i64 k ∧ e 5 = .int .i64 0 ∧ h' = h) ?_ ?_
    · exact ⟨rfl, rfl, rfl, rfl⟩
    · rintro i e h' hi ⟨e0, e1, e5, rfl⟩
      simp only [go_sem, Nat.reduceBEq, Nat.reduceAdd, Nat.reduceMul, Nat.reduceSub, Nat.reduceLeDiff, Nat.le_refl, implies_true, Nat.reduceLT, reduceIte, decide_true, decide_false, true_and, and_true, reduceCtorEq, Nat.mul_one, Int.reduceToNat, Int.reduceLE, Int.reduceLT, Int.reduceAdd, Int.reduceSub, Int.reduceMul, Int.cast_ofNat_Int, cast_zero_int, cast_one_int, Nat.reducePow, Nat.reduceEqDiff, Nat.reduceMod, Nat.zero_add, Nat.sub_zero, Nat.add_zero, e0, e1, e5]
      exact ⟨by simp, .inr ⟨by simp [mksV], a, rfl⟩, Agr.refl⟩
theorem c_heldValveS (v : Value) (n : Nat) (k : Int) (hk : 0 ≤ k ∧ k ≤ 1000000000000) (s : Sl h 4 v (mksV k n)) (hmax : n ≤ 1048576) :
    vCall [] Try.prog M 25 [v, .int .i64 k] h (fun r h' => r = .int .i64 (k + 4 * n) ∧ h <+: h') := by
  obtain ⟨a, hv, _, _⟩ := id s
  rw [mksV_len] at hv
  refine body_of mo Try.func25 rfl (by kernel_rfl) (Nat.le_of_ble_eq_true (by kernel_rfl)) rfl ?_
  subst hv
  simp only [go_sem, Nat.reduceBEq, Nat.reduceAdd, Nat.reduceMul, Nat.reduceSub, Nat.reduceLeDiff, Nat.le_refl, implies_true, Nat.reduceLT, reduceIte, decide_true, decide_false, true_and, and_true, reduceCtorEq, Nat.mul_one, Int.reduceToNat, Int.reduceLE, Int.reduceLT, Int.reduceAdd, Int.reduceSub, Int.reduceMul, Int.cast_ofNat_Int, cast_zero_int, cast_one_int, Nat.reducePow, Nat.reduceEqDiff, Nat.reduceMod, Nat.zero_add, Nat.sub_zero, Nat.add_zero]
  refine vLoop.count mo n (fun i e h' => e 0 = .slice a n 0 ∧ e 1 = .int .i64 (k + 4 * i) ∧ e 5 = .int .i64 i ∧ ∃ t, h' = h ++ t) ?_ ?_
  · exact ⟨rfl, by simp [upd, env0], rfl, [], by simp⟩
  · rintro i e h' hi ⟨e0, e1, e5, t, rfl⟩
    simp only [go_sem, Nat.reduceBEq, Nat.reduceAdd, Nat.reduceMul, Nat.reduceSub, Nat.reduceLeDiff, Nat.le_refl, implies_true, Nat.reduceLT, reduceIte, decide_true, decide_false, true_and, and_true, reduceCtorEq, Nat.mul_one, Int.reduceToNat, Int.reduceLE, Int.reduceLT, Int.reduceAdd, Int.reduceSub, Int.reduceMul, Int.cast_ofNat_Int, cast_zero_int, cast_one_int, Nat.reducePow, Nat.reduceEqDiff, Nat.reduceMod, Nat.zero_add, Nat.sub_zero, Nat.add_zero, e0, e1, e5]
    refine .intro (fun h1 => ?_) (fun h1 => ?_)
    · have hlt : i < n := by simpa using h1
      have hlt' : i < (mksV k n).length := by rw [mksV_len]; exact hlt
      have hz : (i : Int) < n := by omega
      obtain ⟨id, off, b, hv, hk2, _, hd, hb, hrow, hat⟩ := s.at hlt'
      obtain rfl : a = some ⟨id, off, none⟩ := by simp only [Value.slice.injEq] at hv; exact hv.1
      have g0 := hat 0 (by omega)
      have g1 := hat 1 (by omega)
      have g2 := hat 2 (by omega)
      have g3 := hat 3 (by omega)
      rw [mksV_at hlt'] at g0 g1 g2 g3
      simp only [mkV, List.getElem?_cons_zero, List.getElem?_cons_succ, Nat.add_zero] at g0 g1 g2 g3
      have w1 : IntKind.i64.wrap (k + 4 * (i : Int) + 1) = k + 4 * i + 1 := wrap64 (by omega)
      have w2 : IntKind.i64.wrap (k + 4 * (i : Int) + 1 + 1) = k + 4 * i + 1 + 1 := wrap64 (by omega)
      have w3 : IntKind.i64.wrap (k + 4 * (i : Int) + 1 + 1 + 1) = k + 4 * i + 1 + 1 + 1 := wrap64 (by omega)
      have w4 : IntKind.i64.wrap (k + 4 * (i : Int) + 1 + 1 + 1 + 1) = k + 4 * i + 1 + 1 + 1 + 1 := wrap64 (by omega)
      simp only [go_sem, Nat.reduceBEq, Nat.reduceAdd, Nat.reduceMul, Nat.reduceSub, Nat.reduceLeDiff, Nat.le_refl, implies_true, Nat.reduceLT, reduceIte, decide_true, decide_false, true_and, and_true, reduceCtorEq, Nat.mul_one, Int.reduceToNat, Int.reduceLE, Int.reduceLT, Int.reduceAdd, Int.reduceSub, Int.reduceMul, Int.cast_ofNat_Int, cast_zero_int, cast_one_int, Nat.reducePow, Nat.reduceEqDiff, Nat.reduceMod, Nat.zero_add, Nat.sub_zero, Nat.add_zero, e0, e1, e5, hz, hk2, hd, g0, g1, g2, g3, w1, w2, w3, w4, hBin_rem (show (3 : Int) ≠ 0 by decide)]
      exact ⟨hlt, by congr 1; omega, by rw [wrap64 (by omega)]; rfl, t, rfl⟩
    · simp only [go_sem, Nat.reduceBEq, Nat.reduceAdd, Nat.reduceMul, Nat.reduceSub, Nat.reduceLeDiff, Nat.le_refl, implies_true, Nat.reduceLT, reduceIte, decide_true, decide_false, true_and, and_true, reduceCtorEq, Nat.mul_one, Int.reduceToNat, Int.reduceLE, Int.reduceLT, Int.reduceAdd, Int.reduceSub, Int.reduceMul, Int.cast_ofNat_Int, cast_zero_int, cast_one_int, Nat.reducePow, Nat.reduceEqDiff, Nat.reduceMod, Nat.zero_add, Nat.sub_zero, Nat.add_zero, e0, e1, e5]
      obtain rfl : i = n := by have : ¬ i < n := by simpa using h1
                               omega
      rfl

theorem c_markNetK {lo hi : Nat} (v : Value) (N : Int) (w : Value) (P : List Pip) (s : FQs lo hi 4 h w (P.map pip)) (hh : hi ≤ h.length) (hM : ∀ i, lo ≤ i → i < hi → M i) (k : Int) (hk : 0 ≤ k ∧ k ≤ 1000000000000) (hmax : P.length ≤ 1048576) (hv : v = .agg #[.int .i64 N, w] := by rfl) :
    vCall [] Try.prog M 10 [v, .int .i64 k] h (fun r h' => r = .int .i64 (k + 4 * P.length) ∧ FQs lo hi 4 h' w (mks4 k P.length) ∧ Agr lo hi h h') := by
  subst hv
  refine body_of mo Try.func10 rfl (by kernel_rfl) (Nat.le_of_ble_eq_true (by kernel_rfl)) rfl ?_
  simp only [go_sem, Nat.reduceBEq, Nat.reduceAdd, Nat.reduceMul, Nat.reduceSub, Nat.reduceLeDiff, Nat.le_refl, implies_true, Nat.reduceLT, reduceIte, decide_true, decide_false, true_and, and_true, reduceCtorEq, Nat.mul_one, Int.reduceToNat, Int.reduceLE, Int.reduceLT, Int.reduceAdd, Int.reduceSub, Int.reduceMul, Int.cast_ofNat_Int, cast_zero_int, cast_one_int, Nat.reducePow, Nat.reduceEqDiff, Nat.reduceMod, Nat.zero_add, Nat.sub_zero, Nat.add_zero]
  refine ⟨by kernel_rfl, (c_markPipeQ w P (s.mono (by simp)) (fun i x y => Or.inr (hM i x y)) k hk hmax).use (fun _ m => m) ?_⟩
  rintro _ H1 ⟨rfl, q, ag⟩
  simp only [go_sem, Nat.reduceBEq, Nat.reduceAdd, Nat.reduceMul, Nat.reduceSub, Nat.reduceLeDiff, Nat.le_refl, implies_true, Nat.reduceLT, reduceIte, decide_true, decide_false, true_and, and_true, reduceCtorEq, Nat.mul_one, Int.reduceToNat, Int.reduceLE, Int.reduceLT, Int.reduceAdd, Int.reduceSub, Int.reduceMul, Int.cast_ofNat_Int, cast_zero_int, cast_one_int, Nat.reducePow, Nat.reduceEqDiff, Nat.reduceMod, Nat.zero_add, Nat.sub_zero, Nat.add_zero]
  exact ⟨q, (Agr.pre (by simp)).trans ag⟩
theorem c_heldNetK (v : Value) (N : Int) (w : Value) (n : Nat) (k : Int) (s : Sl h 4 w (mks4 k n)) (hk : 0 ≤ k ∧ k ≤ 1000000000000) (hmax : n ≤ 1048576) (hv : v = .agg #[.int .i64 N, w] := by rfl) :
    vCall [] Try.prog M 24 [v, .int .i64 k] h (fun r h' => r = .int .i64 (k + 4 * n) ∧ h <+: h') := by
  subst hv
  refine body_of mo Try.func24 rfl (by kernel_rfl) (Nat.le_of_ble_eq_true (by kernel_rfl)) rfl ?_
  simp only [go_sem, Nat.reduceBEq, Nat.reduceAdd, Nat.reduceMul, Nat.reduceSub, Nat.reduceLeDiff, Nat.le_refl, implies_true, Nat.reduceLT, reduceIte, decide_true, decide_false, true_and, and_true, reduceCtorEq, Nat.mul_one, Int.reduceToNat, Int.reduceLE, Int.reduceLT, Int.reduceAdd, Int.reduceSub, Int.reduceMul, Int.cast_ofNat_Int, cast_zero_int, cast_one_int, Nat.reducePow, Nat.reduceEqDiff, Nat.reduceMod, Nat.zero_add, Nat.sub_zero, Nat.add_zero]
  refine ⟨by kernel_rfl, (c_heldPipeS w n k hk (s.mono (by simp)) hmax).use (fun _ m => m) ?_⟩
  rintro _ _ ⟨rfl, ⟨t, rfl⟩⟩
  simp only [go_sem, Nat.reduceBEq, Nat.reduceAdd, Nat.reduceMul, Nat.reduceSub, Nat.reduceLeDiff, Nat.le_refl, implies_true, Nat.reduceLT, reduceIte, decide_true, decide_false, true_and, and_true, reduceCtorEq, Nat.mul_one, Int.reduceToNat, Int.reduceLE, Int.reduceLT, Int.reduceAdd, Int.reduceSub, Int.reduceMul, Int.cast_ofNat_Int, cast_zero_int, cast_one_int, Nat.reducePow, Nat.reduceEqDiff, Nat.reduceMod, Nat.zero_add, Nat.sub_zero, Nat.add_zero, show ¬ (k + 4 * (n : Int) < 0) by omega]
/-- The marks of a console. -/
structure ConK (lo hi : Nat) (h : Heap) (c : Con) (wP wV : Value) (k : Int) : Prop where
  p : ∃ mid, lo ≤ mid ∧ mid ≤ hi ∧ FQs lo mid 4 h wP (mks4 k c.P.length) ∧ FQs mid hi 4 h wV (mksV (k + 4 * c.P.length) c.V.length)
theorem ConK.mono {lo hi : Nat} {h h' : Heap} {c : Con} {wP wV : Value} {k : Int} (s : ConK lo hi h c wP wV k) (hp : h <+: h') : ConK lo hi h' c wP wV k := by
  obtain ⟨mid, a, b, p, v⟩ := s.p
  exact ⟨mid, a, b, p.mono hp, v.mono hp⟩
theorem c_markConsole {lo hi : Nat} (c : Con) (wP wV : Value) (s : ConQ lo hi h c wP wV) (hh : hi ≤ h.length) (hM : ∀ i, lo ≤ i → i < hi → M i) (k : Int) (hk : 0 ≤ k ∧ k ≤ 1000) (hP : c.P.length ≤ 1048576) (hV : c.V.length ≤ 1048576) :
    vCall [] Try.prog M 11 [conV c wP wV, .int .i64 k] h (fun r h' => r = .int .i64 (k + 4 * c.P.length + 4 * c.V.length) ∧ ConK lo hi h' c wP wV k ∧ Agr lo hi h h') := by
  obtain ⟨mid, a, b, p, v⟩ := s.p
  refine body_of mo Try.func11 rfl (by kernel_rfl) (Nat.le_of_ble_eq_true (by kernel_rfl)) rfl ?_
  simp only [go_sem, Nat.reduceBEq, Nat.reduceAdd, Nat.reduceMul, Nat.reduceSub, Nat.reduceLeDiff, Nat.le_refl, implies_true, Nat.reduceLT, reduceIte, decide_true, decide_false, true_and, and_true, reduceCtorEq, Nat.mul_one, Int.reduceToNat, Int.reduceLE, Int.reduceLT, Int.reduceAdd, Int.reduceSub, Int.reduceMul, Int.cast_ofNat_Int, cast_zero_int, cast_one_int, Nat.reducePow, Nat.reduceEqDiff, Nat.reduceMod, Nat.zero_add, Nat.sub_zero, Nat.add_zero, conV]
  refine ⟨by kernel_rfl, (c_markNetK _ c.N wP c.P (p.mono (by simp)) (by simp; omega) (fun i x y => Or.inr (hM i x (by omega))) k (by omega) hP).use (fun _ m => m) ?_⟩
  rintro _ H1 ⟨rfl, p1, ag1⟩
  have l1 := ag1.1
  have hb := ag1.2 h.length (by simp) (by omega)
  simp only [go_sem, Nat.reduceBEq, Nat.reduceAdd, Nat.reduceMul, Nat.reduceSub, Nat.reduceLeDiff, Nat.le_refl, implies_true, Nat.reduceLT, reduceIte, decide_true, decide_false, true_and, and_true, reduceCtorEq, Nat.mul_one, Int.reduceToNat, Int.reduceLE, Int.reduceLT, Int.reduceAdd, Int.reduceSub, Int.reduceMul, Int.cast_ofNat_Int, cast_zero_int, cast_one_int, Nat.reducePow, Nat.reduceEqDiff, Nat.reduceMod, Nat.zero_add, Nat.sub_zero, Nat.add_zero, conV, hb]
  have v1 := (v.mono (h' := h ++ [⟨[.int .i64 c.N, wP, wV, .int .i64 c.src, .string c.D, .string c.Q, .int .i64 c.cnt], 7, .rw⟩]) (by simp)).agr ag1 (by omega)
  refine ⟨by kernel_rfl, (c_markValveQ wV c.V v1 (fun i x y => Or.inr (hM i (by omega) y)) (k + 4 * c.P.length) (by omega) hV).use (fun _ m => m) ?_⟩
  rintro _ H2 ⟨rfl, v2, ag2⟩
  simp only [go_sem, Nat.reduceBEq, Nat.reduceAdd, Nat.reduceMul, Nat.reduceSub, Nat.reduceLeDiff, Nat.le_refl, implies_true, Nat.reduceLT, reduceIte, decide_true, decide_false, true_and, and_true, reduceCtorEq, Nat.mul_one, Int.reduceToNat, Int.reduceLE, Int.reduceLT, Int.reduceAdd, Int.reduceSub, Int.reduceMul, Int.cast_ofNat_Int, cast_zero_int, cast_one_int, Nat.reducePow, Nat.reduceEqDiff, Nat.reduceMod, Nat.zero_add, Nat.sub_zero, Nat.add_zero, conV]
  have p2 := p1.agr ag2 (by omega)
  refine ⟨⟨mid, a, b, p2, v2⟩, ?_⟩
  have ag := (ag1.wide (lo' := lo) (hi' := hi) (by omega) (by omega)).trans (ag2.wide (by omega) (by omega))
  exact (Agr.pre (by simp)).trans ag
theorem c_heldConsole {lo hi : Nat} (c : Con) (wP wV : Value) (k : Int) (s : ConK lo hi h c wP wV k) (hk : 0 ≤ k ∧ k ≤ 1000) (hP : c.P.length ≤ 1048576) (hV : c.V.length ≤ 1048576) :
    vCall [] Try.prog M 12 [conV c wP wV, .int .i64 k] h (fun r h' => r = .int .i64 (k + 4 * c.P.length + 4 * c.V.length) ∧ h <+: h') := by
  obtain ⟨mid, a, b, p, v⟩ := s.p
  refine body_of mo Try.func12 rfl (by kernel_rfl) (Nat.le_of_ble_eq_true (by kernel_rfl)) rfl ?_
  simp only [go_sem, Nat.reduceBEq, Nat.reduceAdd, Nat.reduceMul, Nat.reduceSub, Nat.reduceLeDiff, Nat.le_refl, implies_true, Nat.reduceLT, reduceIte, decide_true, decide_false, true_and, and_true, reduceCtorEq, Nat.mul_one, Int.reduceToNat, Int.reduceLE, Int.reduceLT, Int.reduceAdd, Int.reduceSub, Int.reduceMul, Int.cast_ofNat_Int, cast_zero_int, cast_one_int, Nat.reducePow, Nat.reduceEqDiff, Nat.reduceMod, Nat.zero_add, Nat.sub_zero, Nat.add_zero, conV]
  refine ⟨by kernel_rfl, (c_heldNetK _ c.N wP c.P.length k (p.mono (by simp)).sl (by omega) hP).use (fun _ m => m) ?_⟩
  rintro _ _ ⟨rfl, ⟨t, rfl⟩⟩
  simp only [go_sem, Nat.reduceBEq, Nat.reduceAdd, Nat.reduceMul, Nat.reduceSub, Nat.reduceLeDiff, Nat.le_refl, implies_true, Nat.reduceLT, reduceIte, decide_true, decide_false, true_and, and_true, reduceCtorEq, Nat.mul_one, Int.reduceToNat, Int.reduceLE, Int.reduceLT, Int.reduceAdd, Int.reduceSub, Int.reduceMul, Int.cast_ofNat_Int, cast_zero_int, cast_one_int, Nat.reducePow, Nat.reduceEqDiff, Nat.reduceMod, Nat.zero_add, Nat.sub_zero, Nat.add_zero, conV, show ¬ (k + 4 * (c.P.length : Int) < 0) by omega]
  refine ⟨by kernel_rfl, (c_heldValveS wV c.V.length _ (by omega) (v.mono (by simp)).sl hV).use (fun _ m => m) ?_⟩
  rintro _ _ ⟨rfl, ⟨t2, rfl⟩⟩
  simp only [go_sem, Nat.reduceBEq, Nat.reduceAdd, Nat.reduceMul, Nat.reduceSub, Nat.reduceLeDiff, Nat.le_refl, implies_true, Nat.reduceLT, reduceIte, decide_true, decide_false, true_and, and_true, reduceCtorEq, Nat.mul_one, Int.reduceToNat, Int.reduceLE, Int.reduceLT, Int.reduceAdd, Int.reduceSub, Int.reduceMul, Int.cast_ofNat_Int, cast_zero_int, cast_one_int, Nat.reducePow, Nat.reduceEqDiff, Nat.reduceMod, Nat.zero_add, Nat.sub_zero, Nat.add_zero, conV, show ¬ (k + 4 * (c.P.length : Int) + 4 * (c.V.length : Int) < 0) by omega]
end
end Go.Proofs.Ytedidddimikjhaa
