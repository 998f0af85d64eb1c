
/- Supplies in lists: how they are copied, compared, marked and measured. No condition. -/
import Derived.Test.YtfolkgkcaiaifaaDoorSupply
import Derived.Test.YtfolkgkcaiaifaaDoorInts
namespace Go.Proofs.YtfolkgkcaiaifaaDoor
open Go.HH
set_option linter.unusedSimpArgs false
set_option linter.unusedVariables false

/-- Node, what it got and what it wants. -/
abbrev Sup := Int × Int × Int
/-- What a mark leaves in one supply. -/
def mk3 (k : Int) (i : Nat) : List Value := [.int .i64 (k + 3 * i), .int .i64 (k + 3 * i + 1), .int .i64 (k + 3 * i + 1 + 1)]
def mks3 (k : Int) (n : Nat) : List (List Value) := (List.range n).map (mk3 k)
theorem mks3_len {k : Int} {n : Nat} : (mks3 k n).length = n := by simp [mks3]
theorem mks3_succ {k : Int} {n : Nat} : mks3 k (n + 1) = mks3 k n ++ [mk3 k n] := by simp [mks3, List.range_succ]
theorem mks3_row {k : Int} {n : Nat} : ∀ r ∈ mks3 k n, r.length = 3 := by
  intro r hr
  obtain ⟨x, _, rfl⟩ := List.mem_map.1 hr
  rfl
theorem mks3_at {k : Int} {n i : Nat} (hi : i < (mks3 k n).length) : (mks3 k n)[i] = mk3 k i := by simp [mks3]
theorem set3 {P Q : List Value} {x y z a b c : Value} {n : Nat} (hn : P.length = n) : setRange (setRange (setRange (P ++ x :: y :: z :: Q) n [a]) (n + 1) [b]) (n + 2) [c] = P ++ a :: b :: c :: Q := by
  have one : ∀ (P : List Value) (x a : Value) (Q : List Value) (n : Nat), P.length = n → setRange (P ++ x :: Q) n [a] = P ++ a :: Q := fun P x a Q n hn => by
    subst hn
    rw [setRange, List.take_left' rfl, List.length_singleton, ← List.drop_drop, List.drop_left' rfl]
    simp
  rw [one P x a _ n hn]
  have e1 : P ++ a :: y :: z :: Q = (P ++ [a]) ++ y :: z :: Q := by simp
  rw [e1, one (P ++ [a]) y b _ (n + 1) (by simp [hn])]
  have e2 : P ++ [a] ++ b :: z :: Q = (P ++ [a, b]) ++ z :: Q := by simp
  rw [e2, one (P ++ [a, b]) z c _ (n + 2) (by simp [hn])]
  simp

section
variable {h : Heap} {M : Nat → Prop}

theorem c_eqSupply (x y : Sup) : vCall [] Tryd.prog M 37 [.agg #[.int .i64 x.1, .int .i64 x.2.1, .int .i64 x.2.2], .agg #[.int .i64 y.1, .int .i64 y.2.1, .int .i64 y.2.2]] h (fun r h' => r = .bool (decide (x = y)) ∧ h <+: h') := by
  refine body_of mo Tryd.func37 rfl (by kernel_rfl) (Nat.le_of_ble_eq_true (by kernel_rfl)) rfl ?_
  simp only [go_sem, Nat.reduceBEq, Nat.reduceAdd, Nat.reduceMul, Nat.reduceSub, Nat.reduceLeDiff, Nat.le_refl, implies_true, Nat.reduceLT, reduceIte, decide_true, decide_false, true_and, and_true, reduceCtorEq, Nat.mul_one, Int.reduceToNat, Int.reduceLE, Int.reduceLT, Int.reduceAdd, Int.reduceSub, Int.reduceMul, Int.cast_ofNat_Int, cast_zero_int, cast_one_int, Nat.reducePow, Nat.reduceEqDiff, Nat.reduceMod, Nat.zero_add, Nat.sub_zero, Nat.add_zero]
  obtain ⟨a, b, c⟩ := x
  obtain ⟨a', b', c'⟩ := y
  by_cases h1 : a = a'
  · subst h1
    simp only [go_sem, Nat.reduceBEq, Nat.reduceAdd, Nat.reduceMul, Nat.reduceSub, Nat.reduceLeDiff, Nat.le_refl, implies_true, Nat.reduceLT, reduceIte, decide_true, decide_false, true_and, and_true, reduceCtorEq, Nat.mul_one, Int.reduceToNat, Int.reduceLE, Int.reduceLT, Int.reduceAdd, Int.reduceSub, Int.reduceMul, Int.cast_ofNat_Int, cast_zero_int, cast_one_int, Nat.reducePow, Nat.reduceEqDiff, Nat.reduceMod, Nat.zero_add, Nat.sub_zero, Nat.add_zero]
    by_cases h2 : b = b'
    · subst h2
      simp only [go_sem, Nat.reduceBEq, Nat.reduceAdd, Nat.reduceMul, Nat.reduceSub, Nat.reduceLeDiff, Nat.le_refl, implies_true, Nat.reduceLT, reduceIte, decide_true, decide_false, true_and, and_true, reduceCtorEq, Nat.mul_one, Int.reduceToNat, Int.reduceLE, Int.reduceLT, Int.reduceAdd, Int.reduceSub, Int.reduceMul, Int.cast_ofNat_Int, cast_zero_int, cast_one_int, Nat.reducePow, Nat.reduceEqDiff, Nat.reduceMod, Nat.zero_add, Nat.sub_zero, Nat.add_zero]
      by_cases h3 : c = c'
      · subst h3
        simp only [go_sem, Nat.reduceBEq, Nat.reduceAdd, Nat.reduceMul, Nat.reduceSub, Nat.reduceLeDiff, Nat.le_refl, implies_true, Nat.reduceLT, reduceIte, decide_true, decide_false, true_and, and_true, reduceCtorEq, Nat.mul_one, Int.reduceToNat, Int.reduceLE, Int.reduceLT, Int.reduceAdd, Int.reduceSub, Int.reduceMul, Int.cast_ofNat_Int, cast_zero_int, cast_one_int, Nat.reducePow, Nat.reduceEqDiff, Nat.reduceMod, Nat.zero_add, Nat.sub_zero, Nat.add_zero]
      · simp only [go_sem, Nat.reduceBEq, Nat.reduceAdd, Nat.reduceMul, Nat.reduceSub, Nat.reduceLeDiff, Nat.le_refl, implies_true, Nat.reduceLT, reduceIte, decide_true, decide_false, true_and, and_true, reduceCtorEq, Nat.mul_one, Int.reduceToNat, Int.reduceLE, Int.reduceLT, Int.reduceAdd, Int.reduceSub, Int.reduceMul, Int.cast_ofNat_Int, cast_zero_int, cast_one_int, Nat.reducePow, Nat.reduceEqDiff, Nat.reduceMod, Nat.zero_add, Nat.sub_zero, Nat.add_zero, show (c != c') = true by simpa using h3]
        simp [h3]
    · simp only [go_sem, Nat.reduceBEq, Nat.reduceAdd, Nat.reduceMul, Nat.reduceSub, Nat.reduceLeDiff, Nat.le_refl, implies_true, Nat.reduceLT, reduceIte, decide_true, decide_false, true_and, and_true, reduceCtorEq, Nat.mul_one, Int.reduceToNat, Int.reduceLE, Int.reduceLT, Int.reduceAdd, Int.reduceSub, Int.reduceMul, Int.cast_ofNat_Int, cast_zero_int, cast_one_int, Nat.reducePow, Nat.reduceEqDiff, Nat.reduceMod, Nat.zero_add, Nat.sub_zero, Nat.add_zero, show (b != b') = true by simpa using h2]
      simp [h2]
  · simp only [go_sem, Nat.reduceBEq, Nat.reduceAdd, Nat.reduceMul, Nat.reduceSub, Nat.reduceLeDiff, Nat.le_refl, implies_true, Nat.reduceLT, reduceIte, decide_true, decide_false, true_and, and_true, reduceCtorEq, Nat.mul_one, Int.reduceToNat, Int.reduceLE, Int.reduceLT, Int.reduceAdd, Int.reduceSub, Int.reduceMul, Int.cast_ofNat_Int, cast_zero_int, cast_one_int, Nat.reducePow, Nat.reduceEqDiff, Nat.reduceMod, Nat.zero_add, Nat.sub_zero, Nat.add_zero, show (a != a') = true by simpa using h1]
    simp [h1]

/-- A supply's cells. -/
def sup (x : Sup) : List Value := [.int .i64 x.1, .int .i64 x.2.1, .int .i64 x.2.2]
theorem sup_len {l : List Sup} : ∀ r ∈ l.map sup, r.length = 3 := by
  intro r hr
  obtain ⟨x, _, rfl⟩ := List.mem_map.1 hr
  rfl

theorem c_eqSupplyS (v w : Value) (l : List Sup) (s : Sl h 3 v (l.map sup)) (s' : Sl h 3 w (l.map sup)) (hmax : l.length ≤ 1048576) : vCall [] Tryd.prog M 7 [v, w] h (fun r h' => r = .bool true ∧ h <+: h') := by
  obtain ⟨a, hv, _, _⟩ := id s
  obtain ⟨b, hw, _, _⟩ := id s'
  rw [List.length_map] at hv hw
  refine body_of mo Tryd.func7 rfl (by kernel_rfl) (Nat.le_of_ble_eq_true (by kernel_rfl)) rfl ?_
  subst hv hw
  simp only [go_sem, Nat.reduceBEq, Nat.reduceAdd, Nat.reduceMul, Nat.reduceSub, Nat.reduceLeDiff, Nat.le_refl, implies_true, Nat.reduceLT, reduceIte, decide_true, decide_false, true_and, and_true, reduceCtorEq, Nat.mul_one, Int.reduceToNat, Int.reduceLE, Int.reduceLT, Int.reduceAdd, Int.reduceSub, Int.reduceMul, Int.cast_ofNat_Int, cast_zero_int, cast_one_int, Nat.reducePow, Nat.reduceEqDiff, Nat.reduceMod, Nat.zero_add, Nat.sub_zero, Nat.add_zero]
  refine vLoop.count mo l.length (fun i e h' => ∃ t : Heap, e 0 = .slice a l.length 0 ∧ e 1 = .slice b l.length 0 ∧ e 5 = .int .i64 i ∧ h' = h ++ t) ?_ ?_
  · refine ⟨[], ?_⟩
    simp only [go_sem, Nat.reduceBEq, Nat.reduceAdd, Nat.reduceMul, Nat.reduceSub, Nat.reduceLeDiff, Nat.le_refl, implies_true, Nat.reduceLT, reduceIte, decide_true, decide_false, true_and, and_true, reduceCtorEq, Nat.mul_one, Int.reduceToNat, Int.reduceLE, Int.reduceLT, Int.reduceAdd, Int.reduceSub, Int.reduceMul, Int.cast_ofNat_Int, cast_zero_int, cast_one_int, Nat.reducePow, Nat.reduceEqDiff, Nat.reduceMod, Nat.zero_add, Nat.sub_zero, Nat.add_zero]
    all_goals simp
  · rintro i e _ hi ⟨t, e0, e1, e5, rfl⟩
    simp only [go_sem, Nat.reduceBEq, Nat.reduceAdd, Nat.reduceMul, Nat.reduceSub, Nat.reduceLeDiff, Nat.le_refl, implies_true, Nat.reduceLT, reduceIte, decide_true, decide_false, true_and, and_true, reduceCtorEq, Nat.mul_one, Int.reduceToNat, Int.reduceLE, Int.reduceLT, Int.reduceAdd, Int.reduceSub, Int.reduceMul, Int.cast_ofNat_Int, cast_zero_int, cast_one_int, Nat.reducePow, Nat.reduceEqDiff, Nat.reduceMod, Nat.zero_add, Nat.sub_zero, Nat.add_zero, e0, e1, e5]
    refine .intro (fun h1 => ?_) (fun h1 => ?_)
    · have hlt : i < l.length := by simpa using h1
      have hlt' : i < (l.map sup).length := by simpa using hlt
      obtain ⟨id, off, k, hv, hk, _, hd, hb, hrow, hat⟩ := s.at hlt'
      obtain rfl : a = some ⟨id, off, none⟩ := by simpa using hv
      obtain ⟨id2, off2, k2, hv2, hk2, _, hd2, hb2, hrow2, hat2⟩ := s'.at hlt'
      obtain rfl : b = some ⟨id2, off2, none⟩ := by simpa using hv2
      have hz : (i : Int) < l.length := by omega
      simp only [go_sem, Nat.reduceBEq, Nat.reduceAdd, Nat.reduceMul, Nat.reduceSub, Nat.reduceLeDiff, Nat.le_refl, implies_true, Nat.reduceLT, reduceIte, decide_true, decide_false, true_and, and_true, reduceCtorEq, Nat.mul_one, Int.reduceToNat, Int.reduceLE, Int.reduceLT, Int.reduceAdd, Int.reduceSub, Int.reduceMul, Int.cast_ofNat_Int, cast_zero_int, cast_one_int, Nat.reducePow, Nat.reduceEqDiff, Nat.reduceMod, Nat.zero_add, Nat.sub_zero, Nat.add_zero, e0, e1, e5, hk, hrow, hk2, hrow2, List.getElem_map, sup, hz, hd, hb, hd2, hb2]
      refine ⟨by kernel_rfl, (c_eqSupply _ _).use (fun _ m => m) ?_⟩
      rintro _ _ ⟨rfl, ⟨t2, rfl⟩⟩
      simp only [go_sem, Nat.reduceBEq, Nat.reduceAdd, Nat.reduceMul, Nat.reduceSub, Nat.reduceLeDiff, Nat.le_refl, implies_true, Nat.reduceLT, reduceIte, decide_true, decide_false, true_and, and_true, reduceCtorEq, Nat.mul_one, Int.reduceToNat, Int.reduceLE, Int.reduceLT, Int.reduceAdd, Int.reduceSub, Int.reduceMul, Int.cast_ofNat_Int, cast_zero_int, cast_one_int, Nat.reducePow, Nat.reduceEqDiff, Nat.reduceMod, Nat.zero_add, Nat.sub_zero, Nat.add_zero, e0, e1, e5]
      exact ⟨hlt, t ++ t2, by rw [wrap64 (by omega)]; rfl, rfl⟩
    · simp only [go_sem, Nat.reduceBEq, Nat.reduceAdd, Nat.reduceMul, Nat.reduceSub, Nat.reduceLeDiff, Nat.le_refl, implies_true, Nat.reduceLT, reduceIte, decide_true, decide_false, true_and, and_true, reduceCtorEq, Nat.mul_one, Int.reduceToNat, Int.reduceLE, Int.reduceLT, Int.reduceAdd, Int.reduceSub, Int.reduceMul, Int.cast_ofNat_Int, cast_zero_int, cast_one_int, Nat.reducePow, Nat.reduceEqDiff, Nat.reduceMod, Nat.zero_add, Nat.sub_zero, Nat.add_zero, e0, e1, e5]


theorem c_markSupplyS {lo hi : Nat} (v : Value) (l : List Sup) (s : FR lo hi 3 h v (l.map sup)) (hM : ∀ i, lo ≤ i → i < hi → M i) (k : Int) (hk : 0 ≤ k ∧ k ≤ 1000000000000) (hmax : l.length ≤ 1048576) :
    vCall [] Tryd.prog M 8 [v, .int .i64 k] h (fun r h' => r = .int .i64 (k + 3 * l.length) ∧ FR lo hi 3 h' v (mks3 k l.length) ∧ Agr lo hi h h') := by
  obtain ⟨id, rfl, g1, g2, g3, hlen⟩ := s
  rw [List.length_map]
  have hown : own h.length M id := Or.inr (hM id g1 g2)
  refine body_of mo Tryd.func8 rfl (by kernel_rfl) (Nat.le_of_ble_eq_true (by kernel_rfl)) rfl ?_
  simp only [go_sem, Nat.reduceBEq, Nat.reduceAdd, Nat.reduceMul, Nat.reduceSub, Nat.reduceLeDiff, Nat.le_refl, implies_true, Nat.reduceLT, reduceIte, decide_true, decide_false, true_and, and_true, reduceCtorEq, Nat.mul_one, Int.reduceToNat, Int.reduceLE, Int.reduceLT, Int.reduceAdd, Int.reduceSub, Int.reduceMul, Int.cast_ofNat_Int, cast_zero_int, cast_one_int, Nat.reducePow, Nat.reduceEqDiff, Nat.reduceMod, Nat.zero_add, Nat.sub_zero, Nat.add_zero]
  refine vLoop.count mo l.length (fun i e h' => e 0 = .slice (some ⟨id, 0, none⟩) l.length 0 ∧ e 1 = .int .i64 (k + 3 * i) ∧ e 5 = .int .i64 i ∧
    Agr lo hi h h' ∧ hget h' id = some ⟨(mks3 k i).flatten ++ ((l.drop i).map sup).flatten, 3, .rw⟩) ?_ ?_
  · exact ⟨rfl, by simp [upd, env0], rfl, Agr.refl, by simpa [mks3] using g3⟩
  · rintro i e h' hi ⟨e0, e1, e5, hag, hg⟩
    simp only [go_sem, Nat.reduceBEq, Nat.reduceAdd, Nat.reduceMul, Nat.reduceSub, Nat.reduceLeDiff, Nat.le_refl, implies_true, Nat.reduceLT, reduceIte, decide_true, decide_false, true_and, and_true, reduceCtorEq, Nat.mul_one, Int.reduceToNat, Int.reduceLE, Int.reduceLT, Int.reduceAdd, Int.reduceSub, Int.reduceMul, Int.cast_ofNat_Int, cast_zero_int, cast_one_int, Nat.reducePow, Nat.reduceEqDiff, Nat.reduceMod, Nat.zero_add, Nat.sub_zero, Nat.add_zero, e0, e1, e5]
    refine .intro (fun h1 => ?_) (fun h1 => ?_)
    · have hlt : i < l.length := by simpa using h1
      have hz : (i : Int) < l.length := by omega
      have hidl := hget_lt hg
      have hset : ∀ b, hget (h'.set id b) id = some b := fun b => hget_set_same hidl
      have w1 : IntKind.i64.wrap (k + 3 * (i : Int) + 1) = k + 3 * i + 1 := wrap64 (by omega)
      have w2 : IntKind.i64.wrap (k + 3 * (i : Int) + 1 + 1) = k + 3 * i + 1 + 1 := wrap64 (by omega)
      have w3 : IntKind.i64.wrap (k + 3 * (i : Int) + 1 + 1 + 1) = k + 3 * i + 1 + 1 + 1 := wrap64 (by omega)
      have hP : (mks3 k i).flatten.length = i * 3 := by rw [flatten_len mks3_row, mks3_len]
      have hdrop : l.drop i = l[i] :: l.drop (i + 1) := List.drop_eq_getElem_cons hlt
      rw [hdrop] at hg
      simp only [List.map_cons, List.flatten_cons, sup, List.cons_append, List.nil_append] at hg
      have L1 : ∀ (c : List Value) (off : Nat) (v : Value), off + 1 ≤ c.length → (setRange c off [v]).length = c.length := fun c off v hh => setRange_length hh
      have q0 : i * 3 + 3 ≤ ((mks3 k i).flatten ++ Value.int IntKind.i64 l[i].1 :: Value.int IntKind.i64 l[i].2.1 :: Value.int IntKind.i64 l[i].2.2 :: ((l.drop (i + 1)).map sup).flatten).length := by
        rw [List.length_append, hP]; simp only [List.length_cons]; omega
      obtain ⟨C, hC⟩ : ∃ C : List Value, (mks3 k i).flatten ++ Value.int IntKind.i64 l[i].1 :: Value.int IntKind.i64 l[i].2.1 :: Value.int IntKind.i64 l[i].2.2 :: ((l.drop (i + 1)).map sup).flatten = C := ⟨_, rfl⟩
      rw [hC] at hg q0
      have q1 := L1 C (i * 3) (.int .i64 (k + 3 * ↑i)) (by omega)
      have q2 := L1 (setRange C (i * 3) [.int .i64 (k + 3 * ↑i)]) (i * 3 + 1) (.int .i64 (k + 3 * ↑i + 1)) (by omega)
      simp only [go_sem, Nat.reduceBEq, Nat.reduceAdd, Nat.reduceMul, Nat.reduceSub, Nat.reduceLeDiff, Nat.le_refl, implies_true, Nat.reduceLT, reduceIte, decide_true, decide_false, true_and, and_true, reduceCtorEq, Nat.mul_one, Int.reduceToNat, Int.reduceLE, Int.reduceLT, Int.reduceAdd, Int.reduceSub, Int.reduceMul, Int.cast_ofNat_Int, cast_zero_int, cast_one_int, Nat.reducePow, Nat.reduceEqDiff, Nat.reduceMod, Nat.zero_add, Nat.sub_zero, Nat.add_zero, e0, e1, e5, hz, hg, hown, hset, w1, w2, w3, List.set_set]
      refine ⟨by omega, by omega, by omega, hlt, by congr 1; omega, by rw [wrap64 (by omega)]; rfl, hag.trans (Agr.set g1 g2), ?_⟩
      rw [← hC]
      rw [set3 hP, mks3_succ, List.flatten_append]
      simp [mk3]
    · simp only [go_sem, Nat.reduceBEq, Nat.reduceAdd, Nat.reduceMul, Nat.reduceSub, Nat.reduceLeDiff, Nat.le_refl, implies_true, Nat.reduceLT, reduceIte, decide_true, decide_false, true_and, and_true, reduceCtorEq, Nat.mul_one, Int.reduceToNat, Int.reduceLE, Int.reduceLT, Int.reduceAdd, Int.reduceSub, Int.reduceMul, Int.cast_ofNat_Int, cast_zero_int, cast_one_int, Nat.reducePow, Nat.reduceEqDiff, Nat.reduceMod, Nat.zero_add, Nat.sub_zero, Nat.add_zero, e0, e1, e5]
      obtain rfl : i = l.length := by have : ¬ i < l.length := by simpa using h1
                                      omega
      rw [List.drop_length, List.map_nil, List.flatten_nil, List.append_nil] at hg
      exact ⟨rfl, ⟨id, by rw [mks3_len], g1, g2, hg, mks3_row⟩, hag⟩

theorem c_heldSupplyS (v : Value) (n : Nat) (k : Int) (hk : 0 ≤ k ∧ k ≤ 1000000000000) (s : Sl h 3 v (mks3 k n)) (hmax : n ≤ 1048576) :
    vCall [] Tryd.prog M 9 [v, .int .i64 k] h (fun r h' => r = .int .i64 (k + 3 * n) ∧ h <+: h') := by
  obtain ⟨a, hv, _, _⟩ := id s
  rw [mks3_len] at hv
  refine body_of mo Tryd.func9 rfl (by kernel_rfl) (Nat.le_of_ble_eq_true (by kernel_rfl)) rfl ?_
  subst hv
  simp only [go_sem, Nat.reduceBEq, Nat.reduceAdd, Nat.reduceMul, Nat.reduceSub, Nat.reduceLeDiff, Nat.le_refl, implies_true, Nat.reduceLT, reduceIte, decide_true, decide_false, true_and, and_true, reduceCtorEq, Nat.mul_one, Int.reduceToNat, Int.reduceLE, Int.reduceLT, Int.reduceAdd, Int.reduceSub, Int.reduceMul, Int.cast_ofNat_Int, cast_zero_int, cast_one_int, Nat.reducePow, Nat.reduceEqDiff, Nat.reduceMod, Nat.zero_add, Nat.sub_zero, Nat.add_zero]
  refine vLoop.count mo n (fun i e h' => e 0 = .slice a n 0 ∧ e 1 = .int .i64 (k + 3 * i) ∧ e 5 = .int .i64 i ∧ ∃ t, h' = h ++ t) ?_ ?_
  · exact ⟨rfl, by simp [upd, env0], rfl, [], by simp⟩
  · rintro i e h' hi ⟨e0, e1, e5, t, rfl⟩
    simp only [go_sem, Nat.reduceBEq, Nat.reduceAdd, Nat.reduceMul, Nat.reduceSub, Nat.reduceLeDiff, Nat.le_refl, implies_true, Nat.reduceLT, reduceIte, decide_true, decide_false, true_and, and_true, reduceCtorEq, Nat.mul_one, Int.reduceToNat, Int.reduceLE, Int.reduceLT, Int.reduceAdd, Int.reduceSub, Int.reduceMul, Int.cast_ofNat_Int, cast_zero_int, cast_one_int, Nat.reducePow, Nat.reduceEqDiff, Nat.reduceMod, Nat.zero_add, Nat.sub_zero, Nat.add_zero, e0, e1, e5]
    refine .intro (fun h1 => ?_) (fun h1 => ?_)
    · have hlt : i < n := by simpa using h1
      have hlt' : i < (mks3 k n).length := by rw [mks3_len]; exact hlt
      have hz : (i : Int) < n := by omega
      obtain ⟨id, off, b, hv, hk2, _, hd, hb, hrow, hat⟩ := s.at hlt'
      obtain rfl : a = some ⟨id, off, none⟩ := by simp only [Value.slice.injEq] at hv; exact hv.1
      have g0 := hat 0 (by omega)
      have g1 := hat 1 (by omega)
      have g2 := hat 2 (by omega)
      rw [mks3_at hlt'] at g0 g1 g2
      simp only [mk3, List.getElem?_cons_zero, List.getElem?_cons_succ, Nat.add_zero] at g0 g1 g2
      have w1 : IntKind.i64.wrap (k + 3 * (i : Int) + 1) = k + 3 * i + 1 := wrap64 (by omega)
      have w2 : IntKind.i64.wrap (k + 3 * (i : Int) + 1 + 1) = k + 3 * i + 1 + 1 := wrap64 (by omega)
      have w3 : IntKind.i64.wrap (k + 3 * (i : Int) + 1 + 1 + 1) = k + 3 * i + 1 + 1 + 1 := wrap64 (by omega)
      simp only [go_sem, Nat.reduceBEq, Nat.reduceAdd, Nat.reduceMul, Nat.reduceSub, Nat.reduceLeDiff, Nat.le_refl, implies_true, Nat.reduceLT, reduceIte, decide_true, decide_false, true_and, and_true, reduceCtorEq, Nat.mul_one, Int.reduceToNat, Int.reduceLE, Int.reduceLT, Int.reduceAdd, Int.reduceSub, Int.reduceMul, Int.cast_ofNat_Int, cast_zero_int, cast_one_int, Nat.reducePow, Nat.reduceEqDiff, Nat.reduceMod, Nat.zero_add, Nat.sub_zero, Nat.add_zero, e0, e1, e5, hz, hk2, hd, g0, g1, g2, w1, w2, w3]
      exact ⟨hlt, by congr 1; omega, by rw [wrap64 (by omega)]; rfl, t, rfl⟩
    · simp only [go_sem, Nat.reduceBEq, Nat.reduceAdd, Nat.reduceMul, Nat.reduceSub, Nat.reduceLeDiff, Nat.le_refl, implies_true, Nat.reduceLT, reduceIte, decide_true, decide_false, true_and, and_true, reduceCtorEq, Nat.mul_one, Int.reduceToNat, Int.reduceLE, Int.reduceLT, Int.reduceAdd, Int.reduceSub, Int.reduceMul, Int.cast_ofNat_Int, cast_zero_int, cast_one_int, Nat.reducePow, Nat.reduceEqDiff, Nat.reduceMod, Nat.zero_add, Nat.sub_zero, Nat.add_zero, e0, e1, e5]
      obtain rfl : i = n := by have : ¬ i < n := by simpa using h1
                               omega
      rfl
end
end Go.Proofs.YtfolkgkcaiaifaaDoor
