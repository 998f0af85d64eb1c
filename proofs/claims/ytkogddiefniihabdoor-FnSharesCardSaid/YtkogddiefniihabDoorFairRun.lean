
/- Fair shares: what the program computes. No condition. -/
import Derived.Test.YtkogddiefniihabDoorFairPlain
namespace Go.Proofs.YtkogddiefniihabDoor
open Go.HH
set_option linter.unusedSimpArgs false
set_option linter.unusedVariables false

def fairOk (l : List Sup) (L : Int) : Prop := supGood l ∧ 0 ≤ L ∧ L ≤ 100000
instance {l : List Sup} {L : Int} : Decidable (fairOk l L) := by unfold fairOk; infer_instance
/-- What a fair share is. -/
def fairY (l : List Sup) (L : Int) (y : List Sup) : Prop := (fairOk l L → ∃ k, full (iterF (zeroed l, L) k) = iterF (zeroed l, L) k ∧ y = (iterF (zeroed l, L) k).1) ∧ (¬ fairOk l L → y = [])
theorem fairY_one {l : List Sup} {L : Int} {y y' : List Sup} (a : fairY l L y) (b : fairY l L y') : y = y' := by
  by_cases h : fairOk l L
  · obtain ⟨k, h1, rfl⟩ := a.1 h
    obtain ⟨m, h2, rfl⟩ := b.1 h
    rw [iterF_one h1 h2]
  · rw [a.2 h, b.2 h]
theorem fairY_len {l : List Sup} {L : Int} {y : List Sup} (a : fairY l L y) : y.length ≤ l.length := by
  by_cases h : fairOk l L
  · obtain ⟨k, _, rfl⟩ := a.1 h
    rw [iterF_len]; simp [zeroed]
  · rw [a.2 h]; simp
/-- A slice of its own, or an empty one. -/
def FQ (lo hi : Nat) (h : Heap) (v : Value) (rows : List (List Value)) : Prop := FR lo hi 3 h v rows ∨ (rows = [] ∧ ∃ a, v = .slice a 0 0)
theorem FQ.mono {lo hi : Nat} {h h' : Heap} {v : Value} {rows : List (List Value)} (s : FQ lo hi h v rows) (hp : h <+: h') : FQ lo hi h' v rows := s.imp (fun s => s.mono hp) id
theorem FQ.agr {lo hi a b : Nat} {h h' : Heap} {v : Value} {rows : List (List Value)} (s : FQ lo hi h v rows) (g : Agr a b h h') (hn : hi ≤ a ∨ b ≤ lo) : FQ lo hi h' v rows :=
  s.imp (fun ⟨id, e, e1, e2, e3, e4⟩ => ⟨id, e, e1, e2, by rw [g.2 id (hget_lt e3) (by omega)]; exact e3, e4⟩) id
theorem FQ.sl {lo hi : Nat} {h : Heap} {v : Value} {rows : List (List Value)} (s : FQ lo hi h v rows) : Sl h 3 v rows := by
  rcases s with s | ⟨rfl, a, rfl⟩
  · exact s.sl
  · exact ⟨a, rfl, fun r hr => by simp at hr, fun h0 => absurd rfl h0⟩

section
variable {h : Heap} {M : Nat → Prop}

theorem c_markQ {lo hi : Nat} (v : Value) (l : List Sup) (s : FQ lo hi h v (l.map sup)) (hM : ∀ i, lo ≤ i → i < hi → M i) (k : Int) (hk : 0 ≤ k ∧ k ≤ 1000000000000) (hmax : l.length ≤ 1048576) :
    vCall [] Tryd.prog M 43 [v, .int .i64 k] h (fun r h' => r = .int .i64 (k + 3 * l.length) ∧ FQ lo hi h' v (mks3 k l.length) ∧ Agr lo hi h h') := by
  rcases s with s | ⟨hl, a, rfl⟩
  · exact (c_markSupplyS v l s hM k hk hmax).use (fun _ m => m) fun r h' ⟨a, b, c⟩ => ⟨a, .inl b, c⟩
  · obtain rfl : l = [] := by simpa using hl
    refine body_of mo Tryd.func43 rfl (by kernel_rfl) (Nat.le_of_ble_eq_true (by kernel_rfl)) rfl ?_
    simp only [go_sem, Nat.reduceBEq, Nat.reduceAdd, Nat.reduceMul, Nat.reduceSub, Nat.reduceLeDiff, Nat.le_refl, implies_true, Nat.reduceLT, reduceIte, decide_true, decide_false, true_and, and_true, reduceCtorEq, Nat.mul_one, Int.reduceToNat, Int.reduceLE, Int.reduceLT, Int.reduceAdd, Int.reduceSub, Int.reduceMul, Int.cast_ofNat_Int, cast_zero_int, cast_one_int, Nat.reducePow, Nat.reduceEqDiff, Nat.reduceMod, Nat.zero_add, Nat.sub_zero, Nat.add_zero]
    refine vLoop.count mo 0 (fun i e h' => e 0 = .slice a 0 0 ∧ e 1 = .int .i64 k ∧ e 5 = .int .i64 0 ∧ h' = h) ?_ ?_
    · exact ⟨rfl, rfl, rfl, rfl⟩
    · rintro i e h' hi ⟨e0, e1, e5, rfl⟩
      simp only [go_sem, Nat.reduceBEq, Nat.reduceAdd, Nat.reduceMul, Nat.reduceSub, Nat.reduceLeDiff, Nat.le_refl, implies_true, Nat.reduceLT, reduceIte, decide_true, decide_false, true_and, and_true, reduceCtorEq, Nat.mul_one, Int.reduceToNat, Int.reduceLE, Int.reduceLT, Int.reduceAdd, Int.reduceSub, Int.reduceMul, Int.cast_ofNat_Int, cast_zero_int, cast_one_int, Nat.reducePow, Nat.reduceEqDiff, Nat.reduceMod, Nat.zero_add, Nat.sub_zero, Nat.add_zero, e0, e1, e5]
      exact ⟨by simp, .inr ⟨by simp [mks3], a, rfl⟩, Agr.refl⟩

theorem c_short (x : Sup) : vCall [] Tryd.prog M 67 [.agg #[.int .i64 x.1, .int .i64 x.2.1, .int .i64 x.2.2]] h (fun r h' => r = .bool (short x) ∧ h <+: h') := by
  refine body_of mo Tryd.func67 rfl (by kernel_rfl) (Nat.le_of_ble_eq_true (by kernel_rfl)) rfl ?_
  simp only [go_sem, Nat.reduceBEq, Nat.reduceAdd, Nat.reduceMul, Nat.reduceSub, Nat.reduceLeDiff, Nat.le_refl, implies_true, Nat.reduceLT, reduceIte, decide_true, decide_false, true_and, and_true, reduceCtorEq, Nat.mul_one, Int.reduceToNat, Int.reduceLE, Int.reduceLT, Int.reduceAdd, Int.reduceSub, Int.reduceMul, Int.cast_ofNat_Int, cast_zero_int, cast_one_int, Nat.reducePow, Nat.reduceEqDiff, Nat.reduceMod, Nat.zero_add, Nat.sub_zero, Nat.add_zero]
  rfl

theorem c_IndexFuncS {fid : Nat} (hf : callable Tryd.prog fid = true) (p : Sup → Bool) (hcb : ∀ (M : Nat → Prop) (h : Heap) (x : Sup), vCall [] Tryd.prog M fid [.agg #[.int .i64 x.1, .int .i64 x.2.1, .int .i64 x.2.2]] h (fun r h' => r = .bool (p x) ∧ h <+: h')) (v : Value) (l : List Sup) (s : Sl h 3 v (l.map sup)) (hmax : l.length ≤ 1048576) :
    vCall [] Tryd.prog M 112 [v, .func (.func fid) #[] #[]] h (fun r h' => (∃ m, r = .int .i64 m ∧ (0 ≤ m ↔ l.any p = true)) ∧ h <+: h') := by
  obtain ⟨a, hv, _, _⟩ := id s
  rw [List.length_map] at hv
  refine body_of mo Tryd.func112 rfl (by kernel_rfl) (Nat.le_of_ble_eq_true (by kernel_rfl)) rfl ?_
  subst hv
  simp only [go_sem, Nat.reduceBEq, Nat.reduceAdd, Nat.reduceMul, Nat.reduceSub, Nat.reduceLeDiff, Nat.le_refl, implies_true, Nat.reduceLT, reduceIte, decide_true, decide_false, true_and, and_true, reduceCtorEq, Nat.mul_one, Int.reduceToNat, Int.reduceLE, Int.reduceLT, Int.reduceAdd, Int.reduceSub, Int.reduceMul, Int.cast_ofNat_Int, cast_zero_int, cast_one_int, Nat.reducePow, Nat.reduceEqDiff, Nat.reduceMod, Nat.zero_add, Nat.sub_zero, Nat.add_zero]
  refine vLoop.count mo l.length (fun i e h' => ∃ t : Heap, e 0 = .slice a l.length 0 ∧ e 1 = .func (.func fid) #[] #[] ∧ e 7 = .int .i64 l.length ∧ e 8 = .int .i64 i ∧ h' = h ++ t ∧ (l.take i).any p = false) ?_ ?_
  · exact ⟨[], rfl, rfl, rfl, rfl, by simp, by simp⟩
  · rintro i e _ hi ⟨t, e0, e1, e7, e8, rfl, hj⟩
    simp only [go_sem, Nat.reduceBEq, Nat.reduceAdd, Nat.reduceMul, Nat.reduceSub, Nat.reduceLeDiff, Nat.le_refl, implies_true, Nat.reduceLT, reduceIte, decide_true, decide_false, true_and, and_true, reduceCtorEq, Nat.mul_one, Int.reduceToNat, Int.reduceLE, Int.reduceLT, Int.reduceAdd, Int.reduceSub, Int.reduceMul, Int.cast_ofNat_Int, cast_zero_int, cast_one_int, Nat.reducePow, Nat.reduceEqDiff, Nat.reduceMod, Nat.zero_add, Nat.sub_zero, Nat.add_zero, e0, e1, e7, e8]
    refine .intro (fun h1 => ?_) (fun h1 => ?_)
    · have hlt : i < l.length := by simpa using h1
      have hlt' : i < (l.map sup).length := by simpa using hlt
      obtain ⟨id, off, k, hv, hk, _, hd, hb, hrow, hat⟩ := s.at hlt'
      obtain rfl : a = some ⟨id, off, none⟩ := by simpa using hv
      have hz : (i : Int) < l.length := by omega
      simp only [go_sem, Nat.reduceBEq, Nat.reduceAdd, Nat.reduceMul, Nat.reduceSub, Nat.reduceLeDiff, Nat.le_refl, implies_true, Nat.reduceLT, reduceIte, decide_true, decide_false, true_and, and_true, reduceCtorEq, Nat.mul_one, Int.reduceToNat, Int.reduceLE, Int.reduceLT, Int.reduceAdd, Int.reduceSub, Int.reduceMul, Int.cast_ofNat_Int, cast_zero_int, cast_one_int, Nat.reducePow, Nat.reduceEqDiff, Nat.reduceMod, Nat.zero_add, Nat.sub_zero, Nat.add_zero, e0, e1, e7, e8, hk, hrow, List.getElem_map, sup, hz, hd, hb]
      refine ⟨hf, (hcb _ _ _).use (fun _ m => m) ?_⟩
      rintro _ _ ⟨rfl, ⟨t2, rfl⟩⟩
      simp only [go_sem, Nat.reduceBEq, Nat.reduceAdd, Nat.reduceMul, Nat.reduceSub, Nat.reduceLeDiff, Nat.le_refl, implies_true, Nat.reduceLT, reduceIte, decide_true, decide_false, true_and, and_true, reduceCtorEq, Nat.mul_one, Int.reduceToNat, Int.reduceLE, Int.reduceLT, Int.reduceAdd, Int.reduceSub, Int.reduceMul, Int.cast_ofNat_Int, cast_zero_int, cast_one_int, Nat.reducePow, Nat.reduceEqDiff, Nat.reduceMod, Nat.zero_add, Nat.sub_zero, Nat.add_zero, e0, e1, e7, e8]
      cases h2 : p l[i] with
      | true =>
        simp only [go_sem, Nat.reduceBEq, Nat.reduceAdd, Nat.reduceMul, Nat.reduceSub, Nat.reduceLeDiff, Nat.le_refl, implies_true, Nat.reduceLT, reduceIte, decide_true, decide_false, true_and, and_true, reduceCtorEq, Nat.mul_one, Int.reduceToNat, Int.reduceLE, Int.reduceLT, Int.reduceAdd, Int.reduceSub, Int.reduceMul, Int.cast_ofNat_Int, cast_zero_int, cast_one_int, Nat.reducePow, Nat.reduceEqDiff, Nat.reduceMod, Nat.zero_add, Nat.sub_zero, Nat.add_zero, e0, e1, e7, e8]
        exact ⟨_, rfl, by simp; exact ⟨_, _, _, List.getElem_mem hlt, h2⟩⟩
      | false =>
        simp only [go_sem, Nat.reduceBEq, Nat.reduceAdd, Nat.reduceMul, Nat.reduceSub, Nat.reduceLeDiff, Nat.le_refl, implies_true, Nat.reduceLT, reduceIte, decide_true, decide_false, true_and, and_true, reduceCtorEq, Nat.mul_one, Int.reduceToNat, Int.reduceLE, Int.reduceLT, Int.reduceAdd, Int.reduceSub, Int.reduceMul, Int.cast_ofNat_Int, cast_zero_int, cast_one_int, Nat.reducePow, Nat.reduceEqDiff, Nat.reduceMod, Nat.zero_add, Nat.sub_zero, Nat.add_zero, e0, e1, e7, e8]
        refine ⟨hlt, _, by rw [wrap64 (by omega)]; rfl, rfl, ?_⟩
        rw [List.take_add_one, List.getElem?_eq_getElem hlt, List.any_append, hj]
        simp [h2]
    · simp only [go_sem, Nat.reduceBEq, Nat.reduceAdd, Nat.reduceMul, Nat.reduceSub, Nat.reduceLeDiff, Nat.le_refl, implies_true, Nat.reduceLT, reduceIte, decide_true, decide_false, true_and, and_true, reduceCtorEq, Nat.mul_one, Int.reduceToNat, Int.reduceLE, Int.reduceLT, Int.reduceAdd, Int.reduceSub, Int.reduceMul, Int.cast_ofNat_Int, cast_zero_int, cast_one_int, Nat.reducePow, Nat.reduceEqDiff, Nat.reduceMod, Nat.zero_add, Nat.sub_zero, Nat.add_zero, e0, e1, e7, e8]
      obtain rfl : i = l.length := by have : ¬ i < l.length := by simpa using h1
                                      omega
      rw [List.take_length] at hj
      exact ⟨_, rfl, by rw [hj]; simp⟩

theorem c_ContainsFuncS {fid : Nat} (hf : callable Tryd.prog fid = true) (p : Sup → Bool) (hcb : ∀ (M : Nat → Prop) (h : Heap) (x : Sup), vCall [] Tryd.prog M fid [.agg #[.int .i64 x.1, .int .i64 x.2.1, .int .i64 x.2.2]] h (fun r h' => r = .bool (p x) ∧ h <+: h')) (v : Value) (l : List Sup) (s : Sl h 3 v (l.map sup)) (hmax : l.length ≤ 1048576) :
    vCall [] Tryd.prog M 68 [v, .func (.func fid) #[] #[]] h (fun r h' => r = .bool (l.any p) ∧ h <+: h') := by
  refine body_of mo Tryd.func68 rfl (by kernel_rfl) (Nat.le_of_ble_eq_true (by kernel_rfl)) rfl ?_
  simp only [go_sem, Nat.reduceBEq, Nat.reduceAdd, Nat.reduceMul, Nat.reduceSub, Nat.reduceLeDiff, Nat.le_refl, implies_true, Nat.reduceLT, reduceIte, decide_true, decide_false, true_and, and_true, reduceCtorEq, Nat.mul_one, Int.reduceToNat, Int.reduceLE, Int.reduceLT, Int.reduceAdd, Int.reduceSub, Int.reduceMul, Int.cast_ofNat_Int, cast_zero_int, cast_one_int, Nat.reducePow, Nat.reduceEqDiff, Nat.reduceMod, Nat.zero_add, Nat.sub_zero, Nat.add_zero]
  refine ⟨by kernel_rfl, (c_IndexFuncS hf p hcb _ l s hmax).use (fun _ m => m) ?_⟩
  rintro _ _ ⟨⟨m, rfl, hm⟩, ⟨t, rfl⟩⟩
  simp only [go_sem, Nat.reduceBEq, Nat.reduceAdd, Nat.reduceMul, Nat.reduceSub, Nat.reduceLeDiff, Nat.le_refl, implies_true, Nat.reduceLT, reduceIte, decide_true, decide_false, true_and, and_true, reduceCtorEq, Nat.mul_one, Int.reduceToNat, Int.reduceLE, Int.reduceLT, Int.reduceAdd, Int.reduceSub, Int.reduceMul, Int.cast_ofNat_Int, cast_zero_int, cast_one_int, Nat.reducePow, Nat.reduceEqDiff, Nat.reduceMod, Nat.zero_add, Nat.sub_zero, Nat.add_zero]
  refine congrArg Value.bool ?_
  rw [Bool.eq_iff_iff, ← hm]
  simp

def zN (l : List Sup) (i : Nat) : List Sup := zeroed (l.take i) ++ l.drop i
theorem zN_len {l : List Sup} {i : Nat} (hi : i ≤ l.length) : (zN l i).length = l.length := by simp [zN, zeroed]; omega
theorem zN_at {l : List Sup} {i : Nat} (hi : i < l.length) : (zN l i)[i]'(by rw [zN_len (by omega)]; exact hi) = l[i] := by
  simp [zN, zeroed, List.getElem_append_right, Nat.min_eq_left (Nat.le_of_lt hi)]
theorem zN_step {l : List Sup} {i : Nat} (hi : i < l.length) : (zN l i).set i (l[i].1, 0, l[i].2.2) = zN l (i + 1) := by
  have h1 : (zeroed (l.take i)).length = i := by simp [zeroed]; omega
  rw [zN, zN, List.set_append_right _ _ (by omega), h1, Nat.sub_self, List.drop_eq_getElem_cons hi, List.set_cons_zero, List.take_add_one, List.getElem?_eq_getElem hi, zeroed, zeroed, List.map_append]
  simp
theorem oneC_sup {l : List Sup} : ((l.map sup).flatten).all oneC = true := by
  rw [List.all_eq_true]
  intro x hx
  obtain ⟨r, hr, hx⟩ := List.mem_flatten.1 hx
  obtain ⟨y, _, rfl⟩ := List.mem_map.1 hr
  simp only [sup, List.mem_cons, List.not_mem_nil, or_false] at hx
  rcases hx with rfl | rfl | rfl <;> rfl

theorem c_FairShare (v : Value) (l : List Sup) (L : Int) (s : Sl h 3 v (l.map sup)) (hmax : l.length ≤ 1048576) : vCall [] Tryd.prog M 15 [v, .int .i64 L] h (fun r h' => (∃ w y, r = .tuple #[w, .bool (decide (fairOk l L))] ∧ fairY l L y ∧ FQ h.length h'.length h' w (y.map sup)) ∧ h <+: h') := by
  obtain ⟨a, hv, _, hf⟩ := id s
  rw [List.length_map] at hv
  refine body_of mo Tryd.func15 rfl (by kernel_rfl) (Nat.le_of_ble_eq_true (by kernel_rfl)) rfl ?_
  subst hv
  simp only [go_sem, Nat.reduceBEq, Nat.reduceAdd, Nat.reduceMul, Nat.reduceSub, Nat.reduceLeDiff, Nat.le_refl, implies_true, Nat.reduceLT, reduceIte, decide_true, decide_false, true_and, and_true, reduceCtorEq, Nat.mul_one, Int.reduceToNat, Int.reduceLE, Int.reduceLT, Int.reduceAdd, Int.reduceSub, Int.reduceMul, Int.cast_ofNat_Int, cast_zero_int, cast_one_int, Nat.reducePow, Nat.reduceEqDiff, Nat.reduceMod, Nat.zero_add, Nat.sub_zero, Nat.add_zero]
  have bad : ¬ fairOk l L → ∀ (m : Nat) (H : Heap), ∃ w y, (Value.tuple #[Value.slice none 0 0, .bool false]) = .tuple #[w, .bool (decide (fairOk l L))] ∧ fairY l L y ∧ FQ h.length m H w (y.map sup) := fun hn m H =>
    ⟨_, [], by rw [decide_eq_false hn], ⟨fun h0 => absurd h0 hn, fun _ => rfl⟩, .inr ⟨rfl, none, rfl⟩⟩
  refine ⟨by kernel_rfl, (c_areSupplies _ l s hmax).use (fun _ m => m) ?_⟩
  rintro _ _ ⟨rfl, ⟨t, rfl⟩⟩
  simp only [go_sem, Nat.reduceBEq, Nat.reduceAdd, Nat.reduceMul, Nat.reduceSub, Nat.reduceLeDiff, Nat.le_refl, implies_true, Nat.reduceLT, reduceIte, decide_true, decide_false, true_and, and_true, reduceCtorEq, Nat.mul_one, Int.reduceToNat, Int.reduceLE, Int.reduceLT, Int.reduceAdd, Int.reduceSub, Int.reduceMul, Int.cast_ofNat_Int, cast_zero_int, cast_one_int, Nat.reducePow, Nat.reduceEqDiff, Nat.reduceMod, Nat.zero_add, Nat.sub_zero, Nat.add_zero]
  by_cases h1 : supGood l
  · simp only [go_sem, Nat.reduceBEq, Nat.reduceAdd, Nat.reduceMul, Nat.reduceSub, Nat.reduceLeDiff, Nat.le_refl, implies_true, Nat.reduceLT, reduceIte, decide_true, decide_false, true_and, and_true, reduceCtorEq, Nat.mul_one, Int.reduceToNat, Int.reduceLE, Int.reduceLT, Int.reduceAdd, Int.reduceSub, Int.reduceMul, Int.cast_ofNat_Int, cast_zero_int, cast_one_int, Nat.reducePow, Nat.reduceEqDiff, Nat.reduceMod, Nat.zero_add, Nat.sub_zero, Nat.add_zero, decb h1]
    refine ⟨by kernel_rfl, (c_inside _ _ _).use (fun _ m => m) ?_⟩
    rintro _ _ ⟨rfl, rfl⟩
    simp only [go_sem, Nat.reduceBEq, Nat.reduceAdd, Nat.reduceMul, Nat.reduceSub, Nat.reduceLeDiff, Nat.le_refl, implies_true, Nat.reduceLT, reduceIte, decide_true, decide_false, true_and, and_true, reduceCtorEq, Nat.mul_one, Int.reduceToNat, Int.reduceLE, Int.reduceLT, Int.reduceAdd, Int.reduceSub, Int.reduceMul, Int.cast_ofNat_Int, cast_zero_int, cast_one_int, Nat.reducePow, Nat.reduceEqDiff, Nat.reduceMod, Nat.zero_add, Nat.sub_zero, Nat.add_zero]
    by_cases h2 : 0 ≤ L ∧ L ≤ 100000
    · have hn : fairOk l L := ⟨h1, h2⟩
      by_cases h0 : l.length = 0
      all_goals first
        | (have h0 : l.length = 0 := by assumption
           simp only [go_sem, Nat.reduceBEq, Nat.reduceAdd, Nat.reduceMul, Nat.reduceSub, Nat.reduceLeDiff, Nat.le_refl, implies_true, Nat.reduceLT, reduceIte, decide_true, decide_false, true_and, and_true, reduceCtorEq, Nat.mul_one, Int.reduceToNat, Int.reduceLE, Int.reduceLT, Int.reduceAdd, Int.reduceSub, Int.reduceMul, Int.cast_ofNat_Int, cast_zero_int, cast_one_int, Nat.reducePow, Nat.reduceEqDiff, Nat.reduceMod, Nat.zero_add, Nat.sub_zero, Nat.add_zero, decb h1, decb h2, h0]
           done)
        | (have h0 : l.length = 0 := by assumption
           simp only [go_sem, Nat.reduceBEq, Nat.reduceAdd, Nat.reduceMul, Nat.reduceSub, Nat.reduceLeDiff, Nat.le_refl, implies_true, Nat.reduceLT, reduceIte, decide_true, decide_false, true_and, and_true, reduceCtorEq, Nat.mul_one, Int.reduceToNat, Int.reduceLE, Int.reduceLT, Int.reduceAdd, Int.reduceSub, Int.reduceMul, Int.cast_ofNat_Int, cast_zero_int, cast_one_int, Nat.reducePow, Nat.reduceEqDiff, Nat.reduceMod, Nat.zero_add, Nat.sub_zero, Nat.add_zero, decb h1, decb h2, h0])
        | (have h0 : ¬ l.length = 0 := by assumption
           obtain ⟨id, off, k, rfl, hk, hd, hb, hc⟩ := hf (by intro h3; exact h0 (by simpa using h3))
           rw [List.length_map] at hb hc
           have hk' : ∀ t, hget (h ++ t) id = some k := fun t => by rw [hget_prefix (List.prefix_append _ _) (hget_lt hk)]; exact hk
           simp only [go_sem, Nat.reduceBEq, Nat.reduceAdd, Nat.reduceMul, Nat.reduceSub, Nat.reduceLeDiff, Nat.le_refl, implies_true, Nat.reduceLT, reduceIte, decide_true, decide_false, true_and, and_true, reduceCtorEq, Nat.mul_one, Int.reduceToNat, Int.reduceLE, Int.reduceLT, Int.reduceAdd, Int.reduceSub, Int.reduceMul, Int.cast_ofNat_Int, cast_zero_int, cast_one_int, Nat.reducePow, Nat.reduceEqDiff, Nat.reduceMod, Nat.zero_add, Nat.sub_zero, Nat.add_zero, decb h1, decb h2, onApp_more (show 0 < l.length by omega), hk', hd, hb, hc, show 0 < l.length by omega, oneC_sup, show l.length ≤ 9223372036854775807 by omega, show l.length * 24 ≤ 140737488355328 by omega])
      all_goals
        refine vLoop.count mo l.length (fun i e h' => ∃ (t : Heap) (j : Nat), e 1 = .int .i64 L ∧ e 6 = .slice (some ⟨h.length + j, 0, none⟩) l.length 0 ∧ e 22 = .int .i64 l.length ∧ e 23 = .int .i64 i ∧ h' = h ++ t ∧ t[j]? = some ⟨((zN l i).map sup).flatten, 3, .rw⟩) ?_ ?_
      · have hl : l = [] := List.length_eq_zero_iff.1 h0
        exact ⟨t ++ [⟨[], 3, .rw⟩], t.length, rfl, by simp [upd, h0], by simp [upd, h0], rfl, by simp, by simp [hl, zN, zeroed]⟩
      rotate_left
      · exact ⟨t ++ [⟨[], 3, .dead⟩, ⟨(l.map sup).flatten, 3, .rw⟩], t.length + 1, rfl, rfl, rfl, rfl, by simp, by simp [zN, zeroed]⟩
      all_goals
        rintro i e _ hi ⟨t, j, e1, e6, e22, e23, rfl, hj⟩
        simp only [go_sem, Nat.reduceBEq, Nat.reduceAdd, Nat.reduceMul, Nat.reduceSub, Nat.reduceLeDiff, Nat.le_refl, implies_true, Nat.reduceLT, reduceIte, decide_true, decide_false, true_and, and_true, reduceCtorEq, Nat.mul_one, Int.reduceToNat, Int.reduceLE, Int.reduceLT, Int.reduceAdd, Int.reduceSub, Int.reduceMul, Int.cast_ofNat_Int, cast_zero_int, cast_one_int, Nat.reducePow, Nat.reduceEqDiff, Nat.reduceMod, Nat.zero_add, Nat.sub_zero, Nat.add_zero, e6, e22, e23]
        refine .intro (fun h3 => ?_) (fun h3 => ?_)
      all_goals first
        | (have hlt : i < l.length := by simpa using h3
           have hlz : i < (zN l i).length := by rw [zN_len hi]; exact hlt
           have hz : (i : Int) < l.length := by omega
           have hlen := len3 (l := zN l i)
           rw [zN_len hi] at hlen
           simp only [go_sem, Nat.reduceBEq, Nat.reduceAdd, Nat.reduceMul, Nat.reduceSub, Nat.reduceLeDiff, Nat.le_refl, implies_true, Nat.reduceLT, reduceIte, decide_true, decide_false, true_and, and_true, reduceCtorEq, Nat.mul_one, Int.reduceToNat, Int.reduceLE, Int.reduceLT, Int.reduceAdd, Int.reduceSub, Int.reduceMul, Int.cast_ofNat_Int, cast_zero_int, cast_one_int, Nat.reducePow, Nat.reduceEqDiff, Nat.reduceMod, Nat.zero_add, Nat.sub_zero, Nat.add_zero, e1, e6, e22, e23, hz, hj, hlen, show i * 3 + 1 + 1 ≤ l.length * 3 by omega]
           refine ⟨hlt, _, j, rfl, by rw [wrap64 (by omega)]; rfl, rfl, ?_⟩
           rw [List.getElem?_set_self (List.getElem?_eq_some_iff.1 hj).1, set_got hlz, zN_at hlt, zN_step hlt]
           done)
        | (have hil : i = l.length := by have : ¬ i < l.length := by simpa using h3
                                         omega
           subst hil
           have hz0 : zN l l.length = zeroed l := by simp [zN]
           rw [hz0] at hj
           simp only [go_sem, Nat.reduceBEq, Nat.reduceAdd, Nat.reduceMul, Nat.reduceSub, Nat.reduceLeDiff, Nat.le_refl, implies_true, Nat.reduceLT, reduceIte, decide_true, decide_false, true_and, and_true, reduceCtorEq, Nat.mul_one, Int.reduceToNat, Int.reduceLE, Int.reduceLT, Int.reduceAdd, Int.reduceSub, Int.reduceMul, Int.cast_ofNat_Int, cast_zero_int, cast_one_int, Nat.reducePow, Nat.reduceEqDiff, Nat.reduceMod, Nat.zero_add, Nat.sub_zero, Nat.add_zero, e1, e6]
           skip)
      all_goals
        have hs0 := zeroed_sane h1
        have hlen0 : (zeroed l).length = l.length := by simp [zeroed]
        refine vLoop.count mo (L.toNat + 1) (fun k e h' => ∃ (t : Heap) (j : Nat), e 1 = .int .i64 (iterF (zeroed l, L) k).2 ∧ e 6 = .slice (some ⟨h.length + j, 0, none⟩) l.length 0 ∧ e 8 = .func (.func 67) #[] #[] ∧ h' = h ++ t ∧
          t[j]? = some ⟨((iterF (zeroed l, L) k).1.map sup).flatten, 3, .rw⟩ ∧ (iterF (zeroed l, L) k).2 + k ≤ L) ?_ ?_
        · exact ⟨t, j, by simpa [upd, iterF] using e1, by simpa [upd] using e6, rfl, rfl, hj, by simp [iterF]⟩
        · rintro k e _ hk ⟨t, j, e1, e6, e8, rfl, hj, hLk⟩
          obtain ⟨s, hsd⟩ : ∃ s, iterF (zeroed l, L) k = s := ⟨_, rfl⟩
          have hsl : s.1.length = l.length := by rw [← hsd, iterF_len]; exact hlen0
          have hss : sane s.1 := by rw [← hsd]; exact iterF_sane hs0 k
          have hsn : 0 ≤ s.2 ∧ s.2 ≤ L := by rw [← hsd]; exact iterF_nn h2.1 k
          rw [hsd] at e1 hj hLk
          have fin : full s = s → ∃ w y, (Value.tuple #[Value.slice (some ⟨h.length + j, 0, none⟩) l.length 0, .bool true]) = .tuple #[w, .bool (decide (fairOk l L))] ∧ fairY l L y ∧ ∀ t', t <+: t' → FQ h.length (h.length + t'.length) (h ++ t') w (y.map sup) := fun hf => by
            refine ⟨_, s.1, by rw [decide_eq_true hn], ⟨fun _ => ⟨k, by rw [hsd]; exact hf, by rw [hsd]⟩, fun h => absurd hn h⟩, fun t' hp => .inl ⟨h.length + j, by rw [List.length_map, hsl], by omega, ?_, ?_, sup_len⟩⟩
            · have := (List.getElem?_eq_some_iff.1 hj).1; have := hp.length_le; omega
            · rw [hget_app]
              obtain ⟨u, rfl⟩ := hp
              exact app_old hj u
          simp only [go_sem, Nat.reduceBEq, Nat.reduceAdd, Nat.reduceMul, Nat.reduceSub, Nat.reduceLeDiff, Nat.le_refl, implies_true, Nat.reduceLT, reduceIte, decide_true, decide_false, true_and, and_true, reduceCtorEq, Nat.mul_one, Int.reduceToNat, Int.reduceLE, Int.reduceLT, Int.reduceAdd, Int.reduceSub, Int.reduceMul, Int.cast_ofNat_Int, cast_zero_int, cast_one_int, Nat.reducePow, Nat.reduceEqDiff, Nat.reduceMod, Nat.zero_add, Nat.sub_zero, Nat.add_zero, e1, e6, e8]
          by_cases hL : 0 < s.2
          · simp only [go_sem, Nat.reduceBEq, Nat.reduceAdd, Nat.reduceMul, Nat.reduceSub, Nat.reduceLeDiff, Nat.le_refl, implies_true, Nat.reduceLT, reduceIte, decide_true, decide_false, true_and, and_true, reduceCtorEq, Nat.mul_one, Int.reduceToNat, Int.reduceLE, Int.reduceLT, Int.reduceAdd, Int.reduceSub, Int.reduceMul, Int.cast_ofNat_Int, cast_zero_int, cast_one_int, Nat.reducePow, Nat.reduceEqDiff, Nat.reduceMod, Nat.zero_add, Nat.sub_zero, Nat.add_zero, e1, e6, e8, hL]
            have hsl3 : Sl (h ++ t) 3 (.slice (some ⟨h.length + j, 0, none⟩) l.length 0) (s.1.map sup) := by
              have := Sl.whole (h := h ++ t) (st := .rw) (sz := 3) (esz := 3) (id := h.length + j) (rows := s.1.map sup) (by simp) sup_len (by rw [hget_app]; exact hj)
              rwa [List.length_map, hsl] at this
            refine ⟨by kernel_rfl, (c_ContainsFuncS (by kernel_rfl) short (fun M h x => c_short x) _ s.1 hsl3 (by omega)).use (fun _ m => m) ?_⟩
            rintro _ _ ⟨rfl, ⟨t2, rfl⟩⟩
            cases hany : s.1.any short with
            | false =>
              simp only [go_sem, Nat.reduceBEq, Nat.reduceAdd, Nat.reduceMul, Nat.reduceSub, Nat.reduceLeDiff, Nat.le_refl, implies_true, Nat.reduceLT, reduceIte, decide_true, decide_false, true_and, and_true, reduceCtorEq, Nat.mul_one, Int.reduceToNat, Int.reduceLE, Int.reduceLT, Int.reduceAdd, Int.reduceSub, Int.reduceMul, Int.cast_ofNat_Int, cast_zero_int, cast_one_int, Nat.reducePow, Nat.reduceEqDiff, Nat.reduceMod, Nat.zero_add, Nat.sub_zero, Nat.add_zero, e1, e6, e8, hL]
              have hf : full s = s := passF_sated (fun i hi => by
                have := List.any_eq_false.1 hany s.1[i] (List.getElem_mem hi)
                rw [getDp hi]; simpa using this) _ (Nat.le_refl _)
              obtain ⟨w, y, ew, hy, hq⟩ := fin hf
              exact ⟨w, y, ew, hy, by have := hq (t ++ t2) (List.prefix_append _ _); rwa [List.length_append] at this⟩
            | true =>
              simp only [go_sem, Nat.reduceBEq, Nat.reduceAdd, Nat.reduceMul, Nat.reduceSub, Nat.reduceLeDiff, Nat.le_refl, implies_true, Nat.reduceLT, reduceIte, decide_true, decide_false, true_and, and_true, reduceCtorEq, Nat.mul_one, Int.reduceToNat, Int.reduceLE, Int.reduceLT, Int.reduceAdd, Int.reduceSub, Int.reduceMul, Int.cast_ofNat_Int, cast_zero_int, cast_one_int, Nat.reducePow, Nat.reduceEqDiff, Nat.reduceMod, Nat.zero_add, Nat.sub_zero, Nat.add_zero, e1, e6, e8, hL]
              refine vLoop.count mo l.length (fun i e h' => ∃ t : Heap, e 1 = .int .i64 (passF s i).2 ∧ e 6 = .slice (some ⟨h.length + j, 0, none⟩) l.length 0 ∧ e 8 = .func (.func 67) #[] #[] ∧ e 39 = .int .i64 l.length ∧ e 40 = .int .i64 i ∧ h' = h ++ t ∧
                t[j]? = some ⟨((passF s i).1.map sup).flatten, 3, .rw⟩) ?_ ?_
              · exact ⟨t ++ t2, by simpa [upd, passF] using e1, by simpa [upd] using e6, by simpa [upd] using e8, rfl, rfl, by simp, app_old hj t2⟩
              · rintro i e _ hi ⟨t, e1, e6, e8, e39, e40, rfl, hj⟩
                simp only [go_sem, Nat.reduceBEq, Nat.reduceAdd, Nat.reduceMul, Nat.reduceSub, Nat.reduceLeDiff, Nat.le_refl, implies_true, Nat.reduceLT, reduceIte, decide_true, decide_false, true_and, and_true, reduceCtorEq, Nat.mul_one, Int.reduceToNat, Int.reduceLE, Int.reduceLT, Int.reduceAdd, Int.reduceSub, Int.reduceMul, Int.cast_ofNat_Int, cast_zero_int, cast_one_int, Nat.reducePow, Nat.reduceEqDiff, Nat.reduceMod, Nat.zero_add, Nat.sub_zero, Nat.add_zero, e1, e6, e8, e39, e40]
                refine .intro (fun h4 => ?_) (fun h4 => ?_)
                · have hlt : i < l.length := by simpa using h4
                  have hz : (i : Int) < l.length := by omega
                  obtain ⟨q, hqd⟩ : ∃ q, passF s i = q := ⟨_, rfl⟩
                  have hql : q.1.length = l.length := by rw [← hqd, passF_len, hsl]
                  have hqs : sane q.1 := by rw [← hqd]; exact passF_sane hss i
                  have hqn : 0 ≤ q.2 ∧ q.2 ≤ s.2 := by rw [← hqd]; exact passF_nn s hsn.1 i
                  have hpass : passF s (i + 1) = stepF q i := by rw [passF, hqd]
                  rw [hqd] at e1 hj
                  have hqi : i < q.1.length := by omega
                  obtain ⟨hc1, hc2⟩ := cell3 hqi
                  have hlen := len3 (l := q.1)
                  rw [hql] at hlen
                  have gd : q.1.getD i sup0 = q.1[i] := getDp hqi
                  have hsm := hqs _ (List.getElem_mem hqi)
                  simp only [go_sem, Nat.reduceBEq, Nat.reduceAdd, Nat.reduceMul, Nat.reduceSub, Nat.reduceLeDiff, Nat.le_refl, implies_true, Nat.reduceLT, reduceIte, decide_true, decide_false, true_and, and_true, reduceCtorEq, Nat.mul_one, Int.reduceToNat, Int.reduceLE, Int.reduceLT, Int.reduceAdd, Int.reduceSub, Int.reduceMul, Int.cast_ofNat_Int, cast_zero_int, cast_one_int, Nat.reducePow, Nat.reduceEqDiff, Nat.reduceMod, Nat.zero_add, Nat.sub_zero, Nat.add_zero, e1, e6, e8, e39, e40]
                  by_cases h5 : 0 < q.2
                  · simp only [go_sem, Nat.reduceBEq, Nat.reduceAdd, Nat.reduceMul, Nat.reduceSub, Nat.reduceLeDiff, Nat.le_refl, implies_true, Nat.reduceLT, reduceIte, decide_true, decide_false, true_and, and_true, reduceCtorEq, Nat.mul_one, Int.reduceToNat, Int.reduceLE, Int.reduceLT, Int.reduceAdd, Int.reduceSub, Int.reduceMul, Int.cast_ofNat_Int, cast_zero_int, cast_one_int, Nat.reducePow, Nat.reduceEqDiff, Nat.reduceMod, Nat.zero_add, Nat.sub_zero, Nat.add_zero, e1, e6, e8, e39, e40, h5, hz, hj, hc2, hlen, show i * 3 + 3 ≤ l.length * 3 by omega]
                    refine ⟨by kernel_rfl, (c_short q.1[i]).use (fun _ m => m) ?_⟩
                    rintro _ _ ⟨rfl, ⟨t3, rfl⟩⟩
                    simp only [go_sem, Nat.reduceBEq, Nat.reduceAdd, Nat.reduceMul, Nat.reduceSub, Nat.reduceLeDiff, Nat.le_refl, implies_true, Nat.reduceLT, reduceIte, decide_true, decide_false, true_and, and_true, reduceCtorEq, Nat.mul_one, Int.reduceToNat, Int.reduceLE, Int.reduceLT, Int.reduceAdd, Int.reduceSub, Int.reduceMul, Int.cast_ofNat_Int, cast_zero_int, cast_one_int, Nat.reducePow, Nat.reduceEqDiff, Nat.reduceMod, Nat.zero_add, Nat.sub_zero, Nat.add_zero, h5]
                    cases h6 : short q.1[i] with
                    | true =>
                      have w1 : IntKind.i64.wrap (q.1[i].2.1 + 1) = q.1[i].2.1 + 1 := wrap64 (by omega)
                      have w2 : IntKind.i64.wrap (q.2 - 1) = q.2 - 1 := wrap64 (by omega)
                      simp only [go_sem, Nat.reduceBEq, Nat.reduceAdd, Nat.reduceMul, Nat.reduceSub, Nat.reduceLeDiff, Nat.le_refl, implies_true, Nat.reduceLT, reduceIte, decide_true, decide_false, true_and, and_true, reduceCtorEq, Nat.mul_one, Int.reduceToNat, Int.reduceLE, Int.reduceLT, Int.reduceAdd, Int.reduceSub, Int.reduceMul, Int.cast_ofNat_Int, cast_zero_int, cast_one_int, Nat.reducePow, Nat.reduceEqDiff, Nat.reduceMod, Nat.zero_add, Nat.sub_zero, Nat.add_zero, e1, e6, e8, e39, e40, h5, hz, app_old hj, hc1, hlen, w1, w2, show i * 3 + 1 + 1 ≤ l.length * 3 by omega]
                      rw [hpass, stepF_yes h5 (by rw [gd]; exact h6), gd]
                      refine ⟨hlt, _, rfl, by rw [wrap64 (by omega)]; rfl, rfl, ?_⟩
                      rw [List.getElem?_set_self (by have := (List.getElem?_eq_some_iff.1 hj).1; simp; omega), set_got hqi]; rfl
                    | false =>
                      simp only [go_sem, Nat.reduceBEq, Nat.reduceAdd, Nat.reduceMul, Nat.reduceSub, Nat.reduceLeDiff, Nat.le_refl, implies_true, Nat.reduceLT, reduceIte, decide_true, decide_false, true_and, and_true, reduceCtorEq, Nat.mul_one, Int.reduceToNat, Int.reduceLE, Int.reduceLT, Int.reduceAdd, Int.reduceSub, Int.reduceMul, Int.cast_ofNat_Int, cast_zero_int, cast_one_int, Nat.reducePow, Nat.reduceEqDiff, Nat.reduceMod, Nat.zero_add, Nat.sub_zero, Nat.add_zero, e1, e6, e8, e39, e40, h5]
                      rw [hpass, stepF_no (by rw [gd, h6]; simp)]
                      exact ⟨hlt, _, rfl, by rw [wrap64 (by omega)]; rfl, rfl, app_old hj _⟩
                  · simp only [go_sem, Nat.reduceBEq, Nat.reduceAdd, Nat.reduceMul, Nat.reduceSub, Nat.reduceLeDiff, Nat.le_refl, implies_true, Nat.reduceLT, reduceIte, decide_true, decide_false, true_and, and_true, reduceCtorEq, Nat.mul_one, Int.reduceToNat, Int.reduceLE, Int.reduceLT, Int.reduceAdd, Int.reduceSub, Int.reduceMul, Int.cast_ofNat_Int, cast_zero_int, cast_one_int, Nat.reducePow, Nat.reduceEqDiff, Nat.reduceMod, Nat.zero_add, Nat.sub_zero, Nat.add_zero, e1, e6, e8, e39, e40, h5]
                    rw [hpass, stepF_no (fun hh => h5 hh.1)]
                    exact ⟨hlt, t, rfl, by rw [wrap64 (by omega)]; rfl, rfl, hj⟩
                · obtain rfl : i = l.length := by have : ¬ i < l.length := by simpa using h4
                                                  omega
                  obtain ⟨i0, hi0, h7⟩ : ∃ i0, i0 < s.1.length ∧ short (s.1.getD i0 sup0) = true := by
                    obtain ⟨x, hx, hp⟩ := List.any_eq_true.1 hany
                    obtain ⟨i0, hi0, rfl⟩ := List.mem_iff_getElem.1 hx
                    exact ⟨i0, hi0, by rw [getDp hi0]; exact hp⟩
                  have hfl := full_less hL hi0 h7
                  have hfn := passF_nn s hsn.1 s.1.length
                  have hit : iterF (zeroed l, L) (k + 1) = passF s l.length := by rw [iterF, hsd, full, hsl]
                  rw [full, hsl] at hfl
                  rw [hsl] at hfn
                  simp only [go_sem, Nat.reduceBEq, Nat.reduceAdd, Nat.reduceMul, Nat.reduceSub, Nat.reduceLeDiff, Nat.le_refl, implies_true, Nat.reduceLT, reduceIte, decide_true, decide_false, true_and, and_true, reduceCtorEq, Nat.mul_one, Int.reduceToNat, Int.reduceLE, Int.reduceLT, Int.reduceAdd, Int.reduceSub, Int.reduceMul, Int.cast_ofNat_Int, cast_zero_int, cast_one_int, Nat.reducePow, Nat.reduceEqDiff, Nat.reduceMod, Nat.zero_add, Nat.sub_zero, Nat.add_zero, e1, e6, e8, e39, e40]
                  rw [hit]
                  exact ⟨by omega, t, j, rfl, rfl, rfl, hj, by omega⟩
          · simp only [go_sem, Nat.reduceBEq, Nat.reduceAdd, Nat.reduceMul, Nat.reduceSub, Nat.reduceLeDiff, Nat.le_refl, implies_true, Nat.reduceLT, reduceIte, decide_true, decide_false, true_and, and_true, reduceCtorEq, Nat.mul_one, Int.reduceToNat, Int.reduceLE, Int.reduceLT, Int.reduceAdd, Int.reduceSub, Int.reduceMul, Int.cast_ofNat_Int, cast_zero_int, cast_one_int, Nat.reducePow, Nat.reduceEqDiff, Nat.reduceMod, Nat.zero_add, Nat.sub_zero, Nat.add_zero, e1, e6, e8, hL]
            have hf : full s = s := passF_dry hL _
            obtain ⟨w, y, ew, hy, hq⟩ := fin hf
            exact ⟨w, y, ew, hy, hq t List.prefix_rfl⟩
    · simp only [go_sem, Nat.reduceBEq, Nat.reduceAdd, Nat.reduceMul, Nat.reduceSub, Nat.reduceLeDiff, Nat.le_refl, implies_true, Nat.reduceLT, reduceIte, decide_true, decide_false, true_and, and_true, reduceCtorEq, Nat.mul_one, Int.reduceToNat, Int.reduceLE, Int.reduceLT, Int.reduceAdd, Int.reduceSub, Int.reduceMul, Int.cast_ofNat_Int, cast_zero_int, cast_one_int, Nat.reducePow, Nat.reduceEqDiff, Nat.reduceMod, Nat.zero_add, Nat.sub_zero, Nat.add_zero, decb h1, dect h2]
      exact bad (fun hh => h2 hh.2) _ _
  · simp only [go_sem, Nat.reduceBEq, Nat.reduceAdd, Nat.reduceMul, Nat.reduceSub, Nat.reduceLeDiff, Nat.le_refl, implies_true, Nat.reduceLT, reduceIte, decide_true, decide_false, true_and, and_true, reduceCtorEq, Nat.mul_one, Int.reduceToNat, Int.reduceLE, Int.reduceLT, Int.reduceAdd, Int.reduceSub, Int.reduceMul, Int.cast_ofNat_Int, cast_zero_int, cast_one_int, Nat.reducePow, Nat.reduceEqDiff, Nat.reduceMod, Nat.zero_add, Nat.sub_zero, Nat.add_zero, dect h1]
    exact bad (fun hh => h1 hh.1) _ _

theorem new_endF {u : Heap} {K b : Blk} {j n : Nat} (hn : n = u.length) : (u.set j b ++ [K])[n]? = some K := by
  subst hn
  rw [List.getElem?_append_right (by simp), List.length_set, Nat.sub_self]; rfl
def zT (l : List Sup) (i : Nat) : List Sup := zeroed (l.take i)
theorem zT_len {l : List Sup} {i : Nat} (hi : i ≤ l.length) : (zT l i).length = i := by simp [zT, zeroed]; omega
theorem zT_succ {l : List Sup} {i : Nat} (hi : i < l.length) : zT l (i + 1) = zT l i ++ [(l[i].1, 0, l[i].2.2)] := by
  rw [zT, zT, List.take_add_one, List.getElem?_eq_getElem hi, zeroed, zeroed, List.map_append]; rfl

theorem c_sFairShare (v : Value) (l : List Sup) (L : Int) (s : Sl h 3 v (l.map sup)) (hmax : l.length ≤ 1048576) : vCall [] Tryd.prog M 16 [v, .int .i64 L] h (fun r h' => (∃ w y, r = .tuple #[w, .bool (decide (fairOk l L))] ∧ fairY l L y ∧ FQ h.length h'.length h' w (y.map sup)) ∧ h <+: h') := by
  obtain ⟨a, hv, _, hf⟩ := id s
  rw [List.length_map] at hv
  refine body_of mo Tryd.func16 rfl (by kernel_rfl) (Nat.le_of_ble_eq_true (by kernel_rfl)) rfl ?_
  subst hv
  simp only [go_sem, Nat.reduceBEq, Nat.reduceAdd, Nat.reduceMul, Nat.reduceSub, Nat.reduceLeDiff, Nat.le_refl, implies_true, Nat.reduceLT, reduceIte, decide_true, decide_false, true_and, and_true, reduceCtorEq, Nat.mul_one, Int.reduceToNat, Int.reduceLE, Int.reduceLT, Int.reduceAdd, Int.reduceSub, Int.reduceMul, Int.cast_ofNat_Int, cast_zero_int, cast_one_int, Nat.reducePow, Nat.reduceEqDiff, Nat.reduceMod, Nat.zero_add, Nat.sub_zero, Nat.add_zero]
  refine ⟨by kernel_rfl, (c_l25Good _ l (s.mono (List.prefix_append _ _)) hmax).use (fun _ m => m) ?_⟩
  rintro _ _ ⟨rfl, ⟨t, rfl⟩⟩
  simp only [go_sem, Nat.reduceBEq, Nat.reduceAdd, Nat.reduceMul, Nat.reduceSub, Nat.reduceLeDiff, Nat.le_refl, implies_true, Nat.reduceLT, reduceIte, decide_true, decide_false, true_and, and_true, reduceCtorEq, Nat.mul_one, Int.reduceToNat, Int.reduceLE, Int.reduceLT, Int.reduceAdd, Int.reduceSub, Int.reduceMul, Int.cast_ofNat_Int, cast_zero_int, cast_one_int, Nat.reducePow, Nat.reduceEqDiff, Nat.reduceMod, Nat.zero_add, Nat.sub_zero, Nat.add_zero]
  have bad : ¬ fairOk l L → ∀ (m : Nat) (H : Heap) (a : Option Addr), ∃ w y, (Value.tuple #[Value.slice a 0 0, .bool false]) = .tuple #[w, .bool (decide (fairOk l L))] ∧ fairY l L y ∧ FQ h.length m H w (y.map sup) := fun hn m H a =>
    ⟨_, [], by rw [decide_eq_false hn], ⟨fun h0 => absurd h0 hn, fun _ => rfl⟩, .inr ⟨rfl, a, rfl⟩⟩
  by_cases h1 : supGood l
  · simp only [go_sem, Nat.reduceBEq, Nat.reduceAdd, Nat.reduceMul, Nat.reduceSub, Nat.reduceLeDiff, Nat.le_refl, implies_true, Nat.reduceLT, reduceIte, decide_true, decide_false, true_and, and_true, reduceCtorEq, Nat.mul_one, Int.reduceToNat, Int.reduceLE, Int.reduceLT, Int.reduceAdd, Int.reduceSub, Int.reduceMul, Int.cast_ofNat_Int, cast_zero_int, cast_one_int, Nat.reducePow, Nat.reduceEqDiff, Nat.reduceMod, Nat.zero_add, Nat.sub_zero, Nat.add_zero, decb h1]
    refine ⟨by kernel_rfl, (c_l1In _ _ _).use (fun _ m => m) ?_⟩
    rintro _ _ ⟨rfl, rfl⟩
    simp only [go_sem, Nat.reduceBEq, Nat.reduceAdd, Nat.reduceMul, Nat.reduceSub, Nat.reduceLeDiff, Nat.le_refl, implies_true, Nat.reduceLT, reduceIte, decide_true, decide_false, true_and, and_true, reduceCtorEq, Nat.mul_one, Int.reduceToNat, Int.reduceLE, Int.reduceLT, Int.reduceAdd, Int.reduceSub, Int.reduceMul, Int.cast_ofNat_Int, cast_zero_int, cast_one_int, Nat.reducePow, Nat.reduceEqDiff, Nat.reduceMod, Nat.zero_add, Nat.sub_zero, Nat.add_zero]
    by_cases h2 : 0 ≤ L ∧ L ≤ 100000
    · have hn : fairOk l L := ⟨h1, h2⟩
      simp only [go_sem, Nat.reduceBEq, Nat.reduceAdd, Nat.reduceMul, Nat.reduceSub, Nat.reduceLeDiff, Nat.le_refl, implies_true, Nat.reduceLT, reduceIte, decide_true, decide_false, true_and, and_true, reduceCtorEq, Nat.mul_one, Int.reduceToNat, Int.reduceLE, Int.reduceLT, Int.reduceAdd, Int.reduceSub, Int.reduceMul, Int.cast_ofNat_Int, cast_zero_int, cast_one_int, Nat.reducePow, Nat.reduceEqDiff, Nat.reduceMod, Nat.zero_add, Nat.sub_zero, Nat.add_zero, decb h1, decb h2]
      refine vLoop.count mo l.length (fun i e h' => ∃ (t : Heap) (j : Nat), e 0 = .slice a l.length 0 ∧ e 1 = .int .i64 L ∧ e 6 = .slice (some ⟨h.length + j, 0, none⟩) i 0 ∧ e 7 = .int .i64 i ∧ h' = h ++ t ∧ t[j]? = some ⟨((zT l i).map sup).flatten, 3, .rw⟩) ?_ ?_
      · exact ⟨[⟨[], 3, .rw⟩] ++ t, 0, rfl, rfl, rfl, rfl, by simp, by simp [zT, zeroed]⟩
      · rintro i e _ hi ⟨t, j, e0, e1, e6, e7, rfl, hj⟩
        simp only [go_sem, Nat.reduceBEq, Nat.reduceAdd, Nat.reduceMul, Nat.reduceSub, Nat.reduceLeDiff, Nat.le_refl, implies_true, Nat.reduceLT, reduceIte, decide_true, decide_false, true_and, and_true, reduceCtorEq, Nat.mul_one, Int.reduceToNat, Int.reduceLE, Int.reduceLT, Int.reduceAdd, Int.reduceSub, Int.reduceMul, Int.cast_ofNat_Int, cast_zero_int, cast_one_int, Nat.reducePow, Nat.reduceEqDiff, Nat.reduceMod, Nat.zero_add, Nat.sub_zero, Nat.add_zero, e0, e6, e7]
        refine .intro (fun h3 => ?_) (fun h3 => ?_)
        · have hlt : i < l.length := by simpa using h3
          have hlt' : i < (l.map sup).length := by simpa using hlt
          obtain ⟨id, o, k, hv, hk, _, hd, hb, hrow, hat⟩ := s.at hlt'
          obtain rfl : a = some ⟨id, o, none⟩ := by simpa using hv
          have hz : (i : Int) < l.length := by omega
          have g0 := hat 0 (by omega)
          have g2 := hat 2 (by omega)
          rw [List.getElem_map] at g0 g2
          simp only [sup, List.getElem?_cons_zero, List.getElem?_cons_succ, Nat.add_zero] at g0 g2
          have hlen := len3 (l := zT l i)
          rw [zT_len hi] at hlen
          simp only [go_sem, Nat.reduceBEq, Nat.reduceAdd, Nat.reduceMul, Nat.reduceSub, Nat.reduceLeDiff, Nat.le_refl, implies_true, Nat.reduceLT, reduceIte, decide_true, decide_false, true_and, and_true, reduceCtorEq, Nat.mul_one, Int.reduceToNat, Int.reduceLE, Int.reduceLT, Int.reduceAdd, Int.reduceSub, Int.reduceMul, Int.cast_ofNat_Int, cast_zero_int, cast_one_int, Nat.reducePow, Nat.reduceEqDiff, Nat.reduceMod, Nat.zero_add, Nat.sub_zero, Nat.add_zero, e0, e1, e6, e7, hz, hk, hd, g0, g2, app_old hj, hlen, show i + 1 ≤ 9223372036854775807 by omega, show (i + 1) * 24 ≤ 140737488355328 by omega]
          exact ⟨hlt, _, t.length + 1, rfl, by rw [wrap64 (by omega)]; rfl, rfl, by rw [zT_succ hlt, List.map_append, List.flatten_append]; exact new_endF (by simp)⟩
        · obtain rfl : i = l.length := by have : ¬ i < l.length := by simpa using h3
                                          omega
          have hz0 : zT l l.length = zeroed l := by simp [zT]
          rw [hz0] at hj
          have hs0 := zeroed_sane h1
          have hlen0 : (zeroed l).length = l.length := by simp [zeroed]
          simp only [go_sem, Nat.reduceBEq, Nat.reduceAdd, Nat.reduceMul, Nat.reduceSub, Nat.reduceLeDiff, Nat.le_refl, implies_true, Nat.reduceLT, reduceIte, decide_true, decide_false, true_and, and_true, reduceCtorEq, Nat.mul_one, Int.reduceToNat, Int.reduceLE, Int.reduceLT, Int.reduceAdd, Int.reduceSub, Int.reduceMul, Int.cast_ofNat_Int, cast_zero_int, cast_one_int, Nat.reducePow, Nat.reduceEqDiff, Nat.reduceMod, Nat.zero_add, Nat.sub_zero, Nat.add_zero, e1, e6]
          refine vLoop.count mo (L.toNat + 1) (fun k e h' => ∃ (t : Heap) (j m : Nat), e 1 = .int .i64 (iterF (zeroed l, L) m).2 ∧ e 6 = .slice (some ⟨h.length + j, 0, none⟩) l.length 0 ∧ h' = h ++ t ∧
            t[j]? = some ⟨((iterF (zeroed l, L) m).1.map sup).flatten, 3, .rw⟩ ∧ ((e 8 = .bool true ∧ (iterF (zeroed l, L) m).2 + k ≤ L) ∨ (e 8 = .bool false ∧ full (iterF (zeroed l, L) m) = iterF (zeroed l, L) m))) ?_ ?_
          · exact ⟨t, j, 0, by simpa [upd, iterF] using e1, by simpa [upd] using e6, rfl, hj, .inl ⟨rfl, by simp [iterF]⟩⟩
          · rintro k e _ hk ⟨t, j, m, e1, e6, rfl, hj, hmo⟩
            obtain ⟨s, hsd⟩ : ∃ s, iterF (zeroed l, L) m = s := ⟨_, rfl⟩
            have hsl : s.1.length = l.length := by rw [← hsd, iterF_len]; exact hlen0
            have hss : sane s.1 := by rw [← hsd]; exact iterF_sane hs0 m
            have hsn : 0 ≤ s.2 ∧ s.2 ≤ L := by rw [← hsd]; exact iterF_nn h2.1 m
            rw [hsd] at e1 hj hmo
            rcases hmo with ⟨e8, hLk⟩ | ⟨e8, hf⟩
            · simp only [go_sem, Nat.reduceBEq, Nat.reduceAdd, Nat.reduceMul, Nat.reduceSub, Nat.reduceLeDiff, Nat.le_refl, implies_true, Nat.reduceLT, reduceIte, decide_true, decide_false, true_and, and_true, reduceCtorEq, Nat.mul_one, Int.reduceToNat, Int.reduceLE, Int.reduceLT, Int.reduceAdd, Int.reduceSub, Int.reduceMul, Int.cast_ofNat_Int, cast_zero_int, cast_one_int, Nat.reducePow, Nat.reduceEqDiff, Nat.reduceMod, Nat.zero_add, Nat.sub_zero, Nat.add_zero, e1, e6, e8]
              refine vLoop.count mo l.length (fun i e h' => ∃ (t : Heap) (b : Bool), e 1 = .int .i64 (passF s i).2 ∧ e 6 = .slice (some ⟨h.length + j, 0, none⟩) l.length 0 ∧ e 8 = .bool b ∧ e 9 = .int .i64 i ∧ h' = h ++ t ∧
                t[j]? = some ⟨((passF s i).1.map sup).flatten, 3, .rw⟩ ∧ (b = true → (passF s i).2 < s.2) ∧ (b = false → passF s i = s)) ?_ ?_
              · exact ⟨t, false, by simpa [upd, passF] using e1, by simpa [upd] using e6, rfl, rfl, rfl, hj, by simp, by simp [passF]⟩
              · rintro i e _ hi ⟨t, b, e1, e6, e8, e9, rfl, hj, hb1, hb2⟩
                have hqn := passF_nn s hsn.1 i
                simp only [go_sem, Nat.reduceBEq, Nat.reduceAdd, Nat.reduceMul, Nat.reduceSub, Nat.reduceLeDiff, Nat.le_refl, implies_true, Nat.reduceLT, reduceIte, decide_true, decide_false, true_and, and_true, reduceCtorEq, Nat.mul_one, Int.reduceToNat, Int.reduceLE, Int.reduceLT, Int.reduceAdd, Int.reduceSub, Int.reduceMul, Int.cast_ofNat_Int, cast_zero_int, cast_one_int, Nat.reducePow, Nat.reduceEqDiff, Nat.reduceMod, Nat.zero_add, Nat.sub_zero, Nat.add_zero, e1, e6, e9]
                by_cases h4 : i < l.length
                · have hz : (i : Int) < l.length := by omega
                  by_cases h5 : 0 < (passF s i).2
                  · obtain ⟨q, hqd⟩ : ∃ q, passF s i = q := ⟨_, rfl⟩
                    have hql : q.1.length = l.length := by rw [← hqd, passF_len, hsl]
                    have hqs : sane q.1 := by rw [← hqd]; exact passF_sane hss i
                    have hpass : passF s (i + 1) = stepF q i := by rw [passF, hqd]
                    rw [hqd] at e1 hj h5 hqn hb1 hb2
                    have hqi : i < q.1.length := by omega
                    obtain ⟨hc1, hc2⟩ := cell3 hqi
                    have hlen := len3 (l := q.1)
                    rw [hql] at hlen
                    have gd : q.1.getD i sup0 = q.1[i] := getDp hqi
                    have hsm := hqs _ (List.getElem_mem hqi)
                    have hset := fun b x => List.getElem?_set_self (l := t ++ x) (i := j) (a := b) (by have := (List.getElem?_eq_some_iff.1 hj).1; simp; omega)
                    simp only [go_sem, Nat.reduceBEq, Nat.reduceAdd, Nat.reduceMul, Nat.reduceSub, Nat.reduceLeDiff, Nat.le_refl, implies_true, Nat.reduceLT, reduceIte, decide_true, decide_false, true_and, and_true, reduceCtorEq, Nat.mul_one, Int.reduceToNat, Int.reduceLE, Int.reduceLT, Int.reduceAdd, Int.reduceSub, Int.reduceMul, Int.cast_ofNat_Int, cast_zero_int, cast_one_int, Nat.reducePow, Nat.reduceEqDiff, Nat.reduceMod, Nat.zero_add, Nat.sub_zero, Nat.add_zero, e1, e6, e8, e9, hz, h5, hqd, hj, hc2, hlen, show i * 3 + 3 ≤ l.length * 3 by omega]
                    by_cases h6 : q.1[i].2.1 < q.1[i].2.2
                    · have w1 : IntKind.i64.wrap (q.1[i].2.1 + 1) = q.1[i].2.1 + 1 := wrap64 (by omega)
                      have w2 : IntKind.i64.wrap (q.2 - 1) = q.2 - 1 := wrap64 (by omega)
                      simp only [go_sem, Nat.reduceBEq, Nat.reduceAdd, Nat.reduceMul, Nat.reduceSub, Nat.reduceLeDiff, Nat.le_refl, implies_true, Nat.reduceLT, reduceIte, decide_true, decide_false, true_and, and_true, reduceCtorEq, Nat.mul_one, Int.reduceToNat, Int.reduceLE, Int.reduceLT, Int.reduceAdd, Int.reduceSub, Int.reduceMul, Int.cast_ofNat_Int, cast_zero_int, cast_one_int, Nat.reducePow, Nat.reduceEqDiff, Nat.reduceMod, Nat.zero_add, Nat.sub_zero, Nat.add_zero, e1, e6, e8, e9, hz, h5, h6, app_old hj, hlen, w1, w2, show i * 3 + 3 ≤ l.length * 3 by omega]
                      rw [hpass, stepF_yes h5 (by rw [gd]; simpa [short] using h6), gd]
                      refine ⟨h4, _, true, rfl, rfl, by rw [wrap64 (by omega)]; rfl, rfl, ?_, fun _ => by simp only; omega, by simp⟩
                      rw [hset]
                      exact congrArg (fun c => some (Blk.mk c 3 .rw)) (set_sup hqi (more q.1[i]))
                    · simp only [go_sem, Nat.reduceBEq, Nat.reduceAdd, Nat.reduceMul, Nat.reduceSub, Nat.reduceLeDiff, Nat.le_refl, implies_true, Nat.reduceLT, reduceIte, decide_true, decide_false, true_and, and_true, reduceCtorEq, Nat.mul_one, Int.reduceToNat, Int.reduceLE, Int.reduceLT, Int.reduceAdd, Int.reduceSub, Int.reduceMul, Int.cast_ofNat_Int, cast_zero_int, cast_one_int, Nat.reducePow, Nat.reduceEqDiff, Nat.reduceMod, Nat.zero_add, Nat.sub_zero, Nat.add_zero, e1, e6, e8, e9, hz, h5, h6, app_old hj, hlen, show i * 3 + 3 ≤ l.length * 3 by omega]
                      rw [hpass, stepF_no (by rw [gd]; simpa [short] using fun _ => h6)]
                      refine ⟨h4, _, b, rfl, rfl, by rw [wrap64 (by omega)]; rfl, rfl, ?_, hb1, hb2⟩
                      rw [hset]
                      have := set_sup hqi q.1[i]
                      rw [set_same hqi] at this
                      rw [this]
                  · simp only [go_sem, Nat.reduceBEq, Nat.reduceAdd, Nat.reduceMul, Nat.reduceSub, Nat.reduceLeDiff, Nat.le_refl, implies_true, Nat.reduceLT, reduceIte, decide_true, decide_false, true_and, and_true, reduceCtorEq, Nat.mul_one, Int.reduceToNat, Int.reduceLE, Int.reduceLT, Int.reduceAdd, Int.reduceSub, Int.reduceMul, Int.cast_ofNat_Int, cast_zero_int, cast_one_int, Nat.reducePow, Nat.reduceEqDiff, Nat.reduceMod, Nat.zero_add, Nat.sub_zero, Nat.add_zero, e1, e6, e8, e9, hz, h5]
                    have hfull : full s = passF s i := by rw [full, hsl]; exact passF_stop h5 _ hi
                    cases b with
                    | true => exact ⟨by omega, t, j, m + 1, by rw [iterF, hsd, hfull], rfl, rfl, by rw [iterF, hsd, hfull]; exact hj, .inl ⟨rfl, by rw [iterF, hsd, hfull]; have := hb1 rfl; omega⟩⟩
                    | false =>
                      have e0 := hb2 rfl
                      rw [e0] at hj hfull ⊢
                      exact ⟨by omega, t, j, m, by rw [hsd], rfl, rfl, by rw [hsd]; exact hj, .inr ⟨rfl, by rw [hsd]; exact hfull⟩⟩
                · simp only [go_sem, Nat.reduceBEq, Nat.reduceAdd, Nat.reduceMul, Nat.reduceSub, Nat.reduceLeDiff, Nat.le_refl, implies_true, Nat.reduceLT, reduceIte, decide_true, decide_false, true_and, and_true, reduceCtorEq, Nat.mul_one, Int.reduceToNat, Int.reduceLE, Int.reduceLT, Int.reduceAdd, Int.reduceSub, Int.reduceMul, Int.cast_ofNat_Int, cast_zero_int, cast_one_int, Nat.reducePow, Nat.reduceEqDiff, Nat.reduceMod, Nat.zero_add, Nat.sub_zero, Nat.add_zero, e1, e6, e8, e9, show ¬ ((i : Int) < l.length) by omega]
                  obtain rfl : i = l.length := by omega
                  have hfull : full s = passF s l.length := by rw [full, hsl]
                  cases b with
                  | true => exact ⟨by omega, t, j, m + 1, by rw [iterF, hsd, hfull], rfl, rfl, by rw [iterF, hsd, hfull]; exact hj, .inl ⟨rfl, by rw [iterF, hsd, hfull]; have := hb1 rfl; omega⟩⟩
                  | false =>
                    have e0 := hb2 rfl
                    rw [e0] at hj hfull ⊢
                    exact ⟨by omega, t, j, m, by rw [hsd], rfl, rfl, by rw [hsd]; exact hj, .inr ⟨rfl, by rw [hsd]; exact hfull⟩⟩
            · simp only [go_sem, Nat.reduceBEq, Nat.reduceAdd, Nat.reduceMul, Nat.reduceSub, Nat.reduceLeDiff, Nat.le_refl, implies_true, Nat.reduceLT, reduceIte, decide_true, decide_false, true_and, and_true, reduceCtorEq, Nat.mul_one, Int.reduceToNat, Int.reduceLE, Int.reduceLT, Int.reduceAdd, Int.reduceSub, Int.reduceMul, Int.cast_ofNat_Int, cast_zero_int, cast_one_int, Nat.reducePow, Nat.reduceEqDiff, Nat.reduceMod, Nat.zero_add, Nat.sub_zero, Nat.add_zero, e1, e6, e8]
              refine ⟨_, s.1, by rw [decide_eq_true hn], ⟨fun _ => ⟨m, by rw [hsd]; exact hf, by rw [hsd]⟩, fun h => absurd hn h⟩, .inl ⟨h.length + j, by rw [List.length_map, hsl], by omega, ?_, ?_, sup_len⟩⟩
              · have := (List.getElem?_eq_some_iff.1 hj).1; omega
              · rw [hget_app]; exact hj
    · simp only [go_sem, Nat.reduceBEq, Nat.reduceAdd, Nat.reduceMul, Nat.reduceSub, Nat.reduceLeDiff, Nat.le_refl, implies_true, Nat.reduceLT, reduceIte, decide_true, decide_false, true_and, and_true, reduceCtorEq, Nat.mul_one, Int.reduceToNat, Int.reduceLE, Int.reduceLT, Int.reduceAdd, Int.reduceSub, Int.reduceMul, Int.cast_ofNat_Int, cast_zero_int, cast_one_int, Nat.reducePow, Nat.reduceEqDiff, Nat.reduceMod, Nat.zero_add, Nat.sub_zero, Nat.add_zero, decb h1, dect h2]
      exact bad (fun hh => h2 hh.2) _ _ _
  · simp only [go_sem, Nat.reduceBEq, Nat.reduceAdd, Nat.reduceMul, Nat.reduceSub, Nat.reduceLeDiff, Nat.le_refl, implies_true, Nat.reduceLT, reduceIte, decide_true, decide_false, true_and, and_true, reduceCtorEq, Nat.mul_one, Int.reduceToNat, Int.reduceLE, Int.reduceLT, Int.reduceAdd, Int.reduceSub, Int.reduceMul, Int.cast_ofNat_Int, cast_zero_int, cast_one_int, Nat.reducePow, Nat.reduceEqDiff, Nat.reduceMod, Nat.zero_add, Nat.sub_zero, Nat.add_zero, dect h1]
    exact bad (fun hh => h1 hh.1) _ _ _

end

theorem Fits.sups {h : Heap} {v : Value} (f : FitV h (.slice (.struct (.pair (.int .i64) (.pair (.int .i64) (.pair (.int .i64) .unit))))) v) : ∃ l : List Sup, SB h.length 3 h v (l.map sup) ∧ l.length ≤ 9223372036854775807 := by
  obtain ⟨rows, s, hl, hf⟩ := Fits.sb f
  obtain ⟨l, rfl⟩ := rows_map (f := sup) (rows := rows) (fun r hr => by
    have f' : Fits h (.pair (.int .i64) (.pair (.int .i64) (.pair (.int .i64) .unit))) r := hf r hr
    obtain ⟨_, _, rfl, f0, r0⟩ := f'.pair
    obtain ⟨_, _, rfl, f1, r1⟩ := r0.pair
    obtain ⟨_, _, rfl, f2, r2⟩ := r1.pair
    obtain rfl := r2.unit
    obtain ⟨a0, rfl, _⟩ := f0.int
    obtain ⟨a1, rfl, _⟩ := f1.int
    obtain ⟨a2, rfl, _⟩ := f2.int
    exact ⟨(a0, a1, a2), rfl⟩)
  exact ⟨l, s, by rw [List.length_map] at hl; exact hl⟩

end Go.Proofs.YtkogddiefniihabDoor
