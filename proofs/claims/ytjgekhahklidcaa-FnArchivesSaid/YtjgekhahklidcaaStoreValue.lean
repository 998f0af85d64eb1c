
/- A value stored in an archive. No condition. -/
import Derived.Test.YtjgekhahklidcaaArchive
namespace Go.Proofs.Ytjgekhahklidcaa
open Go.HH
set_option linter.unusedSimpArgs false
set_option linter.unusedVariables false

theorem set_iv {l : List Int} {i : Nat} {v : Int} (hi : i < l.length) : setRange (l.map iv) i [.int .i64 v] = (l.set i v).map iv := by
  rw [List.map_set, setRange, List.length_singleton]
  exact (List.set_eq_take_append_cons_drop ..).trans (by rw [if_pos (by simpa using hi)]; simp [iv]) |>.symm
/-- The values with one stored. -/
def stored (f : Int) (l : List Int) (d v : Int) : List Int := if d = f + l.length then l ++ [v] else l.set (d - f).toNat v
def storeOk (f : Int) (l : List Int) (d v : Int) : Prop := arGood f l ∧ (f ≤ d ∧ d ≤ f + l.length) ∧ arGood f (stored f l d v)
instance {f : Int} {l : List Int} {d v : Int} : Decidable (storeOk f l d v) := by unfold storeOk; infer_instance
theorem stored_len {f : Int} {l : List Int} {d v : Int} : (stored f l d v).length ≤ l.length + 1 := by unfold stored; split <;> simp

section
variable {h : Heap} {M : Nat → Prop}

theorem c_copyInts {n : Nat} (v : Value) (l : List Int) (s : AI n h v l) (hmax : l.length ≤ 1048576) : vCall [] Try.prog M 65 [v] h (fun r h' => ∃ (t : Heap) (j : Nat), r = .slice (some ⟨h.length + j, 0, none⟩) l.length 0 ∧ t[j]? = some ⟨l.map iv, 1, .rw⟩ ∧ h' = h ++ t) := by
  obtain ⟨a, rfl⟩ := s.len
  refine body_of mo Try.func65 rfl (by kernel_rfl) (Nat.le_of_ble_eq_true (by kernel_rfl)) rfl ?_
  simp only [go_sem, Nat.reduceBEq, Nat.reduceAdd, Nat.reduceMul, Nat.reduceSub, Nat.reduceLeDiff, Nat.le_refl, implies_true, Nat.reduceLT, reduceIte, decide_true, decide_false, true_and, and_true, reduceCtorEq, Nat.mul_one, Int.reduceToNat, Int.reduceLE, Int.reduceLT, Int.reduceAdd, Int.reduceSub, Int.reduceMul, Int.cast_ofNat_Int, cast_zero_int, cast_one_int, Nat.reducePow, Nat.reduceEqDiff, Nat.reduceMod, Nat.zero_add, Nat.sub_zero, Nat.add_zero]
  by_cases h0 : l.length = 0
  · obtain rfl : l = [] := List.length_eq_zero_iff.1 h0
    simp only [go_sem, Nat.reduceBEq, Nat.reduceAdd, Nat.reduceMul, Nat.reduceSub, Nat.reduceLeDiff, Nat.le_refl, implies_true, Nat.reduceLT, reduceIte, decide_true, decide_false, true_and, and_true, reduceCtorEq, Nat.mul_one, Int.reduceToNat, Int.reduceLE, Int.reduceLT, Int.reduceAdd, Int.reduceSub, Int.reduceMul, Int.cast_ofNat_Int, cast_zero_int, cast_one_int, Nat.reducePow, Nat.reduceEqDiff, Nat.reduceMod, Nat.zero_add, Nat.sub_zero, Nat.add_zero]
    exact ⟨_, 0, rfl, rfl, rfl⟩
  · obtain ⟨id, off, k, hv, _, hk, _, hd, _, hb, hc, _⟩ := s.at (by omega)
    obtain rfl : a = some ⟨id, off, none⟩ := by simpa using hv
    have hp : 0 < l.length := by omega
    have hall : ((l.map iv).all oneC) = true := by rw [List.all_eq_true]; intro x hx; obtain ⟨y, _, rfl⟩ := List.mem_map.1 hx; rfl
    simp only [go_sem, Nat.reduceBEq, Nat.reduceAdd, Nat.reduceMul, Nat.reduceSub, Nat.reduceLeDiff, Nat.le_refl, implies_true, Nat.reduceLT, reduceIte, decide_true, decide_false, true_and, and_true, reduceCtorEq, Nat.mul_one, Int.reduceToNat, Int.reduceLE, Int.reduceLT, Int.reduceAdd, Int.reduceSub, Int.reduceMul, Int.cast_ofNat_Int, cast_zero_int, cast_one_int, Nat.reducePow, Nat.reduceEqDiff, Nat.reduceMod, Nat.zero_add, Nat.sub_zero, Nat.add_zero, onApp_more hp, hk, hd, hb, hc, hp, hall, show l.length ≤ 9223372036854775807 by omega, show l.length * 8 ≤ 140737488355328 by omega]
    exact ⟨_, 1, rfl, rfl, rfl⟩

theorem c_l1Own {n : Nat} (v : Value) (l : List Int) (s : AI n h v l) (hmax : l.length ≤ 1048576) : vCall [] Try.prog M 62 [v] h (fun r h' => ∃ (t : Heap) (j : Nat), r = .slice (some ⟨h.length + j, 0, none⟩) l.length 0 ∧ t[j]? = some ⟨l.map iv, 1, .rw⟩ ∧ h' = h ++ t) := by
  obtain ⟨a, rfl⟩ := s.len
  refine body_of mo Try.func62 rfl (by kernel_rfl) (Nat.le_of_ble_eq_true (by kernel_rfl)) rfl ?_
  simp only [go_sem, Nat.reduceBEq, Nat.reduceAdd, Nat.reduceMul, Nat.reduceSub, Nat.reduceLeDiff, Nat.le_refl, implies_true, Nat.reduceLT, reduceIte, decide_true, decide_false, true_and, and_true, reduceCtorEq, Nat.mul_one, Int.reduceToNat, Int.reduceLE, Int.reduceLT, Int.reduceAdd, Int.reduceSub, Int.reduceMul, Int.cast_ofNat_Int, cast_zero_int, cast_one_int, Nat.reducePow, Nat.reduceEqDiff, Nat.reduceMod, Nat.zero_add, Nat.sub_zero, Nat.add_zero]
  by_cases h0 : l.length = 0
  · obtain rfl : l = [] := List.length_eq_zero_iff.1 h0
    simp only [go_sem, Nat.reduceBEq, Nat.reduceAdd, Nat.reduceMul, Nat.reduceSub, Nat.reduceLeDiff, Nat.le_refl, implies_true, Nat.reduceLT, reduceIte, decide_true, decide_false, true_and, and_true, reduceCtorEq, Nat.mul_one, Int.reduceToNat, Int.reduceLE, Int.reduceLT, Int.reduceAdd, Int.reduceSub, Int.reduceMul, Int.cast_ofNat_Int, cast_zero_int, cast_one_int, Nat.reducePow, Nat.reduceEqDiff, Nat.reduceMod, Nat.zero_add, Nat.sub_zero, Nat.add_zero]
    exact ⟨_, 0, rfl, rfl, rfl⟩
  · obtain ⟨id, off, k, hv, _, hk, _, hd, _, hb, hc, _⟩ := s.at (by omega)
    obtain rfl : a = some ⟨id, off, none⟩ := by simpa using hv
    have hp : 0 < l.length := by omega
    have hall : ((l.map iv).all oneC) = true := by rw [List.all_eq_true]; intro x hx; obtain ⟨y, _, rfl⟩ := List.mem_map.1 hx; rfl
    simp only [go_sem, Nat.reduceBEq, Nat.reduceAdd, Nat.reduceMul, Nat.reduceSub, Nat.reduceLeDiff, Nat.le_refl, implies_true, Nat.reduceLT, reduceIte, decide_true, decide_false, true_and, and_true, reduceCtorEq, Nat.mul_one, Int.reduceToNat, Int.reduceLE, Int.reduceLT, Int.reduceAdd, Int.reduceSub, Int.reduceMul, Int.cast_ofNat_Int, cast_zero_int, cast_one_int, Nat.reducePow, Nat.reduceEqDiff, Nat.reduceMod, Nat.zero_add, Nat.sub_zero, Nat.add_zero, onApp_more hp, hk, hd, hb, hc, hp, hall, show l.length ≤ 9223372036854775807 by omega, show l.length * 8 ≤ 140737488355328 by omega]
    exact ⟨_, 1, rfl, rfl, rfl⟩

theorem c_copyInts2 {n : Nat} {b0 b1 : Blk} {u : Heap} (v : Value) (l : List Int) (s : AI n (h ++ b0 :: b1 :: u) v l) (hmax : l.length ≤ 1048576) : vCall [] Try.prog M 65 [v] (h ++ b0 :: b1 :: u) (fun r h' => ∃ (u' : Heap) (j : Nat), r = .slice (some ⟨h.length + (j + 2), 0, none⟩) l.length 0 ∧ u'[j]? = some ⟨l.map iv, 1, .rw⟩ ∧ h' = h ++ b0 :: b1 :: u' ∧ u <+: u') := by
  obtain ⟨r, h', hr, t, j, rfl, hj, rfl⟩ := c_copyInts (M := M) v l s hmax
  refine ⟨_, _, hr, u ++ t, u.length + j, by simp only [List.length_append, List.length_cons]; congr 3; omega, ?_, by simp⟩
  rw [List.getElem?_append_right (by omega), Nat.add_sub_cancel_left]; exact hj

theorem c_l1Own2 {n : Nat} {b0 b1 : Blk} {u : Heap} (v : Value) (l : List Int) (s : AI n (h ++ b0 :: b1 :: u) v l) (hmax : l.length ≤ 1048576) : vCall [] Try.prog M 62 [v] (h ++ b0 :: b1 :: u) (fun r h' => ∃ (u' : Heap) (j : Nat), r = .slice (some ⟨h.length + (j + 2), 0, none⟩) l.length 0 ∧ u'[j]? = some ⟨l.map iv, 1, .rw⟩ ∧ h' = h ++ b0 :: b1 :: u' ∧ u <+: u') := by
  obtain ⟨r, h', hr, t, j, rfl, hj, rfl⟩ := c_l1Own (M := M) v l s hmax
  refine ⟨_, _, hr, u ++ t, u.length + j, by simp only [List.length_append, List.length_cons]; congr 3; omega, ?_, by simp⟩
  rw [List.getElem?_append_right (by omega), Nat.add_sub_cancel_left]; exact hj

theorem c_StoreValue {n : Nat} (v : Value) (f : Int) (l : List Int) (d y : Int) (s : AA n h v f l) (hmax : l.length ≤ 1048576) : vCall [] Try.prog M 32 [v, .int .i64 d, .int .i64 y] h (fun r h' =>
    (∃ w, r = .tuple #[w, .bool (decide (storeOk f l d y))] ∧ FA h.length h'.length h' w (if storeOk f l d y then f else 0) (if storeOk f l d y then stored f l d y else [])) ∧ h <+: h') := by
  obtain ⟨w, rfl, s'⟩ := id s
  obtain ⟨p, rfl⟩ := s'.len
  refine body_of mo Try.func32 rfl (by kernel_rfl) (Nat.le_of_ble_eq_true (by kernel_rfl)) rfl ?_
  simp only [go_sem, Nat.reduceBEq, Nat.reduceAdd, Nat.reduceMul, Nat.reduceSub, Nat.reduceLeDiff, Nat.le_refl, implies_true, Nat.reduceLT, reduceIte, decide_true, decide_false, true_and, and_true, reduceCtorEq, Nat.mul_one, Int.reduceToNat, Int.reduceLE, Int.reduceLT, Int.reduceAdd, Int.reduceSub, Int.reduceMul, Int.cast_ofNat_Int, cast_zero_int, cast_one_int, Nat.reducePow, Nat.reduceEqDiff, Nat.reduceMod, Nat.zero_add, Nat.sub_zero, Nat.add_zero]
  refine ⟨by kernel_rfl, (c_IsValidArchive _ f l (s.mono (List.prefix_append _ _)) hmax).use (fun _ m => m) ?_⟩
  rintro _ _ ⟨rfl, ⟨t, rfl⟩⟩
  simp only [go_sem, Nat.reduceBEq, Nat.reduceAdd, Nat.reduceMul, Nat.reduceSub, Nat.reduceLeDiff, Nat.le_refl, implies_true, Nat.reduceLT, reduceIte, decide_true, decide_false, true_and, and_true, reduceCtorEq, Nat.mul_one, Int.reduceToNat, Int.reduceLE, Int.reduceLT, Int.reduceAdd, Int.reduceSub, Int.reduceMul, Int.cast_ofNat_Int, cast_zero_int, cast_one_int, Nat.reducePow, Nat.reduceEqDiff, Nat.reduceMod, Nat.zero_add, Nat.sub_zero, Nat.add_zero]
  have bad : ¬ storeOk f l d y → ∀ (m : Nat) (H : Heap), ∃ w, (Value.tuple #[Value.agg #[.int .i64 0, .slice none 0 0], .bool false]) = .tuple #[w, .bool (decide (storeOk f l d y))] ∧ FA h.length m H w (if storeOk f l d y then f else 0) (if storeOk f l d y then stored f l d y else []) := fun hn m H =>
    ⟨_, by rw [decide_eq_false hn], _, by rw [if_neg hn], by rw [if_neg hn]; exact .nil⟩
  by_cases h1 : arGood f l
  · obtain ⟨g1, g2, g3, g4⟩ := id h1
    have e4 : IntKind.i64.wrap (f + (l.length : Int)) = f + l.length := wrap64 (by omega)
    simp only [go_sem, Nat.reduceBEq, Nat.reduceAdd, Nat.reduceMul, Nat.reduceSub, Nat.reduceLeDiff, Nat.le_refl, implies_true, Nat.reduceLT, reduceIte, decide_true, decide_false, true_and, and_true, reduceCtorEq, Nat.mul_one, Int.reduceToNat, Int.reduceLE, Int.reduceLT, Int.reduceAdd, Int.reduceSub, Int.reduceMul, Int.cast_ofNat_Int, cast_zero_int, cast_one_int, Nat.reducePow, Nat.reduceEqDiff, Nat.reduceMod, Nat.zero_add, Nat.sub_zero, Nat.add_zero, decb h1, e4]
    refine ⟨by kernel_rfl, (c_inside _ _ _).use (fun _ m => m) ?_⟩
    rintro _ _ ⟨rfl, rfl⟩
    simp only [go_sem, Nat.reduceBEq, Nat.reduceAdd, Nat.reduceMul, Nat.reduceSub, Nat.reduceLeDiff, Nat.le_refl, implies_true, Nat.reduceLT, reduceIte, decide_true, decide_false, true_and, and_true, reduceCtorEq, Nat.mul_one, Int.reduceToNat, Int.reduceLE, Int.reduceLT, Int.reduceAdd, Int.reduceSub, Int.reduceMul, Int.cast_ofNat_Int, cast_zero_int, cast_one_int, Nat.reducePow, Nat.reduceEqDiff, Nat.reduceMod, Nat.zero_add, Nat.sub_zero, Nat.add_zero]
    by_cases h2 : f ≤ d ∧ d ≤ f + l.length
    · simp only [go_sem, Nat.reduceBEq, Nat.reduceAdd, Nat.reduceMul, Nat.reduceSub, Nat.reduceLeDiff, Nat.le_refl, implies_true, Nat.reduceLT, reduceIte, decide_true, decide_false, true_and, and_true, reduceCtorEq, Nat.mul_one, Int.reduceToNat, Int.reduceLE, Int.reduceLT, Int.reduceAdd, Int.reduceSub, Int.reduceMul, Int.cast_ofNat_Int, cast_zero_int, cast_one_int, Nat.reducePow, Nat.reduceEqDiff, Nat.reduceMod, Nat.zero_add, Nat.sub_zero, Nat.add_zero, decb h1, decb h2]
      refine ⟨by kernel_rfl, (c_copyInts2 _ l (s'.mono (List.prefix_append _ _)) hmax).use (fun _ m => m) ?_⟩
      rintro _ _ ⟨u, j, rfl, hj, rfl, htu⟩
      have hju := (List.getElem?_eq_some_iff.1 hj).1
      simp only [go_sem, Nat.reduceBEq, Nat.reduceAdd, Nat.reduceMul, Nat.reduceSub, Nat.reduceLeDiff, Nat.le_refl, implies_true, Nat.reduceLT, reduceIte, decide_true, decide_false, true_and, and_true, reduceCtorEq, Nat.mul_one, Int.reduceToNat, Int.reduceLE, Int.reduceLT, Int.reduceAdd, Int.reduceSub, Int.reduceMul, Int.cast_ofNat_Int, cast_zero_int, cast_one_int, Nat.reducePow, Nat.reduceEqDiff, Nat.reduceMod, Nat.zero_add, Nat.sub_zero, Nat.add_zero, e4, htu]
      obtain ⟨U, hU⟩ : ∃ U : Heap, u ++ [⟨[.int .i64 f, .slice (some ⟨h.length + (j + 2), 0, none⟩) l.length 0], 2, .rw⟩] = U := ⟨_, rfl⟩
      have hC : U[u.length]? = some ⟨[.int .i64 f, .slice (some ⟨h.length + (j + 2), 0, none⟩) l.length 0], 2, .rw⟩ := by rw [← hU, List.getElem?_append_right (Nat.le_refl _), Nat.sub_self]; rfl
      have hK : U[j]? = some ⟨l.map iv, 1, .rw⟩ := by rw [← hU]; exact app_old hj _
      have hlen : u.length + 1 = U.length := by rw [← hU]; simp
      by_cases h3 : d = f + l.length
      · simp only [go_sem, Nat.reduceBEq, Nat.reduceAdd, Nat.reduceMul, Nat.reduceSub, Nat.reduceLeDiff, Nat.le_refl, implies_true, Nat.reduceLT, reduceIte, decide_true, decide_false, true_and, and_true, reduceCtorEq, Nat.mul_one, Int.reduceToNat, Int.reduceLE, Int.reduceLT, Int.reduceAdd, Int.reduceSub, Int.reduceMul, Int.cast_ofNat_Int, cast_zero_int, cast_one_int, Nat.reducePow, Nat.reduceEqDiff, Nat.reduceMod, Nat.zero_add, Nat.sub_zero, Nat.add_zero, show (d == f + (l.length : Int)) = true by simpa using h3, hU, hC, app_old hK, app_keep hC (show j ≠ u.length by omega), List.length_map, show l.length ≤ 9223372036854775806 by omega, show (l.length + 1) * 8 ≤ 140737488355328 by omega]
        obtain ⟨W, hW⟩ : ∃ W : Heap, ((U ++ [(⟨[.int .i64 y], 1, .rw⟩ : Blk)]).set j ⟨l.map iv, 1, .dead⟩ ++ [(⟨l.map iv ++ [.int .i64 y], 1, .rw⟩ : Blk)]).set u.length ⟨[.int .i64 f, .slice (some ⟨h.length + (U.length + 1 + 1 + 1), 0, none⟩) (l.length + 1) 0], 2, .rw⟩ = W := ⟨_, rfl⟩
        have wc : W[u.length]? = some ⟨[.int .i64 f, .slice (some ⟨h.length + (U.length + 1 + 2), 0, none⟩) (l.length + 1) 0], 2, .rw⟩ := by rw [← hW]; exact app_cell hC
        have wj : W[U.length + 1]? = some ⟨(stored f l d y).map iv, 1, .rw⟩ := by rw [← hW]; rw [app_new hC, stored, if_pos h3, List.map_append]; rfl
        have wl : (l.length + 1) = (stored f l d y).length := by rw [stored, if_pos h3, List.length_append]; rfl
        have sv : FI (h ++ [(⟨[.int .i64 f, .slice p l.length 0], 2, .rw⟩ : Blk), ⟨[.int .i64 0, .slice none 0 0], 2, .rw⟩]).length (h.length + (W.length + 2)) (h ++ [(⟨[.int .i64 f, .slice p l.length 0], 2, .rw⟩ : Blk), ⟨[.int .i64 0, .slice none 0 0], 2, .rw⟩] ++ W)
            (.slice (some ⟨h.length + (U.length + 1 + 2), 0, none⟩) (l.length + 1) 0) (stored f l d y) :=
          FI.at' wl (by simp) (by have := (List.getElem?_eq_some_iff.1 wj).1; omega) (by rw [List.append_assoc, hget_app]; exact wj)
        have sv' := sv.ai
        simp only [List.append_assoc, List.cons_append, List.nil_append] at sv'
        simp only [go_sem, Nat.reduceBEq, Nat.reduceAdd, Nat.reduceMul, Nat.reduceSub, Nat.reduceLeDiff, Nat.le_refl, implies_true, Nat.reduceLT, reduceIte, decide_true, decide_false, true_and, and_true, reduceCtorEq, Nat.mul_one, Int.reduceToNat, Int.reduceLE, Int.reduceLT, Int.reduceAdd, Int.reduceSub, Int.reduceMul, Int.cast_ofNat_Int, cast_zero_int, cast_one_int, Nat.reducePow, Nat.reduceEqDiff, Nat.reduceMod, Nat.zero_add, Nat.sub_zero, Nat.add_zero, hU, hW, wc]
        refine ⟨by kernel_rfl, (c_asArchive _ f (stored f l d y) ⟨_, rfl, sv'⟩ (by have := @stored_len f l d y; omega)).use (fun _ m => m) ?_⟩
        rintro _ _ ⟨rfl, ⟨t2, rfl⟩⟩
        by_cases h4 : arGood f (stored f l d y)
        · have hn : storeOk f l d y := ⟨h1, h2, h4⟩
          simp only [go_sem, Nat.reduceBEq, Nat.reduceAdd, Nat.reduceMul, Nat.reduceSub, Nat.reduceLeDiff, Nat.le_refl, implies_true, Nat.reduceLT, reduceIte, decide_true, decide_false, true_and, and_true, reduceCtorEq, Nat.mul_one, Int.reduceToNat, Int.reduceLE, Int.reduceLT, Int.reduceAdd, Int.reduceSub, Int.reduceMul, Int.cast_ofNat_Int, cast_zero_int, cast_one_int, Nat.reducePow, Nat.reduceEqDiff, Nat.reduceMod, Nat.zero_add, Nat.sub_zero, Nat.add_zero, if_pos h4, decb h4]
          refine ⟨_, by rw [decide_eq_true hn], _, by rw [if_pos hn], ?_⟩
          rw [if_pos hn]
          exact FI.swap (y := [_, _]) (FI.mono (h' := h ++ [(⟨[.int .i64 f, .slice p l.length 0], 2, .rw⟩ : Blk), ⟨[.int .i64 0, .slice none 0 0], 2, .rw⟩] ++ (W ++ t2)) sv (by simp)) rfl (by omega)
        · simp only [go_sem, Nat.reduceBEq, Nat.reduceAdd, Nat.reduceMul, Nat.reduceSub, Nat.reduceLeDiff, Nat.le_refl, implies_true, Nat.reduceLT, reduceIte, decide_true, decide_false, true_and, and_true, reduceCtorEq, Nat.mul_one, Int.reduceToNat, Int.reduceLE, Int.reduceLT, Int.reduceAdd, Int.reduceSub, Int.reduceMul, Int.cast_ofNat_Int, cast_zero_int, cast_one_int, Nat.reducePow, Nat.reduceEqDiff, Nat.reduceMod, Nat.zero_add, Nat.sub_zero, Nat.add_zero, if_neg h4, dect h4]
          exact bad (fun hh => h4 hh.2.2) _ _
      · obtain ⟨i, hi⟩ : ∃ i : Nat, d - f = i := ⟨(d - f).toNat, by omega⟩
        have e6 : IntKind.i64.wrap (d - f) = (i : Int) := by rw [wrap64 (by omega)]; exact hi
        simp only [go_sem, Nat.reduceBEq, Nat.reduceAdd, Nat.reduceMul, Nat.reduceSub, Nat.reduceLeDiff, Nat.le_refl, implies_true, Nat.reduceLT, reduceIte, decide_true, decide_false, true_and, and_true, reduceCtorEq, Nat.mul_one, Int.reduceToNat, Int.reduceLE, Int.reduceLT, Int.reduceAdd, Int.reduceSub, Int.reduceMul, Int.cast_ofNat_Int, cast_zero_int, cast_one_int, Nat.reducePow, Nat.reduceEqDiff, Nat.reduceMod, Nat.zero_add, Nat.sub_zero, Nat.add_zero, show (d == f + (l.length : Int)) = false by simpa using h3, hU, hC, hK, e6, show (i : Int) < l.length by omega, List.length_map, show i + 1 ≤ l.length by omega]
        obtain ⟨W, hW⟩ : ∃ W : Heap, U.set j ⟨setRange (l.map iv) i [.int .i64 y], 1, .rw⟩ = W := ⟨_, rfl⟩
        have wc : W[u.length]? = some ⟨[.int .i64 f, .slice (some ⟨h.length + (j + 2), 0, none⟩) (l.length) 0], 2, .rw⟩ := by rw [← hW]; rw [List.getElem?_set_ne (by omega)]; exact hC
        have wj : W[j]? = some ⟨(stored f l d y).map iv, 1, .rw⟩ := by rw [← hW]; rw [List.getElem?_set_self (by omega), stored, if_neg h3, hi, Int.toNat_natCast, set_iv (by omega)]
        have wl : (l.length) = (stored f l d y).length := by rw [stored, if_neg h3, List.length_set]
        have sv : FI (h ++ [(⟨[.int .i64 f, .slice p l.length 0], 2, .rw⟩ : Blk), ⟨[.int .i64 0, .slice none 0 0], 2, .rw⟩]).length (h.length + (W.length + 2)) (h ++ [(⟨[.int .i64 f, .slice p l.length 0], 2, .rw⟩ : Blk), ⟨[.int .i64 0, .slice none 0 0], 2, .rw⟩] ++ W)
            (.slice (some ⟨h.length + (j + 2), 0, none⟩) (l.length) 0) (stored f l d y) :=
          FI.at' wl (by simp) (by have := (List.getElem?_eq_some_iff.1 wj).1; omega) (by rw [List.append_assoc, hget_app]; exact wj)
        have sv' := sv.ai
        simp only [List.append_assoc, List.cons_append, List.nil_append] at sv'
        simp only [go_sem, Nat.reduceBEq, Nat.reduceAdd, Nat.reduceMul, Nat.reduceSub, Nat.reduceLeDiff, Nat.le_refl, implies_true, Nat.reduceLT, reduceIte, decide_true, decide_false, true_and, and_true, reduceCtorEq, Nat.mul_one, Int.reduceToNat, Int.reduceLE, Int.reduceLT, Int.reduceAdd, Int.reduceSub, Int.reduceMul, Int.cast_ofNat_Int, cast_zero_int, cast_one_int, Nat.reducePow, Nat.reduceEqDiff, Nat.reduceMod, Nat.zero_add, Nat.sub_zero, Nat.add_zero, hU, hW, wc]
        refine ⟨by kernel_rfl, (c_asArchive _ f (stored f l d y) ⟨_, rfl, sv'⟩ (by have := @stored_len f l d y; omega)).use (fun _ m => m) ?_⟩
        rintro _ _ ⟨rfl, ⟨t2, rfl⟩⟩
        by_cases h4 : arGood f (stored f l d y)
        · have hn : storeOk f l d y := ⟨h1, h2, h4⟩
          simp only [go_sem, Nat.reduceBEq, Nat.reduceAdd, Nat.reduceMul, Nat.reduceSub, Nat.reduceLeDiff, Nat.le_refl, implies_true, Nat.reduceLT, reduceIte, decide_true, decide_false, true_and, and_true, reduceCtorEq, Nat.mul_one, Int.reduceToNat, Int.reduceLE, Int.reduceLT, Int.reduceAdd, Int.reduceSub, Int.reduceMul, Int.cast_ofNat_Int, cast_zero_int, cast_one_int, Nat.reducePow, Nat.reduceEqDiff, Nat.reduceMod, Nat.zero_add, Nat.sub_zero, Nat.add_zero, if_pos h4, decb h4]
          refine ⟨_, by rw [decide_eq_true hn], _, by rw [if_pos hn], ?_⟩
          rw [if_pos hn]
          exact FI.swap (y := [_, _]) (FI.mono (h' := h ++ [(⟨[.int .i64 f, .slice p l.length 0], 2, .rw⟩ : Blk), ⟨[.int .i64 0, .slice none 0 0], 2, .rw⟩] ++ (W ++ t2)) sv (by simp)) rfl (by omega)
        · simp only [go_sem, Nat.reduceBEq, Nat.reduceAdd, Nat.reduceMul, Nat.reduceSub, Nat.reduceLeDiff, Nat.le_refl, implies_true, Nat.reduceLT, reduceIte, decide_true, decide_false, true_and, and_true, reduceCtorEq, Nat.mul_one, Int.reduceToNat, Int.reduceLE, Int.reduceLT, Int.reduceAdd, Int.reduceSub, Int.reduceMul, Int.cast_ofNat_Int, cast_zero_int, cast_one_int, Nat.reducePow, Nat.reduceEqDiff, Nat.reduceMod, Nat.zero_add, Nat.sub_zero, Nat.add_zero, if_neg h4, dect h4]
          exact bad (fun hh => h4 hh.2.2) _ _
    · simp only [go_sem, Nat.reduceBEq, Nat.reduceAdd, Nat.reduceMul, Nat.reduceSub, Nat.reduceLeDiff, Nat.le_refl, implies_true, Nat.reduceLT, reduceIte, decide_true, decide_false, true_and, and_true, reduceCtorEq, Nat.mul_one, Int.reduceToNat, Int.reduceLE, Int.reduceLT, Int.reduceAdd, Int.reduceSub, Int.reduceMul, Int.cast_ofNat_Int, cast_zero_int, cast_one_int, Nat.reducePow, Nat.reduceEqDiff, Nat.reduceMod, Nat.zero_add, Nat.sub_zero, Nat.add_zero, decb h1, dect h2]
      exact bad (fun hh => h2 hh.2.1) _ _
  · simp only [go_sem, Nat.reduceBEq, Nat.reduceAdd, Nat.reduceMul, Nat.reduceSub, Nat.reduceLeDiff, Nat.le_refl, implies_true, Nat.reduceLT, reduceIte, decide_true, decide_false, true_and, and_true, reduceCtorEq, Nat.mul_one, Int.reduceToNat, Int.reduceLE, Int.reduceLT, Int.reduceAdd, Int.reduceSub, Int.reduceMul, Int.cast_ofNat_Int, cast_zero_int, cast_one_int, Nat.reducePow, Nat.reduceEqDiff, Nat.reduceMod, Nat.zero_add, Nat.sub_zero, Nat.add_zero, dect h1]
    exact bad (fun hh => h1 hh.1) _ _

theorem c_sStoreValue {n : Nat} (v : Value) (f : Int) (l : List Int) (d y : Int) (s : AA n h v f l) (hmax : l.length ≤ 1048576) : vCall [] Try.prog M 33 [v, .int .i64 d, .int .i64 y] h (fun r h' =>
    (∃ w, r = .tuple #[w, .bool (decide (storeOk f l d y))] ∧ FA h.length h'.length h' w (if storeOk f l d y then f else 0) (if storeOk f l d y then stored f l d y else [])) ∧ h <+: h') := by
  obtain ⟨w, rfl, s'⟩ := id s
  obtain ⟨p, rfl⟩ := s'.len
  refine body_of mo Try.func33 rfl (by kernel_rfl) (Nat.le_of_ble_eq_true (by kernel_rfl)) rfl ?_
  simp only [go_sem, Nat.reduceBEq, Nat.reduceAdd, Nat.reduceMul, Nat.reduceSub, Nat.reduceLeDiff, Nat.le_refl, implies_true, Nat.reduceLT, reduceIte, decide_true, decide_false, true_and, and_true, reduceCtorEq, Nat.mul_one, Int.reduceToNat, Int.reduceLE, Int.reduceLT, Int.reduceAdd, Int.reduceSub, Int.reduceMul, Int.cast_ofNat_Int, cast_zero_int, cast_one_int, Nat.reducePow, Nat.reduceEqDiff, Nat.reduceMod, Nat.zero_add, Nat.sub_zero, Nat.add_zero]
  refine ⟨by kernel_rfl, (c_l26Good _ f l (s.mono (List.prefix_append _ _)) hmax).use (fun _ m => m) ?_⟩
  rintro _ _ ⟨rfl, ⟨t, rfl⟩⟩
  simp only [go_sem, Nat.reduceBEq, Nat.reduceAdd, Nat.reduceMul, Nat.reduceSub, Nat.reduceLeDiff, Nat.le_refl, implies_true, Nat.reduceLT, reduceIte, decide_true, decide_false, true_and, and_true, reduceCtorEq, Nat.mul_one, Int.reduceToNat, Int.reduceLE, Int.reduceLT, Int.reduceAdd, Int.reduceSub, Int.reduceMul, Int.cast_ofNat_Int, cast_zero_int, cast_one_int, Nat.reducePow, Nat.reduceEqDiff, Nat.reduceMod, Nat.zero_add, Nat.sub_zero, Nat.add_zero]
  have bad : ¬ storeOk f l d y → ∀ (m : Nat) (H : Heap), ∃ w, (Value.tuple #[Value.agg #[.int .i64 0, .slice none 0 0], .bool false]) = .tuple #[w, .bool (decide (storeOk f l d y))] ∧ FA h.length m H w (if storeOk f l d y then f else 0) (if storeOk f l d y then stored f l d y else []) := fun hn m H =>
    ⟨_, by rw [decide_eq_false hn], _, by rw [if_neg hn], by rw [if_neg hn]; exact .nil⟩
  by_cases h1 : arGood f l
  · obtain ⟨g1, g2, g3, g4⟩ := id h1
    have e4 : IntKind.i64.wrap (f + (l.length : Int)) = f + l.length := wrap64 (by omega)
    simp only [go_sem, Nat.reduceBEq, Nat.reduceAdd, Nat.reduceMul, Nat.reduceSub, Nat.reduceLeDiff, Nat.le_refl, implies_true, Nat.reduceLT, reduceIte, decide_true, decide_false, true_and, and_true, reduceCtorEq, Nat.mul_one, Int.reduceToNat, Int.reduceLE, Int.reduceLT, Int.reduceAdd, Int.reduceSub, Int.reduceMul, Int.cast_ofNat_Int, cast_zero_int, cast_one_int, Nat.reducePow, Nat.reduceEqDiff, Nat.reduceMod, Nat.zero_add, Nat.sub_zero, Nat.add_zero, decb h1, e4]
    refine ⟨by kernel_rfl, (c_l1In _ _ _).use (fun _ m => m) ?_⟩
    rintro _ _ ⟨rfl, rfl⟩
    simp only [go_sem, Nat.reduceBEq, Nat.reduceAdd, Nat.reduceMul, Nat.reduceSub, Nat.reduceLeDiff, Nat.le_refl, implies_true, Nat.reduceLT, reduceIte, decide_true, decide_false, true_and, and_true, reduceCtorEq, Nat.mul_one, Int.reduceToNat, Int.reduceLE, Int.reduceLT, Int.reduceAdd, Int.reduceSub, Int.reduceMul, Int.cast_ofNat_Int, cast_zero_int, cast_one_int, Nat.reducePow, Nat.reduceEqDiff, Nat.reduceMod, Nat.zero_add, Nat.sub_zero, Nat.add_zero]
    by_cases h2 : f ≤ d ∧ d ≤ f + l.length
    · simp only [go_sem, Nat.reduceBEq, Nat.reduceAdd, Nat.reduceMul, Nat.reduceSub, Nat.reduceLeDiff, Nat.le_refl, implies_true, Nat.reduceLT, reduceIte, decide_true, decide_false, true_and, and_true, reduceCtorEq, Nat.mul_one, Int.reduceToNat, Int.reduceLE, Int.reduceLT, Int.reduceAdd, Int.reduceSub, Int.reduceMul, Int.cast_ofNat_Int, cast_zero_int, cast_one_int, Nat.reducePow, Nat.reduceEqDiff, Nat.reduceMod, Nat.zero_add, Nat.sub_zero, Nat.add_zero, decb h1, decb h2]
      refine ⟨by kernel_rfl, (c_l1Own2 _ l (s'.mono (List.prefix_append _ _)) hmax).use (fun _ m => m) ?_⟩
      rintro _ _ ⟨u, j, rfl, hj, rfl, htu⟩
      have hju := (List.getElem?_eq_some_iff.1 hj).1
      obtain ⟨i, hi⟩ : ∃ i : Nat, d - f = i := ⟨(d - f).toNat, by omega⟩
      have e6 : IntKind.i64.wrap (d - f) = (i : Int) := by rw [wrap64 (by omega)]; exact hi
      simp only [go_sem, Nat.reduceBEq, Nat.reduceAdd, Nat.reduceMul, Nat.reduceSub, Nat.reduceLeDiff, Nat.le_refl, implies_true, Nat.reduceLT, reduceIte, decide_true, decide_false, true_and, and_true, reduceCtorEq, Nat.mul_one, Int.reduceToNat, Int.reduceLE, Int.reduceLT, Int.reduceAdd, Int.reduceSub, Int.reduceMul, Int.cast_ofNat_Int, cast_zero_int, cast_one_int, Nat.reducePow, Nat.reduceEqDiff, Nat.reduceMod, Nat.zero_add, Nat.sub_zero, Nat.add_zero, e6]
      have fin : ∀ (W : Heap) (J k : Nat), W[J]? = some ⟨(stored f l d y).map iv, 1, .rw⟩ → k = (stored f l d y).length → 
          FI (h ++ [(⟨[.int .i64 f, .slice p l.length 0], 2, .rw⟩ : Blk), ⟨[.int .i64 0, .slice none 0 0], 2, .rw⟩]).length (h.length + (W.length + 2)) (h ++ [(⟨[.int .i64 f, .slice p l.length 0], 2, .rw⟩ : Blk), ⟨[.int .i64 0, .slice none 0 0], 2, .rw⟩] ++ W)
            (.slice (some ⟨h.length + (J + 2), 0, none⟩) k 0) (stored f l d y) := fun W J k wj wl =>
        FI.at' wl (by simp) (by have := (List.getElem?_eq_some_iff.1 wj).1; omega) (by rw [List.append_assoc, hget_app]; exact wj)
      by_cases h3 : i < l.length
      · have h3' : ¬ d = f + l.length := by omega
        simp only [go_sem, Nat.reduceBEq, Nat.reduceAdd, Nat.reduceMul, Nat.reduceSub, Nat.reduceLeDiff, Nat.le_refl, implies_true, Nat.reduceLT, reduceIte, decide_true, decide_false, true_and, and_true, reduceCtorEq, Nat.mul_one, Int.reduceToNat, Int.reduceLE, Int.reduceLT, Int.reduceAdd, Int.reduceSub, Int.reduceMul, Int.cast_ofNat_Int, cast_zero_int, cast_one_int, Nat.reducePow, Nat.reduceEqDiff, Nat.reduceMod, Nat.zero_add, Nat.sub_zero, Nat.add_zero, show (i : Int) < l.length by omega, hj, List.length_map, show i + 1 ≤ l.length by omega]
        have wj : (u.set j ⟨setRange (l.map iv) i [.int .i64 y], 1, .rw⟩)[j]? = some ⟨(stored f l d y).map iv, 1, .rw⟩ := by
          rw [List.getElem?_set_self hju, stored, if_neg h3', hi, Int.toNat_natCast, set_iv h3]
        have sv := fin (u.set j ⟨setRange (l.map iv) i [.int .i64 y], 1, .rw⟩ ++ [(⟨[.int .i64 f, .slice (some ⟨h.length + (j + 2), 0, none⟩) l.length 0], 2, .rw⟩ : Blk)]) j l.length (app_old wj _) (by rw [stored, if_neg h3', List.length_set])
        have sv' := sv.ai
        simp only [List.append_assoc, List.cons_append, List.nil_append] at sv'
        refine ⟨by kernel_rfl, (c_l26Good _ f (stored f l d y) ⟨_, rfl, sv'⟩ (by have := @stored_len f l d y; omega)).use (fun _ m => m) ?_⟩
        rintro _ _ ⟨rfl, ⟨t2, rfl⟩⟩
        by_cases h4 : arGood f (stored f l d y)
        · have hn : storeOk f l d y := ⟨h1, h2, h4⟩
          have hx : ∀ t, ((u.set j ⟨setRange (l.map iv) i [.int .i64 y], 1, .rw⟩) ++ (⟨[.int .i64 f, .slice (some ⟨h.length + (j + 2), 0, none⟩) l.length 0], 2, .rw⟩ : Blk) :: t)[u.length]? = some (⟨[.int .i64 f, .slice (some ⟨h.length + (j + 2), 0, none⟩) l.length 0], 2, .rw⟩ : Blk) := fun t => by rw [List.getElem?_append_right (by simp), show u.length - ((u.set j ⟨setRange (l.map iv) i [.int .i64 y], 1, .rw⟩)).length = 0 by simp]; rfl
          simp only [go_sem, Nat.reduceBEq, Nat.reduceAdd, Nat.reduceMul, Nat.reduceSub, Nat.reduceLeDiff, Nat.le_refl, implies_true, Nat.reduceLT, reduceIte, decide_true, decide_false, true_and, and_true, reduceCtorEq, Nat.mul_one, Int.reduceToNat, Int.reduceLE, Int.reduceLT, Int.reduceAdd, Int.reduceSub, Int.reduceMul, Int.cast_ofNat_Int, cast_zero_int, cast_one_int, Nat.reducePow, Nat.reduceEqDiff, Nat.reduceMod, Nat.zero_add, Nat.sub_zero, Nat.add_zero, decb h4, hx]
          refine ⟨_, by rw [decide_eq_true hn], _, by rw [if_pos hn], ?_⟩
          rw [if_pos hn]
          exact FI.swap (x := [(⟨[.int .i64 f, .slice p l.length 0], 2, .rw⟩ : Blk), ⟨[.int .i64 0, .slice none 0 0], 2, .rw⟩]) (y := [_, _]) (FI.mono (h' := h ++ [(⟨[.int .i64 f, .slice p l.length 0], 2, .rw⟩ : Blk), ⟨[.int .i64 0, .slice none 0 0], 2, .rw⟩] ++ (u.set j ⟨setRange (l.map iv) i [.int .i64 y], 1, .rw⟩ ++ (⟨[.int .i64 f, .slice (some ⟨h.length + (j + 2), 0, none⟩) l.length 0], 2, .rw⟩ : Blk) :: t2)) sv (by simp)) rfl (by simp)
        · simp only [go_sem, Nat.reduceBEq, Nat.reduceAdd, Nat.reduceMul, Nat.reduceSub, Nat.reduceLeDiff, Nat.le_refl, implies_true, Nat.reduceLT, reduceIte, decide_true, decide_false, true_and, and_true, reduceCtorEq, Nat.mul_one, Int.reduceToNat, Int.reduceLE, Int.reduceLT, Int.reduceAdd, Int.reduceSub, Int.reduceMul, Int.cast_ofNat_Int, cast_zero_int, cast_one_int, Nat.reducePow, Nat.reduceEqDiff, Nat.reduceMod, Nat.zero_add, Nat.sub_zero, Nat.add_zero, dect h4]
          exact bad (fun hh => h4 hh.2.2) _ _
      · have h3' : d = f + l.length := by omega
        simp only [go_sem, Nat.reduceBEq, Nat.reduceAdd, Nat.reduceMul, Nat.reduceSub, Nat.reduceLeDiff, Nat.le_refl, implies_true, Nat.reduceLT, reduceIte, decide_true, decide_false, true_and, and_true, reduceCtorEq, Nat.mul_one, Int.reduceToNat, Int.reduceLE, Int.reduceLT, Int.reduceAdd, Int.reduceSub, Int.reduceMul, Int.cast_ofNat_Int, cast_zero_int, cast_one_int, Nat.reducePow, Nat.reduceEqDiff, Nat.reduceMod, Nat.zero_add, Nat.sub_zero, Nat.add_zero, show ¬ ((i : Int) < l.length) by omega, hj, app_old hj, List.length_map, show l.length ≤ 9223372036854775806 by omega, show (l.length + 1) * 8 ≤ 140737488355328 by omega]
        have wj : ((u ++ [(⟨[.int .i64 y], 1, .rw⟩ : Blk)]).set j ⟨l.map iv, 1, .dead⟩ ++ [(⟨l.map iv ++ [.int .i64 y], 1, .rw⟩ : Blk), (⟨[.int .i64 f, .slice (some ⟨h.length + (u.length + 1 + 1 + 1), 0, none⟩) (l.length + 1) 0], 2, .rw⟩ : Blk)])[u.length + 1]? = some ⟨(stored f l d y).map iv, 1, .rw⟩ := by
          rw [List.getElem?_append_right (by simp), List.length_set, List.length_append, List.length_singleton, Nat.sub_self, stored, if_pos h3', List.map_append]; rfl
        have sv := fin ((u ++ [(⟨[.int .i64 y], 1, .rw⟩ : Blk)]).set j ⟨l.map iv, 1, .dead⟩ ++ [(⟨l.map iv ++ [.int .i64 y], 1, .rw⟩ : Blk), (⟨[.int .i64 f, .slice (some ⟨h.length + (u.length + 1 + 1 + 1), 0, none⟩) (l.length + 1) 0], 2, .rw⟩ : Blk)]) (u.length + 1) (l.length + 1) wj (by rw [stored, if_pos h3', List.length_append]; rfl)
        have sv : FI _ _ _ (.slice (some ⟨h.length + (u.length + 1 + 1 + 1), 0, none⟩) (l.length + 1) 0) (stored f l d y) := sv
        have sv' := sv.ai
        simp only [List.append_assoc, List.cons_append, List.nil_append] at sv'
        refine ⟨by kernel_rfl, (c_l26Good _ f (stored f l d y) ⟨_, rfl, sv'⟩ (by have := @stored_len f l d y; omega)).use (fun _ m => m) ?_⟩
        rintro _ _ ⟨rfl, ⟨t2, rfl⟩⟩
        by_cases h4 : arGood f (stored f l d y)
        · have hn : storeOk f l d y := ⟨h1, h2, h4⟩
          have hx : ∀ t, ((u ++ [(⟨[.int .i64 y], 1, .rw⟩ : Blk)]).set j ⟨l.map iv, 1, .dead⟩ ++ (⟨l.map iv ++ [.int .i64 y], 1, .rw⟩ : Blk) :: (⟨[.int .i64 f, .slice (some ⟨h.length + (u.length + 1 + 1 + 1), 0, none⟩) (l.length + 1) 0], 2, .rw⟩ : Blk) :: t)[u.length + 1 + 1]? = some (⟨[.int .i64 f, .slice (some ⟨h.length + (u.length + 1 + 1 + 1), 0, none⟩) (l.length + 1) 0], 2, .rw⟩ : Blk) := fun t => by rw [List.getElem?_append_right (by simp), show u.length + 1 + 1 - ((u ++ [(⟨[.int .i64 y], 1, .rw⟩ : Blk)]).set j ⟨l.map iv, 1, .dead⟩).length = 1 by simp]; rfl
          simp only [go_sem, Nat.reduceBEq, Nat.reduceAdd, Nat.reduceMul, Nat.reduceSub, Nat.reduceLeDiff, Nat.le_refl, implies_true, Nat.reduceLT, reduceIte, decide_true, decide_false, true_and, and_true, reduceCtorEq, Nat.mul_one, Int.reduceToNat, Int.reduceLE, Int.reduceLT, Int.reduceAdd, Int.reduceSub, Int.reduceMul, Int.cast_ofNat_Int, cast_zero_int, cast_one_int, Nat.reducePow, Nat.reduceEqDiff, Nat.reduceMod, Nat.zero_add, Nat.sub_zero, Nat.add_zero, decb h4, hx]
          refine ⟨_, by rw [decide_eq_true hn], _, by rw [if_pos hn], ?_⟩
          rw [if_pos hn]
          exact FI.swap (x := [(⟨[.int .i64 f, .slice p l.length 0], 2, .rw⟩ : Blk), ⟨[.int .i64 0, .slice none 0 0], 2, .rw⟩]) (y := [_, _]) (FI.mono (h' := h ++ [(⟨[.int .i64 f, .slice p l.length 0], 2, .rw⟩ : Blk), ⟨[.int .i64 0, .slice none 0 0], 2, .rw⟩] ++ ((u ++ [(⟨[.int .i64 y], 1, .rw⟩ : Blk)]).set j ⟨l.map iv, 1, .dead⟩ ++ (⟨l.map iv ++ [.int .i64 y], 1, .rw⟩ : Blk) :: (⟨[.int .i64 f, .slice (some ⟨h.length + (u.length + 1 + 1 + 1), 0, none⟩) (l.length + 1) 0], 2, .rw⟩ : Blk) :: t2)) sv (by simp)) rfl (by simp)
        · simp only [go_sem, Nat.reduceBEq, Nat.reduceAdd, Nat.reduceMul, Nat.reduceSub, Nat.reduceLeDiff, Nat.le_refl, implies_true, Nat.reduceLT, reduceIte, decide_true, decide_false, true_and, and_true, reduceCtorEq, Nat.mul_one, Int.reduceToNat, Int.reduceLE, Int.reduceLT, Int.reduceAdd, Int.reduceSub, Int.reduceMul, Int.cast_ofNat_Int, cast_zero_int, cast_one_int, Nat.reducePow, Nat.reduceEqDiff, Nat.reduceMod, Nat.zero_add, Nat.sub_zero, Nat.add_zero, dect h4]
          exact bad (fun hh => h4 hh.2.2) _ _
    · simp only [go_sem, Nat.reduceBEq, Nat.reduceAdd, Nat.reduceMul, Nat.reduceSub, Nat.reduceLeDiff, Nat.le_refl, implies_true, Nat.reduceLT, reduceIte, decide_true, decide_false, true_and, and_true, reduceCtorEq, Nat.mul_one, Int.reduceToNat, Int.reduceLE, Int.reduceLT, Int.reduceAdd, Int.reduceSub, Int.reduceMul, Int.cast_ofNat_Int, cast_zero_int, cast_one_int, Nat.reducePow, Nat.reduceEqDiff, Nat.reduceMod, Nat.zero_add, Nat.sub_zero, Nat.add_zero, decb h1, dect h2]
      exact bad (fun hh => h2 hh.2.1) _ _
  · simp only [go_sem, Nat.reduceBEq, Nat.reduceAdd, Nat.reduceMul, Nat.reduceSub, Nat.reduceLeDiff, Nat.le_refl, implies_true, Nat.reduceLT, reduceIte, decide_true, decide_false, true_and, and_true, reduceCtorEq, Nat.mul_one, Int.reduceToNat, Int.reduceLE, Int.reduceLT, Int.reduceAdd, Int.reduceSub, Int.reduceMul, Int.cast_ofNat_Int, cast_zero_int, cast_one_int, Nat.reducePow, Nat.reduceEqDiff, Nat.reduceMod, Nat.zero_add, Nat.sub_zero, Nat.add_zero, dect h1]
    exact bad (fun hh => h1 hh.1) _ _

end


end Go.Proofs.Ytjgekhahklidcaa
