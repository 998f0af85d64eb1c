
/- Archives joined. No condition. -/
import Derived.Test.YtjgekhahklidcaaStoreValue
namespace Go.Proofs.Ytjgekhahklidcaa
open Go.HH
set_option linter.unusedSimpArgs false
set_option linter.unusedVariables false

def joinOk (f : Int) (l : List Int) (g : Int) (m : List Int) : Prop := arGood f l ∧ arGood g m ∧ g = f + l.length ∧ arGood f (l ++ m)
instance {f : Int} {l : List Int} {g : Int} {m : List Int} : Decidable (joinOk f l g m) := by unfold joinOk; infer_instance
def joinF (f : Int) (l : List Int) (g : Int) (m : List Int) : Int := if joinOk f l g m then f else 0
def joinL (f : Int) (l : List Int) (g : Int) (m : List Int) : List Int := if joinOk f l g m then l ++ m else []
theorem joinL_len {f : Int} {l : List Int} {g : Int} {m : List Int} : (joinL f l g m).length ≤ 1048576 := by
  unfold joinL
  split
  · rename_i h; have := h.2.2.2.2.1; omega
  · simp

section
variable {h : Heap} {M : Nat → Prop}

theorem c_JoinArchives {n n' : Nat} (v w : Value) (f : Int) (l : List Int) (g : Int) (m : List Int) (s : AA n h v f l) (s' : AA n' h w g m) (hmax : l.length ≤ 1048576) (hmax' : m.length ≤ 1048576) :
    vCall [] Try.prog M 10 [v, w] h (fun r h' => (∃ w, r = .tuple #[w, .bool (decide (joinOk f l g m))] ∧ FA h.length h'.length h' w (joinF f l g m) (joinL f l g m)) ∧ h <+: h') := by
  obtain ⟨v, rfl, q⟩ := id s
  obtain ⟨p, rfl⟩ := q.len
  obtain ⟨w, rfl, q'⟩ := id s'
  obtain ⟨p', rfl⟩ := q'.len
  refine body_ofR ([(3,[1])]) mo Try.func10 rfl (by kernel_rfl) (Nat.le_of_ble_eq_true (by kernel_rfl)) rfl ?_
  simp only [go_sem, Nat.reduceBEq, Nat.reduceAdd, Nat.reduceMul, Nat.reduceSub, Nat.reduceLeDiff, Nat.le_refl, implies_true, Nat.reduceLT, reduceIte, decide_true, decide_false, true_and, and_true, reduceCtorEq, Nat.mul_one, Int.reduceToNat, Int.reduceLE, Int.reduceLT, Int.reduceAdd, Int.reduceSub, Int.reduceMul, Int.cast_ofNat_Int, cast_zero_int, cast_one_int, Nat.reducePow, Nat.reduceEqDiff, Nat.reduceMod, Nat.zero_add, Nat.sub_zero, Nat.add_zero]
  have bad : ¬ joinOk f l g m → ∀ (k : Nat) (H : Heap), ∃ w, (Value.tuple #[Value.agg #[.int .i64 0, .slice none 0 0], .bool false]) = .tuple #[w, .bool (decide (joinOk f l g m))] ∧ FA h.length k H w (joinF f l g m) (joinL f l g m) := fun hn k H =>
    ⟨_, by rw [decide_eq_false hn], _, by rw [joinF, if_neg hn], by rw [joinL, if_neg hn]; exact .nil⟩
  refine ⟨by kernel_rfl, (c_IsValidArchive _ f l (s.mono (by simp)) hmax).use (fun _ m => m) ?_⟩
  rintro _ _ ⟨rfl, ⟨t, rfl⟩⟩
  simp only [go_sem, Nat.reduceBEq, Nat.reduceAdd, Nat.reduceMul, Nat.reduceSub, Nat.reduceLeDiff, Nat.le_refl, implies_true, Nat.reduceLT, reduceIte, decide_true, decide_false, true_and, and_true, reduceCtorEq, Nat.mul_one, Int.reduceToNat, Int.reduceLE, Int.reduceLT, Int.reduceAdd, Int.reduceSub, Int.reduceMul, Int.cast_ofNat_Int, cast_zero_int, cast_one_int, Nat.reducePow, Nat.reduceEqDiff, Nat.reduceMod, Nat.zero_add, Nat.sub_zero, Nat.add_zero]
  by_cases h1 : arGood f l
  · simp only [go_sem, Nat.reduceBEq, Nat.reduceAdd, Nat.reduceMul, Nat.reduceSub, Nat.reduceLeDiff, Nat.le_refl, implies_true, Nat.reduceLT, reduceIte, decide_true, decide_false, true_and, and_true, reduceCtorEq, Nat.mul_one, Int.reduceToNat, Int.reduceLE, Int.reduceLT, Int.reduceAdd, Int.reduceSub, Int.reduceMul, Int.cast_ofNat_Int, cast_zero_int, cast_one_int, Nat.reducePow, Nat.reduceEqDiff, Nat.reduceMod, Nat.zero_add, Nat.sub_zero, Nat.add_zero, decb h1]
    refine ⟨by kernel_rfl, (c_IsValidArchive _ g m (s'.mono (by simp)) hmax').use (fun _ m => m) ?_⟩
    rintro _ _ ⟨rfl, ⟨t2, rfl⟩⟩
    obtain ⟨_, hl30, g3, g4⟩ := id h1
    have e4 : IntKind.i64.wrap (f + (l.length : Int)) = f + l.length := wrap64 (by omega)
    by_cases h2 : arGood g m
    · have hm30 := h2.2.1
      by_cases h3 : g = f + l.length
      · simp only [go_sem, Nat.reduceBEq, Nat.reduceAdd, Nat.reduceMul, Nat.reduceSub, Nat.reduceLeDiff, Nat.le_refl, implies_true, Nat.reduceLT, reduceIte, decide_true, decide_false, true_and, and_true, reduceCtorEq, Nat.mul_one, Int.reduceToNat, Int.reduceLE, Int.reduceLT, Int.reduceAdd, Int.reduceSub, Int.reduceMul, Int.cast_ofNat_Int, cast_zero_int, cast_one_int, Nat.reducePow, Nat.reduceEqDiff, Nat.reduceMod, Nat.zero_add, Nat.sub_zero, Nat.add_zero, decb h1, decb h2, e4, show (g != f + (l.length : Int)) = false by simpa using h3]
        refine ⟨by kernel_rfl, (c_copyInts _ l (q.mono (by simp)) hmax).use (fun _ m => m) ?_⟩
        rintro _ _ ⟨u, j, rfl, hj, rfl⟩
        obtain ⟨j', ej, hj'⟩ := OF.of (h := h) (x := [_, _, _]) (t := t ++ t2) rfl rfl hj
        simp only [List.cons_append, List.nil_append] at ej
        rw [ej]
        simp only [List.append_assoc] at hj'
        by_cases h0 : m.length = 0
        · obtain rfl : m = [] := List.length_eq_zero_iff.1 h0
          have of : OF h.length 3 (t ++ (t2 ++ u)) (.slice (some ⟨h.length + (j' + 3), 0, none⟩) l.length 0) (l ++ []) := .mk' j' rfl (by simp) (by rw [List.append_nil]; exact hj')
          simp only [go_sem, Nat.reduceBEq, Nat.reduceAdd, Nat.reduceMul, Nat.reduceSub, Nat.reduceLeDiff, Nat.le_refl, implies_true, Nat.reduceLT, reduceIte, decide_true, decide_false, true_and, and_true, reduceCtorEq, Nat.mul_one, Int.reduceToNat, Int.reduceLE, Int.reduceLT, Int.reduceAdd, Int.reduceSub, Int.reduceMul, Int.cast_ofNat_Int, cast_zero_int, cast_one_int, Nat.reducePow, Nat.reduceEqDiff, Nat.reduceMod, Nat.zero_add, Nat.sub_zero, Nat.add_zero, List.length_nil]
          have sv := OF.ai [⟨[.int .i64 f, .slice p l.length 0], 2, .rw⟩, ⟨[.int .i64 g, .slice p' 0 0], 2, .rw⟩, ⟨[.int .i64 0, .slice none 0 0], 2, .rw⟩] of rfl
          simp only [List.append_assoc, List.cons_append, List.nil_append] at sv
          refine ⟨by kernel_rfl, (c_asArchive _ f (l ++ []) ⟨_, rfl, sv⟩ (by simp; omega)).use (fun _ m => m) ?_⟩
          rintro _ _ ⟨rfl, ⟨t3, rfl⟩⟩
          have hn : joinOk f l g [] := ⟨h1, h2, h3, by rw [List.append_nil]; exact h1⟩
          simp only [go_sem, Nat.reduceBEq, Nat.reduceAdd, Nat.reduceMul, Nat.reduceSub, Nat.reduceLeDiff, Nat.le_refl, implies_true, Nat.reduceLT, reduceIte, decide_true, decide_false, true_and, and_true, reduceCtorEq, Nat.mul_one, Int.reduceToNat, Int.reduceLE, Int.reduceLT, Int.reduceAdd, Int.reduceSub, Int.reduceMul, Int.cast_ofNat_Int, cast_zero_int, cast_one_int, Nat.reducePow, Nat.reduceEqDiff, Nat.reduceMod, Nat.zero_add, Nat.sub_zero, Nat.add_zero, if_pos h1, decb h1, own_app, List.append_nil]
          refine ⟨_, by rw [decide_eq_true hn], _, by rw [joinF, if_pos hn], ?_⟩
          rw [joinL, if_pos hn]
          have of2 := of.mono t3
          simp only [List.append_assoc, List.cons_append, List.nil_append] at of2
          exact OF.fix [_, _, _] of2 rfl (by omega) (by simp <;> omega)
        · obtain ⟨id, o, k, hv, _, hk, _, hd, _, hb, hc, _⟩ := q'.at (by omega)
          obtain rfl : p' = some ⟨id, o, none⟩ := by simpa using hv
          have hp : 0 < m.length := by omega
          have hall : ((m.map iv).all oneC) = true := by rw [List.all_eq_true]; intro x hx; obtain ⟨y, _, rfl⟩ := List.mem_map.1 hx; rfl
          have of : OF h.length 3 ((t ++ (t2 ++ u)).set j' ⟨l.map iv, 1, .dead⟩ ++ [⟨l.map iv ++ m.map iv, 1, .rw⟩]) (.slice (some ⟨h.length + (t.length + (t2.length + u.length) + 1 + 1 + 1), 0, none⟩) (l.length + m.length) 0) (l ++ m) :=
            .mk' (t.length + (t2.length + u.length)) rfl (by simp) ((new_at (by simp)).trans (by simp))
          simp only [go_sem, Nat.reduceBEq, Nat.reduceAdd, Nat.reduceMul, Nat.reduceSub, Nat.reduceLeDiff, Nat.le_refl, implies_true, Nat.reduceLT, reduceIte, decide_true, decide_false, true_and, and_true, reduceCtorEq, Nat.mul_one, Int.reduceToNat, Int.reduceLE, Int.reduceLT, Int.reduceAdd, Int.reduceSub, Int.reduceMul, Int.cast_ofNat_Int, cast_zero_int, cast_one_int, Nat.reducePow, Nat.reduceEqDiff, Nat.reduceMod, Nat.zero_add, Nat.sub_zero, Nat.add_zero, onApp_more hp, hj', hk, hd, hb, hc, hp, hall, List.length_map, own_app]
          refine ⟨by omega, by omega, ?_⟩
          have sv := OF.ai [⟨[.int .i64 f, .slice p l.length 0], 2, .rw⟩, ⟨[.int .i64 g, .slice (some ⟨id, o, none⟩) m.length 0], 2, .rw⟩, ⟨[.int .i64 0, .slice none 0 0], 2, .rw⟩] of rfl
          simp only [List.append_assoc, List.cons_append, List.nil_append] at sv
          refine ⟨by kernel_rfl, (c_asArchive _ f (l ++ m) ⟨_, rfl, sv⟩ (by simp; omega)).use (fun _ m => m) ?_⟩
          rintro _ _ ⟨rfl, ⟨t3, rfl⟩⟩
          by_cases h4 : arGood f (l ++ m)
          · have hn : joinOk f l g m := ⟨h1, h2, h3, h4⟩
            simp only [go_sem, Nat.reduceBEq, Nat.reduceAdd, Nat.reduceMul, Nat.reduceSub, Nat.reduceLeDiff, Nat.le_refl, implies_true, Nat.reduceLT, reduceIte, decide_true, decide_false, true_and, and_true, reduceCtorEq, Nat.mul_one, Int.reduceToNat, Int.reduceLE, Int.reduceLT, Int.reduceAdd, Int.reduceSub, Int.reduceMul, Int.cast_ofNat_Int, cast_zero_int, cast_one_int, Nat.reducePow, Nat.reduceEqDiff, Nat.reduceMod, Nat.zero_add, Nat.sub_zero, Nat.add_zero, if_pos h4, decb h4, own_app]
            refine ⟨_, by rw [decide_eq_true hn], _, by rw [joinF, if_pos hn], ?_⟩
            rw [joinL, if_pos hn]
            have of2 := of.mono t3
            simp only [List.append_assoc, List.cons_append, List.nil_append] at of2
            exact OF.fix [_, _, _] of2 rfl (by omega) (by simp <;> omega)
          · simp only [go_sem, Nat.reduceBEq, Nat.reduceAdd, Nat.reduceMul, Nat.reduceSub, Nat.reduceLeDiff, Nat.le_refl, implies_true, Nat.reduceLT, reduceIte, decide_true, decide_false, true_and, and_true, reduceCtorEq, Nat.mul_one, Int.reduceToNat, Int.reduceLE, Int.reduceLT, Int.reduceAdd, Int.reduceSub, Int.reduceMul, Int.cast_ofNat_Int, cast_zero_int, cast_one_int, Nat.reducePow, Nat.reduceEqDiff, Nat.reduceMod, Nat.zero_add, Nat.sub_zero, Nat.add_zero, if_neg h4, dect h4, own_app]
            exact bad (fun hh => h4 hh.2.2.2) _ _
      · simp only [go_sem, Nat.reduceBEq, Nat.reduceAdd, Nat.reduceMul, Nat.reduceSub, Nat.reduceLeDiff, Nat.le_refl, implies_true, Nat.reduceLT, reduceIte, decide_true, decide_false, true_and, and_true, reduceCtorEq, Nat.mul_one, Int.reduceToNat, Int.reduceLE, Int.reduceLT, Int.reduceAdd, Int.reduceSub, Int.reduceMul, Int.cast_ofNat_Int, cast_zero_int, cast_one_int, Nat.reducePow, Nat.reduceEqDiff, Nat.reduceMod, Nat.zero_add, Nat.sub_zero, Nat.add_zero, decb h1, decb h2, e4, show (g != f + (l.length : Int)) = true by simpa using h3]
        exact bad (fun hh => h3 hh.2.2.1) _ _
    · simp only [go_sem, Nat.reduceBEq, Nat.reduceAdd, Nat.reduceMul, Nat.reduceSub, Nat.reduceLeDiff, Nat.le_refl, implies_true, Nat.reduceLT, reduceIte, decide_true, decide_false, true_and, and_true, reduceCtorEq, Nat.mul_one, Int.reduceToNat, Int.reduceLE, Int.reduceLT, Int.reduceAdd, Int.reduceSub, Int.reduceMul, Int.cast_ofNat_Int, cast_zero_int, cast_one_int, Nat.reducePow, Nat.reduceEqDiff, Nat.reduceMod, Nat.zero_add, Nat.sub_zero, Nat.add_zero, decb h1, dect h2]
      exact bad (fun hh => h2 hh.2.1) _ _
  · simp only [go_sem, Nat.reduceBEq, Nat.reduceAdd, Nat.reduceMul, Nat.reduceSub, Nat.reduceLeDiff, Nat.le_refl, implies_true, Nat.reduceLT, reduceIte, decide_true, decide_false, true_and, and_true, reduceCtorEq, Nat.mul_one, Int.reduceToNat, Int.reduceLE, Int.reduceLT, Int.reduceAdd, Int.reduceSub, Int.reduceMul, Int.cast_ofNat_Int, cast_zero_int, cast_one_int, Nat.reducePow, Nat.reduceEqDiff, Nat.reduceMod, Nat.zero_add, Nat.sub_zero, Nat.add_zero, dect h1]
    exact bad (fun hh => h1 hh.1) _ _

theorem c_sJoinArchives {n n' : Nat} (v w : Value) (f : Int) (l : List Int) (g : Int) (m : List Int) (s : AA n h v f l) (s' : AA n' h w g m) (hmax : l.length ≤ 1048576) (hmax' : m.length ≤ 1048576) :
    vCall [] Try.prog M 8 [v, w] h (fun r h' => (∃ w, r = .tuple #[w, .bool (decide (joinOk f l g m))] ∧ FA h.length h'.length h' w (joinF f l g m) (joinL f l g m)) ∧ h <+: h') := by
  obtain ⟨v, rfl, q⟩ := id s
  obtain ⟨p, rfl⟩ := q.len
  obtain ⟨w, rfl, q'⟩ := id s'
  obtain ⟨p', rfl⟩ := q'.len
  refine body_ofR ([(3,[1])]) mo Try.func8 rfl (by kernel_rfl) (Nat.le_of_ble_eq_true (by kernel_rfl)) rfl ?_
  simp only [go_sem, Nat.reduceBEq, Nat.reduceAdd, Nat.reduceMul, Nat.reduceSub, Nat.reduceLeDiff, Nat.le_refl, implies_true, Nat.reduceLT, reduceIte, decide_true, decide_false, true_and, and_true, reduceCtorEq, Nat.mul_one, Int.reduceToNat, Int.reduceLE, Int.reduceLT, Int.reduceAdd, Int.reduceSub, Int.reduceMul, Int.cast_ofNat_Int, cast_zero_int, cast_one_int, Nat.reducePow, Nat.reduceEqDiff, Nat.reduceMod, Nat.zero_add, Nat.sub_zero, Nat.add_zero]
  have bad : ¬ joinOk f l g m → ∀ (k : Nat) (H : Heap), ∃ w, (Value.tuple #[Value.agg #[.int .i64 0, .slice none 0 0], .bool false]) = .tuple #[w, .bool (decide (joinOk f l g m))] ∧ FA h.length k H w (joinF f l g m) (joinL f l g m) := fun hn k H =>
    ⟨_, by rw [decide_eq_false hn], _, by rw [joinF, if_neg hn], by rw [joinL, if_neg hn]; exact .nil⟩
  refine ⟨by kernel_rfl, (c_l26Good _ f l (s.mono (by simp)) hmax).use (fun _ m => m) ?_⟩
  rintro _ _ ⟨rfl, ⟨t, rfl⟩⟩
  simp only [go_sem, Nat.reduceBEq, Nat.reduceAdd, Nat.reduceMul, Nat.reduceSub, Nat.reduceLeDiff, Nat.le_refl, implies_true, Nat.reduceLT, reduceIte, decide_true, decide_false, true_and, and_true, reduceCtorEq, Nat.mul_one, Int.reduceToNat, Int.reduceLE, Int.reduceLT, Int.reduceAdd, Int.reduceSub, Int.reduceMul, Int.cast_ofNat_Int, cast_zero_int, cast_one_int, Nat.reducePow, Nat.reduceEqDiff, Nat.reduceMod, Nat.zero_add, Nat.sub_zero, Nat.add_zero]
  by_cases h1 : arGood f l
  · simp only [go_sem, Nat.reduceBEq, Nat.reduceAdd, Nat.reduceMul, Nat.reduceSub, Nat.reduceLeDiff, Nat.le_refl, implies_true, Nat.reduceLT, reduceIte, decide_true, decide_false, true_and, and_true, reduceCtorEq, Nat.mul_one, Int.reduceToNat, Int.reduceLE, Int.reduceLT, Int.reduceAdd, Int.reduceSub, Int.reduceMul, Int.cast_ofNat_Int, cast_zero_int, cast_one_int, Nat.reducePow, Nat.reduceEqDiff, Nat.reduceMod, Nat.zero_add, Nat.sub_zero, Nat.add_zero, decb h1]
    refine ⟨by kernel_rfl, (c_l26Good _ g m (s'.mono (by simp)) hmax').use (fun _ m => m) ?_⟩
    rintro _ _ ⟨rfl, ⟨t2, rfl⟩⟩
    obtain ⟨_, hl30, g3, g4⟩ := id h1
    have e4 : IntKind.i64.wrap (f + (l.length : Int)) = f + l.length := wrap64 (by omega)
    by_cases h2 : arGood g m
    · have hm30 := h2.2.1
      by_cases h3 : g = f + l.length
      · simp only [go_sem, Nat.reduceBEq, Nat.reduceAdd, Nat.reduceMul, Nat.reduceSub, Nat.reduceLeDiff, Nat.le_refl, implies_true, Nat.reduceLT, reduceIte, decide_true, decide_false, true_and, and_true, reduceCtorEq, Nat.mul_one, Int.reduceToNat, Int.reduceLE, Int.reduceLT, Int.reduceAdd, Int.reduceSub, Int.reduceMul, Int.cast_ofNat_Int, cast_zero_int, cast_one_int, Nat.reducePow, Nat.reduceEqDiff, Nat.reduceMod, Nat.zero_add, Nat.sub_zero, Nat.add_zero, decb h1, decb h2, e4, show (g != f + (l.length : Int)) = false by simpa using h3]
        refine ⟨by kernel_rfl, (c_l1Own _ l (q.mono (by simp)) hmax).use (fun _ m => m) ?_⟩
        rintro _ _ ⟨u, j, rfl, hj, rfl⟩
        obtain ⟨j', ej, hj'⟩ := OF.of (h := h) (x := [⟨[.int .i64 f, .slice p l.length 0], 2, .rw⟩, ⟨[.int .i64 g, .slice p' m.length 0], 2, .rw⟩, ⟨[.int .i64 0, .slice none 0 0], 2, .rw⟩]) (t := t ++ (t2 ++ [⟨[.int .i64 0, .slice none 0 0], 2, .rw⟩])) rfl rfl hj
        simp only [List.cons_append, List.nil_append, List.append_assoc] at ej hj'
        simp only [List.append_assoc, List.cons_append, List.nil_append]
        rw [ej]
        obtain ⟨U, hU⟩ : ∃ U : Heap, t ++ (t2 ++ ⟨[.int .i64 0, .slice none 0 0], 2, .rw⟩ :: u) = U := ⟨_, rfl⟩
        rw [hU] at hj'
        have hz : U[t.length + t2.length]? = some ⟨[.int .i64 0, .slice none 0 0], 2, .rw⟩ := by
          rw [← hU, List.getElem?_append_right (by omega), Nat.add_sub_cancel_left, List.getElem?_append_right (by omega), Nat.sub_self]; rfl
        simp only [go_sem, Nat.reduceBEq, Nat.reduceAdd, Nat.reduceMul, Nat.reduceSub, Nat.reduceLeDiff, Nat.le_refl, implies_true, Nat.reduceLT, reduceIte, decide_true, decide_false, true_and, and_true, reduceCtorEq, Nat.mul_one, Int.reduceToNat, Int.reduceLE, Int.reduceLT, Int.reduceAdd, Int.reduceSub, Int.reduceMul, Int.cast_ofNat_Int, cast_zero_int, cast_one_int, Nat.reducePow, Nat.reduceEqDiff, Nat.reduceMod, Nat.zero_add, Nat.sub_zero, Nat.add_zero, hU]
        refine ⟨⟨u, by rw [← hU]; simp⟩, ?_⟩
        have hju := (List.getElem?_eq_some_iff.1 hj').1
        have hzu := (List.getElem?_eq_some_iff.1 hz).1
        have hjz : j' ≠ t.length + t2.length := fun hh => by rw [hh, hz] at hj'; simp at hj'
        by_cases h0 : m.length = 0
        · obtain rfl : m = [] := List.length_eq_zero_iff.1 h0
          simp only [go_sem, Nat.reduceBEq, Nat.reduceAdd, Nat.reduceMul, Nat.reduceSub, Nat.reduceLeDiff, Nat.le_refl, implies_true, Nat.reduceLT, reduceIte, decide_true, decide_false, true_and, and_true, reduceCtorEq, Nat.mul_one, Int.reduceToNat, Int.reduceLE, Int.reduceLT, Int.reduceAdd, Int.reduceSub, Int.reduceMul, Int.cast_ofNat_Int, cast_zero_int, cast_one_int, Nat.reducePow, Nat.reduceEqDiff, Nat.reduceMod, Nat.zero_add, Nat.sub_zero, Nat.add_zero, hU, hz, List.length_nil]
          obtain ⟨W, hW⟩ : ∃ W : Heap, U.set (t.length + t2.length) ⟨[.int .i64 f, .slice (some ⟨h.length + (j' + 3), 0, none⟩) l.length 0], 2, .rw⟩ = W := ⟨_, rfl⟩
          have wz : W[t.length + t2.length]? = some ⟨[.int .i64 f, .slice (some ⟨h.length + (j' + 3), 0, none⟩) l.length 0], 2, .rw⟩ := by rw [← hW, List.getElem?_set_self hzu]
          have of : OF h.length 3 W (.slice (some ⟨h.length + (j' + 3), 0, none⟩) l.length 0) (l ++ []) := .mk' j' rfl (by simp) (by rw [← hW, List.getElem?_set_ne (by omega), List.append_nil]; exact hj')
          have sv := OF.ai [⟨[.int .i64 f, .slice p l.length 0], 2, .rw⟩, ⟨[.int .i64 g, .slice p' 0 0], 2, .rw⟩, ⟨[.int .i64 0, .slice none 0 0], 2, .rw⟩] of rfl
          simp only [List.append_assoc, List.cons_append, List.nil_append] at sv
          simp only [go_sem, Nat.reduceBEq, Nat.reduceAdd, Nat.reduceMul, Nat.reduceSub, Nat.reduceLeDiff, Nat.le_refl, implies_true, Nat.reduceLT, reduceIte, decide_true, decide_false, true_and, and_true, reduceCtorEq, Nat.mul_one, Int.reduceToNat, Int.reduceLE, Int.reduceLT, Int.reduceAdd, Int.reduceSub, Int.reduceMul, Int.cast_ofNat_Int, cast_zero_int, cast_one_int, Nat.reducePow, Nat.reduceEqDiff, Nat.reduceMod, Nat.zero_add, Nat.sub_zero, Nat.add_zero, hU, hW, wz]
          refine ⟨by kernel_rfl, (c_l26Good _ f (l ++ []) ⟨_, rfl, sv⟩ (by simp <;> omega)).use (fun _ m => m) ?_⟩
          rintro _ _ ⟨rfl, ⟨t3, rfl⟩⟩
          have hn : joinOk f l g [] := ⟨h1, h2, h3, by rw [List.append_nil]; exact h1⟩
          simp only [go_sem, Nat.reduceBEq, Nat.reduceAdd, Nat.reduceMul, Nat.reduceSub, Nat.reduceLeDiff, Nat.le_refl, implies_true, Nat.reduceLT, reduceIte, decide_true, decide_false, true_and, and_true, reduceCtorEq, Nat.mul_one, Int.reduceToNat, Int.reduceLE, Int.reduceLT, Int.reduceAdd, Int.reduceSub, Int.reduceMul, Int.cast_ofNat_Int, cast_zero_int, cast_one_int, Nat.reducePow, Nat.reduceEqDiff, Nat.reduceMod, Nat.zero_add, Nat.sub_zero, Nat.add_zero, decb h1, own_app, List.append_nil, app_old wz]
          refine ⟨_, by rw [decide_eq_true hn], _, by rw [joinF, if_pos hn], ?_⟩
          rw [joinL, if_pos hn]
          have of2 := of.mono t3
          try simp only [List.append_assoc, List.cons_append, List.nil_append] at of2
          exact OF.fix [_, _, _] of2 rfl (by omega) (by simp <;> omega)
        · obtain ⟨id, o, k, hv, _, hk, _, hd, _, hb, hc, _⟩ := q'.at (by omega)
          obtain rfl : p' = some ⟨id, o, none⟩ := by simpa using hv
          have hp : 0 < m.length := by omega
          have hall : ((m.map iv).all oneC) = true := by rw [List.all_eq_true]; intro x hx; obtain ⟨y, _, rfl⟩ := List.mem_map.1 hx; rfl
          have hkz : ∀ b y, (U.set j' b ++ y)[t.length + t2.length]? = some ⟨[.int .i64 0, .slice none 0 0], 2, .rw⟩ := fun b y => by rw [List.getElem?_append_left (by simp; omega), List.getElem?_set_ne hjz]; exact hz
          simp only [go_sem, Nat.reduceBEq, Nat.reduceAdd, Nat.reduceMul, Nat.reduceSub, Nat.reduceLeDiff, Nat.le_refl, implies_true, Nat.reduceLT, reduceIte, decide_true, decide_false, true_and, and_true, reduceCtorEq, Nat.mul_one, Int.reduceToNat, Int.reduceLE, Int.reduceLT, Int.reduceAdd, Int.reduceSub, Int.reduceMul, Int.cast_ofNat_Int, cast_zero_int, cast_one_int, Nat.reducePow, Nat.reduceEqDiff, Nat.reduceMod, Nat.zero_add, Nat.sub_zero, Nat.add_zero, hU, hz, hkz, onApp_more hp, hj', hk, hd, hb, hc, hp, hall, List.length_map, own_app]
          refine ⟨by omega, by omega, ?_⟩
          obtain ⟨W, hW⟩ : ∃ W : Heap, (U.set j' (⟨l.map iv, 1, .dead⟩ : Blk) ++ [(⟨l.map iv ++ m.map iv, 1, .rw⟩ : Blk)]).set (t.length + t2.length) ⟨[.int .i64 f, .slice (some ⟨h.length + (U.length + 1 + 1 + 1), 0, none⟩) (l.length + m.length) 0], 2, .rw⟩ = W := ⟨_, rfl⟩
          have wz : W[t.length + t2.length]? = some ⟨[.int .i64 f, .slice (some ⟨h.length + (U.length + 1 + 1 + 1), 0, none⟩) (l.length + m.length) 0], 2, .rw⟩ := by rw [← hW, List.getElem?_set_self (by simp; omega)]
          have of : OF h.length 3 W (.slice (some ⟨h.length + (U.length + 1 + 1 + 1), 0, none⟩) (l.length + m.length) 0) (l ++ m) :=
            .mk' U.length rfl (by simp) (by rw [← hW, List.getElem?_set_ne (by omega), List.map_append]; exact new_at rfl)
          have sv := OF.ai [⟨[.int .i64 f, .slice p l.length 0], 2, .rw⟩, ⟨[.int .i64 g, .slice (some ⟨id, o, none⟩) m.length 0], 2, .rw⟩, ⟨[.int .i64 0, .slice none 0 0], 2, .rw⟩] of rfl
          simp only [List.append_assoc, List.cons_append, List.nil_append] at sv
          simp only [go_sem, Nat.reduceBEq, Nat.reduceAdd, Nat.reduceMul, Nat.reduceSub, Nat.reduceLeDiff, Nat.le_refl, implies_true, Nat.reduceLT, reduceIte, decide_true, decide_false, true_and, and_true, reduceCtorEq, Nat.mul_one, Int.reduceToNat, Int.reduceLE, Int.reduceLT, Int.reduceAdd, Int.reduceSub, Int.reduceMul, Int.cast_ofNat_Int, cast_zero_int, cast_one_int, Nat.reducePow, Nat.reduceEqDiff, Nat.reduceMod, Nat.zero_add, Nat.sub_zero, Nat.add_zero, hU, hW, wz]
          refine ⟨by kernel_rfl, (c_l26Good _ f (l ++ m) ⟨_, rfl, sv⟩ (by simp <;> omega)).use (fun _ m => m) ?_⟩
          rintro _ _ ⟨rfl, ⟨t3, rfl⟩⟩
          by_cases h4 : arGood f (l ++ m)
          · have hn : joinOk f l g m := ⟨h1, h2, h3, h4⟩
            simp only [go_sem, Nat.reduceBEq, Nat.reduceAdd, Nat.reduceMul, Nat.reduceSub, Nat.reduceLeDiff, Nat.le_refl, implies_true, Nat.reduceLT, reduceIte, decide_true, decide_false, true_and, and_true, reduceCtorEq, Nat.mul_one, Int.reduceToNat, Int.reduceLE, Int.reduceLT, Int.reduceAdd, Int.reduceSub, Int.reduceMul, Int.cast_ofNat_Int, cast_zero_int, cast_one_int, Nat.reducePow, Nat.reduceEqDiff, Nat.reduceMod, Nat.zero_add, Nat.sub_zero, Nat.add_zero, decb h4, own_app, app_old wz]
            refine ⟨_, by rw [decide_eq_true hn], _, by rw [joinF, if_pos hn], ?_⟩
            rw [joinL, if_pos hn]
            have of2 := of.mono t3
            try simp only [List.append_assoc, List.cons_append, List.nil_append] at of2
            exact OF.fix [_, _, _] of2 rfl (by omega) (by simp <;> omega)
          · simp only [go_sem, Nat.reduceBEq, Nat.reduceAdd, Nat.reduceMul, Nat.reduceSub, Nat.reduceLeDiff, Nat.le_refl, implies_true, Nat.reduceLT, reduceIte, decide_true, decide_false, true_and, and_true, reduceCtorEq, Nat.mul_one, Int.reduceToNat, Int.reduceLE, Int.reduceLT, Int.reduceAdd, Int.reduceSub, Int.reduceMul, Int.cast_ofNat_Int, cast_zero_int, cast_one_int, Nat.reducePow, Nat.reduceEqDiff, Nat.reduceMod, Nat.zero_add, Nat.sub_zero, Nat.add_zero, dect h4, own_app]
            exact bad (fun hh => h4 hh.2.2.2) _ _
      · simp only [go_sem, Nat.reduceBEq, Nat.reduceAdd, Nat.reduceMul, Nat.reduceSub, Nat.reduceLeDiff, Nat.le_refl, implies_true, Nat.reduceLT, reduceIte, decide_true, decide_false, true_and, and_true, reduceCtorEq, Nat.mul_one, Int.reduceToNat, Int.reduceLE, Int.reduceLT, Int.reduceAdd, Int.reduceSub, Int.reduceMul, Int.cast_ofNat_Int, cast_zero_int, cast_one_int, Nat.reducePow, Nat.reduceEqDiff, Nat.reduceMod, Nat.zero_add, Nat.sub_zero, Nat.add_zero, decb h1, decb h2, e4, show (g != f + (l.length : Int)) = true by simpa using h3]
        exact bad (fun hh => h3 hh.2.2.1) _ _
    · simp only [go_sem, Nat.reduceBEq, Nat.reduceAdd, Nat.reduceMul, Nat.reduceSub, Nat.reduceLeDiff, Nat.le_refl, implies_true, Nat.reduceLT, reduceIte, decide_true, decide_false, true_and, and_true, reduceCtorEq, Nat.mul_one, Int.reduceToNat, Int.reduceLE, Int.reduceLT, Int.reduceAdd, Int.reduceSub, Int.reduceMul, Int.cast_ofNat_Int, cast_zero_int, cast_one_int, Nat.reducePow, Nat.reduceEqDiff, Nat.reduceMod, Nat.zero_add, Nat.sub_zero, Nat.add_zero, decb h1, dect h2]
      exact bad (fun hh => h2 hh.2.1) _ _
  · simp only [go_sem, Nat.reduceBEq, Nat.reduceAdd, Nat.reduceMul, Nat.reduceSub, Nat.reduceLeDiff, Nat.le_refl, implies_true, Nat.reduceLT, reduceIte, decide_true, decide_false, true_and, and_true, reduceCtorEq, Nat.mul_one, Int.reduceToNat, Int.reduceLE, Int.reduceLT, Int.reduceAdd, Int.reduceSub, Int.reduceMul, Int.cast_ofNat_Int, cast_zero_int, cast_one_int, Nat.reducePow, Nat.reduceEqDiff, Nat.reduceMod, Nat.zero_add, Nat.sub_zero, Nat.add_zero, dect h1]
    exact bad (fun hh => h1 hh.1) _ _
end
end Go.Proofs.Ytjgekhahklidcaa
