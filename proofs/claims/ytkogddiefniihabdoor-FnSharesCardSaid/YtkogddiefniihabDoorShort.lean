
/- The short report of a list of supplies: what both programs say. No condition. -/
import Derived.Test.YtkogddiefniihabDoorFairShare
import Derived.Test.YtkogddiefniihabDoorNum
import Derived.Test.YtkogddiefniihabDoorH3
namespace Go.Proofs.YtkogddiefniihabDoor
open Go.HH
set_option linter.unusedSimpArgs false
set_option linter.unusedVariables false

def fulls (l : List Sup) : Nat := (l.filter fun x => x.2.1 == x.2.2).length
theorem fulls_le (l : List Sup) : fulls l ≤ l.length := List.length_filter_le _ _
theorem fulls_yes {l : List Sup} {i : Nat} (hi : i < l.length) (h : l[i].2.1 = l[i].2.2) : fulls (l.take (i + 1)) = fulls (l.take i) + 1 := by
  unfold fulls
  rw [List.take_add_one, List.getElem?_eq_getElem hi, List.filter_append, List.length_append]
  simp [h]
theorem fulls_no {l : List Sup} {i : Nat} (hi : i < l.length) (h : ¬ l[i].2.1 = l[i].2.2) : fulls (l.take (i + 1)) = fulls (l.take i) := by
  unfold fulls
  rw [List.take_add_one, List.getElem?_eq_getElem hi, List.filter_append, List.length_append]
  simp [h]
/-- A good list has eight elements at most. -/
theorem supGood_len {l : List Sup} (g : supGood l) : l.length ≤ 8 := by
  have key : ∀ i, i < l.length → (i : Int) + 1 ≤ (l.getD i sup0).1 := by
    intro i
    induction i with
    | zero => intro hi; have := (g 0 hi).1; unfold supOk supplyOk at this; omega
    | succ i ih =>
      intro hi
      have h1 := ih (by omega)
      have h2 := (g (i + 1) hi).2 (by omega)
      rw [Nat.add_sub_cancel] at h2
      omega
  rcases Nat.lt_or_ge 8 l.length with h | h
  · have h1 := key (l.length - 1) (by omega)
    have h2 := (g (l.length - 1) (by omega)).1
    unfold supOk supplyOk at h2
    omega
  · exact h

def wNodes : ByteArray := ⟨#[32, 110, 111, 100, 101, 115]⟩
def wNode : ByteArray := ⟨#[32, 110, 111, 100, 101]⟩
def wOf : ByteArray := ⟨#[32, 111, 102, 32]⟩
def wGot : ByteArray := ⟨#[32, 103, 111, 116, 32, 97, 108, 108, 32, 116, 104, 101, 121, 32, 119, 97, 110, 116, 101, 100, 46]⟩
def shortS (l : List Sup) : ByteArray := num (fulls l) ++ wOf ++ num l.length ++ (if l.length = 1 then wNode else wNodes) ++ wGot
def shortV (l : List Sup) : Value := if supGood l then .tuple #[.string (shortS l), .bool true] else .tuple #[.string ⟨#[]⟩, .bool false]
theorem s_add {a b : ByteArray} {n m : Nat} (h1 : a.size ≤ n) (h2 : b.size ≤ m) (h : n + m ≤ 9223372036854775807) : hBin .add (.string a) (.string b) = some (.string (a ++ b)) := hBin_sadd (by omega)
theorem s_size {a b : ByteArray} {n m : Nat} (h1 : a.size ≤ n) (h2 : b.size ≤ m) : (a ++ b).size ≤ n + m := by rw [ByteArray.size_append]; omega

section
variable {h : Heap} {M : Nat → Prop}

theorem c_ShortReport (v : Value) (l : List Sup) (s : Sl h 3 v (l.map sup)) (hmax : l.length ≤ 1048576) : vCall [] Tryd.prog M 20 [v] h (fun r h' => r = shortV l ∧ h <+: h') := by
  obtain ⟨a, hv, _, _⟩ := id s
  rw [List.length_map] at hv
  refine body_of mo Tryd.func20 rfl (by kernel_rfl) (Nat.le_of_ble_eq_true (by kernel_rfl)) rfl ?_
  simp only [go_sem, Nat.reduceBEq, Nat.reduceAdd, Nat.reduceMul, Nat.reduceSub, Nat.reduceLeDiff, Nat.le_refl, implies_true, Nat.reduceLT, reduceIte, decide_true, decide_false, true_and, and_true, reduceCtorEq, Nat.mul_one, Int.reduceToNat, Int.reduceLE, Int.reduceLT, Int.reduceAdd, Int.reduceSub, Int.reduceMul, Int.cast_ofNat_Int, cast_zero_int, cast_one_int, Nat.reducePow, Nat.reduceEqDiff, Nat.reduceMod, Nat.zero_add, Nat.sub_zero, Nat.add_zero]
  refine ⟨by kernel_rfl, (c_areSupplies v l s hmax).use (fun _ m => m) ?_⟩
  rintro _ _ ⟨rfl, ⟨t0, rfl⟩⟩
  subst hv
  by_cases g : supGood l
  · simp only [go_sem, Nat.reduceBEq, Nat.reduceAdd, Nat.reduceMul, Nat.reduceSub, Nat.reduceLeDiff, Nat.le_refl, implies_true, Nat.reduceLT, reduceIte, decide_true, decide_false, true_and, and_true, reduceCtorEq, Nat.mul_one, Int.reduceToNat, Int.reduceLE, Int.reduceLT, Int.reduceAdd, Int.reduceSub, Int.reduceMul, Int.cast_ofNat_Int, cast_zero_int, cast_one_int, Nat.reducePow, Nat.reduceEqDiff, Nat.reduceMod, Nat.zero_add, Nat.sub_zero, Nat.add_zero, decb g]
    have hlen := supGood_len g
    replace s := s.mono (List.prefix_append h t0)
    refine vLoop.count mo l.length (fun i e h' => ∃ t : Heap, e 0 = .slice a l.length 0 ∧ e 11 = .slice a l.length 0 ∧ e 12 = .int .i64 l.length ∧ e 13 = .int .i64 i ∧ e 4 = .int .i64 (fulls (l.take i) : Nat) ∧ h' = h ++ (t0 ++ t)) ?_ ?_
    · refine ⟨[], ?_⟩
      simp only [go_sem, Nat.reduceBEq, Nat.reduceAdd, Nat.reduceMul, Nat.reduceSub, Nat.reduceLeDiff, Nat.le_refl, implies_true, Nat.reduceLT, reduceIte, decide_true, decide_false, true_and, and_true, reduceCtorEq, Nat.mul_one, Int.reduceToNat, Int.reduceLE, Int.reduceLT, Int.reduceAdd, Int.reduceSub, Int.reduceMul, Int.cast_ofNat_Int, cast_zero_int, cast_one_int, Nat.reducePow, Nat.reduceEqDiff, Nat.reduceMod, Nat.zero_add, Nat.sub_zero, Nat.add_zero]
      all_goals simp [fulls]
    · rintro i e _ hi ⟨t, e0, e11, e12, e13, e4, rfl⟩
      simp only [go_sem, Nat.reduceBEq, Nat.reduceAdd, Nat.reduceMul, Nat.reduceSub, Nat.reduceLeDiff, Nat.le_refl, implies_true, Nat.reduceLT, reduceIte, decide_true, decide_false, true_and, and_true, reduceCtorEq, Nat.mul_one, Int.reduceToNat, Int.reduceLE, Int.reduceLT, Int.reduceAdd, Int.reduceSub, Int.reduceMul, Int.cast_ofNat_Int, cast_zero_int, cast_one_int, Nat.reducePow, Nat.reduceEqDiff, Nat.reduceMod, Nat.zero_add, Nat.sub_zero, Nat.add_zero, e0, e11, e12, e13, e4]
      have hf : fulls (l.take i) ≤ 8 := Nat.le_trans (fulls_le _) (by simp; omega)
      refine .intro (fun h1 => ?_) (fun h1 => ?_)
      · have hlt : i < l.length := by simpa using h1
        have hlt' : i < (l.map sup).length := by simpa using hlt
        obtain ⟨id, off, k, hv, hk, _, hd, hall⟩ := s.all (Nat.zero_lt_of_lt hlt')
        obtain rfl : a = some ⟨id, off, none⟩ := by simpa using hv
        have hz : (i : Int) < l.length := by omega
        obtain ⟨hb, hrow, hcell⟩ := hall i hlt'
        rw [List.getElem_map] at hrow
        simp only [sup] at hrow
        have hk' := hk t
        rw [List.append_assoc] at hk'
        simp only [go_sem, Nat.reduceBEq, Nat.reduceAdd, Nat.reduceMul, Nat.reduceSub, Nat.reduceLeDiff, Nat.le_refl, implies_true, Nat.reduceLT, reduceIte, decide_true, decide_false, true_and, and_true, reduceCtorEq, Nat.mul_one, Int.reduceToNat, Int.reduceLE, Int.reduceLT, Int.reduceAdd, Int.reduceSub, Int.reduceMul, Int.cast_ofNat_Int, cast_zero_int, cast_one_int, Nat.reducePow, Nat.reduceEqDiff, Nat.reduceMod, Nat.zero_add, Nat.sub_zero, Nat.add_zero, e0, e11, e12, e13, e4, hk', hz, hd, hrow, hb]
        by_cases h2 : l[i].2.1 = l[i].2.2
        · simp only [go_sem, Nat.reduceBEq, Nat.reduceAdd, Nat.reduceMul, Nat.reduceSub, Nat.reduceLeDiff, Nat.le_refl, implies_true, Nat.reduceLT, reduceIte, decide_true, decide_false, true_and, and_true, reduceCtorEq, Nat.mul_one, Int.reduceToNat, Int.reduceLE, Int.reduceLT, Int.reduceAdd, Int.reduceSub, Int.reduceMul, Int.cast_ofNat_Int, cast_zero_int, cast_one_int, Nat.reducePow, Nat.reduceEqDiff, Nat.reduceMod, Nat.zero_add, Nat.sub_zero, Nat.add_zero, e0, e11, e12, e13, e4, h2, beq_self_eq_true]
          refine ⟨hlt, _, by rw [wrap64 (by omega)]; rfl, by rw [fulls_yes hlt h2, wrap64 (by omega)]; rfl, rfl⟩
        · simp only [go_sem, Nat.reduceBEq, Nat.reduceAdd, Nat.reduceMul, Nat.reduceSub, Nat.reduceLeDiff, Nat.le_refl, implies_true, Nat.reduceLT, reduceIte, decide_true, decide_false, true_and, and_true, reduceCtorEq, Nat.mul_one, Int.reduceToNat, Int.reduceLE, Int.reduceLT, Int.reduceAdd, Int.reduceSub, Int.reduceMul, Int.cast_ofNat_Int, cast_zero_int, cast_one_int, Nat.reducePow, Nat.reduceEqDiff, Nat.reduceMod, Nat.zero_add, Nat.sub_zero, Nat.add_zero, e0, e11, e12, e13, e4, show (l[i].2.1 == l[i].2.2) = false by simpa using h2]
          refine ⟨hlt, _, by rw [wrap64 (by omega)]; rfl, by rw [fulls_no hlt h2], rfl⟩
      · simp only [go_sem, Nat.reduceBEq, Nat.reduceAdd, Nat.reduceMul, Nat.reduceSub, Nat.reduceLeDiff, Nat.le_refl, implies_true, Nat.reduceLT, reduceIte, decide_true, decide_false, true_and, and_true, reduceCtorEq, Nat.mul_one, Int.reduceToNat, Int.reduceLE, Int.reduceLT, Int.reduceAdd, Int.reduceSub, Int.reduceMul, Int.cast_ofNat_Int, cast_zero_int, cast_one_int, Nat.reducePow, Nat.reduceEqDiff, Nat.reduceMod, Nat.zero_add, Nat.sub_zero, Nat.add_zero, e0, e11, e12, e13, e4]
        obtain rfl : i = l.length := by have : ¬ i < l.length := by simpa using h1
                                        omega
        rw [List.take_length] at e4 hf
        have z1 : (num (fulls l)).size ≤ 10 := num_less (by omega)
        have z2 : (num l.length).size ≤ 10 := num_less (by omega)
        have zA : (num (fulls l) ++ wOf).size ≤ 14 := s_size (m := 4) z1 (by decide)
        have zB : (num (fulls l) ++ wOf ++ num l.length).size ≤ 24 := s_size zA z2
        have a1 : hBin .add (.string (num (fulls l))) (.string ⟨#[32, 111, 102, 32]⟩) = some (.string (num (fulls l) ++ wOf)) := s_add (m := 4) z1 (by decide) (by omega)
        have a2 : hBin .add (.string (num (fulls l) ++ wOf)) (.string (num l.length)) = some (.string (num (fulls l) ++ wOf ++ num l.length)) := s_add zA z2 (by omega)
        have fin : ∀ w : ByteArray, w.size ≤ 6 → hBin .add (.string (num (fulls l) ++ wOf ++ num l.length)) (.string w) = some (.string (num (fulls l) ++ wOf ++ num l.length ++ w)) ∧
            hBin .add (.string (num (fulls l) ++ wOf ++ num l.length ++ w)) (.string ⟨#[32, 103, 111, 116, 32, 97, 108, 108, 32, 116, 104, 101, 121, 32, 119, 97, 110, 116, 101, 100, 46]⟩) = some (.string (num (fulls l) ++ wOf ++ num l.length ++ w ++ wGot)) :=
          fun w hw => ⟨s_add zB hw (by omega), s_add (m := 21) (s_size zB hw) (by decide) (by omega)⟩
        by_cases hl : l.length = 1
        · simp only [go_sem, Nat.reduceBEq, Nat.reduceAdd, Nat.reduceMul, Nat.reduceSub, Nat.reduceLeDiff, Nat.le_refl, implies_true, Nat.reduceLT, reduceIte, decide_true, decide_false, true_and, and_true, reduceCtorEq, Nat.mul_one, Int.reduceToNat, Int.reduceLE, Int.reduceLT, Int.reduceAdd, Int.reduceSub, Int.reduceMul, Int.cast_ofNat_Int, cast_zero_int, cast_one_int, Nat.reducePow, Nat.reduceEqDiff, Nat.reduceMod, Nat.zero_add, Nat.sub_zero, Nat.add_zero, show ((l.length : Int) == 1) = true by simp [hl], e0, e4]
          refine ⟨by kernel_rfl, (c_Itoa (fulls l) (by omega)).use (fun _ m => m) ?_⟩
          rintro _ _ ⟨rfl, rfl⟩
          simp only [go_sem, Nat.reduceBEq, Nat.reduceAdd, Nat.reduceMul, Nat.reduceSub, Nat.reduceLeDiff, Nat.le_refl, implies_true, Nat.reduceLT, reduceIte, decide_true, decide_false, true_and, and_true, reduceCtorEq, Nat.mul_one, Int.reduceToNat, Int.reduceLE, Int.reduceLT, Int.reduceAdd, Int.reduceSub, Int.reduceMul, Int.cast_ofNat_Int, cast_zero_int, cast_one_int, Nat.reducePow, Nat.reduceEqDiff, Nat.reduceMod, Nat.zero_add, Nat.sub_zero, Nat.add_zero, e0, a1]
          refine ⟨by kernel_rfl, (c_Itoa l.length (by omega)).use (fun _ m => m) ?_⟩
          rintro _ _ ⟨rfl, rfl⟩
          simp only [go_sem, Nat.reduceBEq, Nat.reduceAdd, Nat.reduceMul, Nat.reduceSub, Nat.reduceLeDiff, Nat.le_refl, implies_true, Nat.reduceLT, reduceIte, decide_true, decide_false, true_and, and_true, reduceCtorEq, Nat.mul_one, Int.reduceToNat, Int.reduceLE, Int.reduceLT, Int.reduceAdd, Int.reduceSub, Int.reduceMul, Int.cast_ofNat_Int, cast_zero_int, cast_one_int, Nat.reducePow, Nat.reduceEqDiff, Nat.reduceMod, Nat.zero_add, Nat.sub_zero, Nat.add_zero, a2, (fin ⟨#[32, 110, 111, 100, 101]⟩ (by decide)).1, (fin ⟨#[32, 110, 111, 100, 101]⟩ (by decide)).2]
          rw [shortV, if_pos g, shortS, if_pos hl]; rfl
        · simp only [go_sem, Nat.reduceBEq, Nat.reduceAdd, Nat.reduceMul, Nat.reduceSub, Nat.reduceLeDiff, Nat.le_refl, implies_true, Nat.reduceLT, reduceIte, decide_true, decide_false, true_and, and_true, reduceCtorEq, Nat.mul_one, Int.reduceToNat, Int.reduceLE, Int.reduceLT, Int.reduceAdd, Int.reduceSub, Int.reduceMul, Int.cast_ofNat_Int, cast_zero_int, cast_one_int, Nat.reducePow, Nat.reduceEqDiff, Nat.reduceMod, Nat.zero_add, Nat.sub_zero, Nat.add_zero, show ((l.length : Int) == 1) = false by simp; omega, e0, e4]
          refine ⟨by kernel_rfl, (c_Itoa (fulls l) (by omega)).use (fun _ m => m) ?_⟩
          rintro _ _ ⟨rfl, rfl⟩
          simp only [go_sem, Nat.reduceBEq, Nat.reduceAdd, Nat.reduceMul, Nat.reduceSub, Nat.reduceLeDiff, Nat.le_refl, implies_true, Nat.reduceLT, reduceIte, decide_true, decide_false, true_and, and_true, reduceCtorEq, Nat.mul_one, Int.reduceToNat, Int.reduceLE, Int.reduceLT, Int.reduceAdd, Int.reduceSub, Int.reduceMul, Int.cast_ofNat_Int, cast_zero_int, cast_one_int, Nat.reducePow, Nat.reduceEqDiff, Nat.reduceMod, Nat.zero_add, Nat.sub_zero, Nat.add_zero, e0, a1]
          refine ⟨by kernel_rfl, (c_Itoa l.length (by omega)).use (fun _ m => m) ?_⟩
          rintro _ _ ⟨rfl, rfl⟩
          simp only [go_sem, Nat.reduceBEq, Nat.reduceAdd, Nat.reduceMul, Nat.reduceSub, Nat.reduceLeDiff, Nat.le_refl, implies_true, Nat.reduceLT, reduceIte, decide_true, decide_false, true_and, and_true, reduceCtorEq, Nat.mul_one, Int.reduceToNat, Int.reduceLE, Int.reduceLT, Int.reduceAdd, Int.reduceSub, Int.reduceMul, Int.cast_ofNat_Int, cast_zero_int, cast_one_int, Nat.reducePow, Nat.reduceEqDiff, Nat.reduceMod, Nat.zero_add, Nat.sub_zero, Nat.add_zero, a2, (fin ⟨#[32, 110, 111, 100, 101, 115]⟩ (by decide)).1, (fin ⟨#[32, 110, 111, 100, 101, 115]⟩ (by decide)).2]
          rw [shortV, if_pos g, shortS, if_neg hl]; rfl
  · simp only [go_sem, Nat.reduceBEq, Nat.reduceAdd, Nat.reduceMul, Nat.reduceSub, Nat.reduceLeDiff, Nat.le_refl, implies_true, Nat.reduceLT, reduceIte, decide_true, decide_false, true_and, and_true, reduceCtorEq, Nat.mul_one, Int.reduceToNat, Int.reduceLE, Int.reduceLT, Int.reduceAdd, Int.reduceSub, Int.reduceMul, Int.cast_ofNat_Int, cast_zero_int, cast_one_int, Nat.reducePow, Nat.reduceEqDiff, Nat.reduceMod, Nat.zero_add, Nat.sub_zero, Nat.add_zero, dect g]
    rw [shortV, if_neg g]
theorem c_sShortReport (v : Value) (l : List Sup) (s : Sl h 3 v (l.map sup)) (hmax : l.length ≤ 1048576) : vCall [] Tryd.prog M 21 [v] h (fun r h' => r = shortV l ∧ h <+: h') := by
  obtain ⟨a, hv, _, _⟩ := id s
  rw [List.length_map] at hv
  refine body_of mo Tryd.func21 rfl (by kernel_rfl) (Nat.le_of_ble_eq_true (by kernel_rfl)) rfl ?_
  simp only [go_sem, Nat.reduceBEq, Nat.reduceAdd, Nat.reduceMul, Nat.reduceSub, Nat.reduceLeDiff, Nat.le_refl, implies_true, Nat.reduceLT, reduceIte, decide_true, decide_false, true_and, and_true, reduceCtorEq, Nat.mul_one, Int.reduceToNat, Int.reduceLE, Int.reduceLT, Int.reduceAdd, Int.reduceSub, Int.reduceMul, Int.cast_ofNat_Int, cast_zero_int, cast_one_int, Nat.reducePow, Nat.reduceEqDiff, Nat.reduceMod, Nat.zero_add, Nat.sub_zero, Nat.add_zero]
  refine ⟨by kernel_rfl, (c_l25Good v l s hmax).use (fun _ m => m) ?_⟩
  rintro _ _ ⟨rfl, ⟨t0, rfl⟩⟩
  subst hv
  by_cases g : supGood l
  · simp only [go_sem, Nat.reduceBEq, Nat.reduceAdd, Nat.reduceMul, Nat.reduceSub, Nat.reduceLeDiff, Nat.le_refl, implies_true, Nat.reduceLT, reduceIte, decide_true, decide_false, true_and, and_true, reduceCtorEq, Nat.mul_one, Int.reduceToNat, Int.reduceLE, Int.reduceLT, Int.reduceAdd, Int.reduceSub, Int.reduceMul, Int.cast_ofNat_Int, cast_zero_int, cast_one_int, Nat.reducePow, Nat.reduceEqDiff, Nat.reduceMod, Nat.zero_add, Nat.sub_zero, Nat.add_zero, decb g]
    have hlen := supGood_len g
    replace s := s.mono (List.prefix_append h t0)
    refine vLoop.count mo l.length (fun i e h' => ∃ t : Heap, e 0 = .slice a l.length 0 ∧ e 5 = .int .i64 i ∧ e 4 = .int .i64 (fulls (l.take i) : Nat) ∧ h' = h ++ (t0 ++ t)) ?_ ?_
    · refine ⟨[], ?_⟩
      simp only [go_sem, Nat.reduceBEq, Nat.reduceAdd, Nat.reduceMul, Nat.reduceSub, Nat.reduceLeDiff, Nat.le_refl, implies_true, Nat.reduceLT, reduceIte, decide_true, decide_false, true_and, and_true, reduceCtorEq, Nat.mul_one, Int.reduceToNat, Int.reduceLE, Int.reduceLT, Int.reduceAdd, Int.reduceSub, Int.reduceMul, Int.cast_ofNat_Int, cast_zero_int, cast_one_int, Nat.reducePow, Nat.reduceEqDiff, Nat.reduceMod, Nat.zero_add, Nat.sub_zero, Nat.add_zero]
      all_goals simp [fulls]
    · rintro i e _ hi ⟨t, e0, e5, e4, rfl⟩
      simp only [go_sem, Nat.reduceBEq, Nat.reduceAdd, Nat.reduceMul, Nat.reduceSub, Nat.reduceLeDiff, Nat.le_refl, implies_true, Nat.reduceLT, reduceIte, decide_true, decide_false, true_and, and_true, reduceCtorEq, Nat.mul_one, Int.reduceToNat, Int.reduceLE, Int.reduceLT, Int.reduceAdd, Int.reduceSub, Int.reduceMul, Int.cast_ofNat_Int, cast_zero_int, cast_one_int, Nat.reducePow, Nat.reduceEqDiff, Nat.reduceMod, Nat.zero_add, Nat.sub_zero, Nat.add_zero, e0, e5, e4]
      have hf : fulls (l.take i) ≤ 8 := Nat.le_trans (fulls_le _) (by simp; omega)
      refine .intro (fun h1 => ?_) (fun h1 => ?_)
      · have hlt : i < l.length := by simpa using h1
        have hlt' : i < (l.map sup).length := by simpa using hlt
        obtain ⟨id, off, k, hv, hk, _, hd, hall⟩ := s.all (Nat.zero_lt_of_lt hlt')
        obtain rfl : a = some ⟨id, off, none⟩ := by simpa using hv
        have hz : (i : Int) < l.length := by omega
        obtain ⟨hb, hrow, hcell⟩ := hall i hlt'
        have g1 := hcell 1 (by omega)
        have g2 := hcell 2 (by omega)
        rw [List.getElem_map] at g1 g2
        simp only [sup, List.getElem?_cons_zero, List.getElem?_cons_succ] at g1 g2
        rw [List.getElem_map] at hrow
        simp only [sup] at hrow
        have hk' := hk t
        rw [List.append_assoc] at hk'
        simp only [go_sem, Nat.reduceBEq, Nat.reduceAdd, Nat.reduceMul, Nat.reduceSub, Nat.reduceLeDiff, Nat.le_refl, implies_true, Nat.reduceLT, reduceIte, decide_true, decide_false, true_and, and_true, reduceCtorEq, Nat.mul_one, Int.reduceToNat, Int.reduceLE, Int.reduceLT, Int.reduceAdd, Int.reduceSub, Int.reduceMul, Int.cast_ofNat_Int, cast_zero_int, cast_one_int, Nat.reducePow, Nat.reduceEqDiff, Nat.reduceMod, Nat.zero_add, Nat.sub_zero, Nat.add_zero, e0, e5, e4, hk', hz, hd, hrow, hb, g1, g2]
        by_cases h2 : l[i].2.1 = l[i].2.2
        · simp only [go_sem, Nat.reduceBEq, Nat.reduceAdd, Nat.reduceMul, Nat.reduceSub, Nat.reduceLeDiff, Nat.le_refl, implies_true, Nat.reduceLT, reduceIte, decide_true, decide_false, true_and, and_true, reduceCtorEq, Nat.mul_one, Int.reduceToNat, Int.reduceLE, Int.reduceLT, Int.reduceAdd, Int.reduceSub, Int.reduceMul, Int.cast_ofNat_Int, cast_zero_int, cast_one_int, Nat.reducePow, Nat.reduceEqDiff, Nat.reduceMod, Nat.zero_add, Nat.sub_zero, Nat.add_zero, e0, e5, e4, h2, beq_self_eq_true]
          refine ⟨hlt, _, by rw [wrap64 (by omega)]; rfl, by rw [fulls_yes hlt h2, wrap64 (by omega)]; rfl, rfl⟩
        · simp only [go_sem, Nat.reduceBEq, Nat.reduceAdd, Nat.reduceMul, Nat.reduceSub, Nat.reduceLeDiff, Nat.le_refl, implies_true, Nat.reduceLT, reduceIte, decide_true, decide_false, true_and, and_true, reduceCtorEq, Nat.mul_one, Int.reduceToNat, Int.reduceLE, Int.reduceLT, Int.reduceAdd, Int.reduceSub, Int.reduceMul, Int.cast_ofNat_Int, cast_zero_int, cast_one_int, Nat.reducePow, Nat.reduceEqDiff, Nat.reduceMod, Nat.zero_add, Nat.sub_zero, Nat.add_zero, e0, e5, e4, show (l[i].2.1 == l[i].2.2) = false by simpa using h2]
          refine ⟨hlt, _, by rw [wrap64 (by omega)]; rfl, by rw [fulls_no hlt h2], rfl⟩
      · simp only [go_sem, Nat.reduceBEq, Nat.reduceAdd, Nat.reduceMul, Nat.reduceSub, Nat.reduceLeDiff, Nat.le_refl, implies_true, Nat.reduceLT, reduceIte, decide_true, decide_false, true_and, and_true, reduceCtorEq, Nat.mul_one, Int.reduceToNat, Int.reduceLE, Int.reduceLT, Int.reduceAdd, Int.reduceSub, Int.reduceMul, Int.cast_ofNat_Int, cast_zero_int, cast_one_int, Nat.reducePow, Nat.reduceEqDiff, Nat.reduceMod, Nat.zero_add, Nat.sub_zero, Nat.add_zero, e0, e5, e4]
        obtain rfl : i = l.length := by have : ¬ i < l.length := by simpa using h1
                                        omega
        rw [List.take_length] at e4 hf
        have z1 : (num (fulls l)).size ≤ 10 := num_less (by omega)
        have z2 : (num l.length).size ≤ 10 := num_less (by omega)
        have zA : (num (fulls l) ++ wOf).size ≤ 14 := s_size (m := 4) z1 (by decide)
        have zB : (num (fulls l) ++ wOf ++ num l.length).size ≤ 24 := s_size zA z2
        have a1 : hBin .add (.string (num (fulls l))) (.string ⟨#[32, 111, 102, 32]⟩) = some (.string (num (fulls l) ++ wOf)) := s_add (m := 4) z1 (by decide) (by omega)
        have a2 : hBin .add (.string (num (fulls l) ++ wOf)) (.string (num l.length)) = some (.string (num (fulls l) ++ wOf ++ num l.length)) := s_add zA z2 (by omega)
        have fin : ∀ w : ByteArray, w.size ≤ 6 → hBin .add (.string (num (fulls l) ++ wOf ++ num l.length)) (.string w) = some (.string (num (fulls l) ++ wOf ++ num l.length ++ w)) ∧
            hBin .add (.string (num (fulls l) ++ wOf ++ num l.length ++ w)) (.string ⟨#[32, 103, 111, 116, 32, 97, 108, 108, 32, 116, 104, 101, 121, 32, 119, 97, 110, 116, 101, 100, 46]⟩) = some (.string (num (fulls l) ++ wOf ++ num l.length ++ w ++ wGot)) :=
          fun w hw => ⟨s_add zB hw (by omega), s_add (m := 21) (s_size zB hw) (by decide) (by omega)⟩
        by_cases hl : l.length = 1
        · simp only [go_sem, Nat.reduceBEq, Nat.reduceAdd, Nat.reduceMul, Nat.reduceSub, Nat.reduceLeDiff, Nat.le_refl, implies_true, Nat.reduceLT, reduceIte, decide_true, decide_false, true_and, and_true, reduceCtorEq, Nat.mul_one, Int.reduceToNat, Int.reduceLE, Int.reduceLT, Int.reduceAdd, Int.reduceSub, Int.reduceMul, Int.cast_ofNat_Int, cast_zero_int, cast_one_int, Nat.reducePow, Nat.reduceEqDiff, Nat.reduceMod, Nat.zero_add, Nat.sub_zero, Nat.add_zero, show ((l.length : Int) == 1) = true by simp [hl], e0, e4]
          refine ⟨by kernel_rfl, (c_l1Num (fulls l) (by omega)).use (fun _ m => m) ?_⟩
          rintro _ _ ⟨rfl, rfl⟩
          simp only [go_sem, Nat.reduceBEq, Nat.reduceAdd, Nat.reduceMul, Nat.reduceSub, Nat.reduceLeDiff, Nat.le_refl, implies_true, Nat.reduceLT, reduceIte, decide_true, decide_false, true_and, and_true, reduceCtorEq, Nat.mul_one, Int.reduceToNat, Int.reduceLE, Int.reduceLT, Int.reduceAdd, Int.reduceSub, Int.reduceMul, Int.cast_ofNat_Int, cast_zero_int, cast_one_int, Nat.reducePow, Nat.reduceEqDiff, Nat.reduceMod, Nat.zero_add, Nat.sub_zero, Nat.add_zero, e0, a1]
          refine ⟨by kernel_rfl, (c_l1Num l.length (by omega)).use (fun _ m => m) ?_⟩
          rintro _ _ ⟨rfl, rfl⟩
          simp only [go_sem, Nat.reduceBEq, Nat.reduceAdd, Nat.reduceMul, Nat.reduceSub, Nat.reduceLeDiff, Nat.le_refl, implies_true, Nat.reduceLT, reduceIte, decide_true, decide_false, true_and, and_true, reduceCtorEq, Nat.mul_one, Int.reduceToNat, Int.reduceLE, Int.reduceLT, Int.reduceAdd, Int.reduceSub, Int.reduceMul, Int.cast_ofNat_Int, cast_zero_int, cast_one_int, Nat.reducePow, Nat.reduceEqDiff, Nat.reduceMod, Nat.zero_add, Nat.sub_zero, Nat.add_zero, a2, (fin ⟨#[32, 110, 111, 100, 101]⟩ (by decide)).1, (fin ⟨#[32, 110, 111, 100, 101]⟩ (by decide)).2]
          rw [shortV, if_pos g, shortS, if_pos hl]; rfl
        · simp only [go_sem, Nat.reduceBEq, Nat.reduceAdd, Nat.reduceMul, Nat.reduceSub, Nat.reduceLeDiff, Nat.le_refl, implies_true, Nat.reduceLT, reduceIte, decide_true, decide_false, true_and, and_true, reduceCtorEq, Nat.mul_one, Int.reduceToNat, Int.reduceLE, Int.reduceLT, Int.reduceAdd, Int.reduceSub, Int.reduceMul, Int.cast_ofNat_Int, cast_zero_int, cast_one_int, Nat.reducePow, Nat.reduceEqDiff, Nat.reduceMod, Nat.zero_add, Nat.sub_zero, Nat.add_zero, show ((l.length : Int) == 1) = false by simp; omega, e0, e4]
          refine ⟨by kernel_rfl, (c_l1Num (fulls l) (by omega)).use (fun _ m => m) ?_⟩
          rintro _ _ ⟨rfl, rfl⟩
          simp only [go_sem, Nat.reduceBEq, Nat.reduceAdd, Nat.reduceMul, Nat.reduceSub, Nat.reduceLeDiff, Nat.le_refl, implies_true, Nat.reduceLT, reduceIte, decide_true, decide_false, true_and, and_true, reduceCtorEq, Nat.mul_one, Int.reduceToNat, Int.reduceLE, Int.reduceLT, Int.reduceAdd, Int.reduceSub, Int.reduceMul, Int.cast_ofNat_Int, cast_zero_int, cast_one_int, Nat.reducePow, Nat.reduceEqDiff, Nat.reduceMod, Nat.zero_add, Nat.sub_zero, Nat.add_zero, e0, a1]
          refine ⟨by kernel_rfl, (c_l1Num l.length (by omega)).use (fun _ m => m) ?_⟩
          rintro _ _ ⟨rfl, rfl⟩
          simp only [go_sem, Nat.reduceBEq, Nat.reduceAdd, Nat.reduceMul, Nat.reduceSub, Nat.reduceLeDiff, Nat.le_refl, implies_true, Nat.reduceLT, reduceIte, decide_true, decide_false, true_and, and_true, reduceCtorEq, Nat.mul_one, Int.reduceToNat, Int.reduceLE, Int.reduceLT, Int.reduceAdd, Int.reduceSub, Int.reduceMul, Int.cast_ofNat_Int, cast_zero_int, cast_one_int, Nat.reducePow, Nat.reduceEqDiff, Nat.reduceMod, Nat.zero_add, Nat.sub_zero, Nat.add_zero, a2, (fin ⟨#[32, 110, 111, 100, 101, 115]⟩ (by decide)).1, (fin ⟨#[32, 110, 111, 100, 101, 115]⟩ (by decide)).2]
          rw [shortV, if_pos g, shortS, if_neg hl]; rfl
  · simp only [go_sem, Nat.reduceBEq, Nat.reduceAdd, Nat.reduceMul, Nat.reduceSub, Nat.reduceLeDiff, Nat.le_refl, implies_true, Nat.reduceLT, reduceIte, decide_true, decide_false, true_and, and_true, reduceCtorEq, Nat.mul_one, Int.reduceToNat, Int.reduceLE, Int.reduceLT, Int.reduceAdd, Int.reduceSub, Int.reduceMul, Int.cast_ofNat_Int, cast_zero_int, cast_one_int, Nat.reducePow, Nat.reduceEqDiff, Nat.reduceMod, Nat.zero_add, Nat.sub_zero, Nat.add_zero, dect g]
    rw [shortV, if_neg g]

end

theorem FitV.sups {h : Heap} {v : Value} (f : FitV h (.slice (.struct (.pair (.int .i64) (.pair (.int .i64) (.pair (.int .i64) .unit))))) v) : ∃ l : List Sup, SB h.length 3 h v (l.map sup) ∧ l.length ≤ 9223372036854775807 := by
  obtain ⟨rows, s, hl, hf⟩ := Fits.sb f
  obtain ⟨l, rfl⟩ := rows_map (f := sup) (rows := rows) (fun r hr => by
    have f' : Fits h (.pair (.int .i64) (.pair (.int .i64) (.pair (.int .i64) .unit))) r := hf r hr
    obtain ⟨_, _, rfl, f0, r0⟩ := f'.pair
    obtain ⟨_, _, rfl, f1, r1⟩ := r0.pair
    obtain ⟨_, _, rfl, f2, r2⟩ := r1.pair
    obtain rfl := r2.unit
    obtain ⟨a0, rfl, _⟩ := f0.int
    obtain ⟨a1, rfl, _⟩ := f1.int
    obtain ⟨a2, rfl, _⟩ := f2.int
    exact ⟨(a0, a1, a2), rfl⟩)
  exact ⟨l, s, by rw [List.length_map] at hl; exact hl⟩

end Go.Proofs.YtkogddiefniihabDoor
