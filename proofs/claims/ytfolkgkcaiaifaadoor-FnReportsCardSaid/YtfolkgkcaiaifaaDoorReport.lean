
/- A whole report: what both programs say. No condition. -/
import Derived.Test.YtfolkgkcaiaifaaDoorShort
import Derived.Test.YtfolkgkcaiaifaaDoorSupText
import Derived.Test.YtfolkgkcaiaifaaDoorJoinS
import Derived.Test.YtfolkgkcaiaifaaDoorH3
namespace Go.Proofs.YtfolkgkcaiaifaaDoor
open Go.HH
set_option linter.unusedSimpArgs false
set_option linter.unusedVariables false

def supB (x : Sup) : ByteArray := supS x.1.toNat x.2.1.toNat x.2.2.toNat
def sp1 : ByteArray := ⟨#[32]⟩
def wNone : ByteArray := ⟨#[84, 104, 101, 114, 101, 32, 97, 114, 101, 32, 110, 111, 32, 110, 111, 100, 101, 115, 46]⟩
def reportS (l : List Sup) : ByteArray := if l = [] then wNone else joinB (l.map supB) sp1
theorem supS_pos (a b c : Nat) : 0 < (supS a b c).size := by
  simp only [supS, ByteArray.size_append]
  have : tNode.size = 5 := rfl
  omega
theorem supGood_at {l : List Sup} (g : supGood l) {i : Nat} (hi : i < l.length) : supplyOk l[i].1 l[i].2.1 l[i].2.2 := by
  have := (g i hi).1
  rw [getDp hi] at this
  exact this
theorem supB_size {x : Sup} (g : supplyOk x.1 x.2.1 x.2.2) : (supB x).size ≤ 80 := by
  unfold supplyOk at g
  exact supS_size (by omega) (by omega) (by omega)

theorem supBs_size {l : List Sup} (g : supGood l) : (joinB (l.map supB) sp1).size ≤ 1000000000 := by
  have h1 := supGood_len g
  have := joinB_size (sep := sp1) (k := 80) (xs := l.map supB) (fun x hx => by
    obtain ⟨y, hy, rfl⟩ := List.mem_map.1 hx
    obtain ⟨i, hi, rfl⟩ := List.getElem_of_mem hy
    exact supB_size (supGood_at g hi))
  rw [List.length_map] at this
  have h2 : l.length * (80 + sp1.size) ≤ 8 * (80 + sp1.size) := Nat.mul_le_mul_right _ h1
  have h3 : sp1.size = 1 := rfl
  omega
theorem new_endS {u : Heap} {K b : Blk} {j n : Nat} (hn : n = u.length) : (u.set j b ++ [K])[n]? = some K := by
  subst hn
  rw [List.getElem?_append_right (by simp), List.length_set, Nat.sub_self]; rfl

section
variable {G : List (Nat × Nat)} {h : Heap} {M : Nat → Prop}

theorem c_reportText (pw : PowAt G h) (v : Value) (l : List Sup) (s : Sl h 3 v (l.map sup)) (g : supGood l) : vCall G Tryd.prog M 33 [v] h (fun r h' => r = .string (reportS l) ∧ h <+: h') := by
  have hlen := supGood_len g
  obtain ⟨a, hv, _, _⟩ := id s
  rw [List.length_map] at hv
  refine body_of mo Tryd.func33 rfl (by kernel_rfl) (Nat.le_of_ble_eq_true (by kernel_rfl)) rfl ?_
  subst hv
  simp only [go_sem, Nat.reduceBEq, Nat.reduceAdd, Nat.reduceMul, Nat.reduceSub, Nat.reduceLeDiff, Nat.le_refl, implies_true, Nat.reduceLT, reduceIte, decide_true, decide_false, true_and, and_true, reduceCtorEq, Nat.mul_one, Int.reduceToNat, Int.reduceLE, Int.reduceLT, Int.reduceAdd, Int.reduceSub, Int.reduceMul, Int.cast_ofNat_Int, cast_zero_int, cast_one_int, Nat.reducePow, Nat.reduceEqDiff, Nat.reduceMod, Nat.zero_add, Nat.sub_zero, Nat.add_zero]
  by_cases h0 : l = []
  · simp only [go_sem, Nat.reduceBEq, Nat.reduceAdd, Nat.reduceMul, Nat.reduceSub, Nat.reduceLeDiff, Nat.le_refl, implies_true, Nat.reduceLT, reduceIte, decide_true, decide_false, true_and, and_true, reduceCtorEq, Nat.mul_one, Int.reduceToNat, Int.reduceLE, Int.reduceLT, Int.reduceAdd, Int.reduceSub, Int.reduceMul, Int.cast_ofNat_Int, cast_zero_int, cast_one_int, Nat.reducePow, Nat.reduceEqDiff, Nat.reduceMod, Nat.zero_add, Nat.sub_zero, Nat.add_zero, show ((l.length : Int) == 0) = true by simp [h0]]
    rw [reportS, if_pos h0]
    all_goals first | exact rfl | exact ⟨rfl, rfl⟩ | exact List.prefix_append _ _ | exact ⟨rfl, List.prefix_append _ _⟩ | assumption | exact ⟨rfl, by assumption⟩ | exact List.prefix_rfl | exact ⟨rfl, List.prefix_rfl⟩ | exact List.IsPrefix.trans (by assumption) (by assumption) | exact ⟨rfl, List.IsPrefix.trans (by assumption) (by assumption)⟩
  · simp only [go_sem, Nat.reduceBEq, Nat.reduceAdd, Nat.reduceMul, Nat.reduceSub, Nat.reduceLeDiff, Nat.le_refl, implies_true, Nat.reduceLT, reduceIte, decide_true, decide_false, true_and, and_true, reduceCtorEq, Nat.mul_one, Int.reduceToNat, Int.reduceLE, Int.reduceLT, Int.reduceAdd, Int.reduceSub, Int.reduceMul, Int.cast_ofNat_Int, cast_zero_int, cast_one_int, Nat.reducePow, Nat.reduceEqDiff, Nat.reduceMod, Nat.zero_add, Nat.sub_zero, Nat.add_zero, show ((l.length : Int) == 0) = false by simp [h0]]
    refine vLoop.count mo l.length (fun i e h' => ∃ (t : Heap) (j : Nat), e 10 = .slice a l.length 0 ∧ e 11 = .int .i64 l.length ∧ e 12 = .int .i64 i ∧
      e 3 = .slice (some ⟨h.length + j, 0, none⟩) i 0 ∧ h' = h ++ t ∧ t[j]? = some ⟨((l.take i).map supB).map Value.string, 1, .rw⟩) ?_ ?_
    · exact ⟨[⟨[], 1, .rw⟩], 0, rfl, rfl, rfl, by simp [upd], by simp, by simp⟩
    · rintro i e _ hi ⟨t, j, e10, e11, e12, e3, rfl, hj⟩
      simp only [go_sem, Nat.reduceBEq, Nat.reduceAdd, Nat.reduceMul, Nat.reduceSub, Nat.reduceLeDiff, Nat.le_refl, implies_true, Nat.reduceLT, reduceIte, decide_true, decide_false, true_and, and_true, reduceCtorEq, Nat.mul_one, Int.reduceToNat, Int.reduceLE, Int.reduceLT, Int.reduceAdd, Int.reduceSub, Int.reduceMul, Int.cast_ofNat_Int, cast_zero_int, cast_one_int, Nat.reducePow, Nat.reduceEqDiff, Nat.reduceMod, Nat.zero_add, Nat.sub_zero, Nat.add_zero, e10, e11, e12]
      refine .intro (fun h2 => ?_) (fun h2 => ?_)
      · have hlt : i < l.length := by simpa using h2
        have hlt' : i < (l.map sup).length := by simpa using hlt
        obtain ⟨id, o, k, hv, hk, _, hd, hall⟩ := s.all (Nat.zero_lt_of_lt hlt')
        obtain rfl : a = some ⟨id, o, none⟩ := by simpa using hv
        have hz : (i : Int) < l.length := by omega
        obtain ⟨hb, hrow, hcell⟩ := hall i hlt'
        rw [List.getElem_map] at hrow
        simp only [sup] at hrow
        have hti : (l.take i).length = i := by simp; omega
        simp only [go_sem, Nat.reduceBEq, Nat.reduceAdd, Nat.reduceMul, Nat.reduceSub, Nat.reduceLeDiff, Nat.le_refl, implies_true, Nat.reduceLT, reduceIte, decide_true, decide_false, true_and, and_true, reduceCtorEq, Nat.mul_one, Int.reduceToNat, Int.reduceLE, Int.reduceLT, Int.reduceAdd, Int.reduceSub, Int.reduceMul, Int.cast_ofNat_Int, cast_zero_int, cast_one_int, Nat.reducePow, Nat.reduceEqDiff, Nat.reduceMod, Nat.zero_add, Nat.sub_zero, Nat.add_zero, e10, e11, e12, e3, hk, hz, hd, hrow, hb]
        refine ⟨by kernel_rfl, (c_supplyTextI (pw.mono (by simp)) _ _ _ (supGood_at g hlt)).use (fun _ m => m) ?_⟩
        rintro _ _ ⟨rfl, ⟨t2, rfl⟩⟩
        simp only [go_sem, Nat.reduceBEq, Nat.reduceAdd, Nat.reduceMul, Nat.reduceSub, Nat.reduceLeDiff, Nat.le_refl, implies_true, Nat.reduceLT, reduceIte, decide_true, decide_false, true_and, and_true, reduceCtorEq, Nat.mul_one, Int.reduceToNat, Int.reduceLE, Int.reduceLT, Int.reduceAdd, Int.reduceSub, Int.reduceMul, Int.cast_ofNat_Int, cast_zero_int, cast_one_int, Nat.reducePow, Nat.reduceEqDiff, Nat.reduceMod, Nat.zero_add, Nat.sub_zero, Nat.add_zero, e10, e11, e12, e3, app_old hj, List.length_map, hti, show i ≤ 9223372036854775806 by omega, show (i + 1) * 16 ≤ 140737488355328 by omega]
        exact ⟨hlt, _, t.length + (t2.length + 1 + 1), by rw [wrap64 (by omega)]; rfl, rfl, rfl, by
          rw [List.take_add_one, List.getElem?_eq_getElem hlt, List.map_append, List.map_append]; exact new_endS (by simp)⟩
      · simp only [go_sem, Nat.reduceBEq, Nat.reduceAdd, Nat.reduceMul, Nat.reduceSub, Nat.reduceLeDiff, Nat.le_refl, implies_true, Nat.reduceLT, reduceIte, decide_true, decide_false, true_and, and_true, reduceCtorEq, Nat.mul_one, Int.reduceToNat, Int.reduceLE, Int.reduceLT, Int.reduceAdd, Int.reduceSub, Int.reduceMul, Int.cast_ofNat_Int, cast_zero_int, cast_one_int, Nat.reducePow, Nat.reduceEqDiff, Nat.reduceMod, Nat.zero_add, Nat.sub_zero, Nat.add_zero, e10, e11, e12, e3]
        obtain rfl : i = l.length := by have : ¬ i < l.length := by simpa using h2
                                        omega
        rw [List.take_length] at hj
        refine ⟨by kernel_rfl, (c_Join _ (l.map supB) sp1 (Sl.strs (xs := l.map supB) (by rw [hget_app]; exact hj) (by rw [List.take_of_length_le (by rw [List.length_map]; exact Nat.le_refl _)]) (by rw [List.length_map])) (by rw [List.length_map]; omega) (supBs_size g)).use (fun _ m => m) ?_⟩
        rintro _ _ ⟨rfl, rfl⟩
        simp only [go_sem, Nat.reduceBEq, Nat.reduceAdd, Nat.reduceMul, Nat.reduceSub, Nat.reduceLeDiff, Nat.le_refl, implies_true, Nat.reduceLT, reduceIte, decide_true, decide_false, true_and, and_true, reduceCtorEq, Nat.mul_one, Int.reduceToNat, Int.reduceLE, Int.reduceLT, Int.reduceAdd, Int.reduceSub, Int.reduceMul, Int.cast_ofNat_Int, cast_zero_int, cast_one_int, Nat.reducePow, Nat.reduceEqDiff, Nat.reduceMod, Nat.zero_add, Nat.sub_zero, Nat.add_zero]
        rw [reportS, if_neg h0]
        all_goals first | exact rfl | exact ⟨rfl, rfl⟩ | exact List.prefix_append _ _ | exact ⟨rfl, List.prefix_append _ _⟩ | assumption | exact ⟨rfl, by assumption⟩ | exact List.prefix_rfl | exact ⟨rfl, List.prefix_rfl⟩ | exact List.IsPrefix.trans (by assumption) (by assumption) | exact ⟨rfl, List.IsPrefix.trans (by assumption) (by assumption)⟩

theorem c_l25Tell (v : Value) (l : List Sup) (s : Sl h 3 v (l.map sup)) (g : supGood l) : vCall [] Tryd.prog M 30 [v] h (fun r h' => r = .string (reportS l) ∧ h <+: h') := by
  have hlen := supGood_len g
  obtain ⟨a, hv, _, _⟩ := id s
  rw [List.length_map] at hv
  refine body_of mo Tryd.func30 rfl (by kernel_rfl) (Nat.le_of_ble_eq_true (by kernel_rfl)) rfl ?_
  subst hv
  simp only [go_sem, Nat.reduceBEq, Nat.reduceAdd, Nat.reduceMul, Nat.reduceSub, Nat.reduceLeDiff, Nat.le_refl, implies_true, Nat.reduceLT, reduceIte, decide_true, decide_false, true_and, and_true, reduceCtorEq, Nat.mul_one, Int.reduceToNat, Int.reduceLE, Int.reduceLT, Int.reduceAdd, Int.reduceSub, Int.reduceMul, Int.cast_ofNat_Int, cast_zero_int, cast_one_int, Nat.reducePow, Nat.reduceEqDiff, Nat.reduceMod, Nat.zero_add, Nat.sub_zero, Nat.add_zero]
  refine vLoop.count mo l.length (fun i e h' => ∃ (t : Heap), e 0 = .slice a l.length 0 ∧ e 4 = .int .i64 i ∧
      e 3 = .string (joinB ((l.take i).map supB) sp1) ∧ h' = h ++ t) ?_ ?_
  · exact ⟨[], rfl, rfl, rfl, by simp⟩
  · rintro i e _ hi ⟨t, e0, e4, e3, rfl⟩
    simp only [go_sem, Nat.reduceBEq, Nat.reduceAdd, Nat.reduceMul, Nat.reduceSub, Nat.reduceLeDiff, Nat.le_refl, implies_true, Nat.reduceLT, reduceIte, decide_true, decide_false, true_and, and_true, reduceCtorEq, Nat.mul_one, Int.reduceToNat, Int.reduceLE, Int.reduceLT, Int.reduceAdd, Int.reduceSub, Int.reduceMul, Int.cast_ofNat_Int, cast_zero_int, cast_one_int, Nat.reducePow, Nat.reduceEqDiff, Nat.reduceMod, Nat.zero_add, Nat.sub_zero, Nat.add_zero, e0, e4]
    refine .intro (fun h2 => ?_) (fun h2 => ?_)
    · have hlt : i < l.length := by simpa using h2
      have hlt' : i < (l.map sup).length := by simpa using hlt
      obtain ⟨id, o, k, hv, hk, _, hd, hall⟩ := s.all (Nat.zero_lt_of_lt hlt')
      obtain rfl : a = some ⟨id, o, none⟩ := by simpa using hv
      have hz : (i : Int) < l.length := by omega
      obtain ⟨hb, hrow, hcell⟩ := hall i hlt'
      rw [List.getElem_map] at hrow
      simp only [sup] at hrow
      have hs : (joinB ((l.take i).map supB) sp1).size ≤ 8000 := by
        have := joinB_size (sep := sp1) (k := 80) (xs := (l.take i).map supB) (fun x hx => by
          obtain ⟨y, hy, rfl⟩ := List.mem_map.1 hx
          obtain ⟨i, hi, rfl⟩ := List.getElem_of_mem (List.mem_of_mem_take hy)
          exact supB_size (supGood_at g hi))
        rw [List.length_map] at this
        have h2 : (l.take i).length * (80 + sp1.size) ≤ 8 * (80 + sp1.size) := Nat.mul_le_mul_right _ (by rw [List.length_take]; omega)
        have h3 : sp1.size = 1 := rfl
        omega
      have hs2 := supB_size (supGood_at g hlt)
      have step : (l.take (i + 1)).map supB = (l.take i).map supB ++ [supB l[i]] := by
        rw [List.take_add_one, List.getElem?_eq_getElem hlt, List.map_append]; rfl
      by_cases h4 : 0 < i
      · have a1 : hBin .add (.string (joinB ((l.take i).map supB) sp1)) (.string ⟨#[32]⟩) = some (.string (joinB ((l.take i).map supB) sp1 ++ sp1)) := t_add (m := 1) hs (by decide) (by omega)
        have a2 : hBin .add (.string (joinB ((l.take i).map supB) sp1 ++ sp1)) (.string (supS l[i].1.toNat l[i].2.1.toNat l[i].2.2.toNat)) = some (.string (joinB ((l.take (i + 1)).map supB) sp1)) := by
          have : joinB ((l.take (i + 1)).map supB) sp1 = joinB ((l.take i).map supB) sp1 ++ sp1 ++ supB l[i] := by
            rw [step]
            cases hx : (l.take i).map supB with
            | nil =>
              have : ((l.take i).map supB).length = 0 := by rw [hx]; rfl
              rw [List.length_map, List.length_take] at this
              omega
            | cons x xs => exact joinB_snoc x xs _ _
          rw [this]
          exact t_add (t_size (m := 1) hs (by decide)) hs2 (by omega)
        simp only [go_sem, Nat.reduceBEq, Nat.reduceAdd, Nat.reduceMul, Nat.reduceSub, Nat.reduceLeDiff, Nat.le_refl, implies_true, Nat.reduceLT, reduceIte, decide_true, decide_false, true_and, and_true, reduceCtorEq, Nat.mul_one, Int.reduceToNat, Int.reduceLE, Int.reduceLT, Int.reduceAdd, Int.reduceSub, Int.reduceMul, Int.cast_ofNat_Int, cast_zero_int, cast_one_int, Nat.reducePow, Nat.reduceEqDiff, Nat.reduceMod, Nat.zero_add, Nat.sub_zero, Nat.add_zero, e0, e4, e3, show (0 : Int) < i by omega, a1, hk, hz, hd, hrow, hb]
        refine ⟨by kernel_rfl, (c_l25TextI _ _ _ (supGood_at g hlt)).use (fun _ m => m) ?_⟩
        rintro _ _ ⟨rfl, ⟨t2, rfl⟩⟩
        simp only [go_sem, Nat.reduceBEq, Nat.reduceAdd, Nat.reduceMul, Nat.reduceSub, Nat.reduceLeDiff, Nat.le_refl, implies_true, Nat.reduceLT, reduceIte, decide_true, decide_false, true_and, and_true, reduceCtorEq, Nat.mul_one, Int.reduceToNat, Int.reduceLE, Int.reduceLT, Int.reduceAdd, Int.reduceSub, Int.reduceMul, Int.cast_ofNat_Int, cast_zero_int, cast_one_int, Nat.reducePow, Nat.reduceEqDiff, Nat.reduceMod, Nat.zero_add, Nat.sub_zero, Nat.add_zero, e0, e4, e3, a2]
        exact ⟨hlt, _, by rw [wrap64 (by omega)]; rfl, rfl⟩
      · obtain rfl : i = 0 := by omega
        have a2 : hBin .add (.string ⟨#[]⟩) (.string (supS (l[0]'hlt).1.toNat (l[0]'hlt).2.1.toNat (l[0]'hlt).2.2.toNat)) = some (.string (joinB ((l.take (0 + 1)).map supB) sp1)) := by
          have : joinB ((l.take (0 + 1)).map supB) sp1 = ⟨#[]⟩ ++ supB (l[0]'hlt) := by
            rw [step, List.take_zero, List.map_nil, List.nil_append, joinB_one]
            apply bl_ext
            simp [bl, ByteArray.data_append]
          rw [this]
          exact t_add (n := 0) (by decide) hs2 (by omega)
        rw [List.take_zero, List.map_nil, joinB_nil] at e3
        rw [Nat.zero_mul, Nat.add_zero] at hrow hb
        simp only [go_sem, Nat.reduceBEq, Nat.reduceAdd, Nat.reduceMul, Nat.reduceSub, Nat.reduceLeDiff, Nat.le_refl, implies_true, Nat.reduceLT, reduceIte, decide_true, decide_false, true_and, and_true, reduceCtorEq, Nat.mul_one, Int.reduceToNat, Int.reduceLE, Int.reduceLT, Int.reduceAdd, Int.reduceSub, Int.reduceMul, Int.cast_ofNat_Int, cast_zero_int, cast_one_int, Nat.reducePow, Nat.reduceEqDiff, Nat.reduceMod, Nat.zero_add, Nat.sub_zero, Nat.add_zero, e0, e4, e3, hk, show (0 : Int) < l.length by omega, show 0 < l.length by omega, hd, hrow, hb]
        refine ⟨by kernel_rfl, (c_l25TextI _ _ _ (supGood_at g hlt)).use (fun _ m => m) ?_⟩
        rintro _ _ ⟨rfl, ⟨t2, rfl⟩⟩
        simp only [go_sem, Nat.reduceBEq, Nat.reduceAdd, Nat.reduceMul, Nat.reduceSub, Nat.reduceLeDiff, Nat.le_refl, implies_true, Nat.reduceLT, reduceIte, decide_true, decide_false, true_and, and_true, reduceCtorEq, Nat.mul_one, Int.reduceToNat, Int.reduceLE, Int.reduceLT, Int.reduceAdd, Int.reduceSub, Int.reduceMul, Int.cast_ofNat_Int, cast_zero_int, cast_one_int, Nat.reducePow, Nat.reduceEqDiff, Nat.reduceMod, Nat.zero_add, Nat.sub_zero, Nat.add_zero, e0, e4, e3, a2]
        exact ⟨hlt, _, rfl, rfl⟩
    · obtain rfl : i = l.length := by have : ¬ i < l.length := by simpa using h2
                                      omega
      rw [List.take_length] at e3
      simp only [go_sem, Nat.reduceBEq, Nat.reduceAdd, Nat.reduceMul, Nat.reduceSub, Nat.reduceLeDiff, Nat.le_refl, implies_true, Nat.reduceLT, reduceIte, decide_true, decide_false, true_and, and_true, reduceCtorEq, Nat.mul_one, Int.reduceToNat, Int.reduceLE, Int.reduceLT, Int.reduceAdd, Int.reduceSub, Int.reduceMul, Int.cast_ofNat_Int, cast_zero_int, cast_one_int, Nat.reducePow, Nat.reduceEqDiff, Nat.reduceMod, Nat.zero_add, Nat.sub_zero, Nat.add_zero, e0, e4, e3]
      by_cases h0 : l = []
      · subst h0
        simp only [go_sem, Nat.reduceBEq, Nat.reduceAdd, Nat.reduceMul, Nat.reduceSub, Nat.reduceLeDiff, Nat.le_refl, implies_true, Nat.reduceLT, reduceIte, decide_true, decide_false, true_and, and_true, reduceCtorEq, Nat.mul_one, Int.reduceToNat, Int.reduceLE, Int.reduceLT, Int.reduceAdd, Int.reduceSub, Int.reduceMul, Int.cast_ofNat_Int, cast_zero_int, cast_one_int, Nat.reducePow, Nat.reduceEqDiff, Nat.reduceMod, Nat.zero_add, Nat.sub_zero, Nat.add_zero, List.map_nil, joinB_nil]
        rfl
      · have hp : ((joinB (l.map supB) sp1).toList == (ByteArray.mk #[]).toList) = false := by
          rw [Bool.eq_false_iff]
          intro hh
          have e := beq_iff_eq.1 hh
          rw [Lib.toList_data, Lib.toList_data] at e
          have e2 : (joinB (l.map supB) sp1).size = 0 := by rw [← bl_len, bl, e]; rfl
          cases l with
          | nil => exact h0 rfl
          | cons x r =>
            have := joinB_pos (sep := sp1) (xs := r.map supB) (supS_pos x.1.toNat x.2.1.toNat x.2.2.toNat)
            rw [List.map_cons] at e2
            have e3 : supB x = supS x.1.toNat x.2.1.toNat x.2.2.toNat := rfl
            rw [e3] at e2
            omega
        simp only [go_sem, Nat.reduceBEq, Nat.reduceAdd, Nat.reduceMul, Nat.reduceSub, Nat.reduceLeDiff, Nat.le_refl, implies_true, Nat.reduceLT, reduceIte, decide_true, decide_false, true_and, and_true, reduceCtorEq, Nat.mul_one, Int.reduceToNat, Int.reduceLE, Int.reduceLT, Int.reduceAdd, Int.reduceSub, Int.reduceMul, Int.cast_ofNat_Int, cast_zero_int, cast_one_int, Nat.reducePow, Nat.reduceEqDiff, Nat.reduceMod, Nat.zero_add, Nat.sub_zero, Nat.add_zero, hp, reportS, if_neg h0, e3]
        all_goals first | exact rfl | exact ⟨rfl, rfl⟩ | exact List.prefix_append _ _ | exact ⟨rfl, List.prefix_append _ _⟩ | assumption | exact ⟨rfl, by assumption⟩ | exact List.prefix_rfl | exact ⟨rfl, List.prefix_rfl⟩ | exact List.IsPrefix.trans (by assumption) (by assumption) | exact ⟨rfl, List.IsPrefix.trans (by assumption) (by assumption)⟩

def repV (l : List Sup) : Value := if supGood l then .tuple #[.string (reportS l), .bool true] else .tuple #[.string ⟨#[]⟩, .bool false]
theorem c_ReportText (pw : PowAt G h) (v : Value) (l : List Sup) (s : Sl h 3 v (l.map sup)) (hmax : l.length ≤ 1048576) : vCall G Tryd.prog M 19 [v] h (fun r h' => r = repV l ∧ h <+: h') := by
  refine body_of mo Tryd.func19 rfl (by kernel_rfl) (Nat.le_of_ble_eq_true (by kernel_rfl)) rfl ?_
  simp only [go_sem, Nat.reduceBEq, Nat.reduceAdd, Nat.reduceMul, Nat.reduceSub, Nat.reduceLeDiff, Nat.le_refl, implies_true, Nat.reduceLT, reduceIte, decide_true, decide_false, true_and, and_true, reduceCtorEq, Nat.mul_one, Int.reduceToNat, Int.reduceLE, Int.reduceLT, Int.reduceAdd, Int.reduceSub, Int.reduceMul, Int.cast_ofNat_Int, cast_zero_int, cast_one_int, Nat.reducePow, Nat.reduceEqDiff, Nat.reduceMod, Nat.zero_add, Nat.sub_zero, Nat.add_zero]
  refine ⟨by kernel_rfl, ((c_areSupplies v l s hmax).addG).use (fun _ m => m) ?_⟩
  rintro _ _ ⟨rfl, ⟨t0, rfl⟩⟩
  by_cases g : supGood l
  · simp only [go_sem, Nat.reduceBEq, Nat.reduceAdd, Nat.reduceMul, Nat.reduceSub, Nat.reduceLeDiff, Nat.le_refl, implies_true, Nat.reduceLT, reduceIte, decide_true, decide_false, true_and, and_true, reduceCtorEq, Nat.mul_one, Int.reduceToNat, Int.reduceLE, Int.reduceLT, Int.reduceAdd, Int.reduceSub, Int.reduceMul, Int.cast_ofNat_Int, cast_zero_int, cast_one_int, Nat.reducePow, Nat.reduceEqDiff, Nat.reduceMod, Nat.zero_add, Nat.sub_zero, Nat.add_zero, decb g]
    refine ⟨by kernel_rfl, (c_reportText (pw.mono (by simp)) v l (s.mono (by simp)) g).use (fun _ m => m) ?_⟩
    rintro _ _ ⟨rfl, ⟨t1, rfl⟩⟩
    simp only [go_sem, Nat.reduceBEq, Nat.reduceAdd, Nat.reduceMul, Nat.reduceSub, Nat.reduceLeDiff, Nat.le_refl, implies_true, Nat.reduceLT, reduceIte, decide_true, decide_false, true_and, and_true, reduceCtorEq, Nat.mul_one, Int.reduceToNat, Int.reduceLE, Int.reduceLT, Int.reduceAdd, Int.reduceSub, Int.reduceMul, Int.cast_ofNat_Int, cast_zero_int, cast_one_int, Nat.reducePow, Nat.reduceEqDiff, Nat.reduceMod, Nat.zero_add, Nat.sub_zero, Nat.add_zero]
    rw [repV, if_pos g]
    all_goals first | exact rfl | exact ⟨rfl, rfl⟩ | exact List.prefix_append _ _ | exact ⟨rfl, List.prefix_append _ _⟩ | assumption | exact ⟨rfl, by assumption⟩ | exact List.prefix_rfl | exact ⟨rfl, List.prefix_rfl⟩ | exact List.IsPrefix.trans (by assumption) (by assumption) | exact ⟨rfl, List.IsPrefix.trans (by assumption) (by assumption)⟩
  · simp only [go_sem, Nat.reduceBEq, Nat.reduceAdd, Nat.reduceMul, Nat.reduceSub, Nat.reduceLeDiff, Nat.le_refl, implies_true, Nat.reduceLT, reduceIte, decide_true, decide_false, true_and, and_true, reduceCtorEq, Nat.mul_one, Int.reduceToNat, Int.reduceLE, Int.reduceLT, Int.reduceAdd, Int.reduceSub, Int.reduceMul, Int.cast_ofNat_Int, cast_zero_int, cast_one_int, Nat.reducePow, Nat.reduceEqDiff, Nat.reduceMod, Nat.zero_add, Nat.sub_zero, Nat.add_zero, dect g]
    rw [repV, if_neg g]
    all_goals first | exact rfl | exact ⟨rfl, rfl⟩ | exact List.prefix_append _ _ | exact ⟨rfl, List.prefix_append _ _⟩ | assumption | exact ⟨rfl, by assumption⟩ | exact List.prefix_rfl | exact ⟨rfl, List.prefix_rfl⟩ | exact List.IsPrefix.trans (by assumption) (by assumption) | exact ⟨rfl, List.IsPrefix.trans (by assumption) (by assumption)⟩
theorem c_sReportText (v : Value) (l : List Sup) (s : Sl h 3 v (l.map sup)) (hmax : l.length ≤ 1048576) : vCall [] Tryd.prog M 20 [v] h (fun r h' => r = repV l ∧ h <+: h') := by
  refine body_of mo Tryd.func20 rfl (by kernel_rfl) (Nat.le_of_ble_eq_true (by kernel_rfl)) rfl ?_
  simp only [go_sem, Nat.reduceBEq, Nat.reduceAdd, Nat.reduceMul, Nat.reduceSub, Nat.reduceLeDiff, Nat.le_refl, implies_true, Nat.reduceLT, reduceIte, decide_true, decide_false, true_and, and_true, reduceCtorEq, Nat.mul_one, Int.reduceToNat, Int.reduceLE, Int.reduceLT, Int.reduceAdd, Int.reduceSub, Int.reduceMul, Int.cast_ofNat_Int, cast_zero_int, cast_one_int, Nat.reducePow, Nat.reduceEqDiff, Nat.reduceMod, Nat.zero_add, Nat.sub_zero, Nat.add_zero]
  refine ⟨by kernel_rfl, (c_l25Good v l s hmax).use (fun _ m => m) ?_⟩
  rintro _ _ ⟨rfl, ⟨t0, rfl⟩⟩
  by_cases g : supGood l
  · simp only [go_sem, Nat.reduceBEq, Nat.reduceAdd, Nat.reduceMul, Nat.reduceSub, Nat.reduceLeDiff, Nat.le_refl, implies_true, Nat.reduceLT, reduceIte, decide_true, decide_false, true_and, and_true, reduceCtorEq, Nat.mul_one, Int.reduceToNat, Int.reduceLE, Int.reduceLT, Int.reduceAdd, Int.reduceSub, Int.reduceMul, Int.cast_ofNat_Int, cast_zero_int, cast_one_int, Nat.reducePow, Nat.reduceEqDiff, Nat.reduceMod, Nat.zero_add, Nat.sub_zero, Nat.add_zero, decb g]
    refine ⟨by kernel_rfl, (c_l25Tell v l (s.mono (by simp)) g).use (fun _ m => m) ?_⟩
    rintro _ _ ⟨rfl, ⟨t1, rfl⟩⟩
    simp only [go_sem, Nat.reduceBEq, Nat.reduceAdd, Nat.reduceMul, Nat.reduceSub, Nat.reduceLeDiff, Nat.le_refl, implies_true, Nat.reduceLT, reduceIte, decide_true, decide_false, true_and, and_true, reduceCtorEq, Nat.mul_one, Int.reduceToNat, Int.reduceLE, Int.reduceLT, Int.reduceAdd, Int.reduceSub, Int.reduceMul, Int.cast_ofNat_Int, cast_zero_int, cast_one_int, Nat.reducePow, Nat.reduceEqDiff, Nat.reduceMod, Nat.zero_add, Nat.sub_zero, Nat.add_zero]
    rw [repV, if_pos g]
    all_goals first | exact rfl | exact ⟨rfl, rfl⟩ | exact List.prefix_append _ _ | exact ⟨rfl, List.prefix_append _ _⟩ | assumption | exact ⟨rfl, by assumption⟩ | exact List.prefix_rfl | exact ⟨rfl, List.prefix_rfl⟩ | exact List.IsPrefix.trans (by assumption) (by assumption) | exact ⟨rfl, List.IsPrefix.trans (by assumption) (by assumption)⟩
  · simp only [go_sem, Nat.reduceBEq, Nat.reduceAdd, Nat.reduceMul, Nat.reduceSub, Nat.reduceLeDiff, Nat.le_refl, implies_true, Nat.reduceLT, reduceIte, decide_true, decide_false, true_and, and_true, reduceCtorEq, Nat.mul_one, Int.reduceToNat, Int.reduceLE, Int.reduceLT, Int.reduceAdd, Int.reduceSub, Int.reduceMul, Int.cast_ofNat_Int, cast_zero_int, cast_one_int, Nat.reducePow, Nat.reduceEqDiff, Nat.reduceMod, Nat.zero_add, Nat.sub_zero, Nat.add_zero, dect g]
    rw [repV, if_neg g]
    all_goals first | exact rfl | exact ⟨rfl, rfl⟩ | exact List.prefix_append _ _ | exact ⟨rfl, List.prefix_append _ _⟩ | assumption | exact ⟨rfl, by assumption⟩ | exact List.prefix_rfl | exact ⟨rfl, List.prefix_rfl⟩ | exact List.IsPrefix.trans (by assumption) (by assumption) | exact ⟨rfl, List.IsPrefix.trans (by assumption) (by assumption)⟩

end

end Go.Proofs.YtfolkgkcaiaifaaDoor
