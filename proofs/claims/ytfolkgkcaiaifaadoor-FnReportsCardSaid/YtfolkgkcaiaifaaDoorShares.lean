
/- The law about shares of supplies. No condition. -/
import Derived.Test.YtfolkgkcaiaifaaDoorDSup
import Derived.Test.YtfolkgkcaiaifaaDoorFairMore
import Derived.Test.YtfolkgkcaiaifaaDoorFairRun
import Derived.Test.YtfolkgkcaiaifaaDoorShort
import Derived.Test.YtfolkgkcaiaifaaDoorH3
namespace Go.Proofs.YtfolkgkcaiaifaaDoor
open Go.HH Go.Proofs
set_option linter.unusedSimpArgs false
set_option linter.unusedVariables false

section
variable {h : Heap} {M : Nat → Prop}
theorem c_rBigW (b : Option Addr) (n : Nat) : vCall [] Tryd.prog M 10 [.slice b n 0] h (fun r h' => r = .bool (decide ((65536 : Int) < n)) ∧ h = h') := by
  refine body_of mo Tryd.func10 rfl (by kernel_rfl) (Nat.le_of_ble_eq_true (by kernel_rfl)) rfl ?_
  simp only [go_sem, Nat.reduceBEq, Nat.reduceAdd, Nat.reduceMul, Nat.reduceSub, Nat.reduceLeDiff, Nat.le_refl, implies_true, Nat.reduceLT, reduceIte, decide_true, decide_false, true_and, and_true, reduceCtorEq, Nat.mul_one, Int.reduceToNat, Int.reduceLE, Int.reduceLT, Int.reduceAdd, Int.reduceSub, Int.reduceMul, Int.cast_ofNat_Int, cast_zero_int, cast_one_int, Nat.reducePow, Nat.reduceEqDiff, Nat.reduceMod, Nat.zero_add, Nat.sub_zero, Nat.add_zero]
  all_goals first | exact rfl | exact ⟨rfl, rfl⟩ | exact List.prefix_append _ _ | exact ⟨rfl, List.prefix_append _ _⟩ | assumption | exact ⟨rfl, by assumption⟩ | exact List.prefix_rfl | exact ⟨rfl, List.prefix_rfl⟩ | exact List.IsPrefix.trans (by assumption) (by assumption) | exact ⟨rfl, List.IsPrefix.trans (by assumption) (by assumption)⟩
theorem Sl.len3 {h : Heap} {v : Value} {l : List Sup} (s : Sl h 3 v (l.map sup)) : ∃ a, v = .slice a l.length 0 := by
  obtain ⟨a, hv, _⟩ := s
  exact ⟨a, by rw [hv, List.length_map]⟩
theorem c_rSupplies (v w : Value) (l : List Sup) (s : Sl h 3 v (l.map sup)) (s' : Sl h 3 w (l.map sup)) (hmax : l.length ≤ 1048576) : vCall [] Tryd.prog M 21 [v, w] h (fun r h' => r = .bool true ∧ h = h') := by
  obtain ⟨a, rfl⟩ := Sl.len3 s
  obtain ⟨b, rfl⟩ := Sl.len3 s'
  refine body_of mo Tryd.func21 rfl (by kernel_rfl) (Nat.le_of_ble_eq_true (by kernel_rfl)) rfl ?_
  simp only [go_sem, Nat.reduceBEq, Nat.reduceAdd, Nat.reduceMul, Nat.reduceSub, Nat.reduceLeDiff, Nat.le_refl, implies_true, Nat.reduceLT, reduceIte, decide_true, decide_false, true_and, and_true, reduceCtorEq, Nat.mul_one, Int.reduceToNat, Int.reduceLE, Int.reduceLT, Int.reduceAdd, Int.reduceSub, Int.reduceMul, Int.cast_ofNat_Int, cast_zero_int, cast_one_int, Nat.reducePow, Nat.reduceEqDiff, Nat.reduceMod, Nat.zero_add, Nat.sub_zero, Nat.add_zero, bne_self_eq_false]
  refine vLoop.count mo l.length (fun i e h' => e 0 = .slice a l.length 0 ∧ e 1 = .slice b l.length 0 ∧ e 5 = .int .i64 i ∧ HeapIs h h') ?_ ?_
  · exact ⟨rfl, rfl, rfl, HeapIs.rfl⟩
  · rintro i e _ hi ⟨e0, e1, e5, hh⟩
    cases hh
    simp only [go_sem, Nat.reduceBEq, Nat.reduceAdd, Nat.reduceMul, Nat.reduceSub, Nat.reduceLeDiff, Nat.le_refl, implies_true, Nat.reduceLT, reduceIte, decide_true, decide_false, true_and, and_true, reduceCtorEq, Nat.mul_one, Int.reduceToNat, Int.reduceLE, Int.reduceLT, Int.reduceAdd, Int.reduceSub, Int.reduceMul, Int.cast_ofNat_Int, cast_zero_int, cast_one_int, Nat.reducePow, Nat.reduceEqDiff, Nat.reduceMod, Nat.zero_add, Nat.sub_zero, Nat.add_zero, e0, e1, e5]
    refine .intro (fun h1 => ?_) (fun h1 => ?_)
    · have hlt : i < l.length := by simpa using h1
      have hz : (i : Int) < l.length := by omega
      have hlt' : i < (l.map sup).length := by simpa using hlt
      obtain ⟨id, off, k, hv, _, hk, hd, hb, hrow, hat⟩ := s.at hlt'
      obtain rfl : a = some ⟨id, off, none⟩ := by simpa using hv
      obtain ⟨id2, off2, k2, hv2, _, hk2, hd2, hb2, hrow2, hat2⟩ := s'.at hlt'
      obtain rfl : b = some ⟨id2, off2, none⟩ := by simpa using hv2
      rw [List.getElem_map] at hrow hrow2
      simp only [go_sem, Nat.reduceBEq, Nat.reduceAdd, Nat.reduceMul, Nat.reduceSub, Nat.reduceLeDiff, Nat.le_refl, implies_true, Nat.reduceLT, reduceIte, decide_true, decide_false, true_and, and_true, reduceCtorEq, Nat.mul_one, Int.reduceToNat, Int.reduceLE, Int.reduceLT, Int.reduceAdd, Int.reduceSub, Int.reduceMul, Int.cast_ofNat_Int, cast_zero_int, cast_one_int, Nat.reducePow, Nat.reduceEqDiff, Nat.reduceMod, Nat.zero_add, Nat.sub_zero, Nat.add_zero, e0, e1, e5, hz, hk, hk2, hd, hd2, hb, hb2, hrow, hrow2, sup, beq_self_eq_true, Bool.and_self, Bool.not_true]
      exact ⟨hlt, by rw [wrap64 (by omega)]; rfl, HeapIs.rfl⟩
    · simp only [go_sem, Nat.reduceBEq, Nat.reduceAdd, Nat.reduceMul, Nat.reduceSub, Nat.reduceLeDiff, Nat.le_refl, implies_true, Nat.reduceLT, reduceIte, decide_true, decide_false, true_and, and_true, reduceCtorEq, Nat.mul_one, Int.reduceToNat, Int.reduceLE, Int.reduceLT, Int.reduceAdd, Int.reduceSub, Int.reduceMul, Int.cast_ofNat_Int, cast_zero_int, cast_one_int, Nat.reducePow, Nat.reduceEqDiff, Nat.reduceMod, Nat.zero_add, Nat.sub_zero, Nat.add_zero, e0, e1, e5]

theorem supRow {h : Heap} {v : Value} {l : List Sup} (s : Sl h 3 v (l.map sup)) (h0 : 0 < l.length) : ∃ id off k, v = .slice (some ⟨id, off, none⟩) l.length 0 ∧ k.st ≠ .dead ∧ hget h id = some k ∧ (∀ H, h <+: H → hget H id = some k) ∧
    ∀ i (hi : i < l.length), off + i * 3 + 3 ≤ k.cells.length ∧ (k.cells.drop (off + i * 3)).take 3 = [.int .i64 (l.getD i sup0).1, .int .i64 (l.getD i sup0).2.1, .int .i64 (l.getD i sup0).2.2] ∧
      k.cells[off + i * 3]? = some (.int .i64 (l.getD i sup0).1) ∧ k.cells[off + i * 3 + 1]? = some (.int .i64 (l.getD i sup0).2.1) ∧ k.cells[off + i * 3 + 2]? = some (.int .i64 (l.getD i sup0).2.2) := by
  obtain ⟨id, off, k, hv, _, hk, hd, _, _, _⟩ := s.at (i := 0) (by simpa using h0)
  rw [List.length_map] at hv
  refine ⟨id, off, k, hv, hd, hk, fun H hp => by rw [hget_prefix hp (hget_lt hk)]; exact hk, fun i hi => ?_⟩
  obtain ⟨id2, off2, k2, hv2, _, hk2, _, hb2, hrow2, hat2⟩ := s.at (i := i) (by simpa using hi)
  rw [List.length_map] at hv2
  rw [hv] at hv2
  injection hv2 with q1 q2 q3
  injection q1 with q1
  injection q1 with q4 q5
  subst q4 q5
  obtain rfl : k = k2 := Option.some.inj (hk.symm.trans hk2)
  rw [List.getElem_map] at hrow2
  rw [getDp hi]
  refine ⟨hb2, hrow2, ?_, ?_, ?_⟩
  · have := hat2 0 (by omega); rw [List.getElem_map] at this; exact this
  · have := hat2 1 (by omega); rw [List.getElem_map] at this; exact this
  · have := hat2 2 (by omega); rw [List.getElem_map] at this; exact this

set_option maxRecDepth 20000 in
end
end Go.Proofs.YtfolkgkcaiaifaaDoor
