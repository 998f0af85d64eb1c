
/- The law about shares of supplies. No condition. -/
import Derived.Test.YtkogddiefniihabDoorDSup
import Derived.Test.YtkogddiefniihabDoorFairMore
import Derived.Test.YtkogddiefniihabDoorFairRun
import Derived.Test.YtkogddiefniihabDoorShort
import Derived.Test.YtkogddiefniihabDoorH3
namespace Go.Proofs.YtkogddiefniihabDoor
open Go.HH Go.Proofs
set_option linter.unusedSimpArgs false
set_option linter.unusedVariables false

section
variable {h : Heap} {M : Nat → Prop}
theorem c_rBigW (b : Option Addr) (n : Nat) : vCall [] Tryd.prog M 13 [.slice b n 0] h (fun r h' => r = .bool (decide ((65536 : Int) < n)) ∧ h = h') := by
  refine body_of mo Tryd.func13 rfl (by kernel_rfl) (Nat.le_of_ble_eq_true (by kernel_rfl)) rfl ?_
  simp only [go_sem, Nat.reduceBEq, Nat.reduceAdd, Nat.reduceMul, Nat.reduceSub, Nat.reduceLeDiff, Nat.le_refl, implies_true, Nat.reduceLT, reduceIte, decide_true, decide_false, true_and, and_true, reduceCtorEq, Nat.mul_one, Int.reduceToNat, Int.reduceLE, Int.reduceLT, Int.reduceAdd, Int.reduceSub, Int.reduceMul, Int.cast_ofNat_Int, cast_zero_int, cast_one_int, Nat.reducePow, Nat.reduceEqDiff, Nat.reduceMod, Nat.zero_add, Nat.sub_zero, Nat.add_zero]
  all_goals first | exact rfl | exact ⟨rfl, rfl⟩ | exact List.prefix_append _ _ | exact ⟨rfl, List.prefix_append _ _⟩ | assumption | exact ⟨rfl, by assumption⟩ | exact List.prefix_rfl | exact ⟨rfl, List.prefix_rfl⟩ | exact List.IsPrefix.trans (by assumption) (by assumption) | exact ⟨rfl, List.IsPrefix.trans (by assumption) (by assumption)⟩
theorem Sl.len3 {h : Heap} {v : Value} {l : List Sup} (s : Sl h 3 v (l.map sup)) : ∃ a, v = .slice a l.length 0 := by
  obtain ⟨a, hv, _⟩ := s
  exact ⟨a, by rw [hv, List.length_map]⟩
theorem c_rSupplies (v w : Value) (l : List Sup) (s : Sl h 3 v (l.map sup)) (s' : Sl h 3 w (l.map sup)) (hmax : l.length ≤ 1048576) : vCall [] Tryd.prog M 17 [v, w] h (fun r h' => r = .bool true ∧ h = h') := by
  obtain ⟨a, rfl⟩ := Sl.len3 s
  obtain ⟨b, rfl⟩ := Sl.len3 s'
  refine body_of mo Tryd.func17 rfl (by kernel_rfl) (Nat.le_of_ble_eq_true (by kernel_rfl)) rfl ?_
  simp only [go_sem, Nat.reduceBEq, Nat.reduceAdd, Nat.reduceMul, Nat.reduceSub, Nat.reduceLeDiff, Nat.le_refl, implies_true, Nat.reduceLT, reduceIte, decide_true, decide_false, true_and, and_true, reduceCtorEq, Nat.mul_one, Int.reduceToNat, Int.reduceLE, Int.reduceLT, Int.reduceAdd, Int.reduceSub, Int.reduceMul, Int.cast_ofNat_Int, cast_zero_int, cast_one_int, Nat.reducePow, Nat.reduceEqDiff, Nat.reduceMod, Nat.zero_add, Nat.sub_zero, Nat.add_zero, bne_self_eq_false]
  refine vLoop.count mo l.length (fun i e h' => e 0 = .slice a l.length 0 ∧ e 1 = .slice b l.length 0 ∧ e 5 = .int .i64 i ∧ HeapIs h h') ?_ ?_
  · exact ⟨rfl, rfl, rfl, HeapIs.rfl⟩
  · rintro i e _ hi ⟨e0, e1, e5, hh⟩
    cases hh
    simp only [go_sem, Nat.reduceBEq, Nat.reduceAdd, Nat.reduceMul, Nat.reduceSub, Nat.reduceLeDiff, Nat.le_refl, implies_true, Nat.reduceLT, reduceIte, decide_true, decide_false, true_and, and_true, reduceCtorEq, Nat.mul_one, Int.reduceToNat, Int.reduceLE, Int.reduceLT, Int.reduceAdd, Int.reduceSub, Int.reduceMul, Int.cast_ofNat_Int, cast_zero_int, cast_one_int, Nat.reducePow, Nat.reduceEqDiff, Nat.reduceMod, Nat.zero_add, Nat.sub_zero, Nat.add_zero, e0, e1, e5]
    refine .intro (fun h1 => ?_) (fun h1 => ?_)
    · have hlt : i < l.length := by simpa using h1
      have hz : (i : Int) < l.length := by omega
      have hlt' : i < (l.map sup).length := by simpa using hlt
      obtain ⟨id, off, k, hv, _, hk, hd, hb, hrow, hat⟩ := s.at hlt'
      obtain rfl : a = some ⟨id, off, none⟩ := by simpa using hv
      obtain ⟨id2, off2, k2, hv2, _, hk2, hd2, hb2, hrow2, hat2⟩ := s'.at hlt'
      obtain rfl : b = some ⟨id2, off2, none⟩ := by simpa using hv2
      rw [List.getElem_map] at hrow hrow2
      simp only [go_sem, Nat.reduceBEq, Nat.reduceAdd, Nat.reduceMul, Nat.reduceSub, Nat.reduceLeDiff, Nat.le_refl, implies_true, Nat.reduceLT, reduceIte, decide_true, decide_false, true_and, and_true, reduceCtorEq, Nat.mul_one, Int.reduceToNat, Int.reduceLE, Int.reduceLT, Int.reduceAdd, Int.reduceSub, Int.reduceMul, Int.cast_ofNat_Int, cast_zero_int, cast_one_int, Nat.reducePow, Nat.reduceEqDiff, Nat.reduceMod, Nat.zero_add, Nat.sub_zero, Nat.add_zero, e0, e1, e5, hz, hk, hk2, hd, hd2, hb, hb2, hrow, hrow2, sup, beq_self_eq_true, Bool.and_self, Bool.not_true]
      exact ⟨hlt, by rw [wrap64 (by omega)]; rfl, HeapIs.rfl⟩
    · simp only [go_sem, Nat.reduceBEq, Nat.reduceAdd, Nat.reduceMul, Nat.reduceSub, Nat.reduceLeDiff, Nat.le_refl, implies_true, Nat.reduceLT, reduceIte, decide_true, decide_false, true_and, and_true, reduceCtorEq, Nat.mul_one, Int.reduceToNat, Int.reduceLE, Int.reduceLT, Int.reduceAdd, Int.reduceSub, Int.reduceMul, Int.cast_ofNat_Int, cast_zero_int, cast_one_int, Nat.reducePow, Nat.reduceEqDiff, Nat.reduceMod, Nat.zero_add, Nat.sub_zero, Nat.add_zero, e0, e1, e5]

theorem supRow {h : Heap} {v : Value} {l : List Sup} (s : Sl h 3 v (l.map sup)) (h0 : 0 < l.length) : ∃ id off k, v = .slice (some ⟨id, off, none⟩) l.length 0 ∧ k.st ≠ .dead ∧ hget h id = some k ∧ (∀ H, h <+: H → hget H id = some k) ∧
    ∀ i (hi : i < l.length), off + i * 3 + 3 ≤ k.cells.length ∧ (k.cells.drop (off + i * 3)).take 3 = [.int .i64 (l.getD i sup0).1, .int .i64 (l.getD i sup0).2.1, .int .i64 (l.getD i sup0).2.2] ∧
      k.cells[off + i * 3]? = some (.int .i64 (l.getD i sup0).1) ∧ k.cells[off + i * 3 + 1]? = some (.int .i64 (l.getD i sup0).2.1) ∧ k.cells[off + i * 3 + 2]? = some (.int .i64 (l.getD i sup0).2.2) := by
  obtain ⟨id, off, k, hv, _, hk, hd, _, _, _⟩ := s.at (i := 0) (by simpa using h0)
  rw [List.length_map] at hv
  refine ⟨id, off, k, hv, hd, hk, fun H hp => by rw [hget_prefix hp (hget_lt hk)]; exact hk, fun i hi => ?_⟩
  obtain ⟨id2, off2, k2, hv2, _, hk2, _, hb2, hrow2, hat2⟩ := s.at (i := i) (by simpa using hi)
  rw [List.length_map] at hv2
  rw [hv] at hv2
  injection hv2 with q1 q2 q3
  injection q1 with q1
  injection q1 with q4 q5
  subst q4 q5
  obtain rfl : k = k2 := Option.some.inj (hk.symm.trans hk2)
  rw [List.getElem_map] at hrow2
  rw [getDp hi]
  refine ⟨hb2, hrow2, ?_, ?_, ?_⟩
  · have := hat2 0 (by omega); rw [List.getElem_map] at this; exact this
  · have := hat2 1 (by omega); rw [List.getElem_map] at this; exact this
  · have := hat2 2 (by omega); rw [List.getElem_map] at this; exact this

set_option maxRecDepth 20000 in
theorem l_FnShares (b : Option Addr) (n : Nat) (hc : CodeOk h b n) : vCall [] Tryd.prog M 4 [.slice b n 0] h (fun r _ => r = .bool true) := by
  refine body_of mo Tryd.func4 rfl (by kernel_rfl) (Nat.le_of_ble_eq_true (by kernel_rfl)) rfl ?_
  simp only [go_sem, Nat.reduceBEq, Nat.reduceAdd, Nat.reduceMul, Nat.reduceSub, Nat.reduceLeDiff, Nat.le_refl, implies_true, Nat.reduceLT, reduceIte, decide_true, decide_false, true_and, and_true, reduceCtorEq, Nat.mul_one, Int.reduceToNat, Int.reduceLE, Int.reduceLT, Int.reduceAdd, Int.reduceSub, Int.reduceMul, Int.cast_ofNat_Int, cast_zero_int, cast_one_int, Nat.reducePow, Nat.reduceEqDiff, Nat.reduceMod, Nat.zero_add, Nat.sub_zero, Nat.add_zero]
  refine ⟨by kernel_rfl, (c_rBigW b n).use (fun _ m => m) ?_⟩
  rintro _ _ ⟨rfl, rfl⟩
  by_cases hb : (65536 : Int) < n
  · simp only [go_sem, Nat.reduceBEq, Nat.reduceAdd, Nat.reduceMul, Nat.reduceSub, Nat.reduceLeDiff, Nat.le_refl, implies_true, Nat.reduceLT, reduceIte, decide_true, decide_false, true_and, and_true, reduceCtorEq, Nat.mul_one, Int.reduceToNat, Int.reduceLE, Int.reduceLT, Int.reduceAdd, Int.reduceSub, Int.reduceMul, Int.cast_ofNat_Int, cast_zero_int, cast_one_int, Nat.reducePow, Nat.reduceEqDiff, Nat.reduceMod, Nat.zero_add, Nat.sub_zero, Nat.add_zero, show decide ((65536 : Int) < n) = true from decide_eq_true hb]
  simp only [go_sem, Nat.reduceBEq, Nat.reduceAdd, Nat.reduceMul, Nat.reduceSub, Nat.reduceLeDiff, Nat.le_refl, implies_true, Nat.reduceLT, reduceIte, decide_true, decide_false, true_and, and_true, reduceCtorEq, Nat.mul_one, Int.reduceToNat, Int.reduceLE, Int.reduceLT, Int.reduceAdd, Int.reduceSub, Int.reduceMul, Int.cast_ofNat_Int, cast_zero_int, cast_one_int, Nat.reducePow, Nat.reduceEqDiff, Nat.reduceMod, Nat.zero_add, Nat.sub_zero, Nat.add_zero, show decide ((65536 : Int) < n) = false from decide_eq_false hb]
  refine ⟨by kernel_rfl, (c_DrawFairShare b n hc).use (fun _ m => m) ?_⟩
  rintro _ H1 ⟨⟨v, l, L, rfl, fv, hl⟩, P1⟩
  replace hc := hc.mono P1
  try simp only [go_sem, Nat.reduceBEq, Nat.reduceAdd, Nat.reduceMul, Nat.reduceSub, Nat.reduceLeDiff, Nat.le_refl, implies_true, Nat.reduceLT, reduceIte, decide_true, decide_false, true_and, and_true, reduceCtorEq, Nat.mul_one, Int.reduceToNat, Int.reduceLE, Int.reduceLT, Int.reduceAdd, Int.reduceSub, Int.reduceMul, Int.cast_ofNat_Int, cast_zero_int, cast_one_int, Nat.reducePow, Nat.reduceEqDiff, Nat.reduceMod, Nat.zero_add, Nat.sub_zero, Nat.add_zero]
  refine ⟨by kernel_rfl, (c_FairShare v l L fv.sl (by omega)).use (fun _ m => m) ?_⟩
  rintro _ H2 ⟨⟨w, y, rfl, fy, qw⟩, P2⟩
  replace hc := hc.mono P2
  try simp only [go_sem, Nat.reduceBEq, Nat.reduceAdd, Nat.reduceMul, Nat.reduceSub, Nat.reduceLeDiff, Nat.le_refl, implies_true, Nat.reduceLT, reduceIte, decide_true, decide_false, true_and, and_true, reduceCtorEq, Nat.mul_one, Int.reduceToNat, Int.reduceLE, Int.reduceLT, Int.reduceAdd, Int.reduceSub, Int.reduceMul, Int.cast_ofNat_Int, cast_zero_int, cast_one_int, Nat.reducePow, Nat.reduceEqDiff, Nat.reduceMod, Nat.zero_add, Nat.sub_zero, Nat.add_zero]
  refine ⟨by kernel_rfl, (c_sFairShare v l L (fv.mono P2).sl (by omega)).use (fun _ m => m) ?_⟩
  rintro _ H3 ⟨⟨w', y', rfl, fy', qw'⟩, P3⟩
  replace hc := hc.mono P3
  obtain rfl : y' = y := fairY_one fy' fy
  have hyl := fairY_len fy
  simp only [go_sem, Nat.reduceBEq, Nat.reduceAdd, Nat.reduceMul, Nat.reduceSub, Nat.reduceLeDiff, Nat.le_refl, implies_true, Nat.reduceLT, reduceIte, decide_true, decide_false, true_and, and_true, reduceCtorEq, Nat.mul_one, Int.reduceToNat, Int.reduceLE, Int.reduceLT, Int.reduceAdd, Int.reduceSub, Int.reduceMul, Int.cast_ofNat_Int, cast_zero_int, cast_one_int, Nat.reducePow, Nat.reduceEqDiff, Nat.reduceMod, Nat.zero_add, Nat.sub_zero, Nat.add_zero, bne_self_eq_false]
  refine ⟨by kernel_rfl, (c_rSupplies w w' y' (qw.mono P3).sl qw'.sl (by omega)).use (fun _ m => m) ?_⟩
  rintro _ _ ⟨rfl, rfl⟩
  simp only [go_sem, Nat.reduceBEq, Nat.reduceAdd, Nat.reduceMul, Nat.reduceSub, Nat.reduceLeDiff, Nat.le_refl, implies_true, Nat.reduceLT, reduceIte, decide_true, decide_false, true_and, and_true, reduceCtorEq, Nat.mul_one, Int.reduceToNat, Int.reduceLE, Int.reduceLT, Int.reduceAdd, Int.reduceSub, Int.reduceMul, Int.cast_ofNat_Int, cast_zero_int, cast_one_int, Nat.reducePow, Nat.reduceEqDiff, Nat.reduceMod, Nat.zero_add, Nat.sub_zero, Nat.add_zero, bne_self_eq_false, Bool.not_true]
  have sw := (qw.mono P3).sl
  have sv := (fv.mono (P2.trans P3)).sl
  clear qw qw' fv fy'
  obtain ⟨va, rfl⟩ := Sl.len3 sv
  obtain ⟨wa, rfl⟩ := Sl.len3 sw
  by_cases g : fairOk l L
  · simp only [go_sem, Nat.reduceBEq, Nat.reduceAdd, Nat.reduceMul, Nat.reduceSub, Nat.reduceLeDiff, Nat.le_refl, implies_true, Nat.reduceLT, reduceIte, decide_true, decide_false, true_and, and_true, reduceCtorEq, Nat.mul_one, Int.reduceToNat, Int.reduceLE, Int.reduceLT, Int.reduceAdd, Int.reduceSub, Int.reduceMul, Int.cast_ofNat_Int, cast_zero_int, cast_one_int, Nat.reducePow, Nat.reduceEqDiff, Nat.reduceMod, Nat.zero_add, Nat.sub_zero, Nat.add_zero, show decide (fairOk l L) = true from decide_eq_true g]
    obtain ⟨k, hf, hy⟩ := fy.1 g
    obtain ⟨f1, f2, f3, f4, f5⟩ := fair_facts g.1 ⟨g.2.1, g.2.2⟩ hf hy
    clear hf hy fy
    have sb : ∀ i, i ≤ y'.length → (0 ≤ sumG (y'.take i) ∧ sumG (y'.take i) ≤ 1000 * i) ∧ 0 ≤ sumW (y'.take i) ∧ sumW (y'.take i) ≤ 1000 * i := by
      intro i
      induction i with
      | zero => intro _; exact ⟨⟨Int.le_refl _, Int.le_refl _⟩, Int.le_refl _, Int.le_refl _⟩
      | succ i ih =>
        intro hi
        have h1 := ih (by omega)
        have h2 := (f2 i (by omega)).2.2
        obtain ⟨_, h3, h4, h5⟩ := h2
        rw [List.take_add_one, List.getElem?_eq_getElem (by omega), Option.toList_some, sumG_snoc, sumW_snoc, ← getDp (by omega)]
        omega
    refine vLoop.count mo y'.length (fun i e h' => e 0 = .slice b n 0 ∧ e 3 = .slice va l.length 0 ∧ e 4 = .int .i64 L ∧ e 5 = .slice wa y'.length 0 ∧ e 9 = .int .i64 (sumG (y'.take i)) ∧ e 10 = .int .i64 (sumW (y'.take i)) ∧ e 11 = .int .i64 i ∧ H3 <+: h') ?_ ?_
    · simp only [go_sem, Nat.reduceBEq, Nat.reduceAdd, Nat.reduceMul, Nat.reduceSub, Nat.reduceLeDiff, Nat.le_refl, implies_true, Nat.reduceLT, reduceIte, decide_true, decide_false, true_and, and_true, reduceCtorEq, Nat.mul_one, Int.reduceToNat, Int.reduceLE, Int.reduceLT, Int.reduceAdd, Int.reduceSub, Int.reduceMul, Int.cast_ofNat_Int, cast_zero_int, cast_one_int, Nat.reducePow, Nat.reduceEqDiff, Nat.reduceMod, Nat.zero_add, Nat.sub_zero, Nat.add_zero]
      try rfl
      try exact ⟨rfl, rfl⟩
    · rintro i e H hi ⟨e0, e3, e4, e5, e9, e10, e11, P⟩
      by_cases hlt : i < y'.length
      · have hz : (i : Int) < y'.length := by omega
        have hzl : (i : Int) < l.length := by omega
        obtain ⟨id, off, kw, hv, hd, _, hk, rw1⟩ := supRow sw (by omega)
        obtain rfl : wa = some ⟨id, off, none⟩ := by simpa using hv
        obtain ⟨id2, off2, kv, hv2, hd2, _, hk2, rv1⟩ := supRow sv (by omega)
        obtain rfl : va = some ⟨id2, off2, none⟩ := by simpa using hv2
        obtain ⟨a1, a2, a3, a4, a5⟩ := rw1 i hlt
        obtain ⟨_, _, b3, b4, b5⟩ := rv1 i (by omega)
        obtain ⟨g1, g2, g3⟩ := f2 i hlt
        rw [← g1] at b3
        rw [← g2] at b5
        have kH := hk H P
        have kH2 := hk2 H P
        have s1 := sb i hi
        have s2 := sb (i + 1) hlt
        have t1 : sumG (y'.take (i + 1)) = sumG (y'.take i) + (y'.getD i sup0).2.1 := by rw [List.take_add_one, List.getElem?_eq_getElem hlt, Option.toList_some, sumG_snoc, ← getDp hlt]
        have t2 : sumW (y'.take (i + 1)) = sumW (y'.take i) + (y'.getD i sup0).2.2 := by rw [List.take_add_one, List.getElem?_eq_getElem hlt, Option.toList_some, sumW_snoc, ← getDp hlt]
        have w1 : IntKind.i64.wrap (sumG (y'.take i) + (y'.getD i sup0).2.1) = sumG (y'.take (i + 1)) := by rw [t1]; exact wrap64 (by omega)
        have w2 : IntKind.i64.wrap (sumW (y'.take i) + (y'.getD i sup0).2.2) = sumW (y'.take (i + 1)) := by rw [t2]; exact wrap64 (by omega)
        simp only [go_sem, Nat.reduceBEq, Nat.reduceAdd, Nat.reduceMul, Nat.reduceSub, Nat.reduceLeDiff, Nat.le_refl, implies_true, Nat.reduceLT, reduceIte, decide_true, decide_false, true_and, and_true, reduceCtorEq, Nat.mul_one, Int.reduceToNat, Int.reduceLE, Int.reduceLT, Int.reduceAdd, Int.reduceSub, Int.reduceMul, Int.cast_ofNat_Int, cast_zero_int, cast_one_int, Nat.reducePow, Nat.reduceEqDiff, Nat.reduceMod, Nat.zero_add, Nat.sub_zero, Nat.add_zero, e0, e3, e4, e5, e9, e10, e11, hz, hzl, kH, kH2, hd, hd2, a1, a2, a3, a4, a5, b3, b4, b5, w1, w2, bne_self_eq_false]
        refine ⟨by kernel_rfl, (c_IsValidSupply _ _ _).use (fun _ m => m) ?_⟩
        rintro _ H7 ⟨rfl, P7⟩
        simp only [go_sem, Nat.reduceBEq, Nat.reduceAdd, Nat.reduceMul, Nat.reduceSub, Nat.reduceLeDiff, Nat.le_refl, implies_true, Nat.reduceLT, reduceIte, decide_true, decide_false, true_and, and_true, reduceCtorEq, Nat.mul_one, Int.reduceToNat, Int.reduceLE, Int.reduceLT, Int.reduceAdd, Int.reduceSub, Int.reduceMul, Int.cast_ofNat_Int, cast_zero_int, cast_one_int, Nat.reducePow, Nat.reduceEqDiff, Nat.reduceMod, Nat.zero_add, Nat.sub_zero, Nat.add_zero, e0, e3, e4, e5, e9, e10, e11, hz, hzl, kH, kH2, hd, hd2, a1, a2, a3, a4, a5, b3, b4, b5, w1, w2, bne_self_eq_false, decide_eq_true g3, Bool.not_true]
        have kH7 := hk H7 (P.trans P7)
        refine ⟨P7, ?_⟩
        refine vLoop.count mo i (fun j e h' => e 0 = .slice b n 0 ∧ e 3 = .slice (some ⟨id2, off2, none⟩) l.length 0 ∧ e 4 = .int .i64 L ∧ e 5 = .slice (some ⟨id, off, none⟩) y'.length 0 ∧ e 9 = .int .i64 (sumG (y'.take (i + 1))) ∧ e 10 = .int .i64 (sumW (y'.take (i + 1))) ∧ e 11 = .int .i64 i ∧ e 12 = .int .i64 j ∧ HeapIs H7 h') ?_ ?_
        · simp only [go_sem, Nat.reduceBEq, Nat.reduceAdd, Nat.reduceMul, Nat.reduceSub, Nat.reduceLeDiff, Nat.le_refl, implies_true, Nat.reduceLT, reduceIte, decide_true, decide_false, true_and, and_true, reduceCtorEq, Nat.mul_one, Int.reduceToNat, Int.reduceLE, Int.reduceLT, Int.reduceAdd, Int.reduceSub, Int.reduceMul, Int.cast_ofNat_Int, cast_zero_int, cast_one_int, Nat.reducePow, Nat.reduceEqDiff, Nat.reduceMod, Nat.zero_add, Nat.sub_zero, Nat.add_zero, e0, e3, e4, e5, e9, e10, e11]
          exact HeapIs.rfl
        · rintro j e _ hj ⟨e0, e3, e4, e5, e9, e10, e11, e12, hh⟩
          cases hh
          by_cases hji : j < i
          · have jz : (j : Int) < i := by omega
            have jz2 : (j : Int) < y'.length := by omega
            obtain ⟨_, _, c3, c4, c5⟩ := rw1 j (by omega)
            have ge3 := (f2 i hlt).2.2
            have w3 : IntKind.i64.wrap ((y'.getD i sup0).2.1 + 1) = (y'.getD i sup0).2.1 + 1 := by obtain ⟨_, u1, u2, u3⟩ := ge3; exact wrap64 (by omega)
            by_cases s1 : (y'.getD i sup0).2.1 < (y'.getD i sup0).2.2
            · by_cases s2 : (y'.getD j sup0).2.1 < (y'.getD j sup0).2.2
              · have := f3 i j hji (decide_eq_true s1) (decide_eq_true s2)
                simp only [go_sem, Nat.reduceBEq, Nat.reduceAdd, Nat.reduceMul, Nat.reduceSub, Nat.reduceLeDiff, Nat.le_refl, implies_true, Nat.reduceLT, reduceIte, decide_true, decide_false, true_and, and_true, reduceCtorEq, Nat.mul_one, Int.reduceToNat, Int.reduceLE, Int.reduceLT, Int.reduceAdd, Int.reduceSub, Int.reduceMul, Int.cast_ofNat_Int, cast_zero_int, cast_one_int, Nat.reducePow, Nat.reduceEqDiff, Nat.reduceMod, Nat.zero_add, Nat.sub_zero, Nat.add_zero, e0, e3, e4, e5, e9, e10, e11, e12, jz, jz2, hz, kH7, hd, a4, a5, c4, c5, s1, s2, w3, show ¬ ((y'.getD j sup0).2.1 < (y'.getD i sup0).2.1) by omega, show ¬ ((y'.getD i sup0).2.1 + 1 < (y'.getD j sup0).2.1) by omega]
                exact ⟨hji, by rw [wrap64 (by omega)]; rfl, HeapIs.rfl⟩
              · simp only [go_sem, Nat.reduceBEq, Nat.reduceAdd, Nat.reduceMul, Nat.reduceSub, Nat.reduceLeDiff, Nat.le_refl, implies_true, Nat.reduceLT, reduceIte, decide_true, decide_false, true_and, and_true, reduceCtorEq, Nat.mul_one, Int.reduceToNat, Int.reduceLE, Int.reduceLT, Int.reduceAdd, Int.reduceSub, Int.reduceMul, Int.cast_ofNat_Int, cast_zero_int, cast_one_int, Nat.reducePow, Nat.reduceEqDiff, Nat.reduceMod, Nat.zero_add, Nat.sub_zero, Nat.add_zero, e0, e3, e4, e5, e9, e10, e11, e12, jz, jz2, hz, kH7, hd, a4, a5, c4, c5, s1, s2]
                exact ⟨hji, by rw [wrap64 (by omega)]; rfl, HeapIs.rfl⟩
            · simp only [go_sem, Nat.reduceBEq, Nat.reduceAdd, Nat.reduceMul, Nat.reduceSub, Nat.reduceLeDiff, Nat.le_refl, implies_true, Nat.reduceLT, reduceIte, decide_true, decide_false, true_and, and_true, reduceCtorEq, Nat.mul_one, Int.reduceToNat, Int.reduceLE, Int.reduceLT, Int.reduceAdd, Int.reduceSub, Int.reduceMul, Int.cast_ofNat_Int, cast_zero_int, cast_one_int, Nat.reducePow, Nat.reduceEqDiff, Nat.reduceMod, Nat.zero_add, Nat.sub_zero, Nat.add_zero, e0, e3, e4, e5, e9, e10, e11, e12, jz, jz2, hz, kH7, hd, a4, a5, s1]
              exact ⟨hji, by rw [wrap64 (by omega)]; rfl, HeapIs.rfl⟩
          · obtain rfl : j = i := by omega
            simp only [go_sem, Nat.reduceBEq, Nat.reduceAdd, Nat.reduceMul, Nat.reduceSub, Nat.reduceLeDiff, Nat.le_refl, implies_true, Nat.reduceLT, reduceIte, decide_true, decide_false, true_and, and_true, reduceCtorEq, Nat.mul_one, Int.reduceToNat, Int.reduceLE, Int.reduceLT, Int.reduceAdd, Int.reduceSub, Int.reduceMul, Int.cast_ofNat_Int, cast_zero_int, cast_one_int, Nat.reducePow, Nat.reduceEqDiff, Nat.reduceMod, Nat.zero_add, Nat.sub_zero, Nat.add_zero, e0, e3, e4, e5, e9, e10, e11, e12, show ¬ ((j : Int) < j) by omega]
            exact ⟨hlt, by rw [wrap64 (by omega)]; rfl, P.trans P7⟩
      · obtain rfl : i = y'.length := by omega
        rw [List.take_length] at e9 e10
        have n1 : ¬ L < sumG y' := by omega
        by_cases q1 : sumG y' < L
        · have q2 : (sumG y' != sumW y') = false := by rw [f5 q1]; exact bne_self_eq_false _
          simp only [go_sem, Nat.reduceBEq, Nat.reduceAdd, Nat.reduceMul, Nat.reduceSub, Nat.reduceLeDiff, Nat.le_refl, implies_true, Nat.reduceLT, reduceIte, decide_true, decide_false, true_and, and_true, reduceCtorEq, Nat.mul_one, Int.reduceToNat, Int.reduceLE, Int.reduceLT, Int.reduceAdd, Int.reduceSub, Int.reduceMul, Int.cast_ofNat_Int, cast_zero_int, cast_one_int, Nat.reducePow, Nat.reduceEqDiff, Nat.reduceMod, Nat.zero_add, Nat.sub_zero, Nat.add_zero, e0, e3, e4, e5, e9, e10, e11, show ¬ ((y'.length : Int) < y'.length) by omega, n1, q1, q2]
          refine ⟨by kernel_rfl, (c_DrawShortReport b n (hc.mono P)).use (fun _ m => m) ?_⟩
          rintro v3 H4 ⟨⟨l3, f3', hl3⟩, P4⟩
          try simp only [go_sem, Nat.reduceBEq, Nat.reduceAdd, Nat.reduceMul, Nat.reduceSub, Nat.reduceLeDiff, Nat.le_refl, implies_true, Nat.reduceLT, reduceIte, decide_true, decide_false, true_and, and_true, reduceCtorEq, Nat.mul_one, Int.reduceToNat, Int.reduceLE, Int.reduceLT, Int.reduceAdd, Int.reduceSub, Int.reduceMul, Int.cast_ofNat_Int, cast_zero_int, cast_one_int, Nat.reducePow, Nat.reduceEqDiff, Nat.reduceMod, Nat.zero_add, Nat.sub_zero, Nat.add_zero, n1, q1, q2]
          refine ⟨by kernel_rfl, (c_ShortReport v3 l3 f3'.sl (by omega)).use (fun _ m => m) ?_⟩
          rintro _ H5 ⟨rfl, P5⟩
          obtain ⟨s, ok, hs⟩ : ∃ s ok, shortV l3 = .tuple #[.string s, .bool ok] := by unfold shortV; split <;> exact ⟨_, _, rfl⟩
          rw [hs]
          try simp only [go_sem, Nat.reduceBEq, Nat.reduceAdd, Nat.reduceMul, Nat.reduceSub, Nat.reduceLeDiff, Nat.le_refl, implies_true, Nat.reduceLT, reduceIte, decide_true, decide_false, true_and, and_true, reduceCtorEq, Nat.mul_one, Int.reduceToNat, Int.reduceLE, Int.reduceLT, Int.reduceAdd, Int.reduceSub, Int.reduceMul, Int.cast_ofNat_Int, cast_zero_int, cast_one_int, Nat.reducePow, Nat.reduceEqDiff, Nat.reduceMod, Nat.zero_add, Nat.sub_zero, Nat.add_zero, n1, q1, q2]
          refine ⟨by kernel_rfl, (c_sShortReport v3 l3 (f3'.mono P5).sl (by omega)).use (fun _ m => m) ?_⟩
          rintro _ H6 ⟨rfl, P6⟩
          rw [hs]
          simp only [go_sem, Nat.reduceBEq, Nat.reduceAdd, Nat.reduceMul, Nat.reduceSub, Nat.reduceLeDiff, Nat.le_refl, implies_true, Nat.reduceLT, reduceIte, decide_true, decide_false, true_and, and_true, reduceCtorEq, Nat.mul_one, Int.reduceToNat, Int.reduceLE, Int.reduceLT, Int.reduceAdd, Int.reduceSub, Int.reduceMul, Int.cast_ofNat_Int, cast_zero_int, cast_one_int, Nat.reducePow, Nat.reduceEqDiff, Nat.reduceMod, Nat.zero_add, Nat.sub_zero, Nat.add_zero, n1, q1, q2, beq_self_eq_true]
        · simp only [go_sem, Nat.reduceBEq, Nat.reduceAdd, Nat.reduceMul, Nat.reduceSub, Nat.reduceLeDiff, Nat.le_refl, implies_true, Nat.reduceLT, reduceIte, decide_true, decide_false, true_and, and_true, reduceCtorEq, Nat.mul_one, Int.reduceToNat, Int.reduceLE, Int.reduceLT, Int.reduceAdd, Int.reduceSub, Int.reduceMul, Int.cast_ofNat_Int, cast_zero_int, cast_one_int, Nat.reducePow, Nat.reduceEqDiff, Nat.reduceMod, Nat.zero_add, Nat.sub_zero, Nat.add_zero, e0, e3, e4, e5, e9, e10, e11, show ¬ ((y'.length : Int) < y'.length) by omega, n1, q1]
          refine ⟨by kernel_rfl, (c_DrawShortReport b n (hc.mono P)).use (fun _ m => m) ?_⟩
          rintro v3 H4 ⟨⟨l3, f3', hl3⟩, P4⟩
          try simp only [go_sem, Nat.reduceBEq, Nat.reduceAdd, Nat.reduceMul, Nat.reduceSub, Nat.reduceLeDiff, Nat.le_refl, implies_true, Nat.reduceLT, reduceIte, decide_true, decide_false, true_and, and_true, reduceCtorEq, Nat.mul_one, Int.reduceToNat, Int.reduceLE, Int.reduceLT, Int.reduceAdd, Int.reduceSub, Int.reduceMul, Int.cast_ofNat_Int, cast_zero_int, cast_one_int, Nat.reducePow, Nat.reduceEqDiff, Nat.reduceMod, Nat.zero_add, Nat.sub_zero, Nat.add_zero, n1, q1]
          refine ⟨by kernel_rfl, (c_ShortReport v3 l3 f3'.sl (by omega)).use (fun _ m => m) ?_⟩
          rintro _ H5 ⟨rfl, P5⟩
          obtain ⟨s, ok, hs⟩ : ∃ s ok, shortV l3 = .tuple #[.string s, .bool ok] := by unfold shortV; split <;> exact ⟨_, _, rfl⟩
          rw [hs]
          try simp only [go_sem, Nat.reduceBEq, Nat.reduceAdd, Nat.reduceMul, Nat.reduceSub, Nat.reduceLeDiff, Nat.le_refl, implies_true, Nat.reduceLT, reduceIte, decide_true, decide_false, true_and, and_true, reduceCtorEq, Nat.mul_one, Int.reduceToNat, Int.reduceLE, Int.reduceLT, Int.reduceAdd, Int.reduceSub, Int.reduceMul, Int.cast_ofNat_Int, cast_zero_int, cast_one_int, Nat.reducePow, Nat.reduceEqDiff, Nat.reduceMod, Nat.zero_add, Nat.sub_zero, Nat.add_zero, n1, q1]
          refine ⟨by kernel_rfl, (c_sShortReport v3 l3 (f3'.mono P5).sl (by omega)).use (fun _ m => m) ?_⟩
          rintro _ H6 ⟨rfl, P6⟩
          rw [hs]
          simp only [go_sem, Nat.reduceBEq, Nat.reduceAdd, Nat.reduceMul, Nat.reduceSub, Nat.reduceLeDiff, Nat.le_refl, implies_true, Nat.reduceLT, reduceIte, decide_true, decide_false, true_and, and_true, reduceCtorEq, Nat.mul_one, Int.reduceToNat, Int.reduceLE, Int.reduceLT, Int.reduceAdd, Int.reduceSub, Int.reduceMul, Int.cast_ofNat_Int, cast_zero_int, cast_one_int, Nat.reducePow, Nat.reduceEqDiff, Nat.reduceMod, Nat.zero_add, Nat.sub_zero, Nat.add_zero, n1, q1, beq_self_eq_true]
  · simp only [go_sem, Nat.reduceBEq, Nat.reduceAdd, Nat.reduceMul, Nat.reduceSub, Nat.reduceLeDiff, Nat.le_refl, implies_true, Nat.reduceLT, reduceIte, decide_true, decide_false, true_and, and_true, reduceCtorEq, Nat.mul_one, Int.reduceToNat, Int.reduceLE, Int.reduceLT, Int.reduceAdd, Int.reduceSub, Int.reduceMul, Int.cast_ofNat_Int, cast_zero_int, cast_one_int, Nat.reducePow, Nat.reduceEqDiff, Nat.reduceMod, Nat.zero_add, Nat.sub_zero, Nat.add_zero, show decide (fairOk l L) = false from decide_eq_false g]
    refine ⟨by kernel_rfl, (c_DrawShortReport b n hc).use (fun _ m => m) ?_⟩
    rintro v3 H4 ⟨⟨l3, f3, hl3⟩, P4⟩
    try simp only [go_sem, Nat.reduceBEq, Nat.reduceAdd, Nat.reduceMul, Nat.reduceSub, Nat.reduceLeDiff, Nat.le_refl, implies_true, Nat.reduceLT, reduceIte, decide_true, decide_false, true_and, and_true, reduceCtorEq, Nat.mul_one, Int.reduceToNat, Int.reduceLE, Int.reduceLT, Int.reduceAdd, Int.reduceSub, Int.reduceMul, Int.cast_ofNat_Int, cast_zero_int, cast_one_int, Nat.reducePow, Nat.reduceEqDiff, Nat.reduceMod, Nat.zero_add, Nat.sub_zero, Nat.add_zero]
    refine ⟨by kernel_rfl, (c_ShortReport v3 l3 f3.sl (by omega)).use (fun _ m => m) ?_⟩
    rintro _ H5 ⟨rfl, P5⟩
    obtain ⟨s, ok, hs⟩ : ∃ s ok, shortV l3 = .tuple #[.string s, .bool ok] := by unfold shortV; split <;> exact ⟨_, _, rfl⟩
    rw [hs]
    try simp only [go_sem, Nat.reduceBEq, Nat.reduceAdd, Nat.reduceMul, Nat.reduceSub, Nat.reduceLeDiff, Nat.le_refl, implies_true, Nat.reduceLT, reduceIte, decide_true, decide_false, true_and, and_true, reduceCtorEq, Nat.mul_one, Int.reduceToNat, Int.reduceLE, Int.reduceLT, Int.reduceAdd, Int.reduceSub, Int.reduceMul, Int.cast_ofNat_Int, cast_zero_int, cast_one_int, Nat.reducePow, Nat.reduceEqDiff, Nat.reduceMod, Nat.zero_add, Nat.sub_zero, Nat.add_zero]
    refine ⟨by kernel_rfl, (c_sShortReport v3 l3 (f3.mono P5).sl (by omega)).use (fun _ m => m) ?_⟩
    rintro _ H6 ⟨rfl, P6⟩
    rw [hs]
    simp only [go_sem, Nat.reduceBEq, Nat.reduceAdd, Nat.reduceMul, Nat.reduceSub, Nat.reduceLeDiff, Nat.le_refl, implies_true, Nat.reduceLT, reduceIte, decide_true, decide_false, true_and, and_true, reduceCtorEq, Nat.mul_one, Int.reduceToNat, Int.reduceLE, Int.reduceLT, Int.reduceAdd, Int.reduceSub, Int.reduceMul, Int.cast_ofNat_Int, cast_zero_int, cast_one_int, Nat.reducePow, Nat.reduceEqDiff, Nat.reduceMod, Nat.zero_add, Nat.sub_zero, Nat.add_zero, beq_self_eq_true]
end
theorem a_FnShares (h : Heap) (a : List Value) (ft : FitsAll h [.slice (.int .u8)] a) : vCall [] Tryd.prog (fun _ => False) 4 a h (fun r _ => r = .bool true) := by
  obtain ⟨v, vs, rfl, f, g⟩ := ft.cons
  obtain rfl := g.nil
  obtain ⟨b, n, rfl, hc⟩ := Fits.code f
  exact l_FnShares b n hc
end Go.Proofs.YtkogddiefniihabDoor
