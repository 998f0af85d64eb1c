
/- Hydrants in a network: the flow for a node, the nodes that lack water, the best new hydrant. No condition. -/
import Derived.Test.YtjgekhahklidcaaHyd2
namespace Go.Proofs.Ytjgekhahklidcaa
open Go.HH
set_option linter.unusedSimpArgs false
set_option linter.unusedVariables false

/-- The nodes that get less than what is needed, of the first 'i'. -/
def weakL (P : List Pip) (l : List Hyd) (rc : Nat) (nd : Int) (i : Nat) : List Int := ((List.range i).filter fun j => decide (sumF l (reachA P l ((j + 1 : Nat) : Int) rc) < nd)).map fun j : Nat => ((j + 1 : Nat) : Int)
theorem weakL_yes {P : List Pip} {l : List Hyd} {nd : Int} {rc i : Nat} (h : sumF l (reachA P l ((i + 1 : Nat) : Int) rc) < nd) : weakL P l rc nd (i + 1) = weakL P l rc nd i ++ [((i + 1 : Nat) : Int)] := by
  simp only [weakL, List.range_succ, List.filter_append, List.map_append, List.filter_cons, List.filter_nil]
  rw [if_pos (by simpa using h)]; rfl
theorem weakL_no {P : List Pip} {l : List Hyd} {nd : Int} {rc i : Nat} (h : ¬ sumF l (reachA P l ((i + 1 : Nat) : Int) rc) < nd) : weakL P l rc nd (i + 1) = weakL P l rc nd i := by
  simp only [weakL, List.range_succ, List.filter_append, List.map_append, List.filter_cons, List.filter_nil]
  rw [if_neg (by simpa using h)]; simp
theorem weakL_len {P : List Pip} {l : List Hyd} {nd : Int} {rc i : Nat} : (weakL P l rc nd i).length ≤ i := by
  unfold weakL
  rw [List.length_map]
  exact Nat.le_trans (List.length_filter_le _ _) (by simp)

section
variable {h : Heap} {M : Nat → Prop}

theorem c_thirstyNodes {n : Nat} (v vl : Value) (N : Nat) (P : List Pip) (l : List Hyd) (rc : Nat) (cl : Int) (hv : NA n h v N P) (sl : Sl h 2 vl (l.map hyd)) (g : netGood N P) (gl : hydIn N l) (hc : 1 ≤ cl ∧ cl ≤ 3) :
    vCall [] Try.prog M 99 [v, vl, .int .i64 rc, .int .i64 cl] h (fun r h' => FI h.length h'.length h' r (weakL P l rc (need cl) N) ∧ h <+: h') := by
  have hv0 := id hv
  obtain ⟨w, rfl, _⟩ := hv0
  have hN : N ≤ 8 := by have := g.2.1; omega
  refine body_of mo Try.func99 rfl (by kernel_rfl) (Nat.le_of_ble_eq_true (by kernel_rfl)) rfl ?_
  simp only [go_sem, Nat.reduceBEq, Nat.reduceAdd, Nat.reduceMul, Nat.reduceSub, Nat.reduceLeDiff, Nat.le_refl, implies_true, Nat.reduceLT, reduceIte, decide_true, decide_false, true_and, and_true, reduceCtorEq, Nat.mul_one, Int.reduceToNat, Int.reduceLE, Int.reduceLT, Int.reduceAdd, Int.reduceSub, Int.reduceMul, Int.cast_ofNat_Int, cast_zero_int, cast_one_int, Nat.reducePow, Nat.reduceEqDiff, Nat.reduceMod, Nat.zero_add, Nat.sub_zero, Nat.add_zero]
  refine ⟨by kernel_rfl, (c_needOf _ hc).use (fun _ m => m) ?_⟩
  rintro _ _ ⟨rfl, rfl⟩
  simp only [go_sem, Nat.reduceBEq, Nat.reduceAdd, Nat.reduceMul, Nat.reduceSub, Nat.reduceLeDiff, Nat.le_refl, implies_true, Nat.reduceLT, reduceIte, decide_true, decide_false, true_and, and_true, reduceCtorEq, Nat.mul_one, Int.reduceToNat, Int.reduceLE, Int.reduceLT, Int.reduceAdd, Int.reduceSub, Int.reduceMul, Int.cast_ofNat_Int, cast_zero_int, cast_one_int, Nat.reducePow, Nat.reduceEqDiff, Nat.reduceMod, Nat.zero_add, Nat.sub_zero, Nat.add_zero]
  refine vLoop.count mo N (fun i e h' => ∃ (t : Heap) (v11 : Value), Regs e [(1, vl), (2, .int .i64 rc), (4, .pointer (some ⟨h.length, 0, none⟩)), (9, .int .i64 (need cl)), (11, v11), (12, .int .i64 ((i + 1 : Nat) : Int))] ∧
    HeapIs h' (h ++ ⟨[.int .i64 N, w], 2, .rw⟩ :: t) ∧ OF h.length 1 t v11 (weakL P l rc (need cl) i)) ?_ ?_
  · exact ⟨_, _, ⟨rfl, rfl, rfl, rfl, rfl, rfl, trivial⟩, .rfl, .mk' 0 rfl rfl rfl⟩
  · rintro i e _ hi ⟨t, v11, ⟨e1, e2, e4, e9, e11, e12, _⟩, rfl, oi⟩
    obtain ⟨j, rfl, hj⟩ := id oi
    simp only [go_sem, Nat.reduceBEq, Nat.reduceAdd, Nat.reduceMul, Nat.reduceSub, Nat.reduceLeDiff, Nat.le_refl, implies_true, Nat.reduceLT, reduceIte, decide_true, decide_false, true_and, and_true, reduceCtorEq, Nat.mul_one, Int.reduceToNat, Int.reduceLE, Int.reduceLT, Int.reduceAdd, Int.reduceSub, Int.reduceMul, Int.cast_ofNat_Int, cast_zero_int, cast_one_int, Nat.reducePow, Nat.reduceEqDiff, Nat.reduceMod, Nat.zero_add, Nat.sub_zero, Nat.add_zero, e1, e2, e4, e9, e11, e12]
    by_cases hlt : i < N
    · have ws := wsucc (i := i + 1) (N := N + 1) (by omega) (by omega)
      simp only [go_sem, Nat.reduceBEq, Nat.reduceAdd, Nat.reduceMul, Nat.reduceSub, Nat.reduceLeDiff, Nat.le_refl, implies_true, Nat.reduceLT, reduceIte, decide_true, decide_false, true_and, and_true, reduceCtorEq, Nat.mul_one, Int.reduceToNat, Int.reduceLE, Int.reduceLT, Int.reduceAdd, Int.reduceSub, Int.reduceMul, Int.cast_ofNat_Int, cast_zero_int, cast_one_int, Nat.reducePow, Nat.reduceEqDiff, Nat.reduceMod, Nat.zero_add, Nat.sub_zero, Nat.add_zero, e1, e2, e4, e9, e11, e12, show ((i + 1 : Nat) : Int) ≤ N by omega]
      refine ⟨by kernel_rfl, (c_flowFor _ _ N P l ((i + 1 : Nat) : Int) rc (hv.mono (by simp)) (sl.mono (by simp)) g gl (by omega)).use (fun _ m => m) ?_⟩
      rintro _ _ ⟨rfl, ⟨t2, rfl⟩⟩
      have hwl := weakL_len (P := P) (l := l) (nd := need cl) (rc := rc) (i := i)
      by_cases c : sumF l (reachA P l ((i + 1 : Nat) : Int) rc) < need cl
      · have hyes := weakL_yes c
        simp only [go_sem, Nat.reduceBEq, Nat.reduceAdd, Nat.reduceMul, Nat.reduceSub, Nat.reduceLeDiff, Nat.le_refl, implies_true, Nat.reduceLT, reduceIte, decide_true, decide_false, true_and, and_true, reduceCtorEq, Nat.mul_one, Int.reduceToNat, Int.reduceLE, Int.reduceLT, Int.reduceAdd, Int.reduceSub, Int.reduceMul, Int.cast_ofNat_Int, cast_zero_int, cast_one_int, Nat.reducePow, Nat.reduceEqDiff, Nat.reduceMod, Nat.zero_add, Nat.sub_zero, Nat.add_zero, e1, e2, e4, e9, e11, e12, c, app_old hj, List.length_map]
        refine ⟨by omega, by omega, hlt, _, _, ⟨e1, e2, e4, e9, rfl, congrArg _ ws, trivial⟩, .rfl, (.mk' (t.length + t2.length + 1) ?_ (by rw [hyes]; simp) ?_)⟩
        · simp; try omega
        · exact (new_at (by simp; try omega)).trans (by simp [iv, hyes])
      · have hno := weakL_no c
        simp only [go_sem, Nat.reduceBEq, Nat.reduceAdd, Nat.reduceMul, Nat.reduceSub, Nat.reduceLeDiff, Nat.le_refl, implies_true, Nat.reduceLT, reduceIte, decide_true, decide_false, true_and, and_true, reduceCtorEq, Nat.mul_one, Int.reduceToNat, Int.reduceLE, Int.reduceLT, Int.reduceAdd, Int.reduceSub, Int.reduceMul, Int.cast_ofNat_Int, cast_zero_int, cast_one_int, Nat.reducePow, Nat.reduceEqDiff, Nat.reduceMod, Nat.zero_add, Nat.sub_zero, Nat.add_zero, e1, e2, e4, e9, e11, e12, c]
        exact ⟨hlt, _, _, ⟨e1, e2, e4, e9, e11, congrArg _ ws, trivial⟩, .rfl, by rw [hno]; exact oi.mono _⟩
    · obtain rfl : i = N := by omega
      simp only [go_sem, Nat.reduceBEq, Nat.reduceAdd, Nat.reduceMul, Nat.reduceSub, Nat.reduceLeDiff, Nat.le_refl, implies_true, Nat.reduceLT, reduceIte, decide_true, decide_false, true_and, and_true, reduceCtorEq, Nat.mul_one, Int.reduceToNat, Int.reduceLE, Int.reduceLT, Int.reduceAdd, Int.reduceSub, Int.reduceMul, Int.cast_ofNat_Int, cast_zero_int, cast_one_int, Nat.reducePow, Nat.reduceEqDiff, Nat.reduceMod, Nat.zero_add, Nat.sub_zero, Nat.add_zero, e1, e2, e4, e9, e11, e12, show ¬ (((i + 1 : Nat) : Int) ≤ i) by omega]
      exact OF.fix [_] oi rfl (by omega) (by omega)

theorem c_l24Weak {n : Nat} (v vl : Value) (N : Nat) (P : List Pip) (l : List Hyd) (rc : Nat) (cl : Int) (hv : NA n h v N P) (sl : Sl h 2 vl (l.map hyd)) (g : netGood N P) (gl : hydIn N l) (hc : 1 ≤ cl ∧ cl ≤ 3) :
    vCall [] Try.prog M 102 [v, vl, .int .i64 rc, .int .i64 cl] h (fun r h' => FI h.length h'.length h' r (weakL P l rc (need cl) N) ∧ h <+: h') := by
  have hv0 := id hv
  obtain ⟨w, rfl, _⟩ := hv0
  have hN : N ≤ 8 := by have := g.2.1; omega
  refine body_of mo Try.func102 rfl (by kernel_rfl) (Nat.le_of_ble_eq_true (by kernel_rfl)) rfl ?_
  simp only [go_sem, Nat.reduceBEq, Nat.reduceAdd, Nat.reduceMul, Nat.reduceSub, Nat.reduceLeDiff, Nat.le_refl, implies_true, Nat.reduceLT, reduceIte, decide_true, decide_false, true_and, and_true, reduceCtorEq, Nat.mul_one, Int.reduceToNat, Int.reduceLE, Int.reduceLT, Int.reduceAdd, Int.reduceSub, Int.reduceMul, Int.cast_ofNat_Int, cast_zero_int, cast_one_int, Nat.reducePow, Nat.reduceEqDiff, Nat.reduceMod, Nat.zero_add, Nat.sub_zero, Nat.add_zero]
  refine vLoop.count mo N (fun i e h' => ∃ (t : Heap) (v9 : Value), Regs e [(1, vl), (2, .int .i64 rc), (3, .int .i64 cl), (4, .pointer (some ⟨h.length, 0, none⟩)), (9, v9), (10, .int .i64 ((i + 1 : Nat) : Int))] ∧
    HeapIs h' (h ++ ⟨[.int .i64 N, w], 2, .rw⟩ :: t) ∧ OF h.length 1 t v9 (weakL P l rc (need cl) i)) ?_ ?_
  · exact ⟨_, _, ⟨rfl, rfl, rfl, rfl, rfl, rfl, trivial⟩, .rfl, .mk' 0 rfl rfl rfl⟩
  · rintro i e _ hi ⟨t, v9, ⟨e1, e2, e3, e4, e9, e10, _⟩, rfl, oi⟩
    obtain ⟨j, rfl, hj⟩ := id oi
    simp only [go_sem, Nat.reduceBEq, Nat.reduceAdd, Nat.reduceMul, Nat.reduceSub, Nat.reduceLeDiff, Nat.le_refl, implies_true, Nat.reduceLT, reduceIte, decide_true, decide_false, true_and, and_true, reduceCtorEq, Nat.mul_one, Int.reduceToNat, Int.reduceLE, Int.reduceLT, Int.reduceAdd, Int.reduceSub, Int.reduceMul, Int.cast_ofNat_Int, cast_zero_int, cast_one_int, Nat.reducePow, Nat.reduceEqDiff, Nat.reduceMod, Nat.zero_add, Nat.sub_zero, Nat.add_zero, e1, e2, e3, e4, e9, e10]
    by_cases hlt : i < N
    · have ws := wsucc (i := i + 1) (N := N + 1) (by omega) (by omega)
      simp only [go_sem, Nat.reduceBEq, Nat.reduceAdd, Nat.reduceMul, Nat.reduceSub, Nat.reduceLeDiff, Nat.le_refl, implies_true, Nat.reduceLT, reduceIte, decide_true, decide_false, true_and, and_true, reduceCtorEq, Nat.mul_one, Int.reduceToNat, Int.reduceLE, Int.reduceLT, Int.reduceAdd, Int.reduceSub, Int.reduceMul, Int.cast_ofNat_Int, cast_zero_int, cast_one_int, Nat.reducePow, Nat.reduceEqDiff, Nat.reduceMod, Nat.zero_add, Nat.sub_zero, Nat.add_zero, e1, e2, e3, e4, e9, e10, show ((i + 1 : Nat) : Int) ≤ N by omega]
      refine ⟨by kernel_rfl, (c_l24Reaching _ _ N P l ((i + 1 : Nat) : Int) rc (hv.mono (by simp)) (sl.mono (by simp)) g gl (by omega)).use (fun _ m => m) ?_⟩
      rintro vr _ ⟨sR, ⟨t2, rfl⟩⟩
      replace sR := sR.ai
      simp only [List.append_assoc, List.cons_append] at sR
      have hRl : (reachA P l ((i + 1 : Nat) : Int) rc).length ≤ l.length := reachL_len
      have hl12 := gl.2
      try simp only [go_sem, Nat.reduceBEq, Nat.reduceAdd, Nat.reduceMul, Nat.reduceSub, Nat.reduceLeDiff, Nat.le_refl, implies_true, Nat.reduceLT, reduceIte, decide_true, decide_false, true_and, and_true, reduceCtorEq, Nat.mul_one, Int.reduceToNat, Int.reduceLE, Int.reduceLT, Int.reduceAdd, Int.reduceSub, Int.reduceMul, Int.cast_ofNat_Int, cast_zero_int, cast_one_int, Nat.reducePow, Nat.reduceEqDiff, Nat.reduceMod, Nat.zero_add, Nat.sub_zero, Nat.add_zero, e1, e2, e3, e4, e9, e10]
      refine ⟨by kernel_rfl, (c_l24Sum _ _ l (reachA P l ((i + 1 : Nat) : Int) rc) (sl.mono (by simp)) sR gl reach_in (by omega)).use (fun _ m => m) ?_⟩
      rintro _ _ ⟨rfl, rfl⟩
      try simp only [go_sem, Nat.reduceBEq, Nat.reduceAdd, Nat.reduceMul, Nat.reduceSub, Nat.reduceLeDiff, Nat.le_refl, implies_true, Nat.reduceLT, reduceIte, decide_true, decide_false, true_and, and_true, reduceCtorEq, Nat.mul_one, Int.reduceToNat, Int.reduceLE, Int.reduceLT, Int.reduceAdd, Int.reduceSub, Int.reduceMul, Int.cast_ofNat_Int, cast_zero_int, cast_one_int, Nat.reducePow, Nat.reduceEqDiff, Nat.reduceMod, Nat.zero_add, Nat.sub_zero, Nat.add_zero, e1, e2, e3, e4, e9, e10]
      refine ⟨by kernel_rfl, (c_l24Need _ hc).use (fun _ m => m) ?_⟩
      rintro _ _ ⟨rfl, ⟨t3, rfl⟩⟩
      have hwl := weakL_len (P := P) (l := l) (nd := need cl) (rc := rc) (i := i)
      by_cases c : sumF l (reachA P l ((i + 1 : Nat) : Int) rc) < need cl
      · have hyes := weakL_yes c
        simp only [go_sem, Nat.reduceBEq, Nat.reduceAdd, Nat.reduceMul, Nat.reduceSub, Nat.reduceLeDiff, Nat.le_refl, implies_true, Nat.reduceLT, reduceIte, decide_true, decide_false, true_and, and_true, reduceCtorEq, Nat.mul_one, Int.reduceToNat, Int.reduceLE, Int.reduceLT, Int.reduceAdd, Int.reduceSub, Int.reduceMul, Int.cast_ofNat_Int, cast_zero_int, cast_one_int, Nat.reducePow, Nat.reduceEqDiff, Nat.reduceMod, Nat.zero_add, Nat.sub_zero, Nat.add_zero, e1, e2, e3, e4, e9, e10, c, app_old hj, List.length_map]
        refine ⟨by omega, by omega, hlt, _, _, ⟨e1, e2, e3, e4, rfl, congrArg _ ws, trivial⟩, .rfl, (.mk' (t.length + t2.length + t3.length + 1) ?_ (by rw [hyes]; simp) ?_)⟩
        · simp; try omega
        · exact (new_at (by simp; try omega)).trans (by simp [iv, hyes])
      · have hno := weakL_no c
        simp only [go_sem, Nat.reduceBEq, Nat.reduceAdd, Nat.reduceMul, Nat.reduceSub, Nat.reduceLeDiff, Nat.le_refl, implies_true, Nat.reduceLT, reduceIte, decide_true, decide_false, true_and, and_true, reduceCtorEq, Nat.mul_one, Int.reduceToNat, Int.reduceLE, Int.reduceLT, Int.reduceAdd, Int.reduceSub, Int.reduceMul, Int.cast_ofNat_Int, cast_zero_int, cast_one_int, Nat.reducePow, Nat.reduceEqDiff, Nat.reduceMod, Nat.zero_add, Nat.sub_zero, Nat.add_zero, e1, e2, e3, e4, e9, e10, c]
        exact ⟨hlt, _, _, ⟨e1, e2, e3, e4, e9, congrArg _ ws, trivial⟩, .rfl, by rw [hno]; exact oi.mono _⟩
    · obtain rfl : i = N := by omega
      simp only [go_sem, Nat.reduceBEq, Nat.reduceAdd, Nat.reduceMul, Nat.reduceSub, Nat.reduceLeDiff, Nat.le_refl, implies_true, Nat.reduceLT, reduceIte, decide_true, decide_false, true_and, and_true, reduceCtorEq, Nat.mul_one, Int.reduceToNat, Int.reduceLE, Int.reduceLT, Int.reduceAdd, Int.reduceSub, Int.reduceMul, Int.cast_ofNat_Int, cast_zero_int, cast_one_int, Nat.reducePow, Nat.reduceEqDiff, Nat.reduceMod, Nat.zero_add, Nat.sub_zero, Nat.add_zero, e1, e2, e3, e4, e9, e10, show ¬ (((i + 1 : Nat) : Int) ≤ i) by omega]
      exact OF.fix [_] oi rfl (by omega) (by omega)
end
end Go.Proofs.Ytjgekhahklidcaa
