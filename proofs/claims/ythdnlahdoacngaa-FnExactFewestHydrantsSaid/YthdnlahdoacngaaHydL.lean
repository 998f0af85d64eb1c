
/- Hydrants in a network: the laws. No condition. -/
import Derived.Test.YthdnlahdoacngaaHyd4
import Derived.Test.YthdnlahdoacngaaH3
namespace Go.Proofs.Ythdnlahdoacngaa
open Go.HH
set_option linter.unusedSimpArgs false
set_option linter.unusedVariables false
theorem FN.agr {n m lo hi : Nat} {h h' : Heap} {v : Value} {N : Int} {P : List Pip} (s : FN n m h v N P) (a : Agr lo hi h h') (hn : m ≤ lo ∨ hi ≤ n) : FN n m h' v N P := by
  obtain ⟨w, e, s⟩ := s; exact ⟨w, e, s.agr a hn⟩
theorem hydRes_len {N : Int} {P : List Pip} {l : List Hyd} {nd rc : Int} : (hydRes N P l nd rc).length ≤ 1048576 := by
  unfold hydRes
  split
  · rename_i h
    have h1 : (reachA P l nd rc.toNat).length ≤ l.length := reachL_len
    have h2 := h.1.2.1.2
    omega
  · simp
theorem weakRes_len {N : Int} {P : List Pip} {l : List Hyd} {rc cl : Int} : (weakRes N P l rc cl).length ≤ 1048576 := by
  unfold weakRes
  split
  · rename_i h
    have h1 : (weakL P l rc.toNat (need cl) N.toNat).length ≤ N.toNat := weakL_len
    have h2 := h.1.1.2.1
    omega
  · simp
section
variable {h : Heap} {M : Nat → Prop}

theorem l_HydrantsFor (v0 : Value) (N : Int) (P : List Pip) (v1 : Value) (l : List Hyd) (nd : Int) (rc : Int) (s0 : NA h.length h v0 N P) (hx0 : P.length ≤ 9223372036854775807) (s1 : SB h.length 2 h v1 (l.map hyd)) (hx1 : l.length ≤ 9223372036854775807) : vCall [] Try.prog M 9 [v0, v1, .int .i64 nd, .int .i64 rc] h (fun r h' => r = .bool true) := by
  obtain ⟨w0, rfl, _⟩ := id s0
  refine body_of mo Try.func9 rfl (by kernel_rfl) (Nat.le_of_ble_eq_true (by kernel_rfl)) rfl ?_
  simp only [go_sem, Nat.reduceBEq, Nat.reduceAdd, Nat.reduceMul, Nat.reduceSub, Nat.reduceLeDiff, Nat.le_refl, implies_true, Nat.reduceLT, reduceIte, decide_true, decide_false, true_and, and_true, reduceCtorEq, Nat.mul_one, Int.reduceToNat, Int.reduceLE, Int.reduceLT, Int.reduceAdd, Int.reduceSub, Int.reduceMul, Int.cast_ofNat_Int, cast_zero_int, cast_one_int, Nat.reducePow, Nat.reduceEqDiff, Nat.reduceMod, Nat.zero_add, Nat.sub_zero, Nat.add_zero]
  refine ⟨by kernel_rfl, (c_szNetwork _ N P (s0.mono (by simp)) _ (by omega) hx0).use (fun _ m => m) ?_⟩
  rintro _ H1 ⟨rfl, P1⟩
  have L1 : h.length ≤ H1.length := by have := P1.length_le; first | omega | (simp only [List.length_append, List.length_cons, List.length_nil] at this; omega)
  have Q1 : h.length + 1 ≤ H1.length := by have := P1.length_le; first | omega | (simp only [List.length_append, List.length_cons, List.length_nil] at this; omega)
  replace s0 := s0.mono ((List.prefix_append _ _).trans P1)
  replace s1 := s1.mono ((List.prefix_append _ _).trans P1)
  have bx0 := keep_get (h := h ++ _) hget_new P1
  try simp only [go_sem, Nat.reduceBEq, Nat.reduceAdd, Nat.reduceMul, Nat.reduceSub, Nat.reduceLeDiff, Nat.le_refl, implies_true, Nat.reduceLT, reduceIte, decide_true, decide_false, true_and, and_true, reduceCtorEq, Nat.mul_one, Int.reduceToNat, Int.reduceLE, Int.reduceLT, Int.reduceAdd, Int.reduceSub, Int.reduceMul, Int.cast_ofNat_Int, cast_zero_int, cast_one_int, Nat.reducePow, Nat.reduceEqDiff, Nat.reduceMod, Nat.zero_add, Nat.sub_zero, Nat.add_zero, bx0, self_get bx0, own_base L1, own_base0 L1, P1]
  by_cases c0 : (1048576 : Int) - P.length < 0
  · simp only [go_sem, Nat.reduceBEq, Nat.reduceAdd, Nat.reduceMul, Nat.reduceSub, Nat.reduceLeDiff, Nat.le_refl, implies_true, Nat.reduceLT, reduceIte, decide_true, decide_false, true_and, and_true, reduceCtorEq, Nat.mul_one, Int.reduceToNat, Int.reduceLE, Int.reduceLT, Int.reduceAdd, Int.reduceSub, Int.reduceMul, Int.cast_ofNat_Int, cast_zero_int, cast_one_int, Nat.reducePow, Nat.reduceEqDiff, Nat.reduceMod, Nat.zero_add, Nat.sub_zero, Nat.add_zero, c0]
  · have hm0 : P.length ≤ 1048576 := by omega
    try simp only [go_sem, Nat.reduceBEq, Nat.reduceAdd, Nat.reduceMul, Nat.reduceSub, Nat.reduceLeDiff, Nat.le_refl, implies_true, Nat.reduceLT, reduceIte, decide_true, decide_false, true_and, and_true, reduceCtorEq, Nat.mul_one, Int.reduceToNat, Int.reduceLE, Int.reduceLT, Int.reduceAdd, Int.reduceSub, Int.reduceMul, Int.cast_ofNat_Int, cast_zero_int, cast_one_int, Nat.reducePow, Nat.reduceEqDiff, Nat.reduceMod, Nat.zero_add, Nat.sub_zero, Nat.add_zero, bx0, self_get bx0, own_base L1, own_base0 L1, c0]
    refine ⟨by kernel_rfl, (c_szHydrantS _ l (s1.mono (by simp)).1 _ (by omega) hx1).use (fun _ m => m) ?_⟩
    rintro _ _ ⟨rfl, rfl⟩
    try simp only [go_sem, Nat.reduceBEq, Nat.reduceAdd, Nat.reduceMul, Nat.reduceSub, Nat.reduceLeDiff, Nat.le_refl, implies_true, Nat.reduceLT, reduceIte, decide_true, decide_false, true_and, and_true, reduceCtorEq, Nat.mul_one, Int.reduceToNat, Int.reduceLE, Int.reduceLT, Int.reduceAdd, Int.reduceSub, Int.reduceMul, Int.cast_ofNat_Int, cast_zero_int, cast_one_int, Nat.reducePow, Nat.reduceEqDiff, Nat.reduceMod, Nat.zero_add, Nat.sub_zero, Nat.add_zero, bx0, self_get bx0, own_base L1, own_base0 L1]
    by_cases c1 : (1048576 : Int) - P.length - l.length < 0
    · simp only [go_sem, Nat.reduceBEq, Nat.reduceAdd, Nat.reduceMul, Nat.reduceSub, Nat.reduceLeDiff, Nat.le_refl, implies_true, Nat.reduceLT, reduceIte, decide_true, decide_false, true_and, and_true, reduceCtorEq, Nat.mul_one, Int.reduceToNat, Int.reduceLE, Int.reduceLT, Int.reduceAdd, Int.reduceSub, Int.reduceMul, Int.cast_ofNat_Int, cast_zero_int, cast_one_int, Nat.reducePow, Nat.reduceEqDiff, Nat.reduceMod, Nat.zero_add, Nat.sub_zero, Nat.add_zero, c1]
    · have hm1 : l.length ≤ 1048576 := by omega
      try simp only [go_sem, Nat.reduceBEq, Nat.reduceAdd, Nat.reduceMul, Nat.reduceSub, Nat.reduceLeDiff, Nat.le_refl, implies_true, Nat.reduceLT, reduceIte, decide_true, decide_false, true_and, and_true, reduceCtorEq, Nat.mul_one, Int.reduceToNat, Int.reduceLE, Int.reduceLT, Int.reduceAdd, Int.reduceSub, Int.reduceMul, Int.cast_ofNat_Int, cast_zero_int, cast_one_int, Nat.reducePow, Nat.reduceEqDiff, Nat.reduceMod, Nat.zero_add, Nat.sub_zero, Nat.add_zero, bx0, self_get bx0, own_base L1, own_base0 L1, c1]
      obtain ⟨y0, hyd0, hy0⟩ : ∃ y : List Int, hydRes N P l nd rc = y ∧ y.length ≤ 1048576 := ⟨_, rfl, hydRes_len⟩
      refine ⟨by kernel_rfl, (c_toNetwork _ N P (s0.mono (by simp)) hm0).use (fun _ m => m) ?_⟩
      rintro a0 H2 ⟨sa0, P2⟩
      have L2 : h.length ≤ H2.length := by have := P2.length_le; first | omega | (simp only [List.length_append, List.length_cons, List.length_nil] at this; omega)
      have Q2 : H1.length + 0 ≤ H2.length := by have := P2.length_le; first | omega | (simp only [List.length_append, List.length_cons, List.length_nil] at this; omega)
      replace s0 := s0.mono P2
      replace s1 := s1.mono P2
      replace bx0 := keep_get bx0 P2
      obtain ⟨a0w, rfl, ⟨a0i, rfl, _⟩⟩ := id sa0
      try simp only [go_sem, Nat.reduceBEq, Nat.reduceAdd, Nat.reduceMul, Nat.reduceSub, Nat.reduceLeDiff, Nat.le_refl, implies_true, Nat.reduceLT, reduceIte, decide_true, decide_false, true_and, and_true, reduceCtorEq, Nat.mul_one, Int.reduceToNat, Int.reduceLE, Int.reduceLT, Int.reduceAdd, Int.reduceSub, Int.reduceMul, Int.cast_ofNat_Int, cast_zero_int, cast_one_int, Nat.reducePow, Nat.reduceEqDiff, Nat.reduceMod, Nat.zero_add, Nat.sub_zero, Nat.add_zero, bx0, self_get bx0, own_base L2, own_base0 L2, P2]
      refine ⟨by kernel_rfl, (c_toHydrantS _ l (s1.mono (by simp)).1 hm1).use (fun _ m => m) ?_⟩
      rintro a1 H3 ⟨sa1, P3⟩
      have L3 : h.length ≤ H3.length := by have := P3.length_le; first | omega | (simp only [List.length_append, List.length_cons, List.length_nil] at this; omega)
      have Q3 : H2.length + 0 ≤ H3.length := by have := P3.length_le; first | omega | (simp only [List.length_append, List.length_cons, List.length_nil] at this; omega)
      replace s0 := s0.mono P3
      replace s1 := s1.mono P3
      replace sa0 := sa0.mono P3
      replace bx0 := keep_get bx0 P3
      try simp only [go_sem, Nat.reduceBEq, Nat.reduceAdd, Nat.reduceMul, Nat.reduceSub, Nat.reduceLeDiff, Nat.le_refl, implies_true, Nat.reduceLT, reduceIte, decide_true, decide_false, true_and, and_true, reduceCtorEq, Nat.mul_one, Int.reduceToNat, Int.reduceLE, Int.reduceLT, Int.reduceAdd, Int.reduceSub, Int.reduceMul, Int.cast_ofNat_Int, cast_zero_int, cast_one_int, Nat.reducePow, Nat.reduceEqDiff, Nat.reduceMod, Nat.zero_add, Nat.sub_zero, Nat.add_zero, bx0, self_get bx0, own_base L3, own_base0 L3, P3]
      refine ⟨by kernel_rfl, (c_sHydrantsFor _ _ N P l nd rc (sa0.mono (by simp)).na (sa1.mono (by simp)).sl hm0 hm1).use (fun _ m => m) ?_⟩
      rintro _ H4 ⟨⟨w0, rfl, sw0⟩, P4⟩
      have L4 : h.length ≤ H4.length := by have := P4.length_le; first | omega | (simp only [List.length_append, List.length_cons, List.length_nil] at this; omega)
      have Q4 : H3.length + 0 ≤ H4.length := by have := P4.length_le; first | omega | (simp only [List.length_append, List.length_cons, List.length_nil] at this; omega)
      replace s0 := s0.mono P4
      replace s1 := s1.mono P4
      replace sa0 := sa0.mono P4
      replace sa1 := sa1.mono P4
      replace bx0 := keep_get bx0 P4
      rw [hyd0] at sw0
      try simp only [go_sem, Nat.reduceBEq, Nat.reduceAdd, Nat.reduceMul, Nat.reduceSub, Nat.reduceLeDiff, Nat.le_refl, implies_true, Nat.reduceLT, reduceIte, decide_true, decide_false, true_and, and_true, reduceCtorEq, Nat.mul_one, Int.reduceToNat, Int.reduceLE, Int.reduceLT, Int.reduceAdd, Int.reduceSub, Int.reduceMul, Int.cast_ofNat_Int, cast_zero_int, cast_one_int, Nat.reducePow, Nat.reduceEqDiff, Nat.reduceMod, Nat.zero_add, Nat.sub_zero, Nat.add_zero, bx0, self_get bx0, own_base L4, own_base0 L4, P4]
      refine ⟨by kernel_rfl, (c_toNetwork _ N P (s0.mono (by simp)) hm0).use (fun _ m => m) ?_⟩
      rintro x0 H5 ⟨sx0, P5⟩
      have L5 : h.length ≤ H5.length := by have := P5.length_le; first | omega | (simp only [List.length_append, List.length_cons, List.length_nil] at this; omega)
      have Q5 : H4.length + 0 ≤ H5.length := by have := P5.length_le; first | omega | (simp only [List.length_append, List.length_cons, List.length_nil] at this; omega)
      replace s0 := s0.mono P5
      replace s1 := s1.mono P5
      replace sw0 := sw0.mono P5
      replace bx0 := keep_get bx0 P5
      obtain ⟨x0w, rfl, ⟨x0i, rfl, _⟩⟩ := id sx0
      try simp only [go_sem, Nat.reduceBEq, Nat.reduceAdd, Nat.reduceMul, Nat.reduceSub, Nat.reduceLeDiff, Nat.le_refl, implies_true, Nat.reduceLT, reduceIte, decide_true, decide_false, true_and, and_true, reduceCtorEq, Nat.mul_one, Int.reduceToNat, Int.reduceLE, Int.reduceLT, Int.reduceAdd, Int.reduceSub, Int.reduceMul, Int.cast_ofNat_Int, cast_zero_int, cast_one_int, Nat.reducePow, Nat.reduceEqDiff, Nat.reduceMod, Nat.zero_add, Nat.sub_zero, Nat.add_zero, bx0, self_get bx0, own_base L5, own_base0 L5, P5]
      refine ⟨by kernel_rfl, (c_toHydrantS _ l (s1.mono (by simp)).1 hm1).use (fun _ m => m) ?_⟩
      rintro x1 H6 ⟨sx1, P6⟩
      have L6 : h.length ≤ H6.length := by have := P6.length_le; first | omega | (simp only [List.length_append, List.length_cons, List.length_nil] at this; omega)
      have Q6 : H5.length + 1 ≤ H6.length := by have := P6.length_le; first | omega | (simp only [List.length_append, List.length_cons, List.length_nil] at this; omega)
      replace s0 := s0.mono ((List.prefix_append _ _).trans P6)
      replace s1 := s1.mono ((List.prefix_append _ _).trans P6)
      replace sw0 := sw0.mono ((List.prefix_append _ _).trans P6)
      replace sx0 := sx0.mono ((List.prefix_append _ _).trans P6)
      replace bx0 := keep_get bx0 ((List.prefix_append _ _).trans P6)
      have bbx0 := keep_get (h := H5 ++ _) hget_new P6
      simp only [List.length_append, List.length_cons, List.length_nil] at sx1
      try simp only [go_sem, Nat.reduceBEq, Nat.reduceAdd, Nat.reduceMul, Nat.reduceSub, Nat.reduceLeDiff, Nat.le_refl, implies_true, Nat.reduceLT, reduceIte, decide_true, decide_false, true_and, and_true, reduceCtorEq, Nat.mul_one, Int.reduceToNat, Int.reduceLE, Int.reduceLT, Int.reduceAdd, Int.reduceSub, Int.reduceMul, Int.cast_ofNat_Int, cast_zero_int, cast_one_int, Nat.reducePow, Nat.reduceEqDiff, Nat.reduceMod, Nat.zero_add, Nat.sub_zero, Nat.add_zero, bx0, bbx0, self_get bx0, self_get bbx0, own_base L6, own_base0 L6, P6]
      refine ⟨by kernel_rfl, (c_HydrantsFor _ _ N P l nd rc (sx0.mono (by simp)).na (sx1.mono (by simp)).sl hm0 hm1).use (fun _ m => m) ?_⟩
      rintro _ H7 ⟨⟨g0, rfl, sg0⟩, P7⟩
      have L7 : h.length ≤ H7.length := by have := P7.length_le; first | omega | (simp only [List.length_append, List.length_cons, List.length_nil] at this; omega)
      have Q7 : H6.length + 0 ≤ H7.length := by have := P7.length_le; first | omega | (simp only [List.length_append, List.length_cons, List.length_nil] at this; omega)
      replace s0 := s0.mono P7
      replace s1 := s1.mono P7
      replace sw0 := sw0.mono P7
      replace sx0 := sx0.mono P7
      replace sx1 := sx1.mono P7
      replace bx0 := keep_get bx0 P7
      replace bbx0 := keep_get bbx0 P7
      rw [hyd0] at sg0
      try simp only [go_sem, Nat.reduceBEq, Nat.reduceAdd, Nat.reduceMul, Nat.reduceSub, Nat.reduceLeDiff, Nat.le_refl, implies_true, Nat.reduceLT, reduceIte, decide_true, decide_false, true_and, and_true, reduceCtorEq, Nat.mul_one, Int.reduceToNat, Int.reduceLE, Int.reduceLT, Int.reduceAdd, Int.reduceSub, Int.reduceMul, Int.cast_ofNat_Int, cast_zero_int, cast_one_int, Nat.reducePow, Nat.reduceEqDiff, Nat.reduceMod, Nat.zero_add, Nat.sub_zero, Nat.add_zero, bx0, bbx0, self_get bx0, self_get bbx0, own_base L7, own_base0 L7, P7]
      refine ⟨by kernel_rfl, (c_eqIntS _ _ _ _ (sg0.mono (by simp)).ai (sw0.mono (by simp)).ai hy0 hy0).use (fun _ m => m) ?_⟩
      rintro _ H8 ⟨rfl, P8⟩
      have L8 : h.length ≤ H8.length := by have := P8.length_le; first | omega | (simp only [List.length_append, List.length_cons, List.length_nil] at this; omega)
      have Q8 : H7.length + 0 ≤ H8.length := by have := P8.length_le; first | omega | (simp only [List.length_append, List.length_cons, List.length_nil] at this; omega)
      replace s0 := s0.mono P8
      replace s1 := s1.mono P8
      replace sw0 := sw0.mono P8
      replace sx0 := sx0.mono P8
      replace sx1 := sx1.mono P8
      replace sg0 := sg0.mono P8
      replace bx0 := keep_get bx0 P8
      replace bbx0 := keep_get bbx0 P8
      try simp only [go_sem, Nat.reduceBEq, Nat.reduceAdd, Nat.reduceMul, Nat.reduceSub, Nat.reduceLeDiff, Nat.le_refl, implies_true, Nat.reduceLT, reduceIte, decide_true, decide_false, true_and, and_true, reduceCtorEq, Nat.mul_one, Int.reduceToNat, Int.reduceLE, Int.reduceLT, Int.reduceAdd, Int.reduceSub, Int.reduceMul, Int.cast_ofNat_Int, cast_zero_int, cast_one_int, Nat.reducePow, Nat.reduceEqDiff, Nat.reduceMod, Nat.zero_add, Nat.sub_zero, Nat.add_zero, bx0, bbx0, self_get bx0, self_get bbx0, own_base L8, own_base0 L8, P8, Try.underlying4, and_self, bne_self_eq_false, decide_true]
      refine ⟨by kernel_rfl, (c_toNetwork _ N P (s0.mono (by simp)) hm0).use (fun _ m => m) ?_⟩
      rintro z0 H9 ⟨sz0, P9⟩
      have L9 : h.length ≤ H9.length := by have := P9.length_le; first | omega | (simp only [List.length_append, List.length_cons, List.length_nil] at this; omega)
      have Q9 : H8.length + 0 ≤ H9.length := by have := P9.length_le; first | omega | (simp only [List.length_append, List.length_cons, List.length_nil] at this; omega)
      replace s0 := s0.mono P9
      replace s1 := s1.mono P9
      replace sw0 := sw0.mono P9
      replace sx0 := sx0.mono P9
      replace sx1 := sx1.mono P9
      replace sg0 := sg0.mono P9
      replace bx0 := keep_get bx0 P9
      replace bbx0 := keep_get bbx0 P9
      obtain ⟨z0w, rfl, ⟨z0i, rfl, _⟩⟩ := id sz0
      try simp only [go_sem, Nat.reduceBEq, Nat.reduceAdd, Nat.reduceMul, Nat.reduceSub, Nat.reduceLeDiff, Nat.le_refl, implies_true, Nat.reduceLT, reduceIte, decide_true, decide_false, true_and, and_true, reduceCtorEq, Nat.mul_one, Int.reduceToNat, Int.reduceLE, Int.reduceLT, Int.reduceAdd, Int.reduceSub, Int.reduceMul, Int.cast_ofNat_Int, cast_zero_int, cast_one_int, Nat.reducePow, Nat.reduceEqDiff, Nat.reduceMod, Nat.zero_add, Nat.sub_zero, Nat.add_zero, bx0, bbx0, self_get bx0, self_get bbx0, own_base L9, own_base0 L9, P9]
      refine ⟨by kernel_rfl, (c_eqNetwork _ _ N P (sx0.mono (by simp)).na (sz0.mono (by simp)).na hm0).use (fun _ m => m) ?_⟩
      rintro _ H10 ⟨rfl, P10⟩
      have L10 : h.length ≤ H10.length := by have := P10.length_le; first | omega | (simp only [List.length_append, List.length_cons, List.length_nil] at this; omega)
      have Q10 : H9.length + 0 ≤ H10.length := by have := P10.length_le; first | omega | (simp only [List.length_append, List.length_cons, List.length_nil] at this; omega)
      replace s0 := s0.mono P10
      replace s1 := s1.mono P10
      replace sw0 := sw0.mono P10
      replace sx0 := sx0.mono P10
      replace sx1 := sx1.mono P10
      replace sg0 := sg0.mono P10
      replace sz0 := sz0.mono P10
      replace bx0 := keep_get bx0 P10
      replace bbx0 := keep_get bbx0 P10
      try simp only [go_sem, Nat.reduceBEq, Nat.reduceAdd, Nat.reduceMul, Nat.reduceSub, Nat.reduceLeDiff, Nat.le_refl, implies_true, Nat.reduceLT, reduceIte, decide_true, decide_false, true_and, and_true, reduceCtorEq, Nat.mul_one, Int.reduceToNat, Int.reduceLE, Int.reduceLT, Int.reduceAdd, Int.reduceSub, Int.reduceMul, Int.cast_ofNat_Int, cast_zero_int, cast_one_int, Nat.reducePow, Nat.reduceEqDiff, Nat.reduceMod, Nat.zero_add, Nat.sub_zero, Nat.add_zero, bx0, bbx0, self_get bx0, self_get bbx0, own_base L10, own_base0 L10, P10, and_self, decide_true]
      refine ⟨by kernel_rfl, (c_toHydrantS _ l (s1.mono (by simp)).1 hm1).use (fun _ m => m) ?_⟩
      rintro z1 H11 ⟨sz1, P11⟩
      have L11 : h.length ≤ H11.length := by have := P11.length_le; first | omega | (simp only [List.length_append, List.length_cons, List.length_nil] at this; omega)
      have Q11 : H10.length + 0 ≤ H11.length := by have := P11.length_le; first | omega | (simp only [List.length_append, List.length_cons, List.length_nil] at this; omega)
      replace s0 := s0.mono P11
      replace s1 := s1.mono P11
      replace sw0 := sw0.mono P11
      replace sx0 := sx0.mono P11
      replace sx1 := sx1.mono P11
      replace sg0 := sg0.mono P11
      replace bx0 := keep_get bx0 P11
      replace bbx0 := keep_get bbx0 P11
      try simp only [go_sem, Nat.reduceBEq, Nat.reduceAdd, Nat.reduceMul, Nat.reduceSub, Nat.reduceLeDiff, Nat.le_refl, implies_true, Nat.reduceLT, reduceIte, decide_true, decide_false, true_and, and_true, reduceCtorEq, Nat.mul_one, Int.reduceToNat, Int.reduceLE, Int.reduceLT, Int.reduceAdd, Int.reduceSub, Int.reduceMul, Int.cast_ofNat_Int, cast_zero_int, cast_one_int, Nat.reducePow, Nat.reduceEqDiff, Nat.reduceMod, Nat.zero_add, Nat.sub_zero, Nat.add_zero, bx0, bbx0, self_get bx0, self_get bbx0, own_base L11, own_base0 L11, P11]
      refine ⟨by kernel_rfl, (c_eqHydrantS _ _ l (sx1.mono (by simp)).sl (sz1.mono (by simp)).sl hm1).use (fun _ m => m) ?_⟩
      rintro _ H12 ⟨rfl, P12⟩
      have L12 : h.length ≤ H12.length := by have := P12.length_le; first | omega | (simp only [List.length_append, List.length_cons, List.length_nil] at this; omega)
      have Q12 : H11.length + 0 ≤ H12.length := by have := P12.length_le; first | omega | (simp only [List.length_append, List.length_cons, List.length_nil] at this; omega)
      replace s0 := s0.mono P12
      replace s1 := s1.mono P12
      replace sw0 := sw0.mono P12
      replace sx0 := sx0.mono P12
      replace sx1 := sx1.mono P12
      replace sg0 := sg0.mono P12
      replace sz1 := sz1.mono P12
      replace bx0 := keep_get bx0 P12
      replace bbx0 := keep_get bbx0 P12
      try simp only [go_sem, Nat.reduceBEq, Nat.reduceAdd, Nat.reduceMul, Nat.reduceSub, Nat.reduceLeDiff, Nat.le_refl, implies_true, Nat.reduceLT, reduceIte, decide_true, decide_false, true_and, and_true, reduceCtorEq, Nat.mul_one, Int.reduceToNat, Int.reduceLE, Int.reduceLT, Int.reduceAdd, Int.reduceSub, Int.reduceMul, Int.cast_ofNat_Int, cast_zero_int, cast_one_int, Nat.reducePow, Nat.reduceEqDiff, Nat.reduceMod, Nat.zero_add, Nat.sub_zero, Nat.add_zero, bx0, bbx0, self_get bx0, self_get bbx0, own_base L12, own_base0 L12, P12, and_self, decide_true]
      refine ⟨by kernel_rfl, (c_markNetwork _ N P (sx0.mono (by simp)) (fun i a b => Or.inl (by omega)) _ (by omega) hm0).use (fun _ m => m) ?_⟩
      rintro _ H13 ⟨rfl, ag13⟩
      have Q13 : H12.length ≤ H13.length := ag13.1
      have L13 : h.length ≤ H13.length := by omega
      replace s0 := s0.agr ag13 (by omega)
      replace s1 := s1.agr ag13 (by omega)
      replace sw0 := sw0.agr ag13 (by omega)
      replace sx1 := sx1.agr ag13 (by omega)
      replace sg0 := sg0.agr ag13 (by omega)
      replace bx0 := agr_get ag13 bx0 (by omega)
      replace bbx0 := agr_get ag13 bbx0 (by omega)
      try simp only [go_sem, Nat.reduceBEq, Nat.reduceAdd, Nat.reduceMul, Nat.reduceSub, Nat.reduceLeDiff, Nat.le_refl, implies_true, Nat.reduceLT, reduceIte, decide_true, decide_false, true_and, and_true, reduceCtorEq, Nat.mul_one, Int.reduceToNat, Int.reduceLE, Int.reduceLT, Int.reduceAdd, Int.reduceSub, Int.reduceMul, Int.cast_ofNat_Int, cast_zero_int, cast_one_int, Nat.reducePow, Nat.reduceEqDiff, Nat.reduceMod, Nat.zero_add, Nat.sub_zero, Nat.add_zero, bx0, bbx0, self_get bx0, self_get bbx0, own_base L13, own_base0 L13]
      refine ⟨by kernel_rfl, (c_markHydrantS _ l (sx1.mono (by simp)) (fun i a b => Or.inl (by omega)) _ (by omega) hm1).use (fun _ m => m) ?_⟩
      rintro _ H14 ⟨rfl, ag14⟩
      have Q14 : H13.length ≤ H14.length := ag14.1
      have L14 : h.length ≤ H14.length := by omega
      replace s0 := s0.agr ag14 (by omega)
      replace s1 := s1.agr ag14 (by omega)
      replace sw0 := sw0.agr ag14 (by omega)
      replace sg0 := sg0.agr ag14 (by omega)
      replace bx0 := agr_get ag14 bx0 (by omega)
      replace bbx0 := agr_get ag14 bbx0 (by omega)
      try simp only [go_sem, Nat.reduceBEq, Nat.reduceAdd, Nat.reduceMul, Nat.reduceSub, Nat.reduceLeDiff, Nat.le_refl, implies_true, Nat.reduceLT, reduceIte, decide_true, decide_false, true_and, and_true, reduceCtorEq, Nat.mul_one, Int.reduceToNat, Int.reduceLE, Int.reduceLT, Int.reduceAdd, Int.reduceSub, Int.reduceMul, Int.cast_ofNat_Int, cast_zero_int, cast_one_int, Nat.reducePow, Nat.reduceEqDiff, Nat.reduceMod, Nat.zero_add, Nat.sub_zero, Nat.add_zero, bx0, bbx0, self_get bx0, self_get bbx0, own_base L14, own_base0 L14]
      have n1 : ¬ (1 + 4 * (P.length : Int) + 2 * (l.length : Int) < 0) := by omega
      try simp only [go_sem, Nat.reduceBEq, Nat.reduceAdd, Nat.reduceMul, Nat.reduceSub, Nat.reduceLeDiff, Nat.le_refl, implies_true, Nat.reduceLT, reduceIte, decide_true, decide_false, true_and, and_true, reduceCtorEq, Nat.mul_one, Int.reduceToNat, Int.reduceLE, Int.reduceLT, Int.reduceAdd, Int.reduceSub, Int.reduceMul, Int.cast_ofNat_Int, cast_zero_int, cast_one_int, Nat.reducePow, Nat.reduceEqDiff, Nat.reduceMod, Nat.zero_add, Nat.sub_zero, Nat.add_zero, bx0, bbx0, self_get bx0, self_get bbx0, own_base L14, own_base0 L14, n1]
      refine ⟨by kernel_rfl, (c_eqIntS _ _ _ _ (sg0.mono (by simp)).ai (sw0.mono (by simp)).ai hy0 hy0).use (fun _ m => m) ?_⟩
      rintro _ H15 ⟨rfl, P15⟩
      have L15 : h.length ≤ H15.length := by have := P15.length_le; first | omega | (simp only [List.length_append, List.length_cons, List.length_nil] at this; omega)
      have Q15 : H14.length + 0 ≤ H15.length := by have := P15.length_le; first | omega | (simp only [List.length_append, List.length_cons, List.length_nil] at this; omega)
      replace s0 := s0.mono P15
      replace s1 := s1.mono P15
      replace sw0 := sw0.mono P15
      replace sg0 := sg0.mono P15
      replace bx0 := keep_get bx0 P15
      replace bbx0 := keep_get bbx0 P15
      try simp only [go_sem, Nat.reduceBEq, Nat.reduceAdd, Nat.reduceMul, Nat.reduceSub, Nat.reduceLeDiff, Nat.le_refl, implies_true, Nat.reduceLT, reduceIte, decide_true, decide_false, true_and, and_true, reduceCtorEq, Nat.mul_one, Int.reduceToNat, Int.reduceLE, Int.reduceLT, Int.reduceAdd, Int.reduceSub, Int.reduceMul, Int.cast_ofNat_Int, cast_zero_int, cast_one_int, Nat.reducePow, Nat.reduceEqDiff, Nat.reduceMod, Nat.zero_add, Nat.sub_zero, Nat.add_zero, bx0, bbx0, self_get bx0, self_get bbx0, own_base L15, own_base0 L15, n1, P15, Try.underlying4, and_self, bne_self_eq_false, decide_true]
      refine ⟨by kernel_rfl, (c_markIntS _ _ (sg0.mono (by simp)) (fun i a b => Or.inl (by omega)) _ (by omega) hy0).use (fun _ m => m) ?_⟩
      rintro _ H16 ⟨rfl, sm, ag16⟩
      have Q16 : H15.length ≤ H16.length := ag16.1
      have L16 : h.length ≤ H16.length := by omega
      replace s0 := s0.agr ag16 (by omega)
      replace s1 := s1.agr ag16 (by omega)
      replace sw0 := sw0.agr ag16 (by omega)
      replace bx0 := agr_get ag16 bx0 (by omega)
      replace bbx0 := agr_get ag16 bbx0 (by omega)
      try simp only [go_sem, Nat.reduceBEq, Nat.reduceAdd, Nat.reduceMul, Nat.reduceSub, Nat.reduceLeDiff, Nat.le_refl, implies_true, Nat.reduceLT, reduceIte, decide_true, decide_false, true_and, and_true, reduceCtorEq, Nat.mul_one, Int.reduceToNat, Int.reduceLE, Int.reduceLT, Int.reduceAdd, Int.reduceSub, Int.reduceMul, Int.cast_ofNat_Int, cast_zero_int, cast_one_int, Nat.reducePow, Nat.reduceEqDiff, Nat.reduceMod, Nat.zero_add, Nat.sub_zero, Nat.add_zero, bx0, bbx0, self_get bx0, self_get bbx0, own_base L16, own_base0 L16, n1]
      have n2 : ¬ (1 + (y0.length : Int) < 0) := by omega
      refine ⟨by kernel_rfl, (c_heldIntS _ _ 1 (by omega) (sm.mono (by simp)).ai (by rw [marks_len]) (by rw [marks_len]; exact hy0)).use (fun _ m => m) ?_⟩
      rintro _ H17 ⟨rfl, P17⟩
      have L17 : h.length ≤ H17.length := by have := P17.length_le; first | omega | (simp only [List.length_append, List.length_cons, List.length_nil] at this; omega)
      have Q17 : H16.length + 0 ≤ H17.length := by have := P17.length_le; first | omega | (simp only [List.length_append, List.length_cons, List.length_nil] at this; omega)
      replace s0 := s0.mono P17
      replace s1 := s1.mono P17
      replace sw0 := sw0.mono P17
      replace sm := sm.mono P17
      replace bx0 := keep_get bx0 P17
      replace bbx0 := keep_get bbx0 P17
      try simp only [go_sem, Nat.reduceBEq, Nat.reduceAdd, Nat.reduceMul, Nat.reduceSub, Nat.reduceLeDiff, Nat.le_refl, implies_true, Nat.reduceLT, reduceIte, decide_true, decide_false, true_and, and_true, reduceCtorEq, Nat.mul_one, Int.reduceToNat, Int.reduceLE, Int.reduceLT, Int.reduceAdd, Int.reduceSub, Int.reduceMul, Int.cast_ofNat_Int, cast_zero_int, cast_one_int, Nat.reducePow, Nat.reduceEqDiff, Nat.reduceMod, Nat.zero_add, Nat.sub_zero, Nat.add_zero, bx0, bbx0, self_get bx0, self_get bbx0, own_base L17, own_base0 L17, n1, n2, P17, marks_len, bne_self_eq_false]
      refine ⟨by kernel_rfl, (c_toNetwork _ N P (s0.mono (by simp)) hm0).use (fun _ m => m) ?_⟩
      rintro u0 H18 ⟨su0, P18⟩
      have L18 : h.length ≤ H18.length := by have := P18.length_le; first | omega | (simp only [List.length_append, List.length_cons, List.length_nil] at this; omega)
      have Q18 : H17.length + 0 ≤ H18.length := by have := P18.length_le; first | omega | (simp only [List.length_append, List.length_cons, List.length_nil] at this; omega)
      replace s0 := s0.mono P18
      replace s1 := s1.mono P18
      replace sw0 := sw0.mono P18
      replace sm := sm.mono P18
      replace bx0 := keep_get bx0 P18
      replace bbx0 := keep_get bbx0 P18
      obtain ⟨u0w, rfl, ⟨u0i, rfl, _⟩⟩ := id su0
      try simp only [go_sem, Nat.reduceBEq, Nat.reduceAdd, Nat.reduceMul, Nat.reduceSub, Nat.reduceLeDiff, Nat.le_refl, implies_true, Nat.reduceLT, reduceIte, decide_true, decide_false, true_and, and_true, reduceCtorEq, Nat.mul_one, Int.reduceToNat, Int.reduceLE, Int.reduceLT, Int.reduceAdd, Int.reduceSub, Int.reduceMul, Int.cast_ofNat_Int, cast_zero_int, cast_one_int, Nat.reducePow, Nat.reduceEqDiff, Nat.reduceMod, Nat.zero_add, Nat.sub_zero, Nat.add_zero, bx0, bbx0, self_get bx0, self_get bbx0, own_base L18, own_base0 L18, n1, n2, P18]
      refine ⟨by kernel_rfl, (c_toHydrantS _ l (s1.mono (by simp)).1 hm1).use (fun _ m => m) ?_⟩
      rintro u1 H19 ⟨su1, P19⟩
      have L19 : h.length ≤ H19.length := by have := P19.length_le; first | omega | (simp only [List.length_append, List.length_cons, List.length_nil] at this; omega)
      have Q19 : H18.length + 0 ≤ H19.length := by have := P19.length_le; first | omega | (simp only [List.length_append, List.length_cons, List.length_nil] at this; omega)
      replace s0 := s0.mono P19
      replace s1 := s1.mono P19
      replace sw0 := sw0.mono P19
      replace sm := sm.mono P19
      replace su0 := su0.mono P19
      replace bx0 := keep_get bx0 P19
      replace bbx0 := keep_get bbx0 P19
      try simp only [go_sem, Nat.reduceBEq, Nat.reduceAdd, Nat.reduceMul, Nat.reduceSub, Nat.reduceLeDiff, Nat.le_refl, implies_true, Nat.reduceLT, reduceIte, decide_true, decide_false, true_and, and_true, reduceCtorEq, Nat.mul_one, Int.reduceToNat, Int.reduceLE, Int.reduceLT, Int.reduceAdd, Int.reduceSub, Int.reduceMul, Int.cast_ofNat_Int, cast_zero_int, cast_one_int, Nat.reducePow, Nat.reduceEqDiff, Nat.reduceMod, Nat.zero_add, Nat.sub_zero, Nat.add_zero, bx0, bbx0, self_get bx0, self_get bbx0, own_base L19, own_base0 L19, n1, n2, P19]
      refine ⟨by kernel_rfl, (c_HydrantsFor _ _ N P l nd rc (su0.mono (by simp)).na (su1.mono (by simp)).sl hm0 hm1).use (fun _ m => m) ?_⟩
      rintro _ H20 ⟨⟨e0, rfl, se0⟩, P20⟩
      have L20 : h.length ≤ H20.length := by have := P20.length_le; first | omega | (simp only [List.length_append, List.length_cons, List.length_nil] at this; omega)
      have Q20 : H19.length + 0 ≤ H20.length := by have := P20.length_le; first | omega | (simp only [List.length_append, List.length_cons, List.length_nil] at this; omega)
      replace s0 := s0.mono P20
      replace s1 := s1.mono P20
      replace sw0 := sw0.mono P20
      replace sm := sm.mono P20
      replace su0 := su0.mono P20
      replace su1 := su1.mono P20
      replace bx0 := keep_get bx0 P20
      replace bbx0 := keep_get bbx0 P20
      rw [hyd0] at se0
      try simp only [go_sem, Nat.reduceBEq, Nat.reduceAdd, Nat.reduceMul, Nat.reduceSub, Nat.reduceLeDiff, Nat.le_refl, implies_true, Nat.reduceLT, reduceIte, decide_true, decide_false, true_and, and_true, reduceCtorEq, Nat.mul_one, Int.reduceToNat, Int.reduceLE, Int.reduceLT, Int.reduceAdd, Int.reduceSub, Int.reduceMul, Int.cast_ofNat_Int, cast_zero_int, cast_one_int, Nat.reducePow, Nat.reduceEqDiff, Nat.reduceMod, Nat.zero_add, Nat.sub_zero, Nat.add_zero, bx0, bbx0, self_get bx0, self_get bbx0, own_base L20, own_base0 L20, n1, n2, P20]
      refine ⟨by kernel_rfl, (c_eqIntS _ _ _ _ (se0.mono (by simp)).ai (sw0.mono (by simp)).ai hy0 hy0).use (fun _ m => m) ?_⟩
      rintro _ H21 ⟨rfl, P21⟩
      have L21 : h.length ≤ H21.length := by have := P21.length_le; first | omega | (simp only [List.length_append, List.length_cons, List.length_nil] at this; omega)
      have Q21 : H20.length + 0 ≤ H21.length := by have := P21.length_le; first | omega | (simp only [List.length_append, List.length_cons, List.length_nil] at this; omega)
      replace s0 := s0.mono P21
      replace s1 := s1.mono P21
      replace sw0 := sw0.mono P21
      replace sm := sm.mono P21
      replace su0 := su0.mono P21
      replace su1 := su1.mono P21
      replace se0 := se0.mono P21
      replace bx0 := keep_get bx0 P21
      replace bbx0 := keep_get bbx0 P21
      try simp only [go_sem, Nat.reduceBEq, Nat.reduceAdd, Nat.reduceMul, Nat.reduceSub, Nat.reduceLeDiff, Nat.le_refl, implies_true, Nat.reduceLT, reduceIte, decide_true, decide_false, true_and, and_true, reduceCtorEq, Nat.mul_one, Int.reduceToNat, Int.reduceLE, Int.reduceLT, Int.reduceAdd, Int.reduceSub, Int.reduceMul, Int.cast_ofNat_Int, cast_zero_int, cast_one_int, Nat.reducePow, Nat.reduceEqDiff, Nat.reduceMod, Nat.zero_add, Nat.sub_zero, Nat.add_zero, bx0, bbx0, self_get bx0, self_get bbx0, own_base L21, own_base0 L21, n1, n2, P21, Try.underlying4, and_self, bne_self_eq_false, decide_true]
      refine ⟨by kernel_rfl, (c_heldIntS _ _ 1 (by omega) (sm.mono (by simp)).ai (by rw [marks_len]) (by rw [marks_len]; exact hy0)).use (fun _ m => m) ?_⟩
      rintro _ H22 ⟨rfl, P22⟩
      have L22 : h.length ≤ H22.length := by have := P22.length_le; first | omega | (simp only [List.length_append, List.length_cons, List.length_nil] at this; omega)
      have Q22 : H21.length + 0 ≤ H22.length := by have := P22.length_le; first | omega | (simp only [List.length_append, List.length_cons, List.length_nil] at this; omega)
      replace s0 := s0.mono P22
      replace s1 := s1.mono P22
      replace sw0 := sw0.mono P22
      replace sm := sm.mono P22
      replace su0 := su0.mono P22
      replace su1 := su1.mono P22
      replace se0 := se0.mono P22
      replace bx0 := keep_get bx0 P22
      replace bbx0 := keep_get bbx0 P22
      try simp only [go_sem, Nat.reduceBEq, Nat.reduceAdd, Nat.reduceMul, Nat.reduceSub, Nat.reduceLeDiff, Nat.le_refl, implies_true, Nat.reduceLT, reduceIte, decide_true, decide_false, true_and, and_true, reduceCtorEq, Nat.mul_one, Int.reduceToNat, Int.reduceLE, Int.reduceLT, Int.reduceAdd, Int.reduceSub, Int.reduceMul, Int.cast_ofNat_Int, cast_zero_int, cast_one_int, Nat.reducePow, Nat.reduceEqDiff, Nat.reduceMod, Nat.zero_add, Nat.sub_zero, Nat.add_zero, bx0, bbx0, self_get bx0, self_get bbx0, own_base L22, own_base0 L22, n1, n2, P22, marks_len, bne_self_eq_false]

theorem l_FlowFor (v0 : Value) (N : Int) (P : List Pip) (v1 : Value) (l : List Hyd) (nd : Int) (rc : Int) (s0 : NA h.length h v0 N P) (hx0 : P.length ≤ 9223372036854775807) (s1 : SB h.length 2 h v1 (l.map hyd)) (hx1 : l.length ≤ 9223372036854775807) : vCall [] Try.prog M 7 [v0, v1, .int .i64 nd, .int .i64 rc] h (fun r h' => r = .bool true) := by
  obtain ⟨w0, rfl, _⟩ := id s0
  refine body_of mo Try.func7 rfl (by kernel_rfl) (Nat.le_of_ble_eq_true (by kernel_rfl)) rfl ?_
  simp only [go_sem, Nat.reduceBEq, Nat.reduceAdd, Nat.reduceMul, Nat.reduceSub, Nat.reduceLeDiff, Nat.le_refl, implies_true, Nat.reduceLT, reduceIte, decide_true, decide_false, true_and, and_true, reduceCtorEq, Nat.mul_one, Int.reduceToNat, Int.reduceLE, Int.reduceLT, Int.reduceAdd, Int.reduceSub, Int.reduceMul, Int.cast_ofNat_Int, cast_zero_int, cast_one_int, Nat.reducePow, Nat.reduceEqDiff, Nat.reduceMod, Nat.zero_add, Nat.sub_zero, Nat.add_zero]
  refine ⟨by kernel_rfl, (c_szNetwork _ N P (s0.mono (by simp)) _ (by omega) hx0).use (fun _ m => m) ?_⟩
  rintro _ H1 ⟨rfl, P1⟩
  have L1 : h.length ≤ H1.length := by have := P1.length_le; first | omega | (simp only [List.length_append, List.length_cons, List.length_nil] at this; omega)
  have Q1 : h.length + 1 ≤ H1.length := by have := P1.length_le; first | omega | (simp only [List.length_append, List.length_cons, List.length_nil] at this; omega)
  replace s0 := s0.mono ((List.prefix_append _ _).trans P1)
  replace s1 := s1.mono ((List.prefix_append _ _).trans P1)
  have bx0 := keep_get (h := h ++ _) hget_new P1
  try simp only [go_sem, Nat.reduceBEq, Nat.reduceAdd, Nat.reduceMul, Nat.reduceSub, Nat.reduceLeDiff, Nat.le_refl, implies_true, Nat.reduceLT, reduceIte, decide_true, decide_false, true_and, and_true, reduceCtorEq, Nat.mul_one, Int.reduceToNat, Int.reduceLE, Int.reduceLT, Int.reduceAdd, Int.reduceSub, Int.reduceMul, Int.cast_ofNat_Int, cast_zero_int, cast_one_int, Nat.reducePow, Nat.reduceEqDiff, Nat.reduceMod, Nat.zero_add, Nat.sub_zero, Nat.add_zero, bx0, self_get bx0, own_base L1, own_base0 L1, P1]
  by_cases c0 : (1048576 : Int) - P.length < 0
  · simp only [go_sem, Nat.reduceBEq, Nat.reduceAdd, Nat.reduceMul, Nat.reduceSub, Nat.reduceLeDiff, Nat.le_refl, implies_true, Nat.reduceLT, reduceIte, decide_true, decide_false, true_and, and_true, reduceCtorEq, Nat.mul_one, Int.reduceToNat, Int.reduceLE, Int.reduceLT, Int.reduceAdd, Int.reduceSub, Int.reduceMul, Int.cast_ofNat_Int, cast_zero_int, cast_one_int, Nat.reducePow, Nat.reduceEqDiff, Nat.reduceMod, Nat.zero_add, Nat.sub_zero, Nat.add_zero, c0]
  · have hm0 : P.length ≤ 1048576 := by omega
    try simp only [go_sem, Nat.reduceBEq, Nat.reduceAdd, Nat.reduceMul, Nat.reduceSub, Nat.reduceLeDiff, Nat.le_refl, implies_true, Nat.reduceLT, reduceIte, decide_true, decide_false, true_and, and_true, reduceCtorEq, Nat.mul_one, Int.reduceToNat, Int.reduceLE, Int.reduceLT, Int.reduceAdd, Int.reduceSub, Int.reduceMul, Int.cast_ofNat_Int, cast_zero_int, cast_one_int, Nat.reducePow, Nat.reduceEqDiff, Nat.reduceMod, Nat.zero_add, Nat.sub_zero, Nat.add_zero, bx0, self_get bx0, own_base L1, own_base0 L1, c0]
    refine ⟨by kernel_rfl, (c_szHydrantS _ l (s1.mono (by simp)).1 _ (by omega) hx1).use (fun _ m => m) ?_⟩
    rintro _ _ ⟨rfl, rfl⟩
    try simp only [go_sem, Nat.reduceBEq, Nat.reduceAdd, Nat.reduceMul, Nat.reduceSub, Nat.reduceLeDiff, Nat.le_refl, implies_true, Nat.reduceLT, reduceIte, decide_true, decide_false, true_and, and_true, reduceCtorEq, Nat.mul_one, Int.reduceToNat, Int.reduceLE, Int.reduceLT, Int.reduceAdd, Int.reduceSub, Int.reduceMul, Int.cast_ofNat_Int, cast_zero_int, cast_one_int, Nat.reducePow, Nat.reduceEqDiff, Nat.reduceMod, Nat.zero_add, Nat.sub_zero, Nat.add_zero, bx0, self_get bx0, own_base L1, own_base0 L1]
    by_cases c1 : (1048576 : Int) - P.length - l.length < 0
    · simp only [go_sem, Nat.reduceBEq, Nat.reduceAdd, Nat.reduceMul, Nat.reduceSub, Nat.reduceLeDiff, Nat.le_refl, implies_true, Nat.reduceLT, reduceIte, decide_true, decide_false, true_and, and_true, reduceCtorEq, Nat.mul_one, Int.reduceToNat, Int.reduceLE, Int.reduceLT, Int.reduceAdd, Int.reduceSub, Int.reduceMul, Int.cast_ofNat_Int, cast_zero_int, cast_one_int, Nat.reducePow, Nat.reduceEqDiff, Nat.reduceMod, Nat.zero_add, Nat.sub_zero, Nat.add_zero, c1]
    · have hm1 : l.length ≤ 1048576 := by omega
      try simp only [go_sem, Nat.reduceBEq, Nat.reduceAdd, Nat.reduceMul, Nat.reduceSub, Nat.reduceLeDiff, Nat.le_refl, implies_true, Nat.reduceLT, reduceIte, decide_true, decide_false, true_and, and_true, reduceCtorEq, Nat.mul_one, Int.reduceToNat, Int.reduceLE, Int.reduceLT, Int.reduceAdd, Int.reduceSub, Int.reduceMul, Int.cast_ofNat_Int, cast_zero_int, cast_one_int, Nat.reducePow, Nat.reduceEqDiff, Nat.reduceMod, Nat.zero_add, Nat.sub_zero, Nat.add_zero, bx0, self_get bx0, own_base L1, own_base0 L1, c1]
      refine ⟨by kernel_rfl, (c_toNetwork _ N P (s0.mono (by simp)) hm0).use (fun _ m => m) ?_⟩
      rintro a0 H2 ⟨sa0, P2⟩
      have L2 : h.length ≤ H2.length := by have := P2.length_le; first | omega | (simp only [List.length_append, List.length_cons, List.length_nil] at this; omega)
      have Q2 : H1.length + 0 ≤ H2.length := by have := P2.length_le; first | omega | (simp only [List.length_append, List.length_cons, List.length_nil] at this; omega)
      replace s0 := s0.mono P2
      replace s1 := s1.mono P2
      replace bx0 := keep_get bx0 P2
      obtain ⟨a0w, rfl, ⟨a0i, rfl, _⟩⟩ := id sa0
      try simp only [go_sem, Nat.reduceBEq, Nat.reduceAdd, Nat.reduceMul, Nat.reduceSub, Nat.reduceLeDiff, Nat.le_refl, implies_true, Nat.reduceLT, reduceIte, decide_true, decide_false, true_and, and_true, reduceCtorEq, Nat.mul_one, Int.reduceToNat, Int.reduceLE, Int.reduceLT, Int.reduceAdd, Int.reduceSub, Int.reduceMul, Int.cast_ofNat_Int, cast_zero_int, cast_one_int, Nat.reducePow, Nat.reduceEqDiff, Nat.reduceMod, Nat.zero_add, Nat.sub_zero, Nat.add_zero, bx0, self_get bx0, own_base L2, own_base0 L2, P2]
      refine ⟨by kernel_rfl, (c_toHydrantS _ l (s1.mono (by simp)).1 hm1).use (fun _ m => m) ?_⟩
      rintro a1 H3 ⟨sa1, P3⟩
      have L3 : h.length ≤ H3.length := by have := P3.length_le; first | omega | (simp only [List.length_append, List.length_cons, List.length_nil] at this; omega)
      have Q3 : H2.length + 0 ≤ H3.length := by have := P3.length_le; first | omega | (simp only [List.length_append, List.length_cons, List.length_nil] at this; omega)
      replace s0 := s0.mono P3
      replace s1 := s1.mono P3
      replace sa0 := sa0.mono P3
      replace bx0 := keep_get bx0 P3
      try simp only [go_sem, Nat.reduceBEq, Nat.reduceAdd, Nat.reduceMul, Nat.reduceSub, Nat.reduceLeDiff, Nat.le_refl, implies_true, Nat.reduceLT, reduceIte, decide_true, decide_false, true_and, and_true, reduceCtorEq, Nat.mul_one, Int.reduceToNat, Int.reduceLE, Int.reduceLT, Int.reduceAdd, Int.reduceSub, Int.reduceMul, Int.cast_ofNat_Int, cast_zero_int, cast_one_int, Nat.reducePow, Nat.reduceEqDiff, Nat.reduceMod, Nat.zero_add, Nat.sub_zero, Nat.add_zero, bx0, self_get bx0, own_base L3, own_base0 L3, P3]
      refine ⟨by kernel_rfl, (c_sFlowFor _ _ N P l nd rc (sa0.mono (by simp)).na (sa1.mono (by simp)).sl hm0 hm1).use (fun _ m => m) ?_⟩
      rintro _ H4 ⟨rfl, P4⟩
      have L4 : h.length ≤ H4.length := by have := P4.length_le; first | omega | (simp only [List.length_append, List.length_cons, List.length_nil] at this; omega)
      have Q4 : H3.length + 0 ≤ H4.length := by have := P4.length_le; first | omega | (simp only [List.length_append, List.length_cons, List.length_nil] at this; omega)
      replace s0 := s0.mono P4
      replace s1 := s1.mono P4
      replace sa0 := sa0.mono P4
      replace sa1 := sa1.mono P4
      replace bx0 := keep_get bx0 P4
      try simp only [go_sem, Nat.reduceBEq, Nat.reduceAdd, Nat.reduceMul, Nat.reduceSub, Nat.reduceLeDiff, Nat.le_refl, implies_true, Nat.reduceLT, reduceIte, decide_true, decide_false, true_and, and_true, reduceCtorEq, Nat.mul_one, Int.reduceToNat, Int.reduceLE, Int.reduceLT, Int.reduceAdd, Int.reduceSub, Int.reduceMul, Int.cast_ofNat_Int, cast_zero_int, cast_one_int, Nat.reducePow, Nat.reduceEqDiff, Nat.reduceMod, Nat.zero_add, Nat.sub_zero, Nat.add_zero, bx0, self_get bx0, own_base L4, own_base0 L4, P4]
      refine ⟨by kernel_rfl, (c_toNetwork _ N P (s0.mono (by simp)) hm0).use (fun _ m => m) ?_⟩
      rintro x0 H5 ⟨sx0, P5⟩
      have L5 : h.length ≤ H5.length := by have := P5.length_le; first | omega | (simp only [List.length_append, List.length_cons, List.length_nil] at this; omega)
      have Q5 : H4.length + 0 ≤ H5.length := by have := P5.length_le; first | omega | (simp only [List.length_append, List.length_cons, List.length_nil] at this; omega)
      replace s0 := s0.mono P5
      replace s1 := s1.mono P5
      replace bx0 := keep_get bx0 P5
      obtain ⟨x0w, rfl, ⟨x0i, rfl, _⟩⟩ := id sx0
      try simp only [go_sem, Nat.reduceBEq, Nat.reduceAdd, Nat.reduceMul, Nat.reduceSub, Nat.reduceLeDiff, Nat.le_refl, implies_true, Nat.reduceLT, reduceIte, decide_true, decide_false, true_and, and_true, reduceCtorEq, Nat.mul_one, Int.reduceToNat, Int.reduceLE, Int.reduceLT, Int.reduceAdd, Int.reduceSub, Int.reduceMul, Int.cast_ofNat_Int, cast_zero_int, cast_one_int, Nat.reducePow, Nat.reduceEqDiff, Nat.reduceMod, Nat.zero_add, Nat.sub_zero, Nat.add_zero, bx0, self_get bx0, own_base L5, own_base0 L5, P5]
      refine ⟨by kernel_rfl, (c_toHydrantS _ l (s1.mono (by simp)).1 hm1).use (fun _ m => m) ?_⟩
      rintro x1 H6 ⟨sx1, P6⟩
      have L6 : h.length ≤ H6.length := by have := P6.length_le; first | omega | (simp only [List.length_append, List.length_cons, List.length_nil] at this; omega)
      have Q6 : H5.length + 1 ≤ H6.length := by have := P6.length_le; first | omega | (simp only [List.length_append, List.length_cons, List.length_nil] at this; omega)
      replace s0 := s0.mono ((List.prefix_append _ _).trans P6)
      replace s1 := s1.mono ((List.prefix_append _ _).trans P6)
      replace sx0 := sx0.mono ((List.prefix_append _ _).trans P6)
      replace bx0 := keep_get bx0 ((List.prefix_append _ _).trans P6)
      have bbx0 := keep_get (h := H5 ++ _) hget_new P6
      simp only [List.length_append, List.length_cons, List.length_nil] at sx1
      try simp only [go_sem, Nat.reduceBEq, Nat.reduceAdd, Nat.reduceMul, Nat.reduceSub, Nat.reduceLeDiff, Nat.le_refl, implies_true, Nat.reduceLT, reduceIte, decide_true, decide_false, true_and, and_true, reduceCtorEq, Nat.mul_one, Int.reduceToNat, Int.reduceLE, Int.reduceLT, Int.reduceAdd, Int.reduceSub, Int.reduceMul, Int.cast_ofNat_Int, cast_zero_int, cast_one_int, Nat.reducePow, Nat.reduceEqDiff, Nat.reduceMod, Nat.zero_add, Nat.sub_zero, Nat.add_zero, bx0, bbx0, self_get bx0, self_get bbx0, own_base L6, own_base0 L6, P6]
      refine ⟨by kernel_rfl, (c_FlowFor _ _ N P l nd rc (sx0.mono (by simp)).na (sx1.mono (by simp)).sl hm0 hm1).use (fun _ m => m) ?_⟩
      rintro _ H7 ⟨rfl, P7⟩
      have L7 : h.length ≤ H7.length := by have := P7.length_le; first | omega | (simp only [List.length_append, List.length_cons, List.length_nil] at this; omega)
      have Q7 : H6.length + 0 ≤ H7.length := by have := P7.length_le; first | omega | (simp only [List.length_append, List.length_cons, List.length_nil] at this; omega)
      replace s0 := s0.mono P7
      replace s1 := s1.mono P7
      replace sx0 := sx0.mono P7
      replace sx1 := sx1.mono P7
      replace bx0 := keep_get bx0 P7
      replace bbx0 := keep_get bbx0 P7
      try simp only [go_sem, Nat.reduceBEq, Nat.reduceAdd, Nat.reduceMul, Nat.reduceSub, Nat.reduceLeDiff, Nat.le_refl, implies_true, Nat.reduceLT, reduceIte, decide_true, decide_false, true_and, and_true, reduceCtorEq, Nat.mul_one, Int.reduceToNat, Int.reduceLE, Int.reduceLT, Int.reduceAdd, Int.reduceSub, Int.reduceMul, Int.cast_ofNat_Int, cast_zero_int, cast_one_int, Nat.reducePow, Nat.reduceEqDiff, Nat.reduceMod, Nat.zero_add, Nat.sub_zero, Nat.add_zero, bx0, bbx0, self_get bx0, self_get bbx0, own_base L7, own_base0 L7, P7]
      try simp only [go_sem, Nat.reduceBEq, Nat.reduceAdd, Nat.reduceMul, Nat.reduceSub, Nat.reduceLeDiff, Nat.le_refl, implies_true, Nat.reduceLT, reduceIte, decide_true, decide_false, true_and, and_true, reduceCtorEq, Nat.mul_one, Int.reduceToNat, Int.reduceLE, Int.reduceLT, Int.reduceAdd, Int.reduceSub, Int.reduceMul, Int.cast_ofNat_Int, cast_zero_int, cast_one_int, Nat.reducePow, Nat.reduceEqDiff, Nat.reduceMod, Nat.zero_add, Nat.sub_zero, Nat.add_zero, bx0, bbx0, self_get bx0, self_get bbx0, own_base L7, own_base0 L7, Try.underlying4, and_self, bne_self_eq_false, decide_true]
      refine ⟨by kernel_rfl, (c_toNetwork _ N P (s0.mono (by simp)) hm0).use (fun _ m => m) ?_⟩
      rintro z0 H8 ⟨sz0, P8⟩
      have L8 : h.length ≤ H8.length := by have := P8.length_le; first | omega | (simp only [List.length_append, List.length_cons, List.length_nil] at this; omega)
      have Q8 : H7.length + 0 ≤ H8.length := by have := P8.length_le; first | omega | (simp only [List.length_append, List.length_cons, List.length_nil] at this; omega)
      replace s0 := s0.mono P8
      replace s1 := s1.mono P8
      replace sx0 := sx0.mono P8
      replace sx1 := sx1.mono P8
      replace bx0 := keep_get bx0 P8
      replace bbx0 := keep_get bbx0 P8
      obtain ⟨z0w, rfl, ⟨z0i, rfl, _⟩⟩ := id sz0
      try simp only [go_sem, Nat.reduceBEq, Nat.reduceAdd, Nat.reduceMul, Nat.reduceSub, Nat.reduceLeDiff, Nat.le_refl, implies_true, Nat.reduceLT, reduceIte, decide_true, decide_false, true_and, and_true, reduceCtorEq, Nat.mul_one, Int.reduceToNat, Int.reduceLE, Int.reduceLT, Int.reduceAdd, Int.reduceSub, Int.reduceMul, Int.cast_ofNat_Int, cast_zero_int, cast_one_int, Nat.reducePow, Nat.reduceEqDiff, Nat.reduceMod, Nat.zero_add, Nat.sub_zero, Nat.add_zero, bx0, bbx0, self_get bx0, self_get bbx0, own_base L8, own_base0 L8, P8]
      refine ⟨by kernel_rfl, (c_eqNetwork _ _ N P (sx0.mono (by simp)).na (sz0.mono (by simp)).na hm0).use (fun _ m => m) ?_⟩
      rintro _ H9 ⟨rfl, P9⟩
      have L9 : h.length ≤ H9.length := by have := P9.length_le; first | omega | (simp only [List.length_append, List.length_cons, List.length_nil] at this; omega)
      have Q9 : H8.length + 0 ≤ H9.length := by have := P9.length_le; first | omega | (simp only [List.length_append, List.length_cons, List.length_nil] at this; omega)
      replace s0 := s0.mono P9
      replace s1 := s1.mono P9
      replace sx0 := sx0.mono P9
      replace sx1 := sx1.mono P9
      replace sz0 := sz0.mono P9
      replace bx0 := keep_get bx0 P9
      replace bbx0 := keep_get bbx0 P9
      try simp only [go_sem, Nat.reduceBEq, Nat.reduceAdd, Nat.reduceMul, Nat.reduceSub, Nat.reduceLeDiff, Nat.le_refl, implies_true, Nat.reduceLT, reduceIte, decide_true, decide_false, true_and, and_true, reduceCtorEq, Nat.mul_one, Int.reduceToNat, Int.reduceLE, Int.reduceLT, Int.reduceAdd, Int.reduceSub, Int.reduceMul, Int.cast_ofNat_Int, cast_zero_int, cast_one_int, Nat.reducePow, Nat.reduceEqDiff, Nat.reduceMod, Nat.zero_add, Nat.sub_zero, Nat.add_zero, bx0, bbx0, self_get bx0, self_get bbx0, own_base L9, own_base0 L9, P9, and_self, decide_true]
      refine ⟨by kernel_rfl, (c_toHydrantS _ l (s1.mono (by simp)).1 hm1).use (fun _ m => m) ?_⟩
      rintro z1 H10 ⟨sz1, P10⟩
      have L10 : h.length ≤ H10.length := by have := P10.length_le; first | omega | (simp only [List.length_append, List.length_cons, List.length_nil] at this; omega)
      have Q10 : H9.length + 0 ≤ H10.length := by have := P10.length_le; first | omega | (simp only [List.length_append, List.length_cons, List.length_nil] at this; omega)
      replace s0 := s0.mono P10
      replace s1 := s1.mono P10
      replace sx0 := sx0.mono P10
      replace sx1 := sx1.mono P10
      replace bx0 := keep_get bx0 P10
      replace bbx0 := keep_get bbx0 P10
      try simp only [go_sem, Nat.reduceBEq, Nat.reduceAdd, Nat.reduceMul, Nat.reduceSub, Nat.reduceLeDiff, Nat.le_refl, implies_true, Nat.reduceLT, reduceIte, decide_true, decide_false, true_and, and_true, reduceCtorEq, Nat.mul_one, Int.reduceToNat, Int.reduceLE, Int.reduceLT, Int.reduceAdd, Int.reduceSub, Int.reduceMul, Int.cast_ofNat_Int, cast_zero_int, cast_one_int, Nat.reducePow, Nat.reduceEqDiff, Nat.reduceMod, Nat.zero_add, Nat.sub_zero, Nat.add_zero, bx0, bbx0, self_get bx0, self_get bbx0, own_base L10, own_base0 L10, P10]
      refine ⟨by kernel_rfl, (c_eqHydrantS _ _ l (sx1.mono (by simp)).sl (sz1.mono (by simp)).sl hm1).use (fun _ m => m) ?_⟩
      rintro _ H11 ⟨rfl, P11⟩
      have L11 : h.length ≤ H11.length := by have := P11.length_le; first | omega | (simp only [List.length_append, List.length_cons, List.length_nil] at this; omega)
      have Q11 : H10.length + 0 ≤ H11.length := by have := P11.length_le; first | omega | (simp only [List.length_append, List.length_cons, List.length_nil] at this; omega)
      replace s0 := s0.mono P11
      replace s1 := s1.mono P11
      replace sx0 := sx0.mono P11
      replace sx1 := sx1.mono P11
      replace sz1 := sz1.mono P11
      replace bx0 := keep_get bx0 P11
      replace bbx0 := keep_get bbx0 P11
      try simp only [go_sem, Nat.reduceBEq, Nat.reduceAdd, Nat.reduceMul, Nat.reduceSub, Nat.reduceLeDiff, Nat.le_refl, implies_true, Nat.reduceLT, reduceIte, decide_true, decide_false, true_and, and_true, reduceCtorEq, Nat.mul_one, Int.reduceToNat, Int.reduceLE, Int.reduceLT, Int.reduceAdd, Int.reduceSub, Int.reduceMul, Int.cast_ofNat_Int, cast_zero_int, cast_one_int, Nat.reducePow, Nat.reduceEqDiff, Nat.reduceMod, Nat.zero_add, Nat.sub_zero, Nat.add_zero, bx0, bbx0, self_get bx0, self_get bbx0, own_base L11, own_base0 L11, P11, and_self, decide_true]

theorem l_ThirstyNodes (v0 : Value) (N : Int) (P : List Pip) (v1 : Value) (l : List Hyd) (rc : Int) (cl : Int) (s0 : NA h.length h v0 N P) (hx0 : P.length ≤ 9223372036854775807) (s1 : SB h.length 2 h v1 (l.map hyd)) (hx1 : l.length ≤ 9223372036854775807) : vCall [] Try.prog M 10 [v0, v1, .int .i64 rc, .int .i64 cl] h (fun r h' => r = .bool true) := by
  obtain ⟨w0, rfl, _⟩ := id s0
  refine body_of mo Try.func10 rfl (by kernel_rfl) (Nat.le_of_ble_eq_true (by kernel_rfl)) rfl ?_
  simp only [go_sem, Nat.reduceBEq, Nat.reduceAdd, Nat.reduceMul, Nat.reduceSub, Nat.reduceLeDiff, Nat.le_refl, implies_true, Nat.reduceLT, reduceIte, decide_true, decide_false, true_and, and_true, reduceCtorEq, Nat.mul_one, Int.reduceToNat, Int.reduceLE, Int.reduceLT, Int.reduceAdd, Int.reduceSub, Int.reduceMul, Int.cast_ofNat_Int, cast_zero_int, cast_one_int, Nat.reducePow, Nat.reduceEqDiff, Nat.reduceMod, Nat.zero_add, Nat.sub_zero, Nat.add_zero]
  refine ⟨by kernel_rfl, (c_szNetwork _ N P (s0.mono (by simp)) _ (by omega) hx0).use (fun _ m => m) ?_⟩
  rintro _ H1 ⟨rfl, P1⟩
  have L1 : h.length ≤ H1.length := by have := P1.length_le; first | omega | (simp only [List.length_append, List.length_cons, List.length_nil] at this; omega)
  have Q1 : h.length + 1 ≤ H1.length := by have := P1.length_le; first | omega | (simp only [List.length_append, List.length_cons, List.length_nil] at this; omega)
  replace s0 := s0.mono ((List.prefix_append _ _).trans P1)
  replace s1 := s1.mono ((List.prefix_append _ _).trans P1)
  have bx0 := keep_get (h := h ++ _) hget_new P1
  try simp only [go_sem, Nat.reduceBEq, Nat.reduceAdd, Nat.reduceMul, Nat.reduceSub, Nat.reduceLeDiff, Nat.le_refl, implies_true, Nat.reduceLT, reduceIte, decide_true, decide_false, true_and, and_true, reduceCtorEq, Nat.mul_one, Int.reduceToNat, Int.reduceLE, Int.reduceLT, Int.reduceAdd, Int.reduceSub, Int.reduceMul, Int.cast_ofNat_Int, cast_zero_int, cast_one_int, Nat.reducePow, Nat.reduceEqDiff, Nat.reduceMod, Nat.zero_add, Nat.sub_zero, Nat.add_zero, bx0, self_get bx0, own_base L1, own_base0 L1, P1]
  by_cases c0 : (1048576 : Int) - P.length < 0
  · simp only [go_sem, Nat.reduceBEq, Nat.reduceAdd, Nat.reduceMul, Nat.reduceSub, Nat.reduceLeDiff, Nat.le_refl, implies_true, Nat.reduceLT, reduceIte, decide_true, decide_false, true_and, and_true, reduceCtorEq, Nat.mul_one, Int.reduceToNat, Int.reduceLE, Int.reduceLT, Int.reduceAdd, Int.reduceSub, Int.reduceMul, Int.cast_ofNat_Int, cast_zero_int, cast_one_int, Nat.reducePow, Nat.reduceEqDiff, Nat.reduceMod, Nat.zero_add, Nat.sub_zero, Nat.add_zero, c0]
  · have hm0 : P.length ≤ 1048576 := by omega
    try simp only [go_sem, Nat.reduceBEq, Nat.reduceAdd, Nat.reduceMul, Nat.reduceSub, Nat.reduceLeDiff, Nat.le_refl, implies_true, Nat.reduceLT, reduceIte, decide_true, decide_false, true_and, and_true, reduceCtorEq, Nat.mul_one, Int.reduceToNat, Int.reduceLE, Int.reduceLT, Int.reduceAdd, Int.reduceSub, Int.reduceMul, Int.cast_ofNat_Int, cast_zero_int, cast_one_int, Nat.reducePow, Nat.reduceEqDiff, Nat.reduceMod, Nat.zero_add, Nat.sub_zero, Nat.add_zero, bx0, self_get bx0, own_base L1, own_base0 L1, c0]
    refine ⟨by kernel_rfl, (c_szHydrantS _ l (s1.mono (by simp)).1 _ (by omega) hx1).use (fun _ m => m) ?_⟩
    rintro _ _ ⟨rfl, rfl⟩
    try simp only [go_sem, Nat.reduceBEq, Nat.reduceAdd, Nat.reduceMul, Nat.reduceSub, Nat.reduceLeDiff, Nat.le_refl, implies_true, Nat.reduceLT, reduceIte, decide_true, decide_false, true_and, and_true, reduceCtorEq, Nat.mul_one, Int.reduceToNat, Int.reduceLE, Int.reduceLT, Int.reduceAdd, Int.reduceSub, Int.reduceMul, Int.cast_ofNat_Int, cast_zero_int, cast_one_int, Nat.reducePow, Nat.reduceEqDiff, Nat.reduceMod, Nat.zero_add, Nat.sub_zero, Nat.add_zero, bx0, self_get bx0, own_base L1, own_base0 L1]
    by_cases c1 : (1048576 : Int) - P.length - l.length < 0
    · simp only [go_sem, Nat.reduceBEq, Nat.reduceAdd, Nat.reduceMul, Nat.reduceSub, Nat.reduceLeDiff, Nat.le_refl, implies_true, Nat.reduceLT, reduceIte, decide_true, decide_false, true_and, and_true, reduceCtorEq, Nat.mul_one, Int.reduceToNat, Int.reduceLE, Int.reduceLT, Int.reduceAdd, Int.reduceSub, Int.reduceMul, Int.cast_ofNat_Int, cast_zero_int, cast_one_int, Nat.reducePow, Nat.reduceEqDiff, Nat.reduceMod, Nat.zero_add, Nat.sub_zero, Nat.add_zero, c1]
    · have hm1 : l.length ≤ 1048576 := by omega
      try simp only [go_sem, Nat.reduceBEq, Nat.reduceAdd, Nat.reduceMul, Nat.reduceSub, Nat.reduceLeDiff, Nat.le_refl, implies_true, Nat.reduceLT, reduceIte, decide_true, decide_false, true_and, and_true, reduceCtorEq, Nat.mul_one, Int.reduceToNat, Int.reduceLE, Int.reduceLT, Int.reduceAdd, Int.reduceSub, Int.reduceMul, Int.cast_ofNat_Int, cast_zero_int, cast_one_int, Nat.reducePow, Nat.reduceEqDiff, Nat.reduceMod, Nat.zero_add, Nat.sub_zero, Nat.add_zero, bx0, self_get bx0, own_base L1, own_base0 L1, c1]
      obtain ⟨y0, hyd0, hy0⟩ : ∃ y : List Int, weakRes N P l rc cl = y ∧ y.length ≤ 1048576 := ⟨_, rfl, weakRes_len⟩
      refine ⟨by kernel_rfl, (c_toNetwork _ N P (s0.mono (by simp)) hm0).use (fun _ m => m) ?_⟩
      rintro a0 H2 ⟨sa0, P2⟩
      have L2 : h.length ≤ H2.length := by have := P2.length_le; first | omega | (simp only [List.length_append, List.length_cons, List.length_nil] at this; omega)
      have Q2 : H1.length + 0 ≤ H2.length := by have := P2.length_le; first | omega | (simp only [List.length_append, List.length_cons, List.length_nil] at this; omega)
      replace s0 := s0.mono P2
      replace s1 := s1.mono P2
      replace bx0 := keep_get bx0 P2
      obtain ⟨a0w, rfl, ⟨a0i, rfl, _⟩⟩ := id sa0
      try simp only [go_sem, Nat.reduceBEq, Nat.reduceAdd, Nat.reduceMul, Nat.reduceSub, Nat.reduceLeDiff, Nat.le_refl, implies_true, Nat.reduceLT, reduceIte, decide_true, decide_false, true_and, and_true, reduceCtorEq, Nat.mul_one, Int.reduceToNat, Int.reduceLE, Int.reduceLT, Int.reduceAdd, Int.reduceSub, Int.reduceMul, Int.cast_ofNat_Int, cast_zero_int, cast_one_int, Nat.reducePow, Nat.reduceEqDiff, Nat.reduceMod, Nat.zero_add, Nat.sub_zero, Nat.add_zero, bx0, self_get bx0, own_base L2, own_base0 L2, P2]
      refine ⟨by kernel_rfl, (c_toHydrantS _ l (s1.mono (by simp)).1 hm1).use (fun _ m => m) ?_⟩
      rintro a1 H3 ⟨sa1, P3⟩
      have L3 : h.length ≤ H3.length := by have := P3.length_le; first | omega | (simp only [List.length_append, List.length_cons, List.length_nil] at this; omega)
      have Q3 : H2.length + 0 ≤ H3.length := by have := P3.length_le; first | omega | (simp only [List.length_append, List.length_cons, List.length_nil] at this; omega)
      replace s0 := s0.mono P3
      replace s1 := s1.mono P3
      replace sa0 := sa0.mono P3
      replace bx0 := keep_get bx0 P3
      try simp only [go_sem, Nat.reduceBEq, Nat.reduceAdd, Nat.reduceMul, Nat.reduceSub, Nat.reduceLeDiff, Nat.le_refl, implies_true, Nat.reduceLT, reduceIte, decide_true, decide_false, true_and, and_true, reduceCtorEq, Nat.mul_one, Int.reduceToNat, Int.reduceLE, Int.reduceLT, Int.reduceAdd, Int.reduceSub, Int.reduceMul, Int.cast_ofNat_Int, cast_zero_int, cast_one_int, Nat.reducePow, Nat.reduceEqDiff, Nat.reduceMod, Nat.zero_add, Nat.sub_zero, Nat.add_zero, bx0, self_get bx0, own_base L3, own_base0 L3, P3]
      refine ⟨by kernel_rfl, (c_sThirstyNodes _ _ N P l rc cl (sa0.mono (by simp)).na (sa1.mono (by simp)).sl hm0 hm1).use (fun _ m => m) ?_⟩
      rintro _ H4 ⟨⟨w0, rfl, sw0⟩, P4⟩
      have L4 : h.length ≤ H4.length := by have := P4.length_le; first | omega | (simp only [List.length_append, List.length_cons, List.length_nil] at this; omega)
      have Q4 : H3.length + 0 ≤ H4.length := by have := P4.length_le; first | omega | (simp only [List.length_append, List.length_cons, List.length_nil] at this; omega)
      replace s0 := s0.mono P4
      replace s1 := s1.mono P4
      replace sa0 := sa0.mono P4
      replace sa1 := sa1.mono P4
      replace bx0 := keep_get bx0 P4
      rw [hyd0] at sw0
      try simp only [go_sem, Nat.reduceBEq, Nat.reduceAdd, Nat.reduceMul, Nat.reduceSub, Nat.reduceLeDiff, Nat.le_refl, implies_true, Nat.reduceLT, reduceIte, decide_true, decide_false, true_and, and_true, reduceCtorEq, Nat.mul_one, Int.reduceToNat, Int.reduceLE, Int.reduceLT, Int.reduceAdd, Int.reduceSub, Int.reduceMul, Int.cast_ofNat_Int, cast_zero_int, cast_one_int, Nat.reducePow, Nat.reduceEqDiff, Nat.reduceMod, Nat.zero_add, Nat.sub_zero, Nat.add_zero, bx0, self_get bx0, own_base L4, own_base0 L4, P4]
      refine ⟨by kernel_rfl, (c_toNetwork _ N P (s0.mono (by simp)) hm0).use (fun _ m => m) ?_⟩
      rintro x0 H5 ⟨sx0, P5⟩
      have L5 : h.length ≤ H5.length := by have := P5.length_le; first | omega | (simp only [List.length_append, List.length_cons, List.length_nil] at this; omega)
      have Q5 : H4.length + 0 ≤ H5.length := by have := P5.length_le; first | omega | (simp only [List.length_append, List.length_cons, List.length_nil] at this; omega)
      replace s0 := s0.mono P5
      replace s1 := s1.mono P5
      replace sw0 := sw0.mono P5
      replace bx0 := keep_get bx0 P5
      obtain ⟨x0w, rfl, ⟨x0i, rfl, _⟩⟩ := id sx0
      try simp only [go_sem, Nat.reduceBEq, Nat.reduceAdd, Nat.reduceMul, Nat.reduceSub, Nat.reduceLeDiff, Nat.le_refl, implies_true, Nat.reduceLT, reduceIte, decide_true, decide_false, true_and, and_true, reduceCtorEq, Nat.mul_one, Int.reduceToNat, Int.reduceLE, Int.reduceLT, Int.reduceAdd, Int.reduceSub, Int.reduceMul, Int.cast_ofNat_Int, cast_zero_int, cast_one_int, Nat.reducePow, Nat.reduceEqDiff, Nat.reduceMod, Nat.zero_add, Nat.sub_zero, Nat.add_zero, bx0, self_get bx0, own_base L5, own_base0 L5, P5]
      refine ⟨by kernel_rfl, (c_toHydrantS _ l (s1.mono (by simp)).1 hm1).use (fun _ m => m) ?_⟩
      rintro x1 H6 ⟨sx1, P6⟩
      have L6 : h.length ≤ H6.length := by have := P6.length_le; first | omega | (simp only [List.length_append, List.length_cons, List.length_nil] at this; omega)
      have Q6 : H5.length + 1 ≤ H6.length := by have := P6.length_le; first | omega | (simp only [List.length_append, List.length_cons, List.length_nil] at this; omega)
      replace s0 := s0.mono ((List.prefix_append _ _).trans P6)
      replace s1 := s1.mono ((List.prefix_append _ _).trans P6)
      replace sw0 := sw0.mono ((List.prefix_append _ _).trans P6)
      replace sx0 := sx0.mono ((List.prefix_append _ _).trans P6)
      replace bx0 := keep_get bx0 ((List.prefix_append _ _).trans P6)
      have bbx0 := keep_get (h := H5 ++ _) hget_new P6
      simp only [List.length_append, List.length_cons, List.length_nil] at sx1
      try simp only [go_sem, Nat.reduceBEq, Nat.reduceAdd, Nat.reduceMul, Nat.reduceSub, Nat.reduceLeDiff, Nat.le_refl, implies_true, Nat.reduceLT, reduceIte, decide_true, decide_false, true_and, and_true, reduceCtorEq, Nat.mul_one, Int.reduceToNat, Int.reduceLE, Int.reduceLT, Int.reduceAdd, Int.reduceSub, Int.reduceMul, Int.cast_ofNat_Int, cast_zero_int, cast_one_int, Nat.reducePow, Nat.reduceEqDiff, Nat.reduceMod, Nat.zero_add, Nat.sub_zero, Nat.add_zero, bx0, bbx0, self_get bx0, self_get bbx0, own_base L6, own_base0 L6, P6]
      refine ⟨by kernel_rfl, (c_ThirstyNodes _ _ N P l rc cl (sx0.mono (by simp)).na (sx1.mono (by simp)).sl hm0 hm1).use (fun _ m => m) ?_⟩
      rintro _ H7 ⟨⟨g0, rfl, sg0⟩, P7⟩
      have L7 : h.length ≤ H7.length := by have := P7.length_le; first | omega | (simp only [List.length_append, List.length_cons, List.length_nil] at this; omega)
      have Q7 : H6.length + 0 ≤ H7.length := by have := P7.length_le; first | omega | (simp only [List.length_append, List.length_cons, List.length_nil] at this; omega)
      replace s0 := s0.mono P7
      replace s1 := s1.mono P7
      replace sw0 := sw0.mono P7
      replace sx0 := sx0.mono P7
      replace sx1 := sx1.mono P7
      replace bx0 := keep_get bx0 P7
      replace bbx0 := keep_get bbx0 P7
      rw [hyd0] at sg0
      try simp only [go_sem, Nat.reduceBEq, Nat.reduceAdd, Nat.reduceMul, Nat.reduceSub, Nat.reduceLeDiff, Nat.le_refl, implies_true, Nat.reduceLT, reduceIte, decide_true, decide_false, true_and, and_true, reduceCtorEq, Nat.mul_one, Int.reduceToNat, Int.reduceLE, Int.reduceLT, Int.reduceAdd, Int.reduceSub, Int.reduceMul, Int.cast_ofNat_Int, cast_zero_int, cast_one_int, Nat.reducePow, Nat.reduceEqDiff, Nat.reduceMod, Nat.zero_add, Nat.sub_zero, Nat.add_zero, bx0, bbx0, self_get bx0, self_get bbx0, own_base L7, own_base0 L7, P7]
      refine ⟨by kernel_rfl, (c_eqIntS _ _ _ _ (sg0.mono (by simp)).ai (sw0.mono (by simp)).ai hy0 hy0).use (fun _ m => m) ?_⟩
      rintro _ H8 ⟨rfl, P8⟩
      have L8 : h.length ≤ H8.length := by have := P8.length_le; first | omega | (simp only [List.length_append, List.length_cons, List.length_nil] at this; omega)
      have Q8 : H7.length + 0 ≤ H8.length := by have := P8.length_le; first | omega | (simp only [List.length_append, List.length_cons, List.length_nil] at this; omega)
      replace s0 := s0.mono P8
      replace s1 := s1.mono P8
      replace sw0 := sw0.mono P8
      replace sx0 := sx0.mono P8
      replace sx1 := sx1.mono P8
      replace sg0 := sg0.mono P8
      replace bx0 := keep_get bx0 P8
      replace bbx0 := keep_get bbx0 P8
      try simp only [go_sem, Nat.reduceBEq, Nat.reduceAdd, Nat.reduceMul, Nat.reduceSub, Nat.reduceLeDiff, Nat.le_refl, implies_true, Nat.reduceLT, reduceIte, decide_true, decide_false, true_and, and_true, reduceCtorEq, Nat.mul_one, Int.reduceToNat, Int.reduceLE, Int.reduceLT, Int.reduceAdd, Int.reduceSub, Int.reduceMul, Int.cast_ofNat_Int, cast_zero_int, cast_one_int, Nat.reducePow, Nat.reduceEqDiff, Nat.reduceMod, Nat.zero_add, Nat.sub_zero, Nat.add_zero, bx0, bbx0, self_get bx0, self_get bbx0, own_base L8, own_base0 L8, P8, Try.underlying4, and_self, bne_self_eq_false, decide_true]
      refine ⟨by kernel_rfl, (c_toNetwork _ N P (s0.mono (by simp)) hm0).use (fun _ m => m) ?_⟩
      rintro z0 H9 ⟨sz0, P9⟩
      have L9 : h.length ≤ H9.length := by have := P9.length_le; first | omega | (simp only [List.length_append, List.length_cons, List.length_nil] at this; omega)
      have Q9 : H8.length + 0 ≤ H9.length := by have := P9.length_le; first | omega | (simp only [List.length_append, List.length_cons, List.length_nil] at this; omega)
      replace s0 := s0.mono P9
      replace s1 := s1.mono P9
      replace sw0 := sw0.mono P9
      replace sx0 := sx0.mono P9
      replace sx1 := sx1.mono P9
      replace sg0 := sg0.mono P9
      replace bx0 := keep_get bx0 P9
      replace bbx0 := keep_get bbx0 P9
      obtain ⟨z0w, rfl, ⟨z0i, rfl, _⟩⟩ := id sz0
      try simp only [go_sem, Nat.reduceBEq, Nat.reduceAdd, Nat.reduceMul, Nat.reduceSub, Nat.reduceLeDiff, Nat.le_refl, implies_true, Nat.reduceLT, reduceIte, decide_true, decide_false, true_and, and_true, reduceCtorEq, Nat.mul_one, Int.reduceToNat, Int.reduceLE, Int.reduceLT, Int.reduceAdd, Int.reduceSub, Int.reduceMul, Int.cast_ofNat_Int, cast_zero_int, cast_one_int, Nat.reducePow, Nat.reduceEqDiff, Nat.reduceMod, Nat.zero_add, Nat.sub_zero, Nat.add_zero, bx0, bbx0, self_get bx0, self_get bbx0, own_base L9, own_base0 L9, P9]
      refine ⟨by kernel_rfl, (c_eqNetwork _ _ N P (sx0.mono (by simp)).na (sz0.mono (by simp)).na hm0).use (fun _ m => m) ?_⟩
      rintro _ H10 ⟨rfl, P10⟩
      have L10 : h.length ≤ H10.length := by have := P10.length_le; first | omega | (simp only [List.length_append, List.length_cons, List.length_nil] at this; omega)
      have Q10 : H9.length + 0 ≤ H10.length := by have := P10.length_le; first | omega | (simp only [List.length_append, List.length_cons, List.length_nil] at this; omega)
      replace s0 := s0.mono P10
      replace s1 := s1.mono P10
      replace sw0 := sw0.mono P10
      replace sx0 := sx0.mono P10
      replace sx1 := sx1.mono P10
      replace sg0 := sg0.mono P10
      replace sz0 := sz0.mono P10
      replace bx0 := keep_get bx0 P10
      replace bbx0 := keep_get bbx0 P10
      try simp only [go_sem, Nat.reduceBEq, Nat.reduceAdd, Nat.reduceMul, Nat.reduceSub, Nat.reduceLeDiff, Nat.le_refl, implies_true, Nat.reduceLT, reduceIte, decide_true, decide_false, true_and, and_true, reduceCtorEq, Nat.mul_one, Int.reduceToNat, Int.reduceLE, Int.reduceLT, Int.reduceAdd, Int.reduceSub, Int.reduceMul, Int.cast_ofNat_Int, cast_zero_int, cast_one_int, Nat.reducePow, Nat.reduceEqDiff, Nat.reduceMod, Nat.zero_add, Nat.sub_zero, Nat.add_zero, bx0, bbx0, self_get bx0, self_get bbx0, own_base L10, own_base0 L10, P10, and_self, decide_true]
      refine ⟨by kernel_rfl, (c_toHydrantS _ l (s1.mono (by simp)).1 hm1).use (fun _ m => m) ?_⟩
      rintro z1 H11 ⟨sz1, P11⟩
      have L11 : h.length ≤ H11.length := by have := P11.length_le; first | omega | (simp only [List.length_append, List.length_cons, List.length_nil] at this; omega)
      have Q11 : H10.length + 0 ≤ H11.length := by have := P11.length_le; first | omega | (simp only [List.length_append, List.length_cons, List.length_nil] at this; omega)
      replace s0 := s0.mono P11
      replace s1 := s1.mono P11
      replace sw0 := sw0.mono P11
      replace sx0 := sx0.mono P11
      replace sx1 := sx1.mono P11
      replace sg0 := sg0.mono P11
      replace bx0 := keep_get bx0 P11
      replace bbx0 := keep_get bbx0 P11
      try simp only [go_sem, Nat.reduceBEq, Nat.reduceAdd, Nat.reduceMul, Nat.reduceSub, Nat.reduceLeDiff, Nat.le_refl, implies_true, Nat.reduceLT, reduceIte, decide_true, decide_false, true_and, and_true, reduceCtorEq, Nat.mul_one, Int.reduceToNat, Int.reduceLE, Int.reduceLT, Int.reduceAdd, Int.reduceSub, Int.reduceMul, Int.cast_ofNat_Int, cast_zero_int, cast_one_int, Nat.reducePow, Nat.reduceEqDiff, Nat.reduceMod, Nat.zero_add, Nat.sub_zero, Nat.add_zero, bx0, bbx0, self_get bx0, self_get bbx0, own_base L11, own_base0 L11, P11]
      refine ⟨by kernel_rfl, (c_eqHydrantS _ _ l (sx1.mono (by simp)).sl (sz1.mono (by simp)).sl hm1).use (fun _ m => m) ?_⟩
      rintro _ H12 ⟨rfl, P12⟩
      have L12 : h.length ≤ H12.length := by have := P12.length_le; first | omega | (simp only [List.length_append, List.length_cons, List.length_nil] at this; omega)
      have Q12 : H11.length + 0 ≤ H12.length := by have := P12.length_le; first | omega | (simp only [List.length_append, List.length_cons, List.length_nil] at this; omega)
      replace s0 := s0.mono P12
      replace s1 := s1.mono P12
      replace sw0 := sw0.mono P12
      replace sx0 := sx0.mono P12
      replace sx1 := sx1.mono P12
      replace sg0 := sg0.mono P12
      replace sz1 := sz1.mono P12
      replace bx0 := keep_get bx0 P12
      replace bbx0 := keep_get bbx0 P12
      try simp only [go_sem, Nat.reduceBEq, Nat.reduceAdd, Nat.reduceMul, Nat.reduceSub, Nat.reduceLeDiff, Nat.le_refl, implies_true, Nat.reduceLT, reduceIte, decide_true, decide_false, true_and, and_true, reduceCtorEq, Nat.mul_one, Int.reduceToNat, Int.reduceLE, Int.reduceLT, Int.reduceAdd, Int.reduceSub, Int.reduceMul, Int.cast_ofNat_Int, cast_zero_int, cast_one_int, Nat.reducePow, Nat.reduceEqDiff, Nat.reduceMod, Nat.zero_add, Nat.sub_zero, Nat.add_zero, bx0, bbx0, self_get bx0, self_get bbx0, own_base L12, own_base0 L12, P12, and_self, decide_true]
      refine ⟨by kernel_rfl, (c_markNetwork _ N P (sx0.mono (by simp)) (fun i a b => Or.inl (by omega)) _ (by omega) hm0).use (fun _ m => m) ?_⟩
      rintro _ H13 ⟨rfl, ag13⟩
      have Q13 : H12.length ≤ H13.length := ag13.1
      have L13 : h.length ≤ H13.length := by omega
      replace s0 := s0.agr ag13 (by omega)
      replace s1 := s1.agr ag13 (by omega)
      replace sw0 := sw0.agr ag13 (by omega)
      replace sx1 := sx1.agr ag13 (by omega)
      replace sg0 := sg0.agr ag13 (by omega)
      replace bx0 := agr_get ag13 bx0 (by omega)
      replace bbx0 := agr_get ag13 bbx0 (by omega)
      try simp only [go_sem, Nat.reduceBEq, Nat.reduceAdd, Nat.reduceMul, Nat.reduceSub, Nat.reduceLeDiff, Nat.le_refl, implies_true, Nat.reduceLT, reduceIte, decide_true, decide_false, true_and, and_true, reduceCtorEq, Nat.mul_one, Int.reduceToNat, Int.reduceLE, Int.reduceLT, Int.reduceAdd, Int.reduceSub, Int.reduceMul, Int.cast_ofNat_Int, cast_zero_int, cast_one_int, Nat.reducePow, Nat.reduceEqDiff, Nat.reduceMod, Nat.zero_add, Nat.sub_zero, Nat.add_zero, bx0, bbx0, self_get bx0, self_get bbx0, own_base L13, own_base0 L13]
      refine ⟨by kernel_rfl, (c_markHydrantS _ l (sx1.mono (by simp)) (fun i a b => Or.inl (by omega)) _ (by omega) hm1).use (fun _ m => m) ?_⟩
      rintro _ H14 ⟨rfl, ag14⟩
      have Q14 : H13.length ≤ H14.length := ag14.1
      have L14 : h.length ≤ H14.length := by omega
      replace s0 := s0.agr ag14 (by omega)
      replace s1 := s1.agr ag14 (by omega)
      replace sw0 := sw0.agr ag14 (by omega)
      replace sg0 := sg0.agr ag14 (by omega)
      replace bx0 := agr_get ag14 bx0 (by omega)
      replace bbx0 := agr_get ag14 bbx0 (by omega)
      try simp only [go_sem, Nat.reduceBEq, Nat.reduceAdd, Nat.reduceMul, Nat.reduceSub, Nat.reduceLeDiff, Nat.le_refl, implies_true, Nat.reduceLT, reduceIte, decide_true, decide_false, true_and, and_true, reduceCtorEq, Nat.mul_one, Int.reduceToNat, Int.reduceLE, Int.reduceLT, Int.reduceAdd, Int.reduceSub, Int.reduceMul, Int.cast_ofNat_Int, cast_zero_int, cast_one_int, Nat.reducePow, Nat.reduceEqDiff, Nat.reduceMod, Nat.zero_add, Nat.sub_zero, Nat.add_zero, bx0, bbx0, self_get bx0, self_get bbx0, own_base L14, own_base0 L14]
      have n1 : ¬ (1 + 4 * (P.length : Int) + 2 * (l.length : Int) < 0) := by omega
      try simp only [go_sem, Nat.reduceBEq, Nat.reduceAdd, Nat.reduceMul, Nat.reduceSub, Nat.reduceLeDiff, Nat.le_refl, implies_true, Nat.reduceLT, reduceIte, decide_true, decide_false, true_and, and_true, reduceCtorEq, Nat.mul_one, Int.reduceToNat, Int.reduceLE, Int.reduceLT, Int.reduceAdd, Int.reduceSub, Int.reduceMul, Int.cast_ofNat_Int, cast_zero_int, cast_one_int, Nat.reducePow, Nat.reduceEqDiff, Nat.reduceMod, Nat.zero_add, Nat.sub_zero, Nat.add_zero, bx0, bbx0, self_get bx0, self_get bbx0, own_base L14, own_base0 L14, n1]
      refine ⟨by kernel_rfl, (c_eqIntS _ _ _ _ (sg0.mono (by simp)).ai (sw0.mono (by simp)).ai hy0 hy0).use (fun _ m => m) ?_⟩
      rintro _ H15 ⟨rfl, P15⟩
      have L15 : h.length ≤ H15.length := by have := P15.length_le; first | omega | (simp only [List.length_append, List.length_cons, List.length_nil] at this; omega)
      have Q15 : H14.length + 0 ≤ H15.length := by have := P15.length_le; first | omega | (simp only [List.length_append, List.length_cons, List.length_nil] at this; omega)
      replace s0 := s0.mono P15
      replace s1 := s1.mono P15
      replace sw0 := sw0.mono P15
      replace sg0 := sg0.mono P15
      replace bx0 := keep_get bx0 P15
      replace bbx0 := keep_get bbx0 P15
      try simp only [go_sem, Nat.reduceBEq, Nat.reduceAdd, Nat.reduceMul, Nat.reduceSub, Nat.reduceLeDiff, Nat.le_refl, implies_true, Nat.reduceLT, reduceIte, decide_true, decide_false, true_and, and_true, reduceCtorEq, Nat.mul_one, Int.reduceToNat, Int.reduceLE, Int.reduceLT, Int.reduceAdd, Int.reduceSub, Int.reduceMul, Int.cast_ofNat_Int, cast_zero_int, cast_one_int, Nat.reducePow, Nat.reduceEqDiff, Nat.reduceMod, Nat.zero_add, Nat.sub_zero, Nat.add_zero, bx0, bbx0, self_get bx0, self_get bbx0, own_base L15, own_base0 L15, n1, P15, Try.underlying4, and_self, bne_self_eq_false, decide_true]
      refine ⟨by kernel_rfl, (c_markIntS _ _ (sg0.mono (by simp)) (fun i a b => Or.inl (by omega)) _ (by omega) hy0).use (fun _ m => m) ?_⟩
      rintro _ H16 ⟨rfl, sm, ag16⟩
      have Q16 : H15.length ≤ H16.length := ag16.1
      have L16 : h.length ≤ H16.length := by omega
      replace s0 := s0.agr ag16 (by omega)
      replace s1 := s1.agr ag16 (by omega)
      replace sw0 := sw0.agr ag16 (by omega)
      replace bx0 := agr_get ag16 bx0 (by omega)
      replace bbx0 := agr_get ag16 bbx0 (by omega)
      try simp only [go_sem, Nat.reduceBEq, Nat.reduceAdd, Nat.reduceMul, Nat.reduceSub, Nat.reduceLeDiff, Nat.le_refl, implies_true, Nat.reduceLT, reduceIte, decide_true, decide_false, true_and, and_true, reduceCtorEq, Nat.mul_one, Int.reduceToNat, Int.reduceLE, Int.reduceLT, Int.reduceAdd, Int.reduceSub, Int.reduceMul, Int.cast_ofNat_Int, cast_zero_int, cast_one_int, Nat.reducePow, Nat.reduceEqDiff, Nat.reduceMod, Nat.zero_add, Nat.sub_zero, Nat.add_zero, bx0, bbx0, self_get bx0, self_get bbx0, own_base L16, own_base0 L16, n1]
      have n2 : ¬ (1 + (y0.length : Int) < 0) := by omega
      refine ⟨by kernel_rfl, (c_heldIntS _ _ 1 (by omega) (sm.mono (by simp)).ai (by rw [marks_len]) (by rw [marks_len]; exact hy0)).use (fun _ m => m) ?_⟩
      rintro _ H17 ⟨rfl, P17⟩
      have L17 : h.length ≤ H17.length := by have := P17.length_le; first | omega | (simp only [List.length_append, List.length_cons, List.length_nil] at this; omega)
      have Q17 : H16.length + 0 ≤ H17.length := by have := P17.length_le; first | omega | (simp only [List.length_append, List.length_cons, List.length_nil] at this; omega)
      replace s0 := s0.mono P17
      replace s1 := s1.mono P17
      replace sw0 := sw0.mono P17
      replace sm := sm.mono P17
      replace bx0 := keep_get bx0 P17
      replace bbx0 := keep_get bbx0 P17
      try simp only [go_sem, Nat.reduceBEq, Nat.reduceAdd, Nat.reduceMul, Nat.reduceSub, Nat.reduceLeDiff, Nat.le_refl, implies_true, Nat.reduceLT, reduceIte, decide_true, decide_false, true_and, and_true, reduceCtorEq, Nat.mul_one, Int.reduceToNat, Int.reduceLE, Int.reduceLT, Int.reduceAdd, Int.reduceSub, Int.reduceMul, Int.cast_ofNat_Int, cast_zero_int, cast_one_int, Nat.reducePow, Nat.reduceEqDiff, Nat.reduceMod, Nat.zero_add, Nat.sub_zero, Nat.add_zero, bx0, bbx0, self_get bx0, self_get bbx0, own_base L17, own_base0 L17, n1, n2, P17, marks_len, bne_self_eq_false]
      refine ⟨by kernel_rfl, (c_toNetwork _ N P (s0.mono (by simp)) hm0).use (fun _ m => m) ?_⟩
      rintro u0 H18 ⟨su0, P18⟩
      have L18 : h.length ≤ H18.length := by have := P18.length_le; first | omega | (simp only [List.length_append, List.length_cons, List.length_nil] at this; omega)
      have Q18 : H17.length + 0 ≤ H18.length := by have := P18.length_le; first | omega | (simp only [List.length_append, List.length_cons, List.length_nil] at this; omega)
      replace s0 := s0.mono P18
      replace s1 := s1.mono P18
      replace sw0 := sw0.mono P18
      replace sm := sm.mono P18
      replace bx0 := keep_get bx0 P18
      replace bbx0 := keep_get bbx0 P18
      obtain ⟨u0w, rfl, ⟨u0i, rfl, _⟩⟩ := id su0
      try simp only [go_sem, Nat.reduceBEq, Nat.reduceAdd, Nat.reduceMul, Nat.reduceSub, Nat.reduceLeDiff, Nat.le_refl, implies_true, Nat.reduceLT, reduceIte, decide_true, decide_false, true_and, and_true, reduceCtorEq, Nat.mul_one, Int.reduceToNat, Int.reduceLE, Int.reduceLT, Int.reduceAdd, Int.reduceSub, Int.reduceMul, Int.cast_ofNat_Int, cast_zero_int, cast_one_int, Nat.reducePow, Nat.reduceEqDiff, Nat.reduceMod, Nat.zero_add, Nat.sub_zero, Nat.add_zero, bx0, bbx0, self_get bx0, self_get bbx0, own_base L18, own_base0 L18, n1, n2, P18]
      refine ⟨by kernel_rfl, (c_toHydrantS _ l (s1.mono (by simp)).1 hm1).use (fun _ m => m) ?_⟩
      rintro u1 H19 ⟨su1, P19⟩
      have L19 : h.length ≤ H19.length := by have := P19.length_le; first | omega | (simp only [List.length_append, List.length_cons, List.length_nil] at this; omega)
      have Q19 : H18.length + 0 ≤ H19.length := by have := P19.length_le; first | omega | (simp only [List.length_append, List.length_cons, List.length_nil] at this; omega)
      replace s0 := s0.mono P19
      replace s1 := s1.mono P19
      replace sw0 := sw0.mono P19
      replace sm := sm.mono P19
      replace su0 := su0.mono P19
      replace bx0 := keep_get bx0 P19
      replace bbx0 := keep_get bbx0 P19
      try simp only [go_sem, Nat.reduceBEq, Nat.reduceAdd, Nat.reduceMul, Nat.reduceSub, Nat.reduceLeDiff, Nat.le_refl, implies_true, Nat.reduceLT, reduceIte, decide_true, decide_false, true_and, and_true, reduceCtorEq, Nat.mul_one, Int.reduceToNat, Int.reduceLE, Int.reduceLT, Int.reduceAdd, Int.reduceSub, Int.reduceMul, Int.cast_ofNat_Int, cast_zero_int, cast_one_int, Nat.reducePow, Nat.reduceEqDiff, Nat.reduceMod, Nat.zero_add, Nat.sub_zero, Nat.add_zero, bx0, bbx0, self_get bx0, self_get bbx0, own_base L19, own_base0 L19, n1, n2, P19]
      refine ⟨by kernel_rfl, (c_ThirstyNodes _ _ N P l rc cl (su0.mono (by simp)).na (su1.mono (by simp)).sl hm0 hm1).use (fun _ m => m) ?_⟩
      rintro _ H20 ⟨⟨e0, rfl, se0⟩, P20⟩
      have L20 : h.length ≤ H20.length := by have := P20.length_le; first | omega | (simp only [List.length_append, List.length_cons, List.length_nil] at this; omega)
      have Q20 : H19.length + 0 ≤ H20.length := by have := P20.length_le; first | omega | (simp only [List.length_append, List.length_cons, List.length_nil] at this; omega)
      replace s0 := s0.mono P20
      replace s1 := s1.mono P20
      replace sw0 := sw0.mono P20
      replace sm := sm.mono P20
      replace su0 := su0.mono P20
      replace su1 := su1.mono P20
      replace bx0 := keep_get bx0 P20
      replace bbx0 := keep_get bbx0 P20
      rw [hyd0] at se0
      try simp only [go_sem, Nat.reduceBEq, Nat.reduceAdd, Nat.reduceMul, Nat.reduceSub, Nat.reduceLeDiff, Nat.le_refl, implies_true, Nat.reduceLT, reduceIte, decide_true, decide_false, true_and, and_true, reduceCtorEq, Nat.mul_one, Int.reduceToNat, Int.reduceLE, Int.reduceLT, Int.reduceAdd, Int.reduceSub, Int.reduceMul, Int.cast_ofNat_Int, cast_zero_int, cast_one_int, Nat.reducePow, Nat.reduceEqDiff, Nat.reduceMod, Nat.zero_add, Nat.sub_zero, Nat.add_zero, bx0, bbx0, self_get bx0, self_get bbx0, own_base L20, own_base0 L20, n1, n2, P20]
      refine ⟨by kernel_rfl, (c_eqIntS _ _ _ _ (se0.mono (by simp)).ai (sw0.mono (by simp)).ai hy0 hy0).use (fun _ m => m) ?_⟩
      rintro _ H21 ⟨rfl, P21⟩
      have L21 : h.length ≤ H21.length := by have := P21.length_le; first | omega | (simp only [List.length_append, List.length_cons, List.length_nil] at this; omega)
      have Q21 : H20.length + 0 ≤ H21.length := by have := P21.length_le; first | omega | (simp only [List.length_append, List.length_cons, List.length_nil] at this; omega)
      replace s0 := s0.mono P21
      replace s1 := s1.mono P21
      replace sw0 := sw0.mono P21
      replace sm := sm.mono P21
      replace su0 := su0.mono P21
      replace su1 := su1.mono P21
      replace se0 := se0.mono P21
      replace bx0 := keep_get bx0 P21
      replace bbx0 := keep_get bbx0 P21
      try simp only [go_sem, Nat.reduceBEq, Nat.reduceAdd, Nat.reduceMul, Nat.reduceSub, Nat.reduceLeDiff, Nat.le_refl, implies_true, Nat.reduceLT, reduceIte, decide_true, decide_false, true_and, and_true, reduceCtorEq, Nat.mul_one, Int.reduceToNat, Int.reduceLE, Int.reduceLT, Int.reduceAdd, Int.reduceSub, Int.reduceMul, Int.cast_ofNat_Int, cast_zero_int, cast_one_int, Nat.reducePow, Nat.reduceEqDiff, Nat.reduceMod, Nat.zero_add, Nat.sub_zero, Nat.add_zero, bx0, bbx0, self_get bx0, self_get bbx0, own_base L21, own_base0 L21, n1, n2, P21, Try.underlying4, and_self, bne_self_eq_false, decide_true]
      refine ⟨by kernel_rfl, (c_heldIntS _ _ 1 (by omega) (sm.mono (by simp)).ai (by rw [marks_len]) (by rw [marks_len]; exact hy0)).use (fun _ m => m) ?_⟩
      rintro _ H22 ⟨rfl, P22⟩
      have L22 : h.length ≤ H22.length := by have := P22.length_le; first | omega | (simp only [List.length_append, List.length_cons, List.length_nil] at this; omega)
      have Q22 : H21.length + 0 ≤ H22.length := by have := P22.length_le; first | omega | (simp only [List.length_append, List.length_cons, List.length_nil] at this; omega)
      replace s0 := s0.mono P22
      replace s1 := s1.mono P22
      replace sw0 := sw0.mono P22
      replace sm := sm.mono P22
      replace su0 := su0.mono P22
      replace su1 := su1.mono P22
      replace se0 := se0.mono P22
      replace bx0 := keep_get bx0 P22
      replace bbx0 := keep_get bbx0 P22
      try simp only [go_sem, Nat.reduceBEq, Nat.reduceAdd, Nat.reduceMul, Nat.reduceSub, Nat.reduceLeDiff, Nat.le_refl, implies_true, Nat.reduceLT, reduceIte, decide_true, decide_false, true_and, and_true, reduceCtorEq, Nat.mul_one, Int.reduceToNat, Int.reduceLE, Int.reduceLT, Int.reduceAdd, Int.reduceSub, Int.reduceMul, Int.cast_ofNat_Int, cast_zero_int, cast_one_int, Nat.reducePow, Nat.reduceEqDiff, Nat.reduceMod, Nat.zero_add, Nat.sub_zero, Nat.add_zero, bx0, bbx0, self_get bx0, self_get bbx0, own_base L22, own_base0 L22, n1, n2, P22, marks_len, bne_self_eq_false]

theorem l_BestHydrant (v0 : Value) (N : Int) (P : List Pip) (v1 : Value) (l : List Hyd) (rc : Int) (cl : Int) (fl : Int) (s0 : NA h.length h v0 N P) (hx0 : P.length ≤ 9223372036854775807) (s1 : SB h.length 2 h v1 (l.map hyd)) (hx1 : l.length ≤ 9223372036854775807) : vCall [] Try.prog M 8 [v0, v1, .int .i64 rc, .int .i64 cl, .int .i64 fl] h (fun r h' => r = .bool true) := by
  obtain ⟨w0, rfl, _⟩ := id s0
  refine body_of mo Try.func8 rfl (by kernel_rfl) (Nat.le_of_ble_eq_true (by kernel_rfl)) rfl ?_
  simp only [go_sem, Nat.reduceBEq, Nat.reduceAdd, Nat.reduceMul, Nat.reduceSub, Nat.reduceLeDiff, Nat.le_refl, implies_true, Nat.reduceLT, reduceIte, decide_true, decide_false, true_and, and_true, reduceCtorEq, Nat.mul_one, Int.reduceToNat, Int.reduceLE, Int.reduceLT, Int.reduceAdd, Int.reduceSub, Int.reduceMul, Int.cast_ofNat_Int, cast_zero_int, cast_one_int, Nat.reducePow, Nat.reduceEqDiff, Nat.reduceMod, Nat.zero_add, Nat.sub_zero, Nat.add_zero]
  refine ⟨by kernel_rfl, (c_szNetwork _ N P (s0.mono (by simp)) _ (by omega) hx0).use (fun _ m => m) ?_⟩
  rintro _ H1 ⟨rfl, P1⟩
  have L1 : h.length ≤ H1.length := by have := P1.length_le; first | omega | (simp only [List.length_append, List.length_cons, List.length_nil] at this; omega)
  have Q1 : h.length + 1 ≤ H1.length := by have := P1.length_le; first | omega | (simp only [List.length_append, List.length_cons, List.length_nil] at this; omega)
  replace s0 := s0.mono ((List.prefix_append _ _).trans P1)
  replace s1 := s1.mono ((List.prefix_append _ _).trans P1)
  have bx0 := keep_get (h := h ++ _) hget_new P1
  try simp only [go_sem, Nat.reduceBEq, Nat.reduceAdd, Nat.reduceMul, Nat.reduceSub, Nat.reduceLeDiff, Nat.le_refl, implies_true, Nat.reduceLT, reduceIte, decide_true, decide_false, true_and, and_true, reduceCtorEq, Nat.mul_one, Int.reduceToNat, Int.reduceLE, Int.reduceLT, Int.reduceAdd, Int.reduceSub, Int.reduceMul, Int.cast_ofNat_Int, cast_zero_int, cast_one_int, Nat.reducePow, Nat.reduceEqDiff, Nat.reduceMod, Nat.zero_add, Nat.sub_zero, Nat.add_zero, bx0, self_get bx0, own_base L1, own_base0 L1, P1]
  by_cases c0 : (1048576 : Int) - P.length < 0
  · simp only [go_sem, Nat.reduceBEq, Nat.reduceAdd, Nat.reduceMul, Nat.reduceSub, Nat.reduceLeDiff, Nat.le_refl, implies_true, Nat.reduceLT, reduceIte, decide_true, decide_false, true_and, and_true, reduceCtorEq, Nat.mul_one, Int.reduceToNat, Int.reduceLE, Int.reduceLT, Int.reduceAdd, Int.reduceSub, Int.reduceMul, Int.cast_ofNat_Int, cast_zero_int, cast_one_int, Nat.reducePow, Nat.reduceEqDiff, Nat.reduceMod, Nat.zero_add, Nat.sub_zero, Nat.add_zero, c0]
  · have hm0 : P.length ≤ 1048576 := by omega
    try simp only [go_sem, Nat.reduceBEq, Nat.reduceAdd, Nat.reduceMul, Nat.reduceSub, Nat.reduceLeDiff, Nat.le_refl, implies_true, Nat.reduceLT, reduceIte, decide_true, decide_false, true_and, and_true, reduceCtorEq, Nat.mul_one, Int.reduceToNat, Int.reduceLE, Int.reduceLT, Int.reduceAdd, Int.reduceSub, Int.reduceMul, Int.cast_ofNat_Int, cast_zero_int, cast_one_int, Nat.reducePow, Nat.reduceEqDiff, Nat.reduceMod, Nat.zero_add, Nat.sub_zero, Nat.add_zero, bx0, self_get bx0, own_base L1, own_base0 L1, c0]
    refine ⟨by kernel_rfl, (c_szHydrantS _ l (s1.mono (by simp)).1 _ (by omega) hx1).use (fun _ m => m) ?_⟩
    rintro _ _ ⟨rfl, rfl⟩
    try simp only [go_sem, Nat.reduceBEq, Nat.reduceAdd, Nat.reduceMul, Nat.reduceSub, Nat.reduceLeDiff, Nat.le_refl, implies_true, Nat.reduceLT, reduceIte, decide_true, decide_false, true_and, and_true, reduceCtorEq, Nat.mul_one, Int.reduceToNat, Int.reduceLE, Int.reduceLT, Int.reduceAdd, Int.reduceSub, Int.reduceMul, Int.cast_ofNat_Int, cast_zero_int, cast_one_int, Nat.reducePow, Nat.reduceEqDiff, Nat.reduceMod, Nat.zero_add, Nat.sub_zero, Nat.add_zero, bx0, self_get bx0, own_base L1, own_base0 L1]
    by_cases c1 : (1048576 : Int) - P.length - l.length < 0
    · simp only [go_sem, Nat.reduceBEq, Nat.reduceAdd, Nat.reduceMul, Nat.reduceSub, Nat.reduceLeDiff, Nat.le_refl, implies_true, Nat.reduceLT, reduceIte, decide_true, decide_false, true_and, and_true, reduceCtorEq, Nat.mul_one, Int.reduceToNat, Int.reduceLE, Int.reduceLT, Int.reduceAdd, Int.reduceSub, Int.reduceMul, Int.cast_ofNat_Int, cast_zero_int, cast_one_int, Nat.reducePow, Nat.reduceEqDiff, Nat.reduceMod, Nat.zero_add, Nat.sub_zero, Nat.add_zero, c1]
    · have hm1 : l.length ≤ 1048576 := by omega
      try simp only [go_sem, Nat.reduceBEq, Nat.reduceAdd, Nat.reduceMul, Nat.reduceSub, Nat.reduceLeDiff, Nat.le_refl, implies_true, Nat.reduceLT, reduceIte, decide_true, decide_false, true_and, and_true, reduceCtorEq, Nat.mul_one, Int.reduceToNat, Int.reduceLE, Int.reduceLT, Int.reduceAdd, Int.reduceSub, Int.reduceMul, Int.cast_ofNat_Int, cast_zero_int, cast_one_int, Nat.reducePow, Nat.reduceEqDiff, Nat.reduceMod, Nat.zero_add, Nat.sub_zero, Nat.add_zero, bx0, self_get bx0, own_base L1, own_base0 L1, c1]
      refine ⟨by kernel_rfl, (c_toNetwork _ N P (s0.mono (by simp)) hm0).use (fun _ m => m) ?_⟩
      rintro a0 H2 ⟨sa0, P2⟩
      have L2 : h.length ≤ H2.length := by have := P2.length_le; first | omega | (simp only [List.length_append, List.length_cons, List.length_nil] at this; omega)
      have Q2 : H1.length + 0 ≤ H2.length := by have := P2.length_le; first | omega | (simp only [List.length_append, List.length_cons, List.length_nil] at this; omega)
      replace s0 := s0.mono P2
      replace s1 := s1.mono P2
      replace bx0 := keep_get bx0 P2
      obtain ⟨a0w, rfl, ⟨a0i, rfl, _⟩⟩ := id sa0
      try simp only [go_sem, Nat.reduceBEq, Nat.reduceAdd, Nat.reduceMul, Nat.reduceSub, Nat.reduceLeDiff, Nat.le_refl, implies_true, Nat.reduceLT, reduceIte, decide_true, decide_false, true_and, and_true, reduceCtorEq, Nat.mul_one, Int.reduceToNat, Int.reduceLE, Int.reduceLT, Int.reduceAdd, Int.reduceSub, Int.reduceMul, Int.cast_ofNat_Int, cast_zero_int, cast_one_int, Nat.reducePow, Nat.reduceEqDiff, Nat.reduceMod, Nat.zero_add, Nat.sub_zero, Nat.add_zero, bx0, self_get bx0, own_base L2, own_base0 L2, P2]
      refine ⟨by kernel_rfl, (c_toHydrantS _ l (s1.mono (by simp)).1 hm1).use (fun _ m => m) ?_⟩
      rintro a1 H3 ⟨sa1, P3⟩
      have L3 : h.length ≤ H3.length := by have := P3.length_le; first | omega | (simp only [List.length_append, List.length_cons, List.length_nil] at this; omega)
      have Q3 : H2.length + 0 ≤ H3.length := by have := P3.length_le; first | omega | (simp only [List.length_append, List.length_cons, List.length_nil] at this; omega)
      replace s0 := s0.mono P3
      replace s1 := s1.mono P3
      replace sa0 := sa0.mono P3
      replace bx0 := keep_get bx0 P3
      try simp only [go_sem, Nat.reduceBEq, Nat.reduceAdd, Nat.reduceMul, Nat.reduceSub, Nat.reduceLeDiff, Nat.le_refl, implies_true, Nat.reduceLT, reduceIte, decide_true, decide_false, true_and, and_true, reduceCtorEq, Nat.mul_one, Int.reduceToNat, Int.reduceLE, Int.reduceLT, Int.reduceAdd, Int.reduceSub, Int.reduceMul, Int.cast_ofNat_Int, cast_zero_int, cast_one_int, Nat.reducePow, Nat.reduceEqDiff, Nat.reduceMod, Nat.zero_add, Nat.sub_zero, Nat.add_zero, bx0, self_get bx0, own_base L3, own_base0 L3, P3]
      refine ⟨by kernel_rfl, (c_sBestHydrant _ _ N P l rc cl fl (sa0.mono (by simp)).na (sa1.mono (by simp)).sl hm0 hm1).use (fun _ m => m) ?_⟩
      rintro _ H4 ⟨rfl, P4⟩
      have L4 : h.length ≤ H4.length := by have := P4.length_le; first | omega | (simp only [List.length_append, List.length_cons, List.length_nil] at this; omega)
      have Q4 : H3.length + 0 ≤ H4.length := by have := P4.length_le; first | omega | (simp only [List.length_append, List.length_cons, List.length_nil] at this; omega)
      replace s0 := s0.mono P4
      replace s1 := s1.mono P4
      replace sa0 := sa0.mono P4
      replace sa1 := sa1.mono P4
      replace bx0 := keep_get bx0 P4
      try simp only [go_sem, Nat.reduceBEq, Nat.reduceAdd, Nat.reduceMul, Nat.reduceSub, Nat.reduceLeDiff, Nat.le_refl, implies_true, Nat.reduceLT, reduceIte, decide_true, decide_false, true_and, and_true, reduceCtorEq, Nat.mul_one, Int.reduceToNat, Int.reduceLE, Int.reduceLT, Int.reduceAdd, Int.reduceSub, Int.reduceMul, Int.cast_ofNat_Int, cast_zero_int, cast_one_int, Nat.reducePow, Nat.reduceEqDiff, Nat.reduceMod, Nat.zero_add, Nat.sub_zero, Nat.add_zero, bx0, self_get bx0, own_base L4, own_base0 L4, P4]
      refine ⟨by kernel_rfl, (c_toNetwork _ N P (s0.mono (by simp)) hm0).use (fun _ m => m) ?_⟩
      rintro x0 H5 ⟨sx0, P5⟩
      have L5 : h.length ≤ H5.length := by have := P5.length_le; first | omega | (simp only [List.length_append, List.length_cons, List.length_nil] at this; omega)
      have Q5 : H4.length + 0 ≤ H5.length := by have := P5.length_le; first | omega | (simp only [List.length_append, List.length_cons, List.length_nil] at this; omega)
      replace s0 := s0.mono P5
      replace s1 := s1.mono P5
      replace bx0 := keep_get bx0 P5
      obtain ⟨x0w, rfl, ⟨x0i, rfl, _⟩⟩ := id sx0
      try simp only [go_sem, Nat.reduceBEq, Nat.reduceAdd, Nat.reduceMul, Nat.reduceSub, Nat.reduceLeDiff, Nat.le_refl, implies_true, Nat.reduceLT, reduceIte, decide_true, decide_false, true_and, and_true, reduceCtorEq, Nat.mul_one, Int.reduceToNat, Int.reduceLE, Int.reduceLT, Int.reduceAdd, Int.reduceSub, Int.reduceMul, Int.cast_ofNat_Int, cast_zero_int, cast_one_int, Nat.reducePow, Nat.reduceEqDiff, Nat.reduceMod, Nat.zero_add, Nat.sub_zero, Nat.add_zero, bx0, self_get bx0, own_base L5, own_base0 L5, P5]
      refine ⟨by kernel_rfl, (c_toHydrantS _ l (s1.mono (by simp)).1 hm1).use (fun _ m => m) ?_⟩
      rintro x1 H6 ⟨sx1, P6⟩
      have L6 : h.length ≤ H6.length := by have := P6.length_le; first | omega | (simp only [List.length_append, List.length_cons, List.length_nil] at this; omega)
      have Q6 : H5.length + 1 ≤ H6.length := by have := P6.length_le; first | omega | (simp only [List.length_append, List.length_cons, List.length_nil] at this; omega)
      replace s0 := s0.mono ((List.prefix_append _ _).trans P6)
      replace s1 := s1.mono ((List.prefix_append _ _).trans P6)
      replace sx0 := sx0.mono ((List.prefix_append _ _).trans P6)
      replace bx0 := keep_get bx0 ((List.prefix_append _ _).trans P6)
      have bbx0 := keep_get (h := H5 ++ _) hget_new P6
      simp only [List.length_append, List.length_cons, List.length_nil] at sx1
      try simp only [go_sem, Nat.reduceBEq, Nat.reduceAdd, Nat.reduceMul, Nat.reduceSub, Nat.reduceLeDiff, Nat.le_refl, implies_true, Nat.reduceLT, reduceIte, decide_true, decide_false, true_and, and_true, reduceCtorEq, Nat.mul_one, Int.reduceToNat, Int.reduceLE, Int.reduceLT, Int.reduceAdd, Int.reduceSub, Int.reduceMul, Int.cast_ofNat_Int, cast_zero_int, cast_one_int, Nat.reducePow, Nat.reduceEqDiff, Nat.reduceMod, Nat.zero_add, Nat.sub_zero, Nat.add_zero, bx0, bbx0, self_get bx0, self_get bbx0, own_base L6, own_base0 L6, P6]
      refine ⟨by kernel_rfl, (c_BestHydrant _ _ N P l rc cl fl (sx0.mono (by simp)).na (sx1.mono (by simp)).sl hm0 hm1).use (fun _ m => m) ?_⟩
      rintro _ H7 ⟨rfl, P7⟩
      have L7 : h.length ≤ H7.length := by have := P7.length_le; first | omega | (simp only [List.length_append, List.length_cons, List.length_nil] at this; omega)
      have Q7 : H6.length + 0 ≤ H7.length := by have := P7.length_le; first | omega | (simp only [List.length_append, List.length_cons, List.length_nil] at this; omega)
      replace s0 := s0.mono P7
      replace s1 := s1.mono P7
      replace sx0 := sx0.mono P7
      replace sx1 := sx1.mono P7
      replace bx0 := keep_get bx0 P7
      replace bbx0 := keep_get bbx0 P7
      try simp only [go_sem, Nat.reduceBEq, Nat.reduceAdd, Nat.reduceMul, Nat.reduceSub, Nat.reduceLeDiff, Nat.le_refl, implies_true, Nat.reduceLT, reduceIte, decide_true, decide_false, true_and, and_true, reduceCtorEq, Nat.mul_one, Int.reduceToNat, Int.reduceLE, Int.reduceLT, Int.reduceAdd, Int.reduceSub, Int.reduceMul, Int.cast_ofNat_Int, cast_zero_int, cast_one_int, Nat.reducePow, Nat.reduceEqDiff, Nat.reduceMod, Nat.zero_add, Nat.sub_zero, Nat.add_zero, bx0, bbx0, self_get bx0, self_get bbx0, own_base L7, own_base0 L7, P7]
      try simp only [go_sem, Nat.reduceBEq, Nat.reduceAdd, Nat.reduceMul, Nat.reduceSub, Nat.reduceLeDiff, Nat.le_refl, implies_true, Nat.reduceLT, reduceIte, decide_true, decide_false, true_and, and_true, reduceCtorEq, Nat.mul_one, Int.reduceToNat, Int.reduceLE, Int.reduceLT, Int.reduceAdd, Int.reduceSub, Int.reduceMul, Int.cast_ofNat_Int, cast_zero_int, cast_one_int, Nat.reducePow, Nat.reduceEqDiff, Nat.reduceMod, Nat.zero_add, Nat.sub_zero, Nat.add_zero, bx0, bbx0, self_get bx0, self_get bbx0, own_base L7, own_base0 L7, Try.underlying4, and_self, bne_self_eq_false, decide_true]
      refine ⟨by kernel_rfl, (c_toNetwork _ N P (s0.mono (by simp)) hm0).use (fun _ m => m) ?_⟩
      rintro z0 H8 ⟨sz0, P8⟩
      have L8 : h.length ≤ H8.length := by have := P8.length_le; first | omega | (simp only [List.length_append, List.length_cons, List.length_nil] at this; omega)
      have Q8 : H7.length + 0 ≤ H8.length := by have := P8.length_le; first | omega | (simp only [List.length_append, List.length_cons, List.length_nil] at this; omega)
      replace s0 := s0.mono P8
      replace s1 := s1.mono P8
      replace sx0 := sx0.mono P8
      replace sx1 := sx1.mono P8
      replace bx0 := keep_get bx0 P8
      replace bbx0 := keep_get bbx0 P8
      obtain ⟨z0w, rfl, ⟨z0i, rfl, _⟩⟩ := id sz0
      try simp only [go_sem, Nat.reduceBEq, Nat.reduceAdd, Nat.reduceMul, Nat.reduceSub, Nat.reduceLeDiff, Nat.le_refl, implies_true, Nat.reduceLT, reduceIte, decide_true, decide_false, true_and, and_true, reduceCtorEq, Nat.mul_one, Int.reduceToNat, Int.reduceLE, Int.reduceLT, Int.reduceAdd, Int.reduceSub, Int.reduceMul, Int.cast_ofNat_Int, cast_zero_int, cast_one_int, Nat.reducePow, Nat.reduceEqDiff, Nat.reduceMod, Nat.zero_add, Nat.sub_zero, Nat.add_zero, bx0, bbx0, self_get bx0, self_get bbx0, own_base L8, own_base0 L8, P8]
      refine ⟨by kernel_rfl, (c_eqNetwork _ _ N P (sx0.mono (by simp)).na (sz0.mono (by simp)).na hm0).use (fun _ m => m) ?_⟩
      rintro _ H9 ⟨rfl, P9⟩
      have L9 : h.length ≤ H9.length := by have := P9.length_le; first | omega | (simp only [List.length_append, List.length_cons, List.length_nil] at this; omega)
      have Q9 : H8.length + 0 ≤ H9.length := by have := P9.length_le; first | omega | (simp only [List.length_append, List.length_cons, List.length_nil] at this; omega)
      replace s0 := s0.mono P9
      replace s1 := s1.mono P9
      replace sx0 := sx0.mono P9
      replace sx1 := sx1.mono P9
      replace sz0 := sz0.mono P9
      replace bx0 := keep_get bx0 P9
      replace bbx0 := keep_get bbx0 P9
      try simp only [go_sem, Nat.reduceBEq, Nat.reduceAdd, Nat.reduceMul, Nat.reduceSub, Nat.reduceLeDiff, Nat.le_refl, implies_true, Nat.reduceLT, reduceIte, decide_true, decide_false, true_and, and_true, reduceCtorEq, Nat.mul_one, Int.reduceToNat, Int.reduceLE, Int.reduceLT, Int.reduceAdd, Int.reduceSub, Int.reduceMul, Int.cast_ofNat_Int, cast_zero_int, cast_one_int, Nat.reducePow, Nat.reduceEqDiff, Nat.reduceMod, Nat.zero_add, Nat.sub_zero, Nat.add_zero, bx0, bbx0, self_get bx0, self_get bbx0, own_base L9, own_base0 L9, P9, and_self, decide_true]
      refine ⟨by kernel_rfl, (c_toHydrantS _ l (s1.mono (by simp)).1 hm1).use (fun _ m => m) ?_⟩
      rintro z1 H10 ⟨sz1, P10⟩
      have L10 : h.length ≤ H10.length := by have := P10.length_le; first | omega | (simp only [List.length_append, List.length_cons, List.length_nil] at this; omega)
      have Q10 : H9.length + 0 ≤ H10.length := by have := P10.length_le; first | omega | (simp only [List.length_append, List.length_cons, List.length_nil] at this; omega)
      replace s0 := s0.mono P10
      replace s1 := s1.mono P10
      replace sx0 := sx0.mono P10
      replace sx1 := sx1.mono P10
      replace bx0 := keep_get bx0 P10
      replace bbx0 := keep_get bbx0 P10
      try simp only [go_sem, Nat.reduceBEq, Nat.reduceAdd, Nat.reduceMul, Nat.reduceSub, Nat.reduceLeDiff, Nat.le_refl, implies_true, Nat.reduceLT, reduceIte, decide_true, decide_false, true_and, and_true, reduceCtorEq, Nat.mul_one, Int.reduceToNat, Int.reduceLE, Int.reduceLT, Int.reduceAdd, Int.reduceSub, Int.reduceMul, Int.cast_ofNat_Int, cast_zero_int, cast_one_int, Nat.reducePow, Nat.reduceEqDiff, Nat.reduceMod, Nat.zero_add, Nat.sub_zero, Nat.add_zero, bx0, bbx0, self_get bx0, self_get bbx0, own_base L10, own_base0 L10, P10]
      refine ⟨by kernel_rfl, (c_eqHydrantS _ _ l (sx1.mono (by simp)).sl (sz1.mono (by simp)).sl hm1).use (fun _ m => m) ?_⟩
      rintro _ H11 ⟨rfl, P11⟩
      have L11 : h.length ≤ H11.length := by have := P11.length_le; first | omega | (simp only [List.length_append, List.length_cons, List.length_nil] at this; omega)
      have Q11 : H10.length + 0 ≤ H11.length := by have := P11.length_le; first | omega | (simp only [List.length_append, List.length_cons, List.length_nil] at this; omega)
      replace s0 := s0.mono P11
      replace s1 := s1.mono P11
      replace sx0 := sx0.mono P11
      replace sx1 := sx1.mono P11
      replace sz1 := sz1.mono P11
      replace bx0 := keep_get bx0 P11
      replace bbx0 := keep_get bbx0 P11
      try simp only [go_sem, Nat.reduceBEq, Nat.reduceAdd, Nat.reduceMul, Nat.reduceSub, Nat.reduceLeDiff, Nat.le_refl, implies_true, Nat.reduceLT, reduceIte, decide_true, decide_false, true_and, and_true, reduceCtorEq, Nat.mul_one, Int.reduceToNat, Int.reduceLE, Int.reduceLT, Int.reduceAdd, Int.reduceSub, Int.reduceMul, Int.cast_ofNat_Int, cast_zero_int, cast_one_int, Nat.reducePow, Nat.reduceEqDiff, Nat.reduceMod, Nat.zero_add, Nat.sub_zero, Nat.add_zero, bx0, bbx0, self_get bx0, self_get bbx0, own_base L11, own_base0 L11, P11, and_self, decide_true]

end
theorem a_FnExactHydrantsFor (h : Heap) (a : List Value) (ft : FitsAll h [.struct (.pair (.int .i64) (.pair (.slice (.struct (.pair (.int .i64) (.pair (.int .i64) (.pair (.int .i64) (.pair (.int .i64) .unit)))))) .unit)), .slice (.struct (.pair (.int .i64) (.pair (.int .i64) .unit))), .int .i64, .int .i64] a) : vCall [] Try.prog (fun _ => False) 9 a h (fun r _ => r = .bool true) := by
  obtain ⟨v0, vs0, rfl, f0, g0⟩ := ft.cons
  obtain ⟨v1, vs1, rfl, f1, g1⟩ := g0.cons
  obtain ⟨v2, vs2, rfl, f2, g2⟩ := g1.cons
  obtain ⟨v3, vs3, rfl, f3, g3⟩ := g2.cons
  obtain rfl := g3.nil
  obtain ⟨N_0, P_0, s0, hl0⟩ := Fits.net f0
  obtain ⟨l_1, s1, hl1⟩ := Fits.hyds f1
  obtain ⟨d2, rfl, _⟩ := f2.int
  obtain ⟨d3, rfl, _⟩ := f3.int
  exact l_HydrantsFor v0 N_0 P_0 v1 l_1 d2 d3 s0 hl0 s1 hl1

theorem a_FnExactFlowFor (h : Heap) (a : List Value) (ft : FitsAll h [.struct (.pair (.int .i64) (.pair (.slice (.struct (.pair (.int .i64) (.pair (.int .i64) (.pair (.int .i64) (.pair (.int .i64) .unit)))))) .unit)), .slice (.struct (.pair (.int .i64) (.pair (.int .i64) .unit))), .int .i64, .int .i64] a) : vCall [] Try.prog (fun _ => False) 7 a h (fun r _ => r = .bool true) := by
  obtain ⟨v0, vs0, rfl, f0, g0⟩ := ft.cons
  obtain ⟨v1, vs1, rfl, f1, g1⟩ := g0.cons
  obtain ⟨v2, vs2, rfl, f2, g2⟩ := g1.cons
  obtain ⟨v3, vs3, rfl, f3, g3⟩ := g2.cons
  obtain rfl := g3.nil
  obtain ⟨N_0, P_0, s0, hl0⟩ := Fits.net f0
  obtain ⟨l_1, s1, hl1⟩ := Fits.hyds f1
  obtain ⟨d2, rfl, _⟩ := f2.int
  obtain ⟨d3, rfl, _⟩ := f3.int
  exact l_FlowFor v0 N_0 P_0 v1 l_1 d2 d3 s0 hl0 s1 hl1

theorem a_FnExactThirstyNodes (h : Heap) (a : List Value) (ft : FitsAll h [.struct (.pair (.int .i64) (.pair (.slice (.struct (.pair (.int .i64) (.pair (.int .i64) (.pair (.int .i64) (.pair (.int .i64) .unit)))))) .unit)), .slice (.struct (.pair (.int .i64) (.pair (.int .i64) .unit))), .int .i64, .int .i64] a) : vCall [] Try.prog (fun _ => False) 10 a h (fun r _ => r = .bool true) := by
  obtain ⟨v0, vs0, rfl, f0, g0⟩ := ft.cons
  obtain ⟨v1, vs1, rfl, f1, g1⟩ := g0.cons
  obtain ⟨v2, vs2, rfl, f2, g2⟩ := g1.cons
  obtain ⟨v3, vs3, rfl, f3, g3⟩ := g2.cons
  obtain rfl := g3.nil
  obtain ⟨N_0, P_0, s0, hl0⟩ := Fits.net f0
  obtain ⟨l_1, s1, hl1⟩ := Fits.hyds f1
  obtain ⟨d2, rfl, _⟩ := f2.int
  obtain ⟨d3, rfl, _⟩ := f3.int
  exact l_ThirstyNodes v0 N_0 P_0 v1 l_1 d2 d3 s0 hl0 s1 hl1

theorem a_FnExactBestHydrant (h : Heap) (a : List Value) (ft : FitsAll h [.struct (.pair (.int .i64) (.pair (.slice (.struct (.pair (.int .i64) (.pair (.int .i64) (.pair (.int .i64) (.pair (.int .i64) .unit)))))) .unit)), .slice (.struct (.pair (.int .i64) (.pair (.int .i64) .unit))), .int .i64, .int .i64, .int .i64] a) : vCall [] Try.prog (fun _ => False) 8 a h (fun r _ => r = .bool true) := by
  obtain ⟨v0, vs0, rfl, f0, g0⟩ := ft.cons
  obtain ⟨v1, vs1, rfl, f1, g1⟩ := g0.cons
  obtain ⟨v2, vs2, rfl, f2, g2⟩ := g1.cons
  obtain ⟨v3, vs3, rfl, f3, g3⟩ := g2.cons
  obtain ⟨v4, vs4, rfl, f4, g4⟩ := g3.cons
  obtain rfl := g4.nil
  obtain ⟨N_0, P_0, s0, hl0⟩ := Fits.net f0
  obtain ⟨l_1, s1, hl1⟩ := Fits.hyds f1
  obtain ⟨d2, rfl, _⟩ := f2.int
  obtain ⟨d3, rfl, _⟩ := f3.int
  obtain ⟨d4, rfl, _⟩ := f4.int
  exact l_BestHydrant v0 N_0 P_0 v1 l_1 d2 d3 d4 s0 hl0 s1 hl1

end Go.Proofs.Ythdnlahdoacngaa
