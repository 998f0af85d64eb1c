
/- Archives joined: the law. No condition. -/
import Derived.Test.YtjgekhahklidcaaJoin
namespace Go.Proofs.Ytjgekhahklidcaa
open Go.HH
set_option linter.unusedSimpArgs false
set_option linter.unusedVariables false
section
variable {h : Heap} {M : Nat → Prop}

theorem l_JoinArchives (v0 : Value) (fa : Int) (la : List Int) (v1 : Value) (fb : Int) (lb : List Int) (s0 : AA h.length h v0 fa la) (hx0 : la.length ≤ 9223372036854775807) (s1 : AA h.length h v1 fb lb) (hx1 : lb.length ≤ 9223372036854775807) : vCall [] Try.prog M 3 [v0, v1] h (fun r h' => r = .bool true) := by
  obtain ⟨w0, rfl, _⟩ := id s0
  obtain ⟨w1, rfl, _⟩ := id s1
  refine body_ofR ([(8,[]),(31,[])]) mo Try.func3 rfl (by kernel_rfl) (Nat.le_of_ble_eq_true (by kernel_rfl)) rfl ?_
  simp only [go_sem, Nat.reduceBEq, Nat.reduceAdd, Nat.reduceMul, Nat.reduceSub, Nat.reduceLeDiff, Nat.le_refl, implies_true, Nat.reduceLT, reduceIte, decide_true, decide_false, true_and, and_true, reduceCtorEq, Nat.mul_one, Int.reduceToNat, Int.reduceLE, Int.reduceLT, Int.reduceAdd, Int.reduceSub, Int.reduceMul, Int.cast_ofNat_Int, cast_zero_int, cast_one_int, Nat.reducePow, Nat.reduceEqDiff, Nat.reduceMod, Nat.zero_add, Nat.sub_zero, Nat.add_zero]
  refine ⟨by kernel_rfl, (c_szArchive _ fa la (s0.mono (by simp)) _ (by omega) hx0).use (fun _ m => m) ?_⟩
  rintro _ H1 ⟨rfl, P1⟩
  have L1 : h.length ≤ H1.length := by have := P1.length_le; first | omega | (simp only [List.length_append, List.length_cons, List.length_nil] at this; omega)
  have Q1 : h.length + 2 ≤ H1.length := by have := P1.length_le; first | omega | (simp only [List.length_append, List.length_cons, List.length_nil] at this; omega)
  replace s0 := s0.mono ((List.prefix_append _ _).trans P1)
  replace s1 := s1.mono ((List.prefix_append _ _).trans P1)
  have bx0 := keep_get (h := h ++ _) (hget_lit0 (h := h)) P1
  have bx1 := keep_get (h := h ++ _) (hget_lit1 (h := h)) P1
  try simp only [go_sem, Nat.reduceBEq, Nat.reduceAdd, Nat.reduceMul, Nat.reduceSub, Nat.reduceLeDiff, Nat.le_refl, implies_true, Nat.reduceLT, reduceIte, decide_true, decide_false, true_and, and_true, reduceCtorEq, Nat.mul_one, Int.reduceToNat, Int.reduceLE, Int.reduceLT, Int.reduceAdd, Int.reduceSub, Int.reduceMul, Int.cast_ofNat_Int, cast_zero_int, cast_one_int, Nat.reducePow, Nat.reduceEqDiff, Nat.reduceMod, Nat.zero_add, Nat.sub_zero, Nat.add_zero, bx0, bx1, self_get bx0, self_get bx1, own_base L1, own_base0 L1, P1]
  by_cases c0 : (1048576 : Int) - la.length < 0
  · simp only [go_sem, Nat.reduceBEq, Nat.reduceAdd, Nat.reduceMul, Nat.reduceSub, Nat.reduceLeDiff, Nat.le_refl, implies_true, Nat.reduceLT, reduceIte, decide_true, decide_false, true_and, and_true, reduceCtorEq, Nat.mul_one, Int.reduceToNat, Int.reduceLE, Int.reduceLT, Int.reduceAdd, Int.reduceSub, Int.reduceMul, Int.cast_ofNat_Int, cast_zero_int, cast_one_int, Nat.reducePow, Nat.reduceEqDiff, Nat.reduceMod, Nat.zero_add, Nat.sub_zero, Nat.add_zero, c0]
  · have hm0 : la.length ≤ 1048576 := by omega
    try simp only [go_sem, Nat.reduceBEq, Nat.reduceAdd, Nat.reduceMul, Nat.reduceSub, Nat.reduceLeDiff, Nat.le_refl, implies_true, Nat.reduceLT, reduceIte, decide_true, decide_false, true_and, and_true, reduceCtorEq, Nat.mul_one, Int.reduceToNat, Int.reduceLE, Int.reduceLT, Int.reduceAdd, Int.reduceSub, Int.reduceMul, Int.cast_ofNat_Int, cast_zero_int, cast_one_int, Nat.reducePow, Nat.reduceEqDiff, Nat.reduceMod, Nat.zero_add, Nat.sub_zero, Nat.add_zero, bx0, bx1, self_get bx0, self_get bx1, own_base L1, own_base0 L1, c0]
    refine ⟨by kernel_rfl, (c_szArchive _ fb lb (s1.mono (by simp)) _ (by omega) hx1).use (fun _ m => m) ?_⟩
    rintro _ H2 ⟨rfl, P2⟩
    have L2 : h.length ≤ H2.length := by have := P2.length_le; first | omega | (simp only [List.length_append, List.length_cons, List.length_nil] at this; omega)
    have Q2 : H1.length + 0 ≤ H2.length := by have := P2.length_le; first | omega | (simp only [List.length_append, List.length_cons, List.length_nil] at this; omega)
    replace s0 := s0.mono P2
    replace s1 := s1.mono P2
    replace bx0 := keep_get bx0 P2
    replace bx1 := keep_get bx1 P2
    try simp only [go_sem, Nat.reduceBEq, Nat.reduceAdd, Nat.reduceMul, Nat.reduceSub, Nat.reduceLeDiff, Nat.le_refl, implies_true, Nat.reduceLT, reduceIte, decide_true, decide_false, true_and, and_true, reduceCtorEq, Nat.mul_one, Int.reduceToNat, Int.reduceLE, Int.reduceLT, Int.reduceAdd, Int.reduceSub, Int.reduceMul, Int.cast_ofNat_Int, cast_zero_int, cast_one_int, Nat.reducePow, Nat.reduceEqDiff, Nat.reduceMod, Nat.zero_add, Nat.sub_zero, Nat.add_zero, bx0, bx1, self_get bx0, self_get bx1, own_base L2, own_base0 L2, P2]
    by_cases c1 : (1048576 : Int) - la.length - lb.length < 0
    · simp only [go_sem, Nat.reduceBEq, Nat.reduceAdd, Nat.reduceMul, Nat.reduceSub, Nat.reduceLeDiff, Nat.le_refl, implies_true, Nat.reduceLT, reduceIte, decide_true, decide_false, true_and, and_true, reduceCtorEq, Nat.mul_one, Int.reduceToNat, Int.reduceLE, Int.reduceLT, Int.reduceAdd, Int.reduceSub, Int.reduceMul, Int.cast_ofNat_Int, cast_zero_int, cast_one_int, Nat.reducePow, Nat.reduceEqDiff, Nat.reduceMod, Nat.zero_add, Nat.sub_zero, Nat.add_zero, c1]
    · have hm1 : lb.length ≤ 1048576 := by omega
      try simp only [go_sem, Nat.reduceBEq, Nat.reduceAdd, Nat.reduceMul, Nat.reduceSub, Nat.reduceLeDiff, Nat.le_refl, implies_true, Nat.reduceLT, reduceIte, decide_true, decide_false, true_and, and_true, reduceCtorEq, Nat.mul_one, Int.reduceToNat, Int.reduceLE, Int.reduceLT, Int.reduceAdd, Int.reduceSub, Int.reduceMul, Int.cast_ofNat_Int, cast_zero_int, cast_one_int, Nat.reducePow, Nat.reduceEqDiff, Nat.reduceMod, Nat.zero_add, Nat.sub_zero, Nat.add_zero, bx0, bx1, self_get bx0, self_get bx1, own_base L2, own_base0 L2, c1]
      obtain ⟨y0, hyd0, hy0⟩ : ∃ y : List Int, joinL fa la fb lb = y ∧ y.length ≤ 1048576 := ⟨_, rfl, joinL_len⟩
      obtain ⟨xx0, hxd0⟩ : ∃ x : Int, joinF fa la fb lb = x := ⟨_, rfl⟩
      refine ⟨by kernel_rfl, (c_toArchive _ fa la (s0.mono (by simp)) hm0).use (fun _ m => m) ?_⟩
      rintro a0 H3 ⟨sa0, P3⟩
      have L3 : h.length ≤ H3.length := by have := P3.length_le; first | omega | (simp only [List.length_append, List.length_cons, List.length_nil] at this; omega)
      have Q3 : H2.length + 1 ≤ H3.length := by have := P3.length_le; first | omega | (simp only [List.length_append, List.length_cons, List.length_nil] at this; omega)
      replace s0 := s0.mono ((List.prefix_append _ _).trans P3)
      replace s1 := s1.mono ((List.prefix_append _ _).trans P3)
      replace bx0 := keep_get bx0 ((List.prefix_append _ _).trans P3)
      replace bx1 := keep_get bx1 ((List.prefix_append _ _).trans P3)
      have bbw0 := keep_get (h := H2 ++ _) hget_new P3
      simp only [List.length_append, List.length_cons, List.length_nil] at sa0
      obtain ⟨a0w, rfl, ⟨a0i, rfl, _⟩⟩ := id sa0
      try simp only [go_sem, Nat.reduceBEq, Nat.reduceAdd, Nat.reduceMul, Nat.reduceSub, Nat.reduceLeDiff, Nat.le_refl, implies_true, Nat.reduceLT, reduceIte, decide_true, decide_false, true_and, and_true, reduceCtorEq, Nat.mul_one, Int.reduceToNat, Int.reduceLE, Int.reduceLT, Int.reduceAdd, Int.reduceSub, Int.reduceMul, Int.cast_ofNat_Int, cast_zero_int, cast_one_int, Nat.reducePow, Nat.reduceEqDiff, Nat.reduceMod, Nat.zero_add, Nat.sub_zero, Nat.add_zero, bx0, bx1, bbw0, self_get bx0, self_get bx1, self_get bbw0, own_base L3, own_base0 L3, own_base0 L2, P3]
      refine ⟨by kernel_rfl, (c_toArchive _ fb lb (s1.mono (by simp)) hm1).use (fun _ m => m) ?_⟩
      rintro a1 H4 ⟨sa1, P4⟩
      have L4 : h.length ≤ H4.length := by have := P4.length_le; first | omega | (simp only [List.length_append, List.length_cons, List.length_nil] at this; omega)
      have Q4 : H3.length + 0 ≤ H4.length := by have := P4.length_le; first | omega | (simp only [List.length_append, List.length_cons, List.length_nil] at this; omega)
      replace s0 := s0.mono P4
      replace s1 := s1.mono P4
      replace sa0 := sa0.mono P4
      replace bx0 := keep_get bx0 P4
      replace bx1 := keep_get bx1 P4
      replace bbw0 := keep_get bbw0 P4
      obtain ⟨a1w, rfl, ⟨a1i, rfl, _⟩⟩ := id sa1
      try simp only [go_sem, Nat.reduceBEq, Nat.reduceAdd, Nat.reduceMul, Nat.reduceSub, Nat.reduceLeDiff, Nat.le_refl, implies_true, Nat.reduceLT, reduceIte, decide_true, decide_false, true_and, and_true, reduceCtorEq, Nat.mul_one, Int.reduceToNat, Int.reduceLE, Int.reduceLT, Int.reduceAdd, Int.reduceSub, Int.reduceMul, Int.cast_ofNat_Int, cast_zero_int, cast_one_int, Nat.reducePow, Nat.reduceEqDiff, Nat.reduceMod, Nat.zero_add, Nat.sub_zero, Nat.add_zero, bx0, bx1, bbw0, self_get bx0, self_get bx1, self_get bbw0, own_base L4, own_base0 L4, own_base0 L2, P4]
      refine ⟨by kernel_rfl, (c_sJoinArchives _ _ fa la fb lb (sa0.mono (by simp)).aa (sa1.mono (by simp)).aa hm0 hm1).use (fun _ m => m) ?_⟩
      rintro _ H5 ⟨⟨w0, rfl, sw0⟩, P5⟩
      have L5 : h.length ≤ H5.length := by have := P5.length_le; first | omega | (simp only [List.length_append, List.length_cons, List.length_nil] at this; omega)
      have Q5 : H4.length + 0 ≤ H5.length := by have := P5.length_le; first | omega | (simp only [List.length_append, List.length_cons, List.length_nil] at this; omega)
      replace s0 := s0.mono P5
      replace s1 := s1.mono P5
      replace bx0 := keep_get bx0 P5
      replace bx1 := keep_get bx1 P5
      replace bbw0 := keep_get bbw0 P5
      rw [hyd0, hxd0] at sw0
      obtain ⟨w0w, rfl, ⟨w0i, rfl, _⟩⟩ := id sw0
      try simp only [go_sem, Nat.reduceBEq, Nat.reduceAdd, Nat.reduceMul, Nat.reduceSub, Nat.reduceLeDiff, Nat.le_refl, implies_true, Nat.reduceLT, reduceIte, decide_true, decide_false, true_and, and_true, reduceCtorEq, Nat.mul_one, Int.reduceToNat, Int.reduceLE, Int.reduceLT, Int.reduceAdd, Int.reduceSub, Int.reduceMul, Int.cast_ofNat_Int, cast_zero_int, cast_one_int, Nat.reducePow, Nat.reduceEqDiff, Nat.reduceMod, Nat.zero_add, Nat.sub_zero, Nat.add_zero, bx0, bx1, bbw0, self_get bx0, self_get bx1, self_get bbw0, own_base L5, own_base0 L5, own_base0 L2, P5]
      obtain ⟨H6, hG6⟩ : ∃ X, List.set H5 (List.length H2) ⟨[.int .i64 xx0, .slice w0i y0.length 0], 2, .rw⟩ = X := ⟨_, rfl⟩
      have ag6 : Agr (List.length H2) (List.length H2 + 1) H5 H6 := hG6 ▸ Agr.set (Nat.le_refl _) (Nat.lt_succ_self _)
      have Q6 : H5.length ≤ H6.length := ag6.1
      have L6 : h.length ≤ H6.length := by omega
      replace s0 := s0.agr ag6 (by omega)
      replace s1 := s1.agr ag6 (by omega)
      replace sw0 := sw0.agr ag6 (by omega)
      replace bx0 := agr_get ag6 bx0 (by omega)
      replace bx1 := agr_get ag6 bx1 (by omega)
      replace bbw0 : hget H6 (List.length H2) = some ⟨[.int .i64 xx0, .slice w0i y0.length 0], 2, .rw⟩ := by rw [← hG6]; exact hget_set_same (hget_lt bbw0)
      try simp only [go_sem, Nat.reduceBEq, Nat.reduceAdd, Nat.reduceMul, Nat.reduceSub, Nat.reduceLeDiff, Nat.le_refl, implies_true, Nat.reduceLT, reduceIte, decide_true, decide_false, true_and, and_true, reduceCtorEq, Nat.mul_one, Int.reduceToNat, Int.reduceLE, Int.reduceLT, Int.reduceAdd, Int.reduceSub, Int.reduceMul, Int.cast_ofNat_Int, cast_zero_int, cast_one_int, Nat.reducePow, Nat.reduceEqDiff, Nat.reduceMod, Nat.zero_add, Nat.sub_zero, Nat.add_zero, bx0, bx1, bbw0, self_get bx0, self_get bx1, self_get bbw0, own_base L6, own_base0 L6, own_base0 L2, hG6]
      refine ⟨by kernel_rfl, (c_toArchive _ fa la (s0.mono (by simp)) hm0).use (fun _ m => m) ?_⟩
      rintro x0 H7 ⟨sx0, P7⟩
      have L7 : h.length ≤ H7.length := by have := P7.length_le; first | omega | (simp only [List.length_append, List.length_cons, List.length_nil] at this; omega)
      have Q7 : H6.length + 0 ≤ H7.length := by have := P7.length_le; first | omega | (simp only [List.length_append, List.length_cons, List.length_nil] at this; omega)
      replace s0 := s0.mono P7
      replace s1 := s1.mono P7
      replace sw0 := sw0.mono P7
      replace bx0 := keep_get bx0 P7
      replace bx1 := keep_get bx1 P7
      replace bbw0 := keep_get bbw0 P7
      obtain ⟨x0w, rfl, ⟨x0i, rfl, _⟩⟩ := id sx0
      try simp only [go_sem, Nat.reduceBEq, Nat.reduceAdd, Nat.reduceMul, Nat.reduceSub, Nat.reduceLeDiff, Nat.le_refl, implies_true, Nat.reduceLT, reduceIte, decide_true, decide_false, true_and, and_true, reduceCtorEq, Nat.mul_one, Int.reduceToNat, Int.reduceLE, Int.reduceLT, Int.reduceAdd, Int.reduceSub, Int.reduceMul, Int.cast_ofNat_Int, cast_zero_int, cast_one_int, Nat.reducePow, Nat.reduceEqDiff, Nat.reduceMod, Nat.zero_add, Nat.sub_zero, Nat.add_zero, bx0, bx1, bbw0, self_get bx0, self_get bx1, self_get bbw0, own_base L7, own_base0 L7, own_base0 L2, hG6, P7]
      refine ⟨by kernel_rfl, (c_toArchive _ fb lb (s1.mono (by simp)) hm1).use (fun _ m => m) ?_⟩
      rintro x1 H8 ⟨sx1, P8⟩
      have L8 : h.length ≤ H8.length := by have := P8.length_le; first | omega | (simp only [List.length_append, List.length_cons, List.length_nil] at this; omega)
      have Q8 : H7.length + 1 ≤ H8.length := by have := P8.length_le; first | omega | (simp only [List.length_append, List.length_cons, List.length_nil] at this; omega)
      replace s0 := s0.mono ((List.prefix_append _ _).trans P8)
      replace s1 := s1.mono ((List.prefix_append _ _).trans P8)
      replace sw0 := sw0.mono ((List.prefix_append _ _).trans P8)
      replace sx0 := sx0.mono ((List.prefix_append _ _).trans P8)
      replace bx0 := keep_get bx0 ((List.prefix_append _ _).trans P8)
      replace bx1 := keep_get bx1 ((List.prefix_append _ _).trans P8)
      replace bbw0 := keep_get bbw0 ((List.prefix_append _ _).trans P8)
      have bbx0 := keep_get (h := H7 ++ _) hget_new P8
      simp only [List.length_append, List.length_cons, List.length_nil] at sx1
      obtain ⟨x1w, rfl, ⟨x1i, rfl, _⟩⟩ := id sx1
      try simp only [go_sem, Nat.reduceBEq, Nat.reduceAdd, Nat.reduceMul, Nat.reduceSub, Nat.reduceLeDiff, Nat.le_refl, implies_true, Nat.reduceLT, reduceIte, decide_true, decide_false, true_and, and_true, reduceCtorEq, Nat.mul_one, Int.reduceToNat, Int.reduceLE, Int.reduceLT, Int.reduceAdd, Int.reduceSub, Int.reduceMul, Int.cast_ofNat_Int, cast_zero_int, cast_one_int, Nat.reducePow, Nat.reduceEqDiff, Nat.reduceMod, Nat.zero_add, Nat.sub_zero, Nat.add_zero, bx0, bx1, bbw0, bbx0, self_get bx0, self_get bx1, self_get bbw0, self_get bbx0, own_base L8, own_base0 L8, own_base0 L2, hG6, P8]
      refine ⟨by kernel_rfl, (c_JoinArchives _ _ fa la fb lb (sx0.mono (by simp)).aa (sx1.mono (by simp)).aa hm0 hm1).use (fun _ m => m) ?_⟩
      rintro _ H9 ⟨⟨g0, rfl, sg0⟩, P9⟩
      have L9 : h.length ≤ H9.length := by have := P9.length_le; first | omega | (simp only [List.length_append, List.length_cons, List.length_nil] at this; omega)
      have Q9 : H8.length + 1 ≤ H9.length := by have := P9.length_le; first | omega | (simp only [List.length_append, List.length_cons, List.length_nil] at this; omega)
      replace s0 := s0.mono ((List.prefix_append _ _).trans P9)
      replace s1 := s1.mono ((List.prefix_append _ _).trans P9)
      replace sw0 := sw0.mono ((List.prefix_append _ _).trans P9)
      replace sx0 := sx0.mono ((List.prefix_append _ _).trans P9)
      replace sx1 := sx1.mono ((List.prefix_append _ _).trans P9)
      replace bx0 := keep_get bx0 ((List.prefix_append _ _).trans P9)
      replace bx1 := keep_get bx1 ((List.prefix_append _ _).trans P9)
      replace bbw0 := keep_get bbw0 ((List.prefix_append _ _).trans P9)
      replace bbx0 := keep_get bbx0 ((List.prefix_append _ _).trans P9)
      have bbx1 := keep_get (h := H8 ++ _) hget_new P9
      simp only [List.length_append, List.length_cons, List.length_nil] at sg0
      rw [hyd0, hxd0] at sg0
      obtain ⟨g0w, rfl, ⟨g0i, rfl, _⟩⟩ := id sg0
      try simp only [go_sem, Nat.reduceBEq, Nat.reduceAdd, Nat.reduceMul, Nat.reduceSub, Nat.reduceLeDiff, Nat.le_refl, implies_true, Nat.reduceLT, reduceIte, decide_true, decide_false, true_and, and_true, reduceCtorEq, Nat.mul_one, Int.reduceToNat, Int.reduceLE, Int.reduceLT, Int.reduceAdd, Int.reduceSub, Int.reduceMul, Int.cast_ofNat_Int, cast_zero_int, cast_one_int, Nat.reducePow, Nat.reduceEqDiff, Nat.reduceMod, Nat.zero_add, Nat.sub_zero, Nat.add_zero, bx0, bx1, bbw0, bbx0, bbx1, self_get bx0, self_get bx1, self_get bbw0, self_get bbx0, self_get bbx1, own_base L9, own_base0 L9, own_base0 L2, hG6, P9]
      refine ⟨by kernel_rfl, (c_eqArchive _ _ _ _ _ _ (sg0.mono (by simp)).aa (sw0.mono (by simp)).aa hy0 hy0).use (fun _ m => m) ?_⟩
      rintro _ H10 ⟨rfl, P10⟩
      have L10 : h.length ≤ H10.length := by have := P10.length_le; first | omega | (simp only [List.length_append, List.length_cons, List.length_nil] at this; omega)
      have Q10 : H9.length + 1 ≤ H10.length := by have := P10.length_le; first | omega | (simp only [List.length_append, List.length_cons, List.length_nil] at this; omega)
      replace s0 := s0.mono ((List.prefix_append _ _).trans P10)
      replace s1 := s1.mono ((List.prefix_append _ _).trans P10)
      replace sw0 := sw0.mono ((List.prefix_append _ _).trans P10)
      replace sx0 := sx0.mono ((List.prefix_append _ _).trans P10)
      replace sx1 := sx1.mono ((List.prefix_append _ _).trans P10)
      replace sg0 := sg0.mono ((List.prefix_append _ _).trans P10)
      replace bx0 := keep_get bx0 ((List.prefix_append _ _).trans P10)
      replace bx1 := keep_get bx1 ((List.prefix_append _ _).trans P10)
      replace bbw0 := keep_get bbw0 ((List.prefix_append _ _).trans P10)
      replace bbx0 := keep_get bbx0 ((List.prefix_append _ _).trans P10)
      replace bbx1 := keep_get bbx1 ((List.prefix_append _ _).trans P10)
      have bbg0 := keep_get (h := H9 ++ _) hget_new P10
      try simp only [go_sem, Nat.reduceBEq, Nat.reduceAdd, Nat.reduceMul, Nat.reduceSub, Nat.reduceLeDiff, Nat.le_refl, implies_true, Nat.reduceLT, reduceIte, decide_true, decide_false, true_and, and_true, reduceCtorEq, Nat.mul_one, Int.reduceToNat, Int.reduceLE, Int.reduceLT, Int.reduceAdd, Int.reduceSub, Int.reduceMul, Int.cast_ofNat_Int, cast_zero_int, cast_one_int, Nat.reducePow, Nat.reduceEqDiff, Nat.reduceMod, Nat.zero_add, Nat.sub_zero, Nat.add_zero, bx0, bx1, bbw0, bbx0, bbx1, bbg0, self_get bx0, self_get bx1, self_get bbw0, self_get bbx0, self_get bbx1, self_get bbg0, own_base L10, own_base0 L10, own_base0 L2, hG6, P10, Try.underlying4, and_self, bne_self_eq_false, decide_true]
      refine ⟨by kernel_rfl, (c_toArchive _ fa la (s0.mono (by simp)) hm0).use (fun _ m => m) ?_⟩
      rintro z0 H11 ⟨sz0, P11⟩
      have L11 : h.length ≤ H11.length := by have := P11.length_le; first | omega | (simp only [List.length_append, List.length_cons, List.length_nil] at this; omega)
      have Q11 : H10.length + 0 ≤ H11.length := by have := P11.length_le; first | omega | (simp only [List.length_append, List.length_cons, List.length_nil] at this; omega)
      replace s0 := s0.mono P11
      replace s1 := s1.mono P11
      replace sw0 := sw0.mono P11
      replace sx0 := sx0.mono P11
      replace sx1 := sx1.mono P11
      replace sg0 := sg0.mono P11
      replace bx0 := keep_get bx0 P11
      replace bx1 := keep_get bx1 P11
      replace bbw0 := keep_get bbw0 P11
      replace bbx0 := keep_get bbx0 P11
      replace bbx1 := keep_get bbx1 P11
      replace bbg0 := keep_get bbg0 P11
      obtain ⟨z0w, rfl, ⟨z0i, rfl, _⟩⟩ := id sz0
      try simp only [go_sem, Nat.reduceBEq, Nat.reduceAdd, Nat.reduceMul, Nat.reduceSub, Nat.reduceLeDiff, Nat.le_refl, implies_true, Nat.reduceLT, reduceIte, decide_true, decide_false, true_and, and_true, reduceCtorEq, Nat.mul_one, Int.reduceToNat, Int.reduceLE, Int.reduceLT, Int.reduceAdd, Int.reduceSub, Int.reduceMul, Int.cast_ofNat_Int, cast_zero_int, cast_one_int, Nat.reducePow, Nat.reduceEqDiff, Nat.reduceMod, Nat.zero_add, Nat.sub_zero, Nat.add_zero, bx0, bx1, bbw0, bbx0, bbx1, bbg0, self_get bx0, self_get bx1, self_get bbw0, self_get bbx0, self_get bbx1, self_get bbg0, own_base L11, own_base0 L11, own_base0 L2, hG6, P11]
      refine ⟨by kernel_rfl, (c_eqArchive _ _ fa fa la la (sx0.mono (by simp)).aa (sz0.mono (by simp)).aa hm0 hm0).use (fun _ m => m) ?_⟩
      rintro _ H12 ⟨rfl, P12⟩
      have L12 : h.length ≤ H12.length := by have := P12.length_le; first | omega | (simp only [List.length_append, List.length_cons, List.length_nil] at this; omega)
      have Q12 : H11.length + 0 ≤ H12.length := by have := P12.length_le; first | omega | (simp only [List.length_append, List.length_cons, List.length_nil] at this; omega)
      replace s0 := s0.mono P12
      replace s1 := s1.mono P12
      replace sw0 := sw0.mono P12
      replace sx0 := sx0.mono P12
      replace sx1 := sx1.mono P12
      replace sg0 := sg0.mono P12
      replace sz0 := sz0.mono P12
      replace bx0 := keep_get bx0 P12
      replace bx1 := keep_get bx1 P12
      replace bbw0 := keep_get bbw0 P12
      replace bbx0 := keep_get bbx0 P12
      replace bbx1 := keep_get bbx1 P12
      replace bbg0 := keep_get bbg0 P12
      try simp only [go_sem, Nat.reduceBEq, Nat.reduceAdd, Nat.reduceMul, Nat.reduceSub, Nat.reduceLeDiff, Nat.le_refl, implies_true, Nat.reduceLT, reduceIte, decide_true, decide_false, true_and, and_true, reduceCtorEq, Nat.mul_one, Int.reduceToNat, Int.reduceLE, Int.reduceLT, Int.reduceAdd, Int.reduceSub, Int.reduceMul, Int.cast_ofNat_Int, cast_zero_int, cast_one_int, Nat.reducePow, Nat.reduceEqDiff, Nat.reduceMod, Nat.zero_add, Nat.sub_zero, Nat.add_zero, bx0, bx1, bbw0, bbx0, bbx1, bbg0, self_get bx0, self_get bx1, self_get bbw0, self_get bbx0, self_get bbx1, self_get bbg0, own_base L12, own_base0 L12, own_base0 L2, hG6, P12, and_self, decide_true]
      refine ⟨by kernel_rfl, (c_toArchive _ fb lb (s1.mono (by simp)) hm1).use (fun _ m => m) ?_⟩
      rintro z1 H13 ⟨sz1, P13⟩
      have L13 : h.length ≤ H13.length := by have := P13.length_le; first | omega | (simp only [List.length_append, List.length_cons, List.length_nil] at this; omega)
      have Q13 : H12.length + 0 ≤ H13.length := by have := P13.length_le; first | omega | (simp only [List.length_append, List.length_cons, List.length_nil] at this; omega)
      replace s0 := s0.mono P13
      replace s1 := s1.mono P13
      replace sw0 := sw0.mono P13
      replace sx0 := sx0.mono P13
      replace sx1 := sx1.mono P13
      replace sg0 := sg0.mono P13
      replace bx0 := keep_get bx0 P13
      replace bx1 := keep_get bx1 P13
      replace bbw0 := keep_get bbw0 P13
      replace bbx0 := keep_get bbx0 P13
      replace bbx1 := keep_get bbx1 P13
      replace bbg0 := keep_get bbg0 P13
      obtain ⟨z1w, rfl, ⟨z1i, rfl, _⟩⟩ := id sz1
      try simp only [go_sem, Nat.reduceBEq, Nat.reduceAdd, Nat.reduceMul, Nat.reduceSub, Nat.reduceLeDiff, Nat.le_refl, implies_true, Nat.reduceLT, reduceIte, decide_true, decide_false, true_and, and_true, reduceCtorEq, Nat.mul_one, Int.reduceToNat, Int.reduceLE, Int.reduceLT, Int.reduceAdd, Int.reduceSub, Int.reduceMul, Int.cast_ofNat_Int, cast_zero_int, cast_one_int, Nat.reducePow, Nat.reduceEqDiff, Nat.reduceMod, Nat.zero_add, Nat.sub_zero, Nat.add_zero, bx0, bx1, bbw0, bbx0, bbx1, bbg0, self_get bx0, self_get bx1, self_get bbw0, self_get bbx0, self_get bbx1, self_get bbg0, own_base L13, own_base0 L13, own_base0 L2, hG6, P13]
      refine ⟨by kernel_rfl, (c_eqArchive _ _ fb fb lb lb (sx1.mono (by simp)).aa (sz1.mono (by simp)).aa hm1 hm1).use (fun _ m => m) ?_⟩
      rintro _ H14 ⟨rfl, P14⟩
      have L14 : h.length ≤ H14.length := by have := P14.length_le; first | omega | (simp only [List.length_append, List.length_cons, List.length_nil] at this; omega)
      have Q14 : H13.length + 0 ≤ H14.length := by have := P14.length_le; first | omega | (simp only [List.length_append, List.length_cons, List.length_nil] at this; omega)
      replace s0 := s0.mono P14
      replace s1 := s1.mono P14
      replace sw0 := sw0.mono P14
      replace sx0 := sx0.mono P14
      replace sx1 := sx1.mono P14
      replace sg0 := sg0.mono P14
      replace sz1 := sz1.mono P14
      replace bx0 := keep_get bx0 P14
      replace bx1 := keep_get bx1 P14
      replace bbw0 := keep_get bbw0 P14
      replace bbx0 := keep_get bbx0 P14
      replace bbx1 := keep_get bbx1 P14
      replace bbg0 := keep_get bbg0 P14
      try simp only [go_sem, Nat.reduceBEq, Nat.reduceAdd, Nat.reduceMul, Nat.reduceSub, Nat.reduceLeDiff, Nat.le_refl, implies_true, Nat.reduceLT, reduceIte, decide_true, decide_false, true_and, and_true, reduceCtorEq, Nat.mul_one, Int.reduceToNat, Int.reduceLE, Int.reduceLT, Int.reduceAdd, Int.reduceSub, Int.reduceMul, Int.cast_ofNat_Int, cast_zero_int, cast_one_int, Nat.reducePow, Nat.reduceEqDiff, Nat.reduceMod, Nat.zero_add, Nat.sub_zero, Nat.add_zero, bx0, bx1, bbw0, bbx0, bbx1, bbg0, self_get bx0, self_get bx1, self_get bbw0, self_get bbx0, self_get bbx1, self_get bbg0, own_base L14, own_base0 L14, own_base0 L2, hG6, P14, and_self, decide_true]
      refine ⟨by kernel_rfl, (c_markArchive _ fa la (sx0.mono (by simp)) (fun i a b => Or.inl (by omega)) _ (by omega) hm0).use (fun _ m => m) ?_⟩
      rintro _ H15 ⟨rfl, -, ag15⟩
      have Q15 : H14.length ≤ H15.length := ag15.1
      have L15 : h.length ≤ H15.length := by omega
      replace s0 := s0.agr ag15 (by omega)
      replace s1 := s1.agr ag15 (by omega)
      replace sw0 := sw0.agr ag15 (by omega)
      replace sx1 := sx1.agr ag15 (by omega)
      replace sg0 := sg0.agr ag15 (by omega)
      replace bx0 := agr_get ag15 bx0 (by omega)
      replace bx1 := agr_get ag15 bx1 (by omega)
      replace bbw0 := agr_get ag15 bbw0 (by omega)
      replace bbx0 := agr_get ag15 bbx0 (by omega)
      replace bbx1 := agr_get ag15 bbx1 (by omega)
      replace bbg0 := agr_get ag15 bbg0 (by omega)
      try simp only [go_sem, Nat.reduceBEq, Nat.reduceAdd, Nat.reduceMul, Nat.reduceSub, Nat.reduceLeDiff, Nat.le_refl, implies_true, Nat.reduceLT, reduceIte, decide_true, decide_false, true_and, and_true, reduceCtorEq, Nat.mul_one, Int.reduceToNat, Int.reduceLE, Int.reduceLT, Int.reduceAdd, Int.reduceSub, Int.reduceMul, Int.cast_ofNat_Int, cast_zero_int, cast_one_int, Nat.reducePow, Nat.reduceEqDiff, Nat.reduceMod, Nat.zero_add, Nat.sub_zero, Nat.add_zero, bx0, bx1, bbw0, bbx0, bbx1, bbg0, self_get bx0, self_get bx1, self_get bbw0, self_get bbx0, self_get bbx1, self_get bbg0, own_base L15, own_base0 L15, own_base0 L2, hG6]
      refine ⟨by kernel_rfl, (c_markArchive _ fb lb (sx1.mono (by simp)) (fun i a b => Or.inl (by omega)) _ (by omega) hm1).use (fun _ m => m) ?_⟩
      rintro _ H16 ⟨rfl, -, ag16⟩
      have Q16 : H15.length ≤ H16.length := ag16.1
      have L16 : h.length ≤ H16.length := by omega
      replace s0 := s0.agr ag16 (by omega)
      replace s1 := s1.agr ag16 (by omega)
      replace sw0 := sw0.agr ag16 (by omega)
      replace sg0 := sg0.agr ag16 (by omega)
      replace bx0 := agr_get ag16 bx0 (by omega)
      replace bx1 := agr_get ag16 bx1 (by omega)
      replace bbw0 := agr_get ag16 bbw0 (by omega)
      replace bbx0 := agr_get ag16 bbx0 (by omega)
      replace bbx1 := agr_get ag16 bbx1 (by omega)
      replace bbg0 := agr_get ag16 bbg0 (by omega)
      try simp only [go_sem, Nat.reduceBEq, Nat.reduceAdd, Nat.reduceMul, Nat.reduceSub, Nat.reduceLeDiff, Nat.le_refl, implies_true, Nat.reduceLT, reduceIte, decide_true, decide_false, true_and, and_true, reduceCtorEq, Nat.mul_one, Int.reduceToNat, Int.reduceLE, Int.reduceLT, Int.reduceAdd, Int.reduceSub, Int.reduceMul, Int.cast_ofNat_Int, cast_zero_int, cast_one_int, Nat.reducePow, Nat.reduceEqDiff, Nat.reduceMod, Nat.zero_add, Nat.sub_zero, Nat.add_zero, bx0, bx1, bbw0, bbx0, bbx1, bbg0, self_get bx0, self_get bx1, self_get bbw0, self_get bbx0, self_get bbx1, self_get bbg0, own_base L16, own_base0 L16, own_base0 L2, hG6]
      have n1 : ¬ (1 + (la.length : Int) + (lb.length : Int) < 0) := by omega
      try simp only [go_sem, Nat.reduceBEq, Nat.reduceAdd, Nat.reduceMul, Nat.reduceSub, Nat.reduceLeDiff, Nat.le_refl, implies_true, Nat.reduceLT, reduceIte, decide_true, decide_false, true_and, and_true, reduceCtorEq, Nat.mul_one, Int.reduceToNat, Int.reduceLE, Int.reduceLT, Int.reduceAdd, Int.reduceSub, Int.reduceMul, Int.cast_ofNat_Int, cast_zero_int, cast_one_int, Nat.reducePow, Nat.reduceEqDiff, Nat.reduceMod, Nat.zero_add, Nat.sub_zero, Nat.add_zero, bx0, bx1, bbw0, bbx0, bbx1, bbg0, self_get bx0, self_get bx1, self_get bbw0, self_get bbx0, self_get bbx1, self_get bbg0, own_base L16, own_base0 L16, own_base0 L2, hG6, n1]
      refine ⟨by kernel_rfl, (c_eqArchive _ _ _ _ _ _ (sg0.mono (by simp)).aa (sw0.mono (by simp)).aa hy0 hy0).use (fun _ m => m) ?_⟩
      rintro _ H17 ⟨rfl, P17⟩
      have L17 : h.length ≤ H17.length := by have := P17.length_le; first | omega | (simp only [List.length_append, List.length_cons, List.length_nil] at this; omega)
      have Q17 : H16.length + 0 ≤ H17.length := by have := P17.length_le; first | omega | (simp only [List.length_append, List.length_cons, List.length_nil] at this; omega)
      replace s0 := s0.mono P17
      replace s1 := s1.mono P17
      replace sw0 := sw0.mono P17
      replace sg0 := sg0.mono P17
      replace bx0 := keep_get bx0 P17
      replace bx1 := keep_get bx1 P17
      replace bbw0 := keep_get bbw0 P17
      replace bbx0 := keep_get bbx0 P17
      replace bbx1 := keep_get bbx1 P17
      replace bbg0 := keep_get bbg0 P17
      try simp only [go_sem, Nat.reduceBEq, Nat.reduceAdd, Nat.reduceMul, Nat.reduceSub, Nat.reduceLeDiff, Nat.le_refl, implies_true, Nat.reduceLT, reduceIte, decide_true, decide_false, true_and, and_true, reduceCtorEq, Nat.mul_one, Int.reduceToNat, Int.reduceLE, Int.reduceLT, Int.reduceAdd, Int.reduceSub, Int.reduceMul, Int.cast_ofNat_Int, cast_zero_int, cast_one_int, Nat.reducePow, Nat.reduceEqDiff, Nat.reduceMod, Nat.zero_add, Nat.sub_zero, Nat.add_zero, bx0, bx1, bbw0, bbx0, bbx1, bbg0, self_get bx0, self_get bx1, self_get bbw0, self_get bbx0, self_get bbx1, self_get bbg0, own_base L17, own_base0 L17, own_base0 L2, hG6, n1, P17, Try.underlying4, and_self, bne_self_eq_false, decide_true]
      refine ⟨by kernel_rfl, (c_markArchive _ _ _ (sg0.mono (by simp)) (fun i a b => Or.inl (by omega)) _ (by omega) hy0).use (fun _ m => m) ?_⟩
      rintro _ H18 ⟨rfl, sm, ag18⟩
      have Q18 : H17.length ≤ H18.length := ag18.1
      have L18 : h.length ≤ H18.length := by omega
      replace s0 := s0.agr ag18 (by omega)
      replace s1 := s1.agr ag18 (by omega)
      replace sw0 := sw0.agr ag18 (by omega)
      replace bx0 := agr_get ag18 bx0 (by omega)
      replace bx1 := agr_get ag18 bx1 (by omega)
      replace bbw0 := agr_get ag18 bbw0 (by omega)
      replace bbx0 := agr_get ag18 bbx0 (by omega)
      replace bbx1 := agr_get ag18 bbx1 (by omega)
      replace bbg0 := agr_get ag18 bbg0 (by omega)
      try simp only [go_sem, Nat.reduceBEq, Nat.reduceAdd, Nat.reduceMul, Nat.reduceSub, Nat.reduceLeDiff, Nat.le_refl, implies_true, Nat.reduceLT, reduceIte, decide_true, decide_false, true_and, and_true, reduceCtorEq, Nat.mul_one, Int.reduceToNat, Int.reduceLE, Int.reduceLT, Int.reduceAdd, Int.reduceSub, Int.reduceMul, Int.cast_ofNat_Int, cast_zero_int, cast_one_int, Nat.reducePow, Nat.reduceEqDiff, Nat.reduceMod, Nat.zero_add, Nat.sub_zero, Nat.add_zero, bx0, bx1, bbw0, bbx0, bbx1, bbg0, self_get bx0, self_get bx1, self_get bbw0, self_get bbx0, self_get bbx1, self_get bbg0, own_base L18, own_base0 L18, own_base0 L2, hG6, n1]
      have n2 : ¬ (1 + (y0.length : Int) < 0) := by omega
      refine ⟨by kernel_rfl, (c_heldArchive _ _ _ 1 (by omega) (sm.mono (by simp)).aa (by rw [marks_len]) (by rw [marks_len]; exact hy0)).use (fun _ m => m) ?_⟩
      rintro _ H19 ⟨rfl, P19⟩
      have L19 : h.length ≤ H19.length := by have := P19.length_le; first | omega | (simp only [List.length_append, List.length_cons, List.length_nil] at this; omega)
      have Q19 : H18.length + 0 ≤ H19.length := by have := P19.length_le; first | omega | (simp only [List.length_append, List.length_cons, List.length_nil] at this; omega)
      replace s0 := s0.mono P19
      replace s1 := s1.mono P19
      replace sw0 := sw0.mono P19
      replace sm := sm.mono P19
      replace bx0 := keep_get bx0 P19
      replace bx1 := keep_get bx1 P19
      replace bbw0 := keep_get bbw0 P19
      replace bbx0 := keep_get bbx0 P19
      replace bbx1 := keep_get bbx1 P19
      replace bbg0 := keep_get bbg0 P19
      try simp only [go_sem, Nat.reduceBEq, Nat.reduceAdd, Nat.reduceMul, Nat.reduceSub, Nat.reduceLeDiff, Nat.le_refl, implies_true, Nat.reduceLT, reduceIte, decide_true, decide_false, true_and, and_true, reduceCtorEq, Nat.mul_one, Int.reduceToNat, Int.reduceLE, Int.reduceLT, Int.reduceAdd, Int.reduceSub, Int.reduceMul, Int.cast_ofNat_Int, cast_zero_int, cast_one_int, Nat.reducePow, Nat.reduceEqDiff, Nat.reduceMod, Nat.zero_add, Nat.sub_zero, Nat.add_zero, bx0, bx1, bbw0, bbx0, bbx1, bbg0, self_get bx0, self_get bx1, self_get bbw0, self_get bbx0, self_get bbx1, self_get bbg0, own_base L19, own_base0 L19, own_base0 L2, hG6, n1, n2, P19, marks_len, bne_self_eq_false]
      refine ⟨by kernel_rfl, (c_toArchive _ fa la (s0.mono (by simp)) hm0).use (fun _ m => m) ?_⟩
      rintro u0 H20 ⟨su0, P20⟩
      have L20 : h.length ≤ H20.length := by have := P20.length_le; first | omega | (simp only [List.length_append, List.length_cons, List.length_nil] at this; omega)
      have Q20 : H19.length + 1 ≤ H20.length := by have := P20.length_le; first | omega | (simp only [List.length_append, List.length_cons, List.length_nil] at this; omega)
      replace s0 := s0.mono ((List.prefix_append _ _).trans P20)
      replace s1 := s1.mono ((List.prefix_append _ _).trans P20)
      replace sw0 := sw0.mono ((List.prefix_append _ _).trans P20)
      replace sm := sm.mono ((List.prefix_append _ _).trans P20)
      replace bx0 := keep_get bx0 ((List.prefix_append _ _).trans P20)
      replace bx1 := keep_get bx1 ((List.prefix_append _ _).trans P20)
      replace bbw0 := keep_get bbw0 ((List.prefix_append _ _).trans P20)
      replace bbx0 := keep_get bbx0 ((List.prefix_append _ _).trans P20)
      replace bbx1 := keep_get bbx1 ((List.prefix_append _ _).trans P20)
      replace bbg0 := keep_get bbg0 ((List.prefix_append _ _).trans P20)
      have bbe0 := keep_get (h := H19 ++ _) hget_new P20
      simp only [List.length_append, List.length_cons, List.length_nil] at su0
      obtain ⟨u0w, rfl, ⟨u0i, rfl, _⟩⟩ := id su0
      try simp only [go_sem, Nat.reduceBEq, Nat.reduceAdd, Nat.reduceMul, Nat.reduceSub, Nat.reduceLeDiff, Nat.le_refl, implies_true, Nat.reduceLT, reduceIte, decide_true, decide_false, true_and, and_true, reduceCtorEq, Nat.mul_one, Int.reduceToNat, Int.reduceLE, Int.reduceLT, Int.reduceAdd, Int.reduceSub, Int.reduceMul, Int.cast_ofNat_Int, cast_zero_int, cast_one_int, Nat.reducePow, Nat.reduceEqDiff, Nat.reduceMod, Nat.zero_add, Nat.sub_zero, Nat.add_zero, bx0, bx1, bbw0, bbx0, bbx1, bbg0, bbe0, self_get bx0, self_get bx1, self_get bbw0, self_get bbx0, self_get bbx1, self_get bbg0, self_get bbe0, own_base L20, own_base0 L20, own_base0 L19, hG6, n1, n2, P20]
      refine ⟨by kernel_rfl, (c_toArchive _ fb lb (s1.mono (by simp)) hm1).use (fun _ m => m) ?_⟩
      rintro u1 H21 ⟨su1, P21⟩
      have L21 : h.length ≤ H21.length := by have := P21.length_le; first | omega | (simp only [List.length_append, List.length_cons, List.length_nil] at this; omega)
      have Q21 : H20.length + 0 ≤ H21.length := by have := P21.length_le; first | omega | (simp only [List.length_append, List.length_cons, List.length_nil] at this; omega)
      replace s0 := s0.mono P21
      replace s1 := s1.mono P21
      replace sw0 := sw0.mono P21
      replace sm := sm.mono P21
      replace su0 := su0.mono P21
      replace bx0 := keep_get bx0 P21
      replace bx1 := keep_get bx1 P21
      replace bbw0 := keep_get bbw0 P21
      replace bbx0 := keep_get bbx0 P21
      replace bbx1 := keep_get bbx1 P21
      replace bbg0 := keep_get bbg0 P21
      replace bbe0 := keep_get bbe0 P21
      obtain ⟨u1w, rfl, ⟨u1i, rfl, _⟩⟩ := id su1
      try simp only [go_sem, Nat.reduceBEq, Nat.reduceAdd, Nat.reduceMul, Nat.reduceSub, Nat.reduceLeDiff, Nat.le_refl, implies_true, Nat.reduceLT, reduceIte, decide_true, decide_false, true_and, and_true, reduceCtorEq, Nat.mul_one, Int.reduceToNat, Int.reduceLE, Int.reduceLT, Int.reduceAdd, Int.reduceSub, Int.reduceMul, Int.cast_ofNat_Int, cast_zero_int, cast_one_int, Nat.reducePow, Nat.reduceEqDiff, Nat.reduceMod, Nat.zero_add, Nat.sub_zero, Nat.add_zero, bx0, bx1, bbw0, bbx0, bbx1, bbg0, bbe0, self_get bx0, self_get bx1, self_get bbw0, self_get bbx0, self_get bbx1, self_get bbg0, self_get bbe0, own_base L21, own_base0 L21, own_base0 L19, hG6, n1, n2, P21]
      refine ⟨by kernel_rfl, (c_JoinArchives _ _ fa la fb lb (su0.mono (by simp)).aa (su1.mono (by simp)).aa hm0 hm1).use (fun _ m => m) ?_⟩
      rintro _ H22 ⟨⟨e0, rfl, se0⟩, P22⟩
      have L22 : h.length ≤ H22.length := by have := P22.length_le; first | omega | (simp only [List.length_append, List.length_cons, List.length_nil] at this; omega)
      have Q22 : H21.length + 0 ≤ H22.length := by have := P22.length_le; first | omega | (simp only [List.length_append, List.length_cons, List.length_nil] at this; omega)
      replace s0 := s0.mono P22
      replace s1 := s1.mono P22
      replace sw0 := sw0.mono P22
      replace sm := sm.mono P22
      replace bx0 := keep_get bx0 P22
      replace bx1 := keep_get bx1 P22
      replace bbw0 := keep_get bbw0 P22
      replace bbx0 := keep_get bbx0 P22
      replace bbx1 := keep_get bbx1 P22
      replace bbg0 := keep_get bbg0 P22
      replace bbe0 := keep_get bbe0 P22
      rw [hyd0, hxd0] at se0
      obtain ⟨e0w, rfl, ⟨e0i, rfl, _⟩⟩ := id se0
      try simp only [go_sem, Nat.reduceBEq, Nat.reduceAdd, Nat.reduceMul, Nat.reduceSub, Nat.reduceLeDiff, Nat.le_refl, implies_true, Nat.reduceLT, reduceIte, decide_true, decide_false, true_and, and_true, reduceCtorEq, Nat.mul_one, Int.reduceToNat, Int.reduceLE, Int.reduceLT, Int.reduceAdd, Int.reduceSub, Int.reduceMul, Int.cast_ofNat_Int, cast_zero_int, cast_one_int, Nat.reducePow, Nat.reduceEqDiff, Nat.reduceMod, Nat.zero_add, Nat.sub_zero, Nat.add_zero, bx0, bx1, bbw0, bbx0, bbx1, bbg0, bbe0, self_get bx0, self_get bx1, self_get bbw0, self_get bbx0, self_get bbx1, self_get bbg0, self_get bbe0, own_base L22, own_base0 L22, own_base0 L19, hG6, n1, n2, P22]
      obtain ⟨H23, hG23⟩ : ∃ X, List.set H22 (List.length H19) ⟨[.int .i64 xx0, .slice e0i y0.length 0], 2, .rw⟩ = X := ⟨_, rfl⟩
      have ag23 : Agr (List.length H19) (List.length H19 + 1) H22 H23 := hG23 ▸ Agr.set (Nat.le_refl _) (Nat.lt_succ_self _)
      have Q23 : H22.length ≤ H23.length := ag23.1
      have L23 : h.length ≤ H23.length := by omega
      replace s0 := s0.agr ag23 (by omega)
      replace s1 := s1.agr ag23 (by omega)
      replace sw0 := sw0.agr ag23 (by omega)
      replace sm := sm.agr ag23 (by omega)
      replace se0 := se0.agr ag23 (by omega)
      replace bx0 := agr_get ag23 bx0 (by omega)
      replace bx1 := agr_get ag23 bx1 (by omega)
      replace bbw0 := agr_get ag23 bbw0 (by omega)
      replace bbx0 := agr_get ag23 bbx0 (by omega)
      replace bbx1 := agr_get ag23 bbx1 (by omega)
      replace bbg0 := agr_get ag23 bbg0 (by omega)
      replace bbe0 : hget H23 (List.length H19) = some ⟨[.int .i64 xx0, .slice e0i y0.length 0], 2, .rw⟩ := by rw [← hG23]; exact hget_set_same (hget_lt bbe0)
      try simp only [go_sem, Nat.reduceBEq, Nat.reduceAdd, Nat.reduceMul, Nat.reduceSub, Nat.reduceLeDiff, Nat.le_refl, implies_true, Nat.reduceLT, reduceIte, decide_true, decide_false, true_and, and_true, reduceCtorEq, Nat.mul_one, Int.reduceToNat, Int.reduceLE, Int.reduceLT, Int.reduceAdd, Int.reduceSub, Int.reduceMul, Int.cast_ofNat_Int, cast_zero_int, cast_one_int, Nat.reducePow, Nat.reduceEqDiff, Nat.reduceMod, Nat.zero_add, Nat.sub_zero, Nat.add_zero, bx0, bx1, bbw0, bbx0, bbx1, bbg0, bbe0, self_get bx0, self_get bx1, self_get bbw0, self_get bbx0, self_get bbx1, self_get bbg0, self_get bbe0, own_base L23, own_base0 L23, own_base0 L19, hG6, n1, n2, hG23]
      refine ⟨by kernel_rfl, (c_eqArchive _ _ _ _ _ _ (se0.mono (by simp)).aa (sw0.mono (by simp)).aa hy0 hy0).use (fun _ m => m) ?_⟩
      rintro _ H24 ⟨rfl, P24⟩
      have L24 : h.length ≤ H24.length := by have := P24.length_le; first | omega | (simp only [List.length_append, List.length_cons, List.length_nil] at this; omega)
      have Q24 : H23.length + 0 ≤ H24.length := by have := P24.length_le; first | omega | (simp only [List.length_append, List.length_cons, List.length_nil] at this; omega)
      replace s0 := s0.mono P24
      replace s1 := s1.mono P24
      replace sw0 := sw0.mono P24
      replace sm := sm.mono P24
      replace se0 := se0.mono P24
      replace bx0 := keep_get bx0 P24
      replace bx1 := keep_get bx1 P24
      replace bbw0 := keep_get bbw0 P24
      replace bbx0 := keep_get bbx0 P24
      replace bbx1 := keep_get bbx1 P24
      replace bbg0 := keep_get bbg0 P24
      replace bbe0 := keep_get bbe0 P24
      try simp only [go_sem, Nat.reduceBEq, Nat.reduceAdd, Nat.reduceMul, Nat.reduceSub, Nat.reduceLeDiff, Nat.le_refl, implies_true, Nat.reduceLT, reduceIte, decide_true, decide_false, true_and, and_true, reduceCtorEq, Nat.mul_one, Int.reduceToNat, Int.reduceLE, Int.reduceLT, Int.reduceAdd, Int.reduceSub, Int.reduceMul, Int.cast_ofNat_Int, cast_zero_int, cast_one_int, Nat.reducePow, Nat.reduceEqDiff, Nat.reduceMod, Nat.zero_add, Nat.sub_zero, Nat.add_zero, bx0, bx1, bbw0, bbx0, bbx1, bbg0, bbe0, self_get bx0, self_get bx1, self_get bbw0, self_get bbx0, self_get bbx1, self_get bbg0, self_get bbe0, own_base L24, own_base0 L24, own_base0 L19, hG6, n1, n2, hG23, P24, Try.underlying4, and_self, bne_self_eq_false, decide_true]
      refine ⟨by kernel_rfl, (c_heldArchive _ _ _ 1 (by omega) (sm.mono (by simp)).aa (by rw [marks_len]) (by rw [marks_len]; exact hy0)).use (fun _ m => m) ?_⟩
      rintro _ H25 ⟨rfl, P25⟩
      have L25 : h.length ≤ H25.length := by have := P25.length_le; first | omega | (simp only [List.length_append, List.length_cons, List.length_nil] at this; omega)
      have Q25 : H24.length + 0 ≤ H25.length := by have := P25.length_le; first | omega | (simp only [List.length_append, List.length_cons, List.length_nil] at this; omega)
      replace s0 := s0.mono P25
      replace s1 := s1.mono P25
      replace sw0 := sw0.mono P25
      replace sm := sm.mono P25
      replace se0 := se0.mono P25
      replace bx0 := keep_get bx0 P25
      replace bx1 := keep_get bx1 P25
      replace bbw0 := keep_get bbw0 P25
      replace bbx0 := keep_get bbx0 P25
      replace bbx1 := keep_get bbx1 P25
      replace bbg0 := keep_get bbg0 P25
      replace bbe0 := keep_get bbe0 P25
      try simp only [go_sem, Nat.reduceBEq, Nat.reduceAdd, Nat.reduceMul, Nat.reduceSub, Nat.reduceLeDiff, Nat.le_refl, implies_true, Nat.reduceLT, reduceIte, decide_true, decide_false, true_and, and_true, reduceCtorEq, Nat.mul_one, Int.reduceToNat, Int.reduceLE, Int.reduceLT, Int.reduceAdd, Int.reduceSub, Int.reduceMul, Int.cast_ofNat_Int, cast_zero_int, cast_one_int, Nat.reducePow, Nat.reduceEqDiff, Nat.reduceMod, Nat.zero_add, Nat.sub_zero, Nat.add_zero, bx0, bx1, bbw0, bbx0, bbx1, bbg0, bbe0, self_get bx0, self_get bx1, self_get bbw0, self_get bbx0, self_get bbx1, self_get bbg0, self_get bbe0, own_base L25, own_base0 L25, own_base0 L19, hG6, n1, n2, hG23, P25, marks_len, bne_self_eq_false]
end
theorem a_FnExactJoinArchives (h : Heap) (a : List Value) (ft : FitsAll h [.struct (.pair (.int .i64) (.pair (.slice (.int .i64)) .unit)), .struct (.pair (.int .i64) (.pair (.slice (.int .i64)) .unit))] a) : vCall [] Try.prog (fun _ => False) 3 a h (fun r _ => r = .bool true) := by
  obtain ⟨v0, vs0, rfl, f0, g0⟩ := ft.cons
  obtain ⟨v1, vs1, rfl, f1, g1⟩ := g0.cons
  obtain rfl := g1.nil
  obtain ⟨f_0, l_0, s0, hl0⟩ := Fits.arch f0
  obtain ⟨f_1, l_1, s1, hl1⟩ := Fits.arch f1
  exact l_JoinArchives v0 f_0 l_0 v1 f_1 l_1 s0 hl0 s1 hl1
end Go.Proofs.Ytjgekhahklidcaa
