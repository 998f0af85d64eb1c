
/- The law of the archives: they are recovered from their runs and from their steps, and cut parts are joined again. No condition. -/
import Derived.Test.YtjgekhahklidcaaDrawC
import Derived.Test.YtjgekhahklidcaaRLaw
namespace Go.Proofs.Ytjgekhahklidcaa
open Go.HH
set_option linter.unusedSimpArgs false
set_option linter.unusedVariables false

section
variable {h : Heap} {M : Nat → Prop}
theorem c_rTable {n m : Nat} (v w : Value) (L : List (List Int)) (s : AS n h v L) (s' : AS m h w L) (hmax : L.length ≤ 1048576) (hr : ∀ r ∈ L, r.length ≤ 1048576) : vCall [] Try.prog M 18 [v, w] h (fun r h' => r = .bool true ∧ h = h') := by
  obtain ⟨a, rfl, F⟩ := id s
  obtain ⟨b, rfl, F'⟩ := id s'
  refine body_of mo Try.func18 rfl (by kernel_rfl) (Nat.le_of_ble_eq_true (by kernel_rfl)) rfl ?_
  simp only [go_sem, Nat.reduceBEq, Nat.reduceAdd, Nat.reduceMul, Nat.reduceSub, Nat.reduceLeDiff, Nat.le_refl, implies_true, Nat.reduceLT, reduceIte, decide_true, decide_false, true_and, and_true, reduceCtorEq, Nat.mul_one, Int.reduceToNat, Int.reduceLE, Int.reduceLT, Int.reduceAdd, Int.reduceSub, Int.reduceMul, Int.cast_ofNat_Int, cast_zero_int, cast_one_int, Nat.reducePow, Nat.reduceEqDiff, Nat.reduceMod, Nat.zero_add, Nat.sub_zero, Nat.add_zero]
  refine vLoop.count mo L.length (fun i e h' => e 0 = .slice a L.length 0 ∧ e 1 = .slice b L.length 0 ∧ e 5 = .int .i64 i ∧ h = h') ?_ ?_
  · simp only [go_sem, Nat.reduceBEq, Nat.reduceAdd, Nat.reduceMul, Nat.reduceSub, Nat.reduceLeDiff, Nat.le_refl, implies_true, Nat.reduceLT, reduceIte, decide_true, decide_false, true_and, and_true, reduceCtorEq, Nat.mul_one, Int.reduceToNat, Int.reduceLE, Int.reduceLT, Int.reduceAdd, Int.reduceSub, Int.reduceMul, Int.cast_ofNat_Int, cast_zero_int, cast_one_int, Nat.reducePow, Nat.reduceEqDiff, Nat.reduceMod, Nat.zero_add, Nat.sub_zero, Nat.add_zero]
    try rfl
  · rintro i e _ hi ⟨e0, e1, e5, rfl⟩
    simp only [go_sem, Nat.reduceBEq, Nat.reduceAdd, Nat.reduceMul, Nat.reduceSub, Nat.reduceLeDiff, Nat.le_refl, implies_true, Nat.reduceLT, reduceIte, decide_true, decide_false, true_and, and_true, reduceCtorEq, Nat.mul_one, Int.reduceToNat, Int.reduceLE, Int.reduceLT, Int.reduceAdd, Int.reduceSub, Int.reduceMul, Int.cast_ofNat_Int, cast_zero_int, cast_one_int, Nat.reducePow, Nat.reduceEqDiff, Nat.reduceMod, Nat.zero_add, Nat.sub_zero, Nat.add_zero, e0, e1, e5]
    refine .intro (fun h1 => ?_) (fun h1 => ?_)
    · have hlt : i < L.length := by simpa using h1
      obtain ⟨id, off, k, rfl, q1, hk, hd, he, hat⟩ := F (by omega)
      obtain ⟨id2, off2, k2, rfl, q2, hk2, hd2, he2, hat2⟩ := F' (by omega)
      obtain ⟨x, hx, ax⟩ := hat i hlt
      obtain ⟨y, hy, ay⟩ := hat2 i hlt
      have hz : (i : Int) < L.length := by omega
      have k5 : IntKind.i64.wrap ((i : Int) + 1) = ((i + 1 : Nat) : Int) := by rw [wrap64 (by omega)]; rfl
      simp only [go_sem, Nat.reduceBEq, Nat.reduceAdd, Nat.reduceMul, Nat.reduceSub, Nat.reduceLeDiff, Nat.le_refl, implies_true, Nat.reduceLT, reduceIte, decide_true, decide_false, true_and, and_true, reduceCtorEq, Nat.mul_one, Int.reduceToNat, Int.reduceLE, Int.reduceLT, Int.reduceAdd, Int.reduceSub, Int.reduceMul, Int.cast_ofNat_Int, cast_zero_int, cast_one_int, Nat.reducePow, Nat.reduceEqDiff, Nat.reduceMod, Nat.zero_add, Nat.sub_zero, Nat.add_zero, e0, e1, e5, hk, hk2, hd, hd2, hz, hx, hy]
      refine ⟨by kernel_rfl, (c_rInts _ _ _ ax ay (hr _ (List.getElem_mem hlt))).use (fun _ m => m) ?_⟩
      rintro _ _ ⟨rfl, rfl⟩
      try simp only [go_sem, Nat.reduceBEq, Nat.reduceAdd, Nat.reduceMul, Nat.reduceSub, Nat.reduceLeDiff, Nat.le_refl, implies_true, Nat.reduceLT, reduceIte, decide_true, decide_false, true_and, and_true, reduceCtorEq, Nat.mul_one, Int.reduceToNat, Int.reduceLE, Int.reduceLT, Int.reduceAdd, Int.reduceSub, Int.reduceMul, Int.cast_ofNat_Int, cast_zero_int, cast_one_int, Nat.reducePow, Nat.reduceEqDiff, Nat.reduceMod, Nat.zero_add, Nat.sub_zero, Nat.add_zero, e0, e1, e5, k5]
      exact hlt
    · simp only [go_sem, Nat.reduceBEq, Nat.reduceAdd, Nat.reduceMul, Nat.reduceSub, Nat.reduceLeDiff, Nat.le_refl, implies_true, Nat.reduceLT, reduceIte, decide_true, decide_false, true_and, and_true, reduceCtorEq, Nat.mul_one, Int.reduceToNat, Int.reduceLE, Int.reduceLT, Int.reduceAdd, Int.reduceSub, Int.reduceMul, Int.cast_ofNat_Int, cast_zero_int, cast_one_int, Nat.reducePow, Nat.reduceEqDiff, Nat.reduceMod, Nat.zero_add, Nat.sub_zero, Nat.add_zero, e0, e1, e5]
set_option maxRecDepth 16000 in
set_option maxHeartbeats 8000000 in
theorem l_FnArchives (b : Option Addr) (n : Nat) (hc : CodeOk h b n) : vCall [] Try.prog M 4 [.slice b n 0] h (fun r h' => r = .bool true) := by
  refine body_of mo Try.func4 rfl (by kernel_rfl) (Nat.le_of_ble_eq_true (by kernel_rfl)) rfl ?_
  simp only [go_sem, Nat.reduceBEq, Nat.reduceAdd, Nat.reduceMul, Nat.reduceSub, Nat.reduceLeDiff, Nat.le_refl, implies_true, Nat.reduceLT, reduceIte, decide_true, decide_false, true_and, and_true, reduceCtorEq, Nat.mul_one, Int.reduceToNat, Int.reduceLE, Int.reduceLT, Int.reduceAdd, Int.reduceSub, Int.reduceMul, Int.cast_ofNat_Int, cast_zero_int, cast_one_int, Nat.reducePow, Nat.reduceEqDiff, Nat.reduceMod, Nat.zero_add, Nat.sub_zero, Nat.add_zero]
  refine ⟨by kernel_rfl, (c_rBig b n).use (fun _ m => m) ?_⟩
  rintro _ _ ⟨rfl, rfl⟩
  by_cases hbig : (65536 : Int) < n
  · try simp only [go_sem, Nat.reduceBEq, Nat.reduceAdd, Nat.reduceMul, Nat.reduceSub, Nat.reduceLeDiff, Nat.le_refl, implies_true, Nat.reduceLT, reduceIte, decide_true, decide_false, true_and, and_true, reduceCtorEq, Nat.mul_one, Int.reduceToNat, Int.reduceLE, Int.reduceLT, Int.reduceAdd, Int.reduceSub, Int.reduceMul, Int.cast_ofNat_Int, cast_zero_int, cast_one_int, Nat.reducePow, Nat.reduceEqDiff, Nat.reduceMod, Nat.zero_add, Nat.sub_zero, Nat.add_zero, hbig]
  · try simp only [go_sem, Nat.reduceBEq, Nat.reduceAdd, Nat.reduceMul, Nat.reduceSub, Nat.reduceLeDiff, Nat.le_refl, implies_true, Nat.reduceLT, reduceIte, decide_true, decide_false, true_and, and_true, reduceCtorEq, Nat.mul_one, Int.reduceToNat, Int.reduceLE, Int.reduceLT, Int.reduceAdd, Int.reduceSub, Int.reduceMul, Int.cast_ofNat_Int, cast_zero_int, cast_one_int, Nat.reducePow, Nat.reduceEqDiff, Nat.reduceMod, Nat.zero_add, Nat.sub_zero, Nat.add_zero, hbig]
    refine ⟨by kernel_rfl, (c_DrawPackArchive b n hc).use (fun _ m => m) ?_⟩
    rintro _ H1 ⟨⟨f, l, sA, hl⟩, P1⟩
    have L1 : h.length ≤ H1.length := by have := P1.length_le; first | omega | (simp only [List.length_append, List.length_cons, List.length_nil] at this; omega)
    have Q1 : h.length + 0 ≤ H1.length := by have := P1.length_le; first | omega | (simp only [List.length_append, List.length_cons, List.length_nil] at this; omega)
    replace hc := hc.mono P1
    obtain ⟨wAw, rfl, ⟨wAi, rfl, _⟩⟩ := id sA
    try simp only [go_sem, Nat.reduceBEq, Nat.reduceAdd, Nat.reduceMul, Nat.reduceSub, Nat.reduceLeDiff, Nat.le_refl, implies_true, Nat.reduceLT, reduceIte, decide_true, decide_false, true_and, and_true, reduceCtorEq, Nat.mul_one, Int.reduceToNat, Int.reduceLE, Int.reduceLT, Int.reduceAdd, Int.reduceSub, Int.reduceMul, Int.cast_ofNat_Int, cast_zero_int, cast_one_int, Nat.reducePow, Nat.reduceEqDiff, Nat.reduceMod, Nat.zero_add, Nat.sub_zero, Nat.add_zero, own_base L1, own_base0 L1, P1]
    have hm : l.length ≤ 1048576 := by omega
    have hrs : (packed f l).length ≤ 30 := packed_len
    refine ⟨by kernel_rfl, (c_PackArchive _ f l (sA.mono (by simp)).aa hm).use (fun _ m => m) ?_⟩
    rintro _ H2 ⟨⟨vR, rfl, sR⟩, P2⟩
    have L2 : h.length ≤ H2.length := by have := P2.length_le; first | omega | (simp only [List.length_append, List.length_cons, List.length_nil] at this; omega)
    have Q2 : H1.length + 1 ≤ H2.length := by have := P2.length_le; first | omega | (simp only [List.length_append, List.length_cons, List.length_nil] at this; omega)
    replace hc := hc.mono ((List.prefix_append _ _).trans P2)
    replace sA := sA.mono ((List.prefix_append _ _).trans P2)
    have bA := keep_get (h := H1 ++ _) hget_new P2
    obtain ⟨vRi, rfl, _⟩ := id sR
    try simp only [go_sem, Nat.reduceBEq, Nat.reduceAdd, Nat.reduceMul, Nat.reduceSub, Nat.reduceLeDiff, Nat.le_refl, implies_true, Nat.reduceLT, reduceIte, decide_true, decide_false, true_and, and_true, reduceCtorEq, Nat.mul_one, Int.reduceToNat, Int.reduceLE, Int.reduceLT, Int.reduceAdd, Int.reduceSub, Int.reduceMul, Int.cast_ofNat_Int, cast_zero_int, cast_one_int, Nat.reducePow, Nat.reduceEqDiff, Nat.reduceMod, Nat.zero_add, Nat.sub_zero, Nat.add_zero, bA, self_get bA, own_base L2, own_base0 L2, P2]
    refine ⟨by kernel_rfl, (c_sPackArchive _ f l (sA.mono (by simp)).aa hm).use (fun _ m => m) ?_⟩
    rintro _ H3 ⟨⟨vQ, rfl, sQ⟩, P3⟩
    have L3 : h.length ≤ H3.length := by have := P3.length_le; first | omega | (simp only [List.length_append, List.length_cons, List.length_nil] at this; omega)
    have Q3 : H2.length + 0 ≤ H3.length := by have := P3.length_le; first | omega | (simp only [List.length_append, List.length_cons, List.length_nil] at this; omega)
    replace hc := hc.mono P3
    replace sA := sA.mono P3
    replace sR := sR.mono P3
    replace bA := keep_get bA P3
    obtain ⟨vQi, rfl, _⟩ := id sQ
    try simp only [go_sem, Nat.reduceBEq, Nat.reduceAdd, Nat.reduceMul, Nat.reduceSub, Nat.reduceLeDiff, Nat.le_refl, implies_true, Nat.reduceLT, reduceIte, decide_true, decide_false, true_and, and_true, reduceCtorEq, Nat.mul_one, Int.reduceToNat, Int.reduceLE, Int.reduceLT, Int.reduceAdd, Int.reduceSub, Int.reduceMul, Int.cast_ofNat_Int, cast_zero_int, cast_one_int, Nat.reducePow, Nat.reduceEqDiff, Nat.reduceMod, Nat.zero_add, Nat.sub_zero, Nat.add_zero, bA, self_get bA, own_base L3, own_base0 L3, P3]
    refine ⟨by kernel_rfl, (c_rTable _ _ _ (sR.mono (by simp)).as (sQ.mono (by simp)).as (by rw [rowsL_len]; omega) (fun r hr => by obtain ⟨y, _, rfl⟩ := List.mem_map.1 hr; simp)).use (fun _ m => m) ?_⟩
    rintro _ _ ⟨rfl, rfl⟩
    try simp only [go_sem, Nat.reduceBEq, Nat.reduceAdd, Nat.reduceMul, Nat.reduceSub, Nat.reduceLeDiff, Nat.le_refl, implies_true, Nat.reduceLT, reduceIte, decide_true, decide_false, true_and, and_true, reduceCtorEq, Nat.mul_one, Int.reduceToNat, Int.reduceLE, Int.reduceLT, Int.reduceAdd, Int.reduceSub, Int.reduceMul, Int.cast_ofNat_Int, cast_zero_int, cast_one_int, Nat.reducePow, Nat.reduceEqDiff, Nat.reduceMod, Nat.zero_add, Nat.sub_zero, Nat.add_zero, bA, self_get bA, own_base L3, own_base0 L3, Try.underlying4, and_self, bne_self_eq_false, decide_true]
    refine ⟨by kernel_rfl, (c_IsValidArchive _ f l (sA.mono (by simp)).aa hm).use (fun _ m => m) ?_⟩
    rintro _ H4 ⟨rfl, P4⟩
    have L4 : h.length ≤ H4.length := by have := P4.length_le; first | omega | (simp only [List.length_append, List.length_cons, List.length_nil] at this; omega)
    have Q4 : H3.length + 0 ≤ H4.length := by have := P4.length_le; first | omega | (simp only [List.length_append, List.length_cons, List.length_nil] at this; omega)
    replace hc := hc.mono P4
    replace sA := sA.mono P4
    replace sR := sR.mono P4
    replace sQ := sQ.mono P4
    replace bA := keep_get bA P4
    try simp only [go_sem, Nat.reduceBEq, Nat.reduceAdd, Nat.reduceMul, Nat.reduceSub, Nat.reduceLeDiff, Nat.le_refl, implies_true, Nat.reduceLT, reduceIte, decide_true, decide_false, true_and, and_true, reduceCtorEq, Nat.mul_one, Int.reduceToNat, Int.reduceLE, Int.reduceLT, Int.reduceAdd, Int.reduceSub, Int.reduceMul, Int.cast_ofNat_Int, cast_zero_int, cast_one_int, Nat.reducePow, Nat.reduceEqDiff, Nat.reduceMod, Nat.zero_add, Nat.sub_zero, Nat.add_zero, bA, self_get bA, own_base L4, own_base0 L4, P4, Try.underlying4, and_self, bne_self_eq_false, decide_true]
    have hSm : (stepsOf f l).length ≤ 1048576 := stepsOf_len f hm
    refine ⟨by kernel_rfl, (c_StepsOf _ f l (sA.mono (by simp)).aa hm).use (fun _ m => m) ?_⟩
    rintro _ H5 ⟨⟨vS, rfl, sS⟩, P5⟩
    have L5 : h.length ≤ H5.length := by have := P5.length_le; first | omega | (simp only [List.length_append, List.length_cons, List.length_nil] at this; omega)
    have Q5 : H4.length + 0 ≤ H5.length := by have := P5.length_le; first | omega | (simp only [List.length_append, List.length_cons, List.length_nil] at this; omega)
    replace hc := hc.mono P5
    replace sA := sA.mono P5
    replace sR := sR.mono P5
    replace sQ := sQ.mono P5
    replace bA := keep_get bA P5
    obtain ⟨vSi, rfl, _⟩ := id sS
    try simp only [go_sem, Nat.reduceBEq, Nat.reduceAdd, Nat.reduceMul, Nat.reduceSub, Nat.reduceLeDiff, Nat.le_refl, implies_true, Nat.reduceLT, reduceIte, decide_true, decide_false, true_and, and_true, reduceCtorEq, Nat.mul_one, Int.reduceToNat, Int.reduceLE, Int.reduceLT, Int.reduceAdd, Int.reduceSub, Int.reduceMul, Int.cast_ofNat_Int, cast_zero_int, cast_one_int, Nat.reducePow, Nat.reduceEqDiff, Nat.reduceMod, Nat.zero_add, Nat.sub_zero, Nat.add_zero, bA, self_get bA, own_base L5, own_base0 L5, P5]
    refine ⟨by kernel_rfl, (c_sStepsOf _ f l (sA.mono (by simp)).aa hm).use (fun _ m => m) ?_⟩
    rintro _ H6 ⟨⟨vT, rfl, sT⟩, P6⟩
    have L6 : h.length ≤ H6.length := by have := P6.length_le; first | omega | (simp only [List.length_append, List.length_cons, List.length_nil] at this; omega)
    have Q6 : H5.length + 0 ≤ H6.length := by have := P6.length_le; first | omega | (simp only [List.length_append, List.length_cons, List.length_nil] at this; omega)
    replace hc := hc.mono P6
    replace sA := sA.mono P6
    replace sR := sR.mono P6
    replace sQ := sQ.mono P6
    replace sS := sS.mono P6
    replace bA := keep_get bA P6
    obtain ⟨vTi, rfl, _⟩ := id sT
    try simp only [go_sem, Nat.reduceBEq, Nat.reduceAdd, Nat.reduceMul, Nat.reduceSub, Nat.reduceLeDiff, Nat.le_refl, implies_true, Nat.reduceLT, reduceIte, decide_true, decide_false, true_and, and_true, reduceCtorEq, Nat.mul_one, Int.reduceToNat, Int.reduceLE, Int.reduceLT, Int.reduceAdd, Int.reduceSub, Int.reduceMul, Int.cast_ofNat_Int, cast_zero_int, cast_one_int, Nat.reducePow, Nat.reduceEqDiff, Nat.reduceMod, Nat.zero_add, Nat.sub_zero, Nat.add_zero, bA, self_get bA, own_base L6, own_base0 L6, P6]
    refine ⟨by kernel_rfl, (c_rInts _ _ _ (sS.mono (by simp)).ai (sT.mono (by simp)).ai hSm).use (fun _ m => m) ?_⟩
    rintro _ _ ⟨rfl, rfl⟩
    try simp only [go_sem, Nat.reduceBEq, Nat.reduceAdd, Nat.reduceMul, Nat.reduceSub, Nat.reduceLeDiff, Nat.le_refl, implies_true, Nat.reduceLT, reduceIte, decide_true, decide_false, true_and, and_true, reduceCtorEq, Nat.mul_one, Int.reduceToNat, Int.reduceLE, Int.reduceLT, Int.reduceAdd, Int.reduceSub, Int.reduceMul, Int.cast_ofNat_Int, cast_zero_int, cast_one_int, Nat.reducePow, Nat.reduceEqDiff, Nat.reduceMod, Nat.zero_add, Nat.sub_zero, Nat.add_zero, bA, self_get bA, own_base L6, own_base0 L6, Try.underlying4, and_self, bne_self_eq_false, decide_true]
    by_cases hg : arGood f l
    · skip
      have hp : packed f l = runs l l.length := by rw [packed, if_pos hg]
      have ht : stepsOf f l = steps l l.length := by rw [stepsOf, if_pos hg]
      rw [hp] at sR hrs
      rw [ht] at sS hSm
      obtain ⟨u1, u2⟩ := unp_back hg
      obtain ⟨v1, v2⟩ := from_back hg
      try simp only [go_sem, Nat.reduceBEq, Nat.reduceAdd, Nat.reduceMul, Nat.reduceSub, Nat.reduceLeDiff, Nat.le_refl, implies_true, Nat.reduceLT, reduceIte, decide_true, decide_false, true_and, and_true, reduceCtorEq, Nat.mul_one, Int.reduceToNat, Int.reduceLE, Int.reduceLT, Int.reduceAdd, Int.reduceSub, Int.reduceMul, Int.cast_ofNat_Int, cast_zero_int, cast_one_int, Nat.reducePow, Nat.reduceEqDiff, Nat.reduceMod, Nat.zero_add, Nat.sub_zero, Nat.add_zero, bA, self_get bA, own_base L6, own_base0 L6, decb hg]
      rw [hp]
      refine ⟨by kernel_rfl, (c_UnpackArchive f _ (rowsL (runs l l.length)) (sR.mono (by simp)).as (by rw [rowsL_len, rowsL_tot _ (Nat.le_refl _)]; omega)).use (fun _ m => m) ?_⟩
      rintro _ H7 ⟨⟨wB, rfl, sB⟩, P7⟩
      have L7 : h.length ≤ H7.length := by have := P7.length_le; first | omega | (simp only [List.length_append, List.length_cons, List.length_nil] at this; omega)
      have Q7 : H6.length + 0 ≤ H7.length := by have := P7.length_le; first | omega | (simp only [List.length_append, List.length_cons, List.length_nil] at this; omega)
      replace hc := hc.mono P7
      replace sA := sA.mono P7
      replace sR := sR.mono P7
      replace sQ := sQ.mono P7
      replace sS := sS.mono P7
      replace sT := sT.mono P7
      replace bA := keep_get bA P7
      rw [if_pos u1, if_pos u1, u2] at sB
      obtain ⟨wBw, rfl, ⟨wBi, rfl, _⟩⟩ := id sB
      try simp only [go_sem, Nat.reduceBEq, Nat.reduceAdd, Nat.reduceMul, Nat.reduceSub, Nat.reduceLeDiff, Nat.le_refl, implies_true, Nat.reduceLT, reduceIte, decide_true, decide_false, true_and, and_true, reduceCtorEq, Nat.mul_one, Int.reduceToNat, Int.reduceLE, Int.reduceLT, Int.reduceAdd, Int.reduceSub, Int.reduceMul, Int.cast_ofNat_Int, cast_zero_int, cast_one_int, Nat.reducePow, Nat.reduceEqDiff, Nat.reduceMod, Nat.zero_add, Nat.sub_zero, Nat.add_zero, bA, self_get bA, own_base L7, own_base0 L7, hp, ht, decb u1, P7]
      refine ⟨by kernel_rfl, (c_FromSteps f _ (steps l l.length) (sS.mono (by simp)).ai (by rw [steps_len]; omega)).use (fun _ m => m) ?_⟩
      rintro _ H8 ⟨⟨wC, rfl, sC⟩, P8⟩
      have L8 : h.length ≤ H8.length := by have := P8.length_le; first | omega | (simp only [List.length_append, List.length_cons, List.length_nil] at this; omega)
      have Q8 : H7.length + 1 ≤ H8.length := by have := P8.length_le; first | omega | (simp only [List.length_append, List.length_cons, List.length_nil] at this; omega)
      replace hc := hc.mono ((List.prefix_append _ _).trans P8)
      replace sA := sA.mono ((List.prefix_append _ _).trans P8)
      replace sR := sR.mono ((List.prefix_append _ _).trans P8)
      replace sQ := sQ.mono ((List.prefix_append _ _).trans P8)
      replace sS := sS.mono ((List.prefix_append _ _).trans P8)
      replace sT := sT.mono ((List.prefix_append _ _).trans P8)
      replace sB := sB.mono ((List.prefix_append _ _).trans P8)
      replace bA := keep_get bA ((List.prefix_append _ _).trans P8)
      have bB := keep_get (h := H7 ++ _) hget_new P8
      rw [if_pos v1, if_pos v1, v2] at sC
      obtain ⟨wCw, rfl, ⟨wCi, rfl, _⟩⟩ := id sC
      try simp only [go_sem, Nat.reduceBEq, Nat.reduceAdd, Nat.reduceMul, Nat.reduceSub, Nat.reduceLeDiff, Nat.le_refl, implies_true, Nat.reduceLT, reduceIte, decide_true, decide_false, true_and, and_true, reduceCtorEq, Nat.mul_one, Int.reduceToNat, Int.reduceLE, Int.reduceLT, Int.reduceAdd, Int.reduceSub, Int.reduceMul, Int.cast_ofNat_Int, cast_zero_int, cast_one_int, Nat.reducePow, Nat.reduceEqDiff, Nat.reduceMod, Nat.zero_add, Nat.sub_zero, Nat.add_zero, bA, bB, self_get bA, self_get bB, own_base L8, own_base0 L8, hp, ht, decb u1, decb v1, P8]
      refine ⟨by kernel_rfl, (c_rArchives _ _ f l (sB.mono (by simp)).aa (sA.mono (by simp)).aa hm).use (fun _ m => m) ?_⟩
      rintro _ H9 ⟨rfl, P9⟩
      have L9 : h.length ≤ H9.length := by have := P9.length_le; first | omega | (simp only [List.length_append, List.length_cons, List.length_nil] at this; omega)
      have Q9 : H8.length + 1 ≤ H9.length := by have := P9.length_le; first | omega | (simp only [List.length_append, List.length_cons, List.length_nil] at this; omega)
      replace hc := hc.mono ((List.prefix_append _ _).trans P9)
      replace sA := sA.mono ((List.prefix_append _ _).trans P9)
      replace sR := sR.mono ((List.prefix_append _ _).trans P9)
      replace sQ := sQ.mono ((List.prefix_append _ _).trans P9)
      replace sS := sS.mono ((List.prefix_append _ _).trans P9)
      replace sT := sT.mono ((List.prefix_append _ _).trans P9)
      replace sB := sB.mono ((List.prefix_append _ _).trans P9)
      replace sC := sC.mono ((List.prefix_append _ _).trans P9)
      replace bA := keep_get bA ((List.prefix_append _ _).trans P9)
      replace bB := keep_get bB ((List.prefix_append _ _).trans P9)
      have bC := keep_get (h := H8 ++ _) hget_new P9
      try simp only [go_sem, Nat.reduceBEq, Nat.reduceAdd, Nat.reduceMul, Nat.reduceSub, Nat.reduceLeDiff, Nat.le_refl, implies_true, Nat.reduceLT, reduceIte, decide_true, decide_false, true_and, and_true, reduceCtorEq, Nat.mul_one, Int.reduceToNat, Int.reduceLE, Int.reduceLT, Int.reduceAdd, Int.reduceSub, Int.reduceMul, Int.cast_ofNat_Int, cast_zero_int, cast_one_int, Nat.reducePow, Nat.reduceEqDiff, Nat.reduceMod, Nat.zero_add, Nat.sub_zero, Nat.add_zero, bA, bB, bC, self_get bA, self_get bB, self_get bC, own_base L9, own_base0 L9, hp, ht, decb u1, decb v1, P9, Try.underlying4, and_self, bne_self_eq_false, decide_true]
      refine ⟨by kernel_rfl, (c_rArchives _ _ f l (sC.mono (by simp)).aa (sA.mono (by simp)).aa hm).use (fun _ m => m) ?_⟩
      rintro _ H10 ⟨rfl, P10⟩
      have L10 : h.length ≤ H10.length := by have := P10.length_le; first | omega | (simp only [List.length_append, List.length_cons, List.length_nil] at this; omega)
      have Q10 : H9.length + 0 ≤ H10.length := by have := P10.length_le; first | omega | (simp only [List.length_append, List.length_cons, List.length_nil] at this; omega)
      replace hc := hc.mono P10
      replace sA := sA.mono P10
      replace sR := sR.mono P10
      replace sQ := sQ.mono P10
      replace sS := sS.mono P10
      replace sT := sT.mono P10
      replace sB := sB.mono P10
      replace sC := sC.mono P10
      replace bA := keep_get bA P10
      replace bB := keep_get bB P10
      replace bC := keep_get bC P10
      try simp only [go_sem, Nat.reduceBEq, Nat.reduceAdd, Nat.reduceMul, Nat.reduceSub, Nat.reduceLeDiff, Nat.le_refl, implies_true, Nat.reduceLT, reduceIte, decide_true, decide_false, true_and, and_true, reduceCtorEq, Nat.mul_one, Int.reduceToNat, Int.reduceLE, Int.reduceLT, Int.reduceAdd, Int.reduceSub, Int.reduceMul, Int.cast_ofNat_Int, cast_zero_int, cast_one_int, Nat.reducePow, Nat.reduceEqDiff, Nat.reduceMod, Nat.zero_add, Nat.sub_zero, Nat.add_zero, bA, bB, bC, self_get bA, self_get bB, self_get bC, own_base L10, own_base0 L10, hp, ht, decb u1, decb v1, P10, Try.underlying4, and_self, bne_self_eq_false, decide_true]
      by_cases h1 : (1 : Int) < l.length
      · skip
        obtain ⟨p1, p2, p3, p4, p5, p6, p7⟩ := parts_back hg (by omega) rfl
        have w1 : IntKind.i64.wrap ((l.length : Int).tdiv 2) = ((l.length / 2 : Nat) : Int) := by rw [Int.tdiv_eq_ediv_of_nonneg (by omega), wrap64 (by omega)]; omega
        have w2 : IntKind.i64.wrap (f + ((l.length / 2 : Nat) : Int)) = f + ((l.length / 2 : Nat) : Int) := wrap64 (by have := hg.2.2; omega)
        have w3 : IntKind.i64.wrap (f + ((l.length / 2 : Nat) : Int) - 1) = f + ((l.length / 2 : Nat) : Int) - 1 := wrap64 (by have := hg.2.2; omega)
        try simp only [go_sem, Nat.reduceBEq, Nat.reduceAdd, Nat.reduceMul, Nat.reduceSub, Nat.reduceLeDiff, Nat.le_refl, implies_true, Nat.reduceLT, reduceIte, decide_true, decide_false, true_and, and_true, reduceCtorEq, Nat.mul_one, Int.reduceToNat, Int.reduceLE, Int.reduceLT, Int.reduceAdd, Int.reduceSub, Int.reduceMul, Int.cast_ofNat_Int, cast_zero_int, cast_one_int, Nat.reducePow, Nat.reduceEqDiff, Nat.reduceMod, Nat.zero_add, Nat.sub_zero, Nat.add_zero, bA, bB, bC, self_get bA, self_get bB, self_get bC, own_base L10, own_base0 L10, hp, ht, decb u1, decb v1, w1, w2, w3, decb p1, decb p2, decb p7, hBin_quo (show (2 : Int) ≠ 0 by omega), h1]
        refine ⟨by kernel_rfl, (c_CutArchive _ f l 0 (f + ((l.length / 2 : Nat) : Int) - 1) (sA.mono (by simp)).aa hm).use (fun _ m => m) ?_⟩
        rintro _ H11 ⟨⟨wL, rfl, sL⟩, P11⟩
        have L11 : h.length ≤ H11.length := by have := P11.length_le; first | omega | (simp only [List.length_append, List.length_cons, List.length_nil] at this; omega)
        have Q11 : H10.length + 0 ≤ H11.length := by have := P11.length_le; first | omega | (simp only [List.length_append, List.length_cons, List.length_nil] at this; omega)
        replace hc := hc.mono P11
        replace sA := sA.mono P11
        replace sR := sR.mono P11
        replace sQ := sQ.mono P11
        replace sS := sS.mono P11
        replace sT := sT.mono P11
        replace sB := sB.mono P11
        replace sC := sC.mono P11
        replace bA := keep_get bA P11
        replace bB := keep_get bB P11
        replace bC := keep_get bC P11
        rw [if_pos p1, if_pos p1, p3, p5] at sL
        obtain ⟨wLw, rfl, ⟨wLi, rfl, _⟩⟩ := id sL
        try simp only [go_sem, Nat.reduceBEq, Nat.reduceAdd, Nat.reduceMul, Nat.reduceSub, Nat.reduceLeDiff, Nat.le_refl, implies_true, Nat.reduceLT, reduceIte, decide_true, decide_false, true_and, and_true, reduceCtorEq, Nat.mul_one, Int.reduceToNat, Int.reduceLE, Int.reduceLT, Int.reduceAdd, Int.reduceSub, Int.reduceMul, Int.cast_ofNat_Int, cast_zero_int, cast_one_int, Nat.reducePow, Nat.reduceEqDiff, Nat.reduceMod, Nat.zero_add, Nat.sub_zero, Nat.add_zero, bA, bB, bC, self_get bA, self_get bB, self_get bC, own_base L11, own_base0 L11, hp, ht, decb u1, decb v1, w1, w2, w3, decb p1, decb p2, decb p7, hBin_quo (show (2 : Int) ≠ 0 by omega), P11]
        refine ⟨by kernel_rfl, (c_CutArchive _ f l (f + ((l.length / 2 : Nat) : Int)) 3650 (sA.mono (by simp)).aa hm).use (fun _ m => m) ?_⟩
        rintro _ H12 ⟨⟨wM, rfl, sM⟩, P12⟩
        have L12 : h.length ≤ H12.length := by have := P12.length_le; first | omega | (simp only [List.length_append, List.length_cons, List.length_nil] at this; omega)
        have Q12 : H11.length + 1 ≤ H12.length := by have := P12.length_le; first | omega | (simp only [List.length_append, List.length_cons, List.length_nil] at this; omega)
        replace hc := hc.mono ((List.prefix_append _ _).trans P12)
        replace sA := sA.mono ((List.prefix_append _ _).trans P12)
        replace sR := sR.mono ((List.prefix_append _ _).trans P12)
        replace sQ := sQ.mono ((List.prefix_append _ _).trans P12)
        replace sS := sS.mono ((List.prefix_append _ _).trans P12)
        replace sT := sT.mono ((List.prefix_append _ _).trans P12)
        replace sB := sB.mono ((List.prefix_append _ _).trans P12)
        replace sC := sC.mono ((List.prefix_append _ _).trans P12)
        replace sL := sL.mono ((List.prefix_append _ _).trans P12)
        replace bA := keep_get bA ((List.prefix_append _ _).trans P12)
        replace bB := keep_get bB ((List.prefix_append _ _).trans P12)
        replace bC := keep_get bC ((List.prefix_append _ _).trans P12)
        have bL := keep_get (h := H11 ++ _) hget_new P12
        rw [if_pos p2, if_pos p2, p4, p6] at sM
        obtain ⟨wMw, rfl, ⟨wMi, rfl, _⟩⟩ := id sM
        try simp only [go_sem, Nat.reduceBEq, Nat.reduceAdd, Nat.reduceMul, Nat.reduceSub, Nat.reduceLeDiff, Nat.le_refl, implies_true, Nat.reduceLT, reduceIte, decide_true, decide_false, true_and, and_true, reduceCtorEq, Nat.mul_one, Int.reduceToNat, Int.reduceLE, Int.reduceLT, Int.reduceAdd, Int.reduceSub, Int.reduceMul, Int.cast_ofNat_Int, cast_zero_int, cast_one_int, Nat.reducePow, Nat.reduceEqDiff, Nat.reduceMod, Nat.zero_add, Nat.sub_zero, Nat.add_zero, bA, bB, bC, bL, self_get bA, self_get bB, self_get bC, self_get bL, own_base L12, own_base0 L12, hp, ht, decb u1, decb v1, w1, w2, w3, decb p1, decb p2, decb p7, hBin_quo (show (2 : Int) ≠ 0 by omega), P12]
        refine ⟨by kernel_rfl, (c_JoinArchives _ _ _ _ _ _ (sL.mono (by simp)).aa (sM.mono (by simp)).aa (by simp; omega) (by simp; omega)).use (fun _ m => m) ?_⟩
        rintro _ H13 ⟨⟨wN, rfl, sN⟩, P13⟩
        have L13 : h.length ≤ H13.length := by have := P13.length_le; first | omega | (simp only [List.length_append, List.length_cons, List.length_nil] at this; omega)
        have Q13 : H12.length + 1 ≤ H13.length := by have := P13.length_le; first | omega | (simp only [List.length_append, List.length_cons, List.length_nil] at this; omega)
        replace hc := hc.mono ((List.prefix_append _ _).trans P13)
        replace sA := sA.mono ((List.prefix_append _ _).trans P13)
        replace sR := sR.mono ((List.prefix_append _ _).trans P13)
        replace sQ := sQ.mono ((List.prefix_append _ _).trans P13)
        replace sS := sS.mono ((List.prefix_append _ _).trans P13)
        replace sT := sT.mono ((List.prefix_append _ _).trans P13)
        replace sB := sB.mono ((List.prefix_append _ _).trans P13)
        replace sC := sC.mono ((List.prefix_append _ _).trans P13)
        replace sL := sL.mono ((List.prefix_append _ _).trans P13)
        replace sM := sM.mono ((List.prefix_append _ _).trans P13)
        replace bA := keep_get bA ((List.prefix_append _ _).trans P13)
        replace bB := keep_get bB ((List.prefix_append _ _).trans P13)
        replace bC := keep_get bC ((List.prefix_append _ _).trans P13)
        replace bL := keep_get bL ((List.prefix_append _ _).trans P13)
        have bM := keep_get (h := H12 ++ _) hget_new P13
        rw [joinF, if_pos p7, joinL, if_pos p7, List.take_append_drop] at sN
        obtain ⟨wNw, rfl, ⟨wNi, rfl, _⟩⟩ := id sN
        try simp only [go_sem, Nat.reduceBEq, Nat.reduceAdd, Nat.reduceMul, Nat.reduceSub, Nat.reduceLeDiff, Nat.le_refl, implies_true, Nat.reduceLT, reduceIte, decide_true, decide_false, true_and, and_true, reduceCtorEq, Nat.mul_one, Int.reduceToNat, Int.reduceLE, Int.reduceLT, Int.reduceAdd, Int.reduceSub, Int.reduceMul, Int.cast_ofNat_Int, cast_zero_int, cast_one_int, Nat.reducePow, Nat.reduceEqDiff, Nat.reduceMod, Nat.zero_add, Nat.sub_zero, Nat.add_zero, bA, bB, bC, bL, bM, self_get bA, self_get bB, self_get bC, self_get bL, self_get bM, own_base L13, own_base0 L13, hp, ht, decb u1, decb v1, w1, w2, w3, decb p1, decb p2, decb p7, hBin_quo (show (2 : Int) ≠ 0 by omega), P13]
        refine ⟨by kernel_rfl, (c_rArchives _ _ f l (sN.mono (by simp)).aa (sA.mono (by simp)).aa hm).use (fun _ m => m) ?_⟩
        rintro _ H14 ⟨rfl, P14⟩
        have L14 : h.length ≤ H14.length := by have := P14.length_le; first | omega | (simp only [List.length_append, List.length_cons, List.length_nil] at this; omega)
        have Q14 : H13.length + 1 ≤ H14.length := by have := P14.length_le; first | omega | (simp only [List.length_append, List.length_cons, List.length_nil] at this; omega)
        replace hc := hc.mono ((List.prefix_append _ _).trans P14)
        replace sA := sA.mono ((List.prefix_append _ _).trans P14)
        replace sR := sR.mono ((List.prefix_append _ _).trans P14)
        replace sQ := sQ.mono ((List.prefix_append _ _).trans P14)
        replace sS := sS.mono ((List.prefix_append _ _).trans P14)
        replace sT := sT.mono ((List.prefix_append _ _).trans P14)
        replace sB := sB.mono ((List.prefix_append _ _).trans P14)
        replace sC := sC.mono ((List.prefix_append _ _).trans P14)
        replace sL := sL.mono ((List.prefix_append _ _).trans P14)
        replace sM := sM.mono ((List.prefix_append _ _).trans P14)
        replace sN := sN.mono ((List.prefix_append _ _).trans P14)
        replace bA := keep_get bA ((List.prefix_append _ _).trans P14)
        replace bB := keep_get bB ((List.prefix_append _ _).trans P14)
        replace bC := keep_get bC ((List.prefix_append _ _).trans P14)
        replace bL := keep_get bL ((List.prefix_append _ _).trans P14)
        replace bM := keep_get bM ((List.prefix_append _ _).trans P14)
        have bN := keep_get (h := H13 ++ _) hget_new P14
        try simp only [go_sem, Nat.reduceBEq, Nat.reduceAdd, Nat.reduceMul, Nat.reduceSub, Nat.reduceLeDiff, Nat.le_refl, implies_true, Nat.reduceLT, reduceIte, decide_true, decide_false, true_and, and_true, reduceCtorEq, Nat.mul_one, Int.reduceToNat, Int.reduceLE, Int.reduceLT, Int.reduceAdd, Int.reduceSub, Int.reduceMul, Int.cast_ofNat_Int, cast_zero_int, cast_one_int, Nat.reducePow, Nat.reduceEqDiff, Nat.reduceMod, Nat.zero_add, Nat.sub_zero, Nat.add_zero, bA, bB, bC, bL, bM, bN, self_get bA, self_get bB, self_get bC, self_get bL, self_get bM, self_get bN, own_base L14, own_base0 L14, hp, ht, decb u1, decb v1, w1, w2, w3, decb p1, decb p2, decb p7, hBin_quo (show (2 : Int) ≠ 0 by omega), P14, Try.underlying4, and_self, bne_self_eq_false, decide_true]
        refine ⟨by kernel_rfl, (c_DrawUnpackArchive b n hc).use (fun _ m => m) ?_⟩
        rintro _ H15 ⟨⟨f2, L2, wU, rfl, sU, hL2⟩, P15⟩
        have L15 : h.length ≤ H15.length := by have := P15.length_le; first | omega | (simp only [List.length_append, List.length_cons, List.length_nil] at this; omega)
        have Q15 : H14.length + 0 ≤ H15.length := by have := P15.length_le; first | omega | (simp only [List.length_append, List.length_cons, List.length_nil] at this; omega)
        replace hc := hc.mono P15
        obtain ⟨wUi, rfl, _⟩ := id sU
        try simp only [go_sem, Nat.reduceBEq, Nat.reduceAdd, Nat.reduceMul, Nat.reduceSub, Nat.reduceLeDiff, Nat.le_refl, implies_true, Nat.reduceLT, reduceIte, decide_true, decide_false, true_and, and_true, reduceCtorEq, Nat.mul_one, Int.reduceToNat, Int.reduceLE, Int.reduceLT, Int.reduceAdd, Int.reduceSub, Int.reduceMul, Int.cast_ofNat_Int, cast_zero_int, cast_one_int, Nat.reducePow, Nat.reduceEqDiff, Nat.reduceMod, Nat.zero_add, Nat.sub_zero, Nat.add_zero, own_base L15, own_base0 L15, hp, ht, decb u1, decb v1, w1, w2, w3, decb p1, decb p2, decb p7, hBin_quo (show (2 : Int) ≠ 0 by omega), P15]
        obtain ⟨X2, hX2⟩ : ∃ X : Int, (if unpOk f2 L2 then f2 else 0) = X := ⟨_, rfl⟩
        obtain ⟨Y2, hY2⟩ : ∃ Y : List Int, (if unpOk f2 L2 then valsU L2 L2.length else []) = Y := ⟨_, rfl⟩
        have hY2m : Y2.length ≤ 1048576 := by rw [← hY2]; split; rename_i hh; have := hh.2.2.1; omega; simp
        refine ⟨by kernel_rfl, (c_UnpackArchive f2 _ L2 (sU.mono (by first | exact List.prefix_rfl | simp)) hL2).use (fun _ m => m) ?_⟩
        rintro _ H16 ⟨⟨wE, rfl, sE⟩, P16⟩
        have L16 : h.length ≤ H16.length := by have := P16.length_le; first | omega | (simp only [List.length_append, List.length_cons, List.length_nil] at this; omega)
        have Q16 : H15.length + 0 ≤ H16.length := by have := P16.length_le; first | omega | (simp only [List.length_append, List.length_cons, List.length_nil] at this; omega)
        replace hc := hc.mono P16
        replace sU := sU.mono P16
        rw [hX2, hY2] at sE
        obtain ⟨wEw, rfl, ⟨wEi, rfl, _⟩⟩ := id sE
        try simp only [go_sem, Nat.reduceBEq, Nat.reduceAdd, Nat.reduceMul, Nat.reduceSub, Nat.reduceLeDiff, Nat.le_refl, implies_true, Nat.reduceLT, reduceIte, decide_true, decide_false, true_and, and_true, reduceCtorEq, Nat.mul_one, Int.reduceToNat, Int.reduceLE, Int.reduceLT, Int.reduceAdd, Int.reduceSub, Int.reduceMul, Int.cast_ofNat_Int, cast_zero_int, cast_one_int, Nat.reducePow, Nat.reduceEqDiff, Nat.reduceMod, Nat.zero_add, Nat.sub_zero, Nat.add_zero, own_base L16, own_base0 L16, hp, ht, decb u1, decb v1, w1, w2, w3, decb p1, decb p2, decb p7, hBin_quo (show (2 : Int) ≠ 0 by omega), P16]
        refine ⟨by kernel_rfl, (c_sUnpackArchive f2 _ L2 (sU.mono (by first | exact List.prefix_rfl | simp)) hL2).use (fun _ m => m) ?_⟩
        rintro _ H17 ⟨⟨wF, rfl, sF⟩, P17⟩
        have L17 : h.length ≤ H17.length := by have := P17.length_le; first | omega | (simp only [List.length_append, List.length_cons, List.length_nil] at this; omega)
        have Q17 : H16.length + 1 ≤ H17.length := by have := P17.length_le; first | omega | (simp only [List.length_append, List.length_cons, List.length_nil] at this; omega)
        replace hc := hc.mono ((List.prefix_append _ _).trans P17)
        replace sU := sU.mono ((List.prefix_append _ _).trans P17)
        replace sE := sE.mono ((List.prefix_append _ _).trans P17)
        have bE := keep_get (h := H16 ++ _) hget_new P17
        rw [hX2, hY2] at sF
        obtain ⟨wFw, rfl, ⟨wFi, rfl, _⟩⟩ := id sF
        try simp only [go_sem, Nat.reduceBEq, Nat.reduceAdd, Nat.reduceMul, Nat.reduceSub, Nat.reduceLeDiff, Nat.le_refl, implies_true, Nat.reduceLT, reduceIte, decide_true, decide_false, true_and, and_true, reduceCtorEq, Nat.mul_one, Int.reduceToNat, Int.reduceLE, Int.reduceLT, Int.reduceAdd, Int.reduceSub, Int.reduceMul, Int.cast_ofNat_Int, cast_zero_int, cast_one_int, Nat.reducePow, Nat.reduceEqDiff, Nat.reduceMod, Nat.zero_add, Nat.sub_zero, Nat.add_zero, bE, self_get bE, own_base L17, own_base0 L17, hp, ht, decb u1, decb v1, w1, w2, w3, decb p1, decb p2, decb p7, hBin_quo (show (2 : Int) ≠ 0 by omega), P17]
        refine ⟨by kernel_rfl, (c_rArchives _ _ X2 Y2 (sE.mono (by simp)).aa (sF.mono (by simp)).aa hY2m).use (fun _ m => m) ?_⟩
        rintro _ H18 ⟨rfl, P18⟩
        have L18 : h.length ≤ H18.length := by have := P18.length_le; first | omega | (simp only [List.length_append, List.length_cons, List.length_nil] at this; omega)
        have Q18 : H17.length + 1 ≤ H18.length := by have := P18.length_le; first | omega | (simp only [List.length_append, List.length_cons, List.length_nil] at this; omega)
        replace hc := hc.mono ((List.prefix_append _ _).trans P18)
        replace sU := sU.mono ((List.prefix_append _ _).trans P18)
        replace sE := sE.mono ((List.prefix_append _ _).trans P18)
        replace sF := sF.mono ((List.prefix_append _ _).trans P18)
        replace bE := keep_get bE ((List.prefix_append _ _).trans P18)
        have bF := keep_get (h := H17 ++ _) hget_new P18
        try simp only [go_sem, Nat.reduceBEq, Nat.reduceAdd, Nat.reduceMul, Nat.reduceSub, Nat.reduceLeDiff, Nat.le_refl, implies_true, Nat.reduceLT, reduceIte, decide_true, decide_false, true_and, and_true, reduceCtorEq, Nat.mul_one, Int.reduceToNat, Int.reduceLE, Int.reduceLT, Int.reduceAdd, Int.reduceSub, Int.reduceMul, Int.cast_ofNat_Int, cast_zero_int, cast_one_int, Nat.reducePow, Nat.reduceEqDiff, Nat.reduceMod, Nat.zero_add, Nat.sub_zero, Nat.add_zero, bE, bF, self_get bE, self_get bF, own_base L18, own_base0 L18, hp, ht, decb u1, decb v1, w1, w2, w3, decb p1, decb p2, decb p7, hBin_quo (show (2 : Int) ≠ 0 by omega), P18, Try.underlying4, and_self, bne_self_eq_false, decide_true]
        refine ⟨by kernel_rfl, (c_DrawFromSteps b n hc).use (fun _ m => m) ?_⟩
        rintro _ H19 ⟨⟨f3, l3, wV, rfl, sV, hl3⟩, P19⟩
        have L19 : h.length ≤ H19.length := by have := P19.length_le; first | omega | (simp only [List.length_append, List.length_cons, List.length_nil] at this; omega)
        have Q19 : H18.length + 0 ≤ H19.length := by have := P19.length_le; first | omega | (simp only [List.length_append, List.length_cons, List.length_nil] at this; omega)
        replace hc := hc.mono P19
        obtain ⟨wVi, rfl, _⟩ := id sV
        try simp only [go_sem, Nat.reduceBEq, Nat.reduceAdd, Nat.reduceMul, Nat.reduceSub, Nat.reduceLeDiff, Nat.le_refl, implies_true, Nat.reduceLT, reduceIte, decide_true, decide_false, true_and, and_true, reduceCtorEq, Nat.mul_one, Int.reduceToNat, Int.reduceLE, Int.reduceLT, Int.reduceAdd, Int.reduceSub, Int.reduceMul, Int.cast_ofNat_Int, cast_zero_int, cast_one_int, Nat.reducePow, Nat.reduceEqDiff, Nat.reduceMod, Nat.zero_add, Nat.sub_zero, Nat.add_zero, own_base L19, own_base0 L19, hp, ht, decb u1, decb v1, w1, w2, w3, decb p1, decb p2, decb p7, hBin_quo (show (2 : Int) ≠ 0 by omega), P19]
        obtain ⟨X3, hX3⟩ : ∃ X : Int, (if fromOk f3 l3 then f3 else 0) = X := ⟨_, rfl⟩
        obtain ⟨Y3, hY3⟩ : ∃ Y : List Int, (if fromOk f3 l3 then sums l3 l3.length else []) = Y := ⟨_, rfl⟩
        have hY3m : Y3.length ≤ 1048576 := by rw [← hY3]; split; rw [sums_len]; omega; simp
        refine ⟨by kernel_rfl, (c_FromSteps f3 _ l3 (sV.mono (by first | exact List.prefix_rfl | simp)) (by omega)).use (fun _ m => m) ?_⟩
        rintro _ H20 ⟨⟨wG, rfl, sG⟩, P20⟩
        have L20 : h.length ≤ H20.length := by have := P20.length_le; first | omega | (simp only [List.length_append, List.length_cons, List.length_nil] at this; omega)
        have Q20 : H19.length + 0 ≤ H20.length := by have := P20.length_le; first | omega | (simp only [List.length_append, List.length_cons, List.length_nil] at this; omega)
        replace hc := hc.mono P20
        replace sV := sV.mono P20
        rw [hX3, hY3] at sG
        obtain ⟨wGw, rfl, ⟨wGi, rfl, _⟩⟩ := id sG
        try simp only [go_sem, Nat.reduceBEq, Nat.reduceAdd, Nat.reduceMul, Nat.reduceSub, Nat.reduceLeDiff, Nat.le_refl, implies_true, Nat.reduceLT, reduceIte, decide_true, decide_false, true_and, and_true, reduceCtorEq, Nat.mul_one, Int.reduceToNat, Int.reduceLE, Int.reduceLT, Int.reduceAdd, Int.reduceSub, Int.reduceMul, Int.cast_ofNat_Int, cast_zero_int, cast_one_int, Nat.reducePow, Nat.reduceEqDiff, Nat.reduceMod, Nat.zero_add, Nat.sub_zero, Nat.add_zero, own_base L20, own_base0 L20, hp, ht, decb u1, decb v1, w1, w2, w3, decb p1, decb p2, decb p7, hBin_quo (show (2 : Int) ≠ 0 by omega), P20]
        refine ⟨by kernel_rfl, (c_sFromSteps f3 _ l3 (sV.mono (by first | exact List.prefix_rfl | simp)) (by omega)).use (fun _ m => m) ?_⟩
        rintro _ H21 ⟨⟨wK, rfl, sK⟩, P21⟩
        have L21 : h.length ≤ H21.length := by have := P21.length_le; first | omega | (simp only [List.length_append, List.length_cons, List.length_nil] at this; omega)
        have Q21 : H20.length + 1 ≤ H21.length := by have := P21.length_le; first | omega | (simp only [List.length_append, List.length_cons, List.length_nil] at this; omega)
        replace hc := hc.mono ((List.prefix_append _ _).trans P21)
        replace sV := sV.mono ((List.prefix_append _ _).trans P21)
        replace sG := sG.mono ((List.prefix_append _ _).trans P21)
        have bG := keep_get (h := H20 ++ _) hget_new P21
        rw [hX3, hY3] at sK
        obtain ⟨wKw, rfl, ⟨wKi, rfl, _⟩⟩ := id sK
        try simp only [go_sem, Nat.reduceBEq, Nat.reduceAdd, Nat.reduceMul, Nat.reduceSub, Nat.reduceLeDiff, Nat.le_refl, implies_true, Nat.reduceLT, reduceIte, decide_true, decide_false, true_and, and_true, reduceCtorEq, Nat.mul_one, Int.reduceToNat, Int.reduceLE, Int.reduceLT, Int.reduceAdd, Int.reduceSub, Int.reduceMul, Int.cast_ofNat_Int, cast_zero_int, cast_one_int, Nat.reducePow, Nat.reduceEqDiff, Nat.reduceMod, Nat.zero_add, Nat.sub_zero, Nat.add_zero, bG, self_get bG, own_base L21, own_base0 L21, hp, ht, decb u1, decb v1, w1, w2, w3, decb p1, decb p2, decb p7, hBin_quo (show (2 : Int) ≠ 0 by omega), P21]
        refine ⟨by kernel_rfl, (c_rArchives _ _ X3 Y3 (sG.mono (by simp)).aa (sK.mono (by simp)).aa hY3m).use (fun _ m => m) ?_⟩
        rintro _ H22 ⟨rfl, P22⟩
        have L22 : h.length ≤ H22.length := by have := P22.length_le; first | omega | (simp only [List.length_append, List.length_cons, List.length_nil] at this; omega)
        have Q22 : H21.length + 1 ≤ H22.length := by have := P22.length_le; first | omega | (simp only [List.length_append, List.length_cons, List.length_nil] at this; omega)
        replace hc := hc.mono ((List.prefix_append _ _).trans P22)
        replace sV := sV.mono ((List.prefix_append _ _).trans P22)
        replace sG := sG.mono ((List.prefix_append _ _).trans P22)
        replace sK := sK.mono ((List.prefix_append _ _).trans P22)
        replace bG := keep_get bG ((List.prefix_append _ _).trans P22)
        have bK := keep_get (h := H21 ++ _) hget_new P22
        try simp only [go_sem, Nat.reduceBEq, Nat.reduceAdd, Nat.reduceMul, Nat.reduceSub, Nat.reduceLeDiff, Nat.le_refl, implies_true, Nat.reduceLT, reduceIte, decide_true, decide_false, true_and, and_true, reduceCtorEq, Nat.mul_one, Int.reduceToNat, Int.reduceLE, Int.reduceLT, Int.reduceAdd, Int.reduceSub, Int.reduceMul, Int.cast_ofNat_Int, cast_zero_int, cast_one_int, Nat.reducePow, Nat.reduceEqDiff, Nat.reduceMod, Nat.zero_add, Nat.sub_zero, Nat.add_zero, bG, bK, self_get bG, self_get bK, own_base L22, own_base0 L22, hp, ht, decb u1, decb v1, w1, w2, w3, decb p1, decb p2, decb p7, hBin_quo (show (2 : Int) ≠ 0 by omega), P22, Try.underlying4, and_self, bne_self_eq_false, decide_true]
      · skip
        try simp only [go_sem, Nat.reduceBEq, Nat.reduceAdd, Nat.reduceMul, Nat.reduceSub, Nat.reduceLeDiff, Nat.le_refl, implies_true, Nat.reduceLT, reduceIte, decide_true, decide_false, true_and, and_true, reduceCtorEq, Nat.mul_one, Int.reduceToNat, Int.reduceLE, Int.reduceLT, Int.reduceAdd, Int.reduceSub, Int.reduceMul, Int.cast_ofNat_Int, cast_zero_int, cast_one_int, Nat.reducePow, Nat.reduceEqDiff, Nat.reduceMod, Nat.zero_add, Nat.sub_zero, Nat.add_zero, bA, bB, bC, self_get bA, self_get bB, self_get bC, own_base L10, own_base0 L10, hp, ht, decb u1, decb v1, hBin_quo (show (2 : Int) ≠ 0 by omega), h1]
        refine ⟨by kernel_rfl, (c_DrawUnpackArchive b n hc).use (fun _ m => m) ?_⟩
        rintro _ H11 ⟨⟨f2, L2, wU, rfl, sU, hL2⟩, P11⟩
        have L11 : h.length ≤ H11.length := by have := P11.length_le; first | omega | (simp only [List.length_append, List.length_cons, List.length_nil] at this; omega)
        have Q11 : H10.length + 0 ≤ H11.length := by have := P11.length_le; first | omega | (simp only [List.length_append, List.length_cons, List.length_nil] at this; omega)
        replace hc := hc.mono P11
        obtain ⟨wUi, rfl, _⟩ := id sU
        try simp only [go_sem, Nat.reduceBEq, Nat.reduceAdd, Nat.reduceMul, Nat.reduceSub, Nat.reduceLeDiff, Nat.le_refl, implies_true, Nat.reduceLT, reduceIte, decide_true, decide_false, true_and, and_true, reduceCtorEq, Nat.mul_one, Int.reduceToNat, Int.reduceLE, Int.reduceLT, Int.reduceAdd, Int.reduceSub, Int.reduceMul, Int.cast_ofNat_Int, cast_zero_int, cast_one_int, Nat.reducePow, Nat.reduceEqDiff, Nat.reduceMod, Nat.zero_add, Nat.sub_zero, Nat.add_zero, own_base L11, own_base0 L11, hp, ht, decb u1, decb v1, hBin_quo (show (2 : Int) ≠ 0 by omega), P11]
        obtain ⟨X2, hX2⟩ : ∃ X : Int, (if unpOk f2 L2 then f2 else 0) = X := ⟨_, rfl⟩
        obtain ⟨Y2, hY2⟩ : ∃ Y : List Int, (if unpOk f2 L2 then valsU L2 L2.length else []) = Y := ⟨_, rfl⟩
        have hY2m : Y2.length ≤ 1048576 := by rw [← hY2]; split; rename_i hh; have := hh.2.2.1; omega; simp
        refine ⟨by kernel_rfl, (c_UnpackArchive f2 _ L2 (sU.mono (by first | exact List.prefix_rfl | simp)) hL2).use (fun _ m => m) ?_⟩
        rintro _ H12 ⟨⟨wE, rfl, sE⟩, P12⟩
        have L12 : h.length ≤ H12.length := by have := P12.length_le; first | omega | (simp only [List.length_append, List.length_cons, List.length_nil] at this; omega)
        have Q12 : H11.length + 0 ≤ H12.length := by have := P12.length_le; first | omega | (simp only [List.length_append, List.length_cons, List.length_nil] at this; omega)
        replace hc := hc.mono P12
        replace sU := sU.mono P12
        rw [hX2, hY2] at sE
        obtain ⟨wEw, rfl, ⟨wEi, rfl, _⟩⟩ := id sE
        try simp only [go_sem, Nat.reduceBEq, Nat.reduceAdd, Nat.reduceMul, Nat.reduceSub, Nat.reduceLeDiff, Nat.le_refl, implies_true, Nat.reduceLT, reduceIte, decide_true, decide_false, true_and, and_true, reduceCtorEq, Nat.mul_one, Int.reduceToNat, Int.reduceLE, Int.reduceLT, Int.reduceAdd, Int.reduceSub, Int.reduceMul, Int.cast_ofNat_Int, cast_zero_int, cast_one_int, Nat.reducePow, Nat.reduceEqDiff, Nat.reduceMod, Nat.zero_add, Nat.sub_zero, Nat.add_zero, own_base L12, own_base0 L12, hp, ht, decb u1, decb v1, hBin_quo (show (2 : Int) ≠ 0 by omega), P12]
        refine ⟨by kernel_rfl, (c_sUnpackArchive f2 _ L2 (sU.mono (by first | exact List.prefix_rfl | simp)) hL2).use (fun _ m => m) ?_⟩
        rintro _ H13 ⟨⟨wF, rfl, sF⟩, P13⟩
        have L13 : h.length ≤ H13.length := by have := P13.length_le; first | omega | (simp only [List.length_append, List.length_cons, List.length_nil] at this; omega)
        have Q13 : H12.length + 1 ≤ H13.length := by have := P13.length_le; first | omega | (simp only [List.length_append, List.length_cons, List.length_nil] at this; omega)
        replace hc := hc.mono ((List.prefix_append _ _).trans P13)
        replace sU := sU.mono ((List.prefix_append _ _).trans P13)
        replace sE := sE.mono ((List.prefix_append _ _).trans P13)
        have bE := keep_get (h := H12 ++ _) hget_new P13
        rw [hX2, hY2] at sF
        obtain ⟨wFw, rfl, ⟨wFi, rfl, _⟩⟩ := id sF
        try simp only [go_sem, Nat.reduceBEq, Nat.reduceAdd, Nat.reduceMul, Nat.reduceSub, Nat.reduceLeDiff, Nat.le_refl, implies_true, Nat.reduceLT, reduceIte, decide_true, decide_false, true_and, and_true, reduceCtorEq, Nat.mul_one, Int.reduceToNat, Int.reduceLE, Int.reduceLT, Int.reduceAdd, Int.reduceSub, Int.reduceMul, Int.cast_ofNat_Int, cast_zero_int, cast_one_int, Nat.reducePow, Nat.reduceEqDiff, Nat.reduceMod, Nat.zero_add, Nat.sub_zero, Nat.add_zero, bE, self_get bE, own_base L13, own_base0 L13, hp, ht, decb u1, decb v1, hBin_quo (show (2 : Int) ≠ 0 by omega), P13]
        refine ⟨by kernel_rfl, (c_rArchives _ _ X2 Y2 (sE.mono (by simp)).aa (sF.mono (by simp)).aa hY2m).use (fun _ m => m) ?_⟩
        rintro _ H14 ⟨rfl, P14⟩
        have L14 : h.length ≤ H14.length := by have := P14.length_le; first | omega | (simp only [List.length_append, List.length_cons, List.length_nil] at this; omega)
        have Q14 : H13.length + 1 ≤ H14.length := by have := P14.length_le; first | omega | (simp only [List.length_append, List.length_cons, List.length_nil] at this; omega)
        replace hc := hc.mono ((List.prefix_append _ _).trans P14)
        replace sU := sU.mono ((List.prefix_append _ _).trans P14)
        replace sE := sE.mono ((List.prefix_append _ _).trans P14)
        replace sF := sF.mono ((List.prefix_append _ _).trans P14)
        replace bE := keep_get bE ((List.prefix_append _ _).trans P14)
        have bF := keep_get (h := H13 ++ _) hget_new P14
        try simp only [go_sem, Nat.reduceBEq, Nat.reduceAdd, Nat.reduceMul, Nat.reduceSub, Nat.reduceLeDiff, Nat.le_refl, implies_true, Nat.reduceLT, reduceIte, decide_true, decide_false, true_and, and_true, reduceCtorEq, Nat.mul_one, Int.reduceToNat, Int.reduceLE, Int.reduceLT, Int.reduceAdd, Int.reduceSub, Int.reduceMul, Int.cast_ofNat_Int, cast_zero_int, cast_one_int, Nat.reducePow, Nat.reduceEqDiff, Nat.reduceMod, Nat.zero_add, Nat.sub_zero, Nat.add_zero, bE, bF, self_get bE, self_get bF, own_base L14, own_base0 L14, hp, ht, decb u1, decb v1, hBin_quo (show (2 : Int) ≠ 0 by omega), P14, Try.underlying4, and_self, bne_self_eq_false, decide_true]
        refine ⟨by kernel_rfl, (c_DrawFromSteps b n hc).use (fun _ m => m) ?_⟩
        rintro _ H15 ⟨⟨f3, l3, wV, rfl, sV, hl3⟩, P15⟩
        have L15 : h.length ≤ H15.length := by have := P15.length_le; first | omega | (simp only [List.length_append, List.length_cons, List.length_nil] at this; omega)
        have Q15 : H14.length + 0 ≤ H15.length := by have := P15.length_le; first | omega | (simp only [List.length_append, List.length_cons, List.length_nil] at this; omega)
        replace hc := hc.mono P15
        obtain ⟨wVi, rfl, _⟩ := id sV
        try simp only [go_sem, Nat.reduceBEq, Nat.reduceAdd, Nat.reduceMul, Nat.reduceSub, Nat.reduceLeDiff, Nat.le_refl, implies_true, Nat.reduceLT, reduceIte, decide_true, decide_false, true_and, and_true, reduceCtorEq, Nat.mul_one, Int.reduceToNat, Int.reduceLE, Int.reduceLT, Int.reduceAdd, Int.reduceSub, Int.reduceMul, Int.cast_ofNat_Int, cast_zero_int, cast_one_int, Nat.reducePow, Nat.reduceEqDiff, Nat.reduceMod, Nat.zero_add, Nat.sub_zero, Nat.add_zero, own_base L15, own_base0 L15, hp, ht, decb u1, decb v1, hBin_quo (show (2 : Int) ≠ 0 by omega), P15]
        obtain ⟨X3, hX3⟩ : ∃ X : Int, (if fromOk f3 l3 then f3 else 0) = X := ⟨_, rfl⟩
        obtain ⟨Y3, hY3⟩ : ∃ Y : List Int, (if fromOk f3 l3 then sums l3 l3.length else []) = Y := ⟨_, rfl⟩
        have hY3m : Y3.length ≤ 1048576 := by rw [← hY3]; split; rw [sums_len]; omega; simp
        refine ⟨by kernel_rfl, (c_FromSteps f3 _ l3 (sV.mono (by first | exact List.prefix_rfl | simp)) (by omega)).use (fun _ m => m) ?_⟩
        rintro _ H16 ⟨⟨wG, rfl, sG⟩, P16⟩
        have L16 : h.length ≤ H16.length := by have := P16.length_le; first | omega | (simp only [List.length_append, List.length_cons, List.length_nil] at this; omega)
        have Q16 : H15.length + 0 ≤ H16.length := by have := P16.length_le; first | omega | (simp only [List.length_append, List.length_cons, List.length_nil] at this; omega)
        replace hc := hc.mono P16
        replace sV := sV.mono P16
        rw [hX3, hY3] at sG
        obtain ⟨wGw, rfl, ⟨wGi, rfl, _⟩⟩ := id sG
        try simp only [go_sem, Nat.reduceBEq, Nat.reduceAdd, Nat.reduceMul, Nat.reduceSub, Nat.reduceLeDiff, Nat.le_refl, implies_true, Nat.reduceLT, reduceIte, decide_true, decide_false, true_and, and_true, reduceCtorEq, Nat.mul_one, Int.reduceToNat, Int.reduceLE, Int.reduceLT, Int.reduceAdd, Int.reduceSub, Int.reduceMul, Int.cast_ofNat_Int, cast_zero_int, cast_one_int, Nat.reducePow, Nat.reduceEqDiff, Nat.reduceMod, Nat.zero_add, Nat.sub_zero, Nat.add_zero, own_base L16, own_base0 L16, hp, ht, decb u1, decb v1, hBin_quo (show (2 : Int) ≠ 0 by omega), P16]
        refine ⟨by kernel_rfl, (c_sFromSteps f3 _ l3 (sV.mono (by first | exact List.prefix_rfl | simp)) (by omega)).use (fun _ m => m) ?_⟩
        rintro _ H17 ⟨⟨wK, rfl, sK⟩, P17⟩
        have L17 : h.length ≤ H17.length := by have := P17.length_le; first | omega | (simp only [List.length_append, List.length_cons, List.length_nil] at this; omega)
        have Q17 : H16.length + 1 ≤ H17.length := by have := P17.length_le; first | omega | (simp only [List.length_append, List.length_cons, List.length_nil] at this; omega)
        replace hc := hc.mono ((List.prefix_append _ _).trans P17)
        replace sV := sV.mono ((List.prefix_append _ _).trans P17)
        replace sG := sG.mono ((List.prefix_append _ _).trans P17)
        have bG := keep_get (h := H16 ++ _) hget_new P17
        rw [hX3, hY3] at sK
        obtain ⟨wKw, rfl, ⟨wKi, rfl, _⟩⟩ := id sK
        try simp only [go_sem, Nat.reduceBEq, Nat.reduceAdd, Nat.reduceMul, Nat.reduceSub, Nat.reduceLeDiff, Nat.le_refl, implies_true, Nat.reduceLT, reduceIte, decide_true, decide_false, true_and, and_true, reduceCtorEq, Nat.mul_one, Int.reduceToNat, Int.reduceLE, Int.reduceLT, Int.reduceAdd, Int.reduceSub, Int.reduceMul, Int.cast_ofNat_Int, cast_zero_int, cast_one_int, Nat.reducePow, Nat.reduceEqDiff, Nat.reduceMod, Nat.zero_add, Nat.sub_zero, Nat.add_zero, bG, self_get bG, own_base L17, own_base0 L17, hp, ht, decb u1, decb v1, hBin_quo (show (2 : Int) ≠ 0 by omega), P17]
        refine ⟨by kernel_rfl, (c_rArchives _ _ X3 Y3 (sG.mono (by simp)).aa (sK.mono (by simp)).aa hY3m).use (fun _ m => m) ?_⟩
        rintro _ H18 ⟨rfl, P18⟩
        have L18 : h.length ≤ H18.length := by have := P18.length_le; first | omega | (simp only [List.length_append, List.length_cons, List.length_nil] at this; omega)
        have Q18 : H17.length + 1 ≤ H18.length := by have := P18.length_le; first | omega | (simp only [List.length_append, List.length_cons, List.length_nil] at this; omega)
        replace hc := hc.mono ((List.prefix_append _ _).trans P18)
        replace sV := sV.mono ((List.prefix_append _ _).trans P18)
        replace sG := sG.mono ((List.prefix_append _ _).trans P18)
        replace sK := sK.mono ((List.prefix_append _ _).trans P18)
        replace bG := keep_get bG ((List.prefix_append _ _).trans P18)
        have bK := keep_get (h := H17 ++ _) hget_new P18
        try simp only [go_sem, Nat.reduceBEq, Nat.reduceAdd, Nat.reduceMul, Nat.reduceSub, Nat.reduceLeDiff, Nat.le_refl, implies_true, Nat.reduceLT, reduceIte, decide_true, decide_false, true_and, and_true, reduceCtorEq, Nat.mul_one, Int.reduceToNat, Int.reduceLE, Int.reduceLT, Int.reduceAdd, Int.reduceSub, Int.reduceMul, Int.cast_ofNat_Int, cast_zero_int, cast_one_int, Nat.reducePow, Nat.reduceEqDiff, Nat.reduceMod, Nat.zero_add, Nat.sub_zero, Nat.add_zero, bG, bK, self_get bG, self_get bK, own_base L18, own_base0 L18, hp, ht, decb u1, decb v1, hBin_quo (show (2 : Int) ≠ 0 by omega), P18, Try.underlying4, and_self, bne_self_eq_false, decide_true]
    · skip
      try simp only [go_sem, Nat.reduceBEq, Nat.reduceAdd, Nat.reduceMul, Nat.reduceSub, Nat.reduceLeDiff, Nat.le_refl, implies_true, Nat.reduceLT, reduceIte, decide_true, decide_false, true_and, and_true, reduceCtorEq, Nat.mul_one, Int.reduceToNat, Int.reduceLE, Int.reduceLT, Int.reduceAdd, Int.reduceSub, Int.reduceMul, Int.cast_ofNat_Int, cast_zero_int, cast_one_int, Nat.reducePow, Nat.reduceEqDiff, Nat.reduceMod, Nat.zero_add, Nat.sub_zero, Nat.add_zero, bA, self_get bA, own_base L6, own_base0 L6, dect hg]
      refine ⟨by kernel_rfl, (c_DrawUnpackArchive b n hc).use (fun _ m => m) ?_⟩
      rintro _ H7 ⟨⟨f2, L2, wU, rfl, sU, hL2⟩, P7⟩
      have L7 : h.length ≤ H7.length := by have := P7.length_le; first | omega | (simp only [List.length_append, List.length_cons, List.length_nil] at this; omega)
      have Q7 : H6.length + 0 ≤ H7.length := by have := P7.length_le; first | omega | (simp only [List.length_append, List.length_cons, List.length_nil] at this; omega)
      replace hc := hc.mono P7
      obtain ⟨wUi, rfl, _⟩ := id sU
      try simp only [go_sem, Nat.reduceBEq, Nat.reduceAdd, Nat.reduceMul, Nat.reduceSub, Nat.reduceLeDiff, Nat.le_refl, implies_true, Nat.reduceLT, reduceIte, decide_true, decide_false, true_and, and_true, reduceCtorEq, Nat.mul_one, Int.reduceToNat, Int.reduceLE, Int.reduceLT, Int.reduceAdd, Int.reduceSub, Int.reduceMul, Int.cast_ofNat_Int, cast_zero_int, cast_one_int, Nat.reducePow, Nat.reduceEqDiff, Nat.reduceMod, Nat.zero_add, Nat.sub_zero, Nat.add_zero, own_base L7, own_base0 L7, P7]
      obtain ⟨X2, hX2⟩ : ∃ X : Int, (if unpOk f2 L2 then f2 else 0) = X := ⟨_, rfl⟩
      obtain ⟨Y2, hY2⟩ : ∃ Y : List Int, (if unpOk f2 L2 then valsU L2 L2.length else []) = Y := ⟨_, rfl⟩
      have hY2m : Y2.length ≤ 1048576 := by rw [← hY2]; split; rename_i hh; have := hh.2.2.1; omega; simp
      refine ⟨by kernel_rfl, (c_UnpackArchive f2 _ L2 (sU.mono (by first | exact List.prefix_rfl | simp)) hL2).use (fun _ m => m) ?_⟩
      rintro _ H8 ⟨⟨wE, rfl, sE⟩, P8⟩
      have L8 : h.length ≤ H8.length := by have := P8.length_le; first | omega | (simp only [List.length_append, List.length_cons, List.length_nil] at this; omega)
      have Q8 : H7.length + 0 ≤ H8.length := by have := P8.length_le; first | omega | (simp only [List.length_append, List.length_cons, List.length_nil] at this; omega)
      replace hc := hc.mono P8
      replace sU := sU.mono P8
      rw [hX2, hY2] at sE
      obtain ⟨wEw, rfl, ⟨wEi, rfl, _⟩⟩ := id sE
      try simp only [go_sem, Nat.reduceBEq, Nat.reduceAdd, Nat.reduceMul, Nat.reduceSub, Nat.reduceLeDiff, Nat.le_refl, implies_true, Nat.reduceLT, reduceIte, decide_true, decide_false, true_and, and_true, reduceCtorEq, Nat.mul_one, Int.reduceToNat, Int.reduceLE, Int.reduceLT, Int.reduceAdd, Int.reduceSub, Int.reduceMul, Int.cast_ofNat_Int, cast_zero_int, cast_one_int, Nat.reducePow, Nat.reduceEqDiff, Nat.reduceMod, Nat.zero_add, Nat.sub_zero, Nat.add_zero, own_base L8, own_base0 L8, P8]
      refine ⟨by kernel_rfl, (c_sUnpackArchive f2 _ L2 (sU.mono (by first | exact List.prefix_rfl | simp)) hL2).use (fun _ m => m) ?_⟩
      rintro _ H9 ⟨⟨wF, rfl, sF⟩, P9⟩
      have L9 : h.length ≤ H9.length := by have := P9.length_le; first | omega | (simp only [List.length_append, List.length_cons, List.length_nil] at this; omega)
      have Q9 : H8.length + 1 ≤ H9.length := by have := P9.length_le; first | omega | (simp only [List.length_append, List.length_cons, List.length_nil] at this; omega)
      replace hc := hc.mono ((List.prefix_append _ _).trans P9)
      replace sU := sU.mono ((List.prefix_append _ _).trans P9)
      replace sE := sE.mono ((List.prefix_append _ _).trans P9)
      have bE := keep_get (h := H8 ++ _) hget_new P9
      rw [hX2, hY2] at sF
      obtain ⟨wFw, rfl, ⟨wFi, rfl, _⟩⟩ := id sF
      try simp only [go_sem, Nat.reduceBEq, Nat.reduceAdd, Nat.reduceMul, Nat.reduceSub, Nat.reduceLeDiff, Nat.le_refl, implies_true, Nat.reduceLT, reduceIte, decide_true, decide_false, true_and, and_true, reduceCtorEq, Nat.mul_one, Int.reduceToNat, Int.reduceLE, Int.reduceLT, Int.reduceAdd, Int.reduceSub, Int.reduceMul, Int.cast_ofNat_Int, cast_zero_int, cast_one_int, Nat.reducePow, Nat.reduceEqDiff, Nat.reduceMod, Nat.zero_add, Nat.sub_zero, Nat.add_zero, bE, self_get bE, own_base L9, own_base0 L9, P9]
      refine ⟨by kernel_rfl, (c_rArchives _ _ X2 Y2 (sE.mono (by simp)).aa (sF.mono (by simp)).aa hY2m).use (fun _ m => m) ?_⟩
      rintro _ H10 ⟨rfl, P10⟩
      have L10 : h.length ≤ H10.length := by have := P10.length_le; first | omega | (simp only [List.length_append, List.length_cons, List.length_nil] at this; omega)
      have Q10 : H9.length + 1 ≤ H10.length := by have := P10.length_le; first | omega | (simp only [List.length_append, List.length_cons, List.length_nil] at this; omega)
      replace hc := hc.mono ((List.prefix_append _ _).trans P10)
      replace sU := sU.mono ((List.prefix_append _ _).trans P10)
      replace sE := sE.mono ((List.prefix_append _ _).trans P10)
      replace sF := sF.mono ((List.prefix_append _ _).trans P10)
      replace bE := keep_get bE ((List.prefix_append _ _).trans P10)
      have bF := keep_get (h := H9 ++ _) hget_new P10
      try simp only [go_sem, Nat.reduceBEq, Nat.reduceAdd, Nat.reduceMul, Nat.reduceSub, Nat.reduceLeDiff, Nat.le_refl, implies_true, Nat.reduceLT, reduceIte, decide_true, decide_false, true_and, and_true, reduceCtorEq, Nat.mul_one, Int.reduceToNat, Int.reduceLE, Int.reduceLT, Int.reduceAdd, Int.reduceSub, Int.reduceMul, Int.cast_ofNat_Int, cast_zero_int, cast_one_int, Nat.reducePow, Nat.reduceEqDiff, Nat.reduceMod, Nat.zero_add, Nat.sub_zero, Nat.add_zero, bE, bF, self_get bE, self_get bF, own_base L10, own_base0 L10, P10, Try.underlying4, and_self, bne_self_eq_false, decide_true]
      refine ⟨by kernel_rfl, (c_DrawFromSteps b n hc).use (fun _ m => m) ?_⟩
      rintro _ H11 ⟨⟨f3, l3, wV, rfl, sV, hl3⟩, P11⟩
      have L11 : h.length ≤ H11.length := by have := P11.length_le; first | omega | (simp only [List.length_append, List.length_cons, List.length_nil] at this; omega)
      have Q11 : H10.length + 0 ≤ H11.length := by have := P11.length_le; first | omega | (simp only [List.length_append, List.length_cons, List.length_nil] at this; omega)
      replace hc := hc.mono P11
      obtain ⟨wVi, rfl, _⟩ := id sV
      try simp only [go_sem, Nat.reduceBEq, Nat.reduceAdd, Nat.reduceMul, Nat.reduceSub, Nat.reduceLeDiff, Nat.le_refl, implies_true, Nat.reduceLT, reduceIte, decide_true, decide_false, true_and, and_true, reduceCtorEq, Nat.mul_one, Int.reduceToNat, Int.reduceLE, Int.reduceLT, Int.reduceAdd, Int.reduceSub, Int.reduceMul, Int.cast_ofNat_Int, cast_zero_int, cast_one_int, Nat.reducePow, Nat.reduceEqDiff, Nat.reduceMod, Nat.zero_add, Nat.sub_zero, Nat.add_zero, own_base L11, own_base0 L11, P11]
      obtain ⟨X3, hX3⟩ : ∃ X : Int, (if fromOk f3 l3 then f3 else 0) = X := ⟨_, rfl⟩
      obtain ⟨Y3, hY3⟩ : ∃ Y : List Int, (if fromOk f3 l3 then sums l3 l3.length else []) = Y := ⟨_, rfl⟩
      have hY3m : Y3.length ≤ 1048576 := by rw [← hY3]; split; rw [sums_len]; omega; simp
      refine ⟨by kernel_rfl, (c_FromSteps f3 _ l3 (sV.mono (by first | exact List.prefix_rfl | simp)) (by omega)).use (fun _ m => m) ?_⟩
      rintro _ H12 ⟨⟨wG, rfl, sG⟩, P12⟩
      have L12 : h.length ≤ H12.length := by have := P12.length_le; first | omega | (simp only [List.length_append, List.length_cons, List.length_nil] at this; omega)
      have Q12 : H11.length + 0 ≤ H12.length := by have := P12.length_le; first | omega | (simp only [List.length_append, List.length_cons, List.length_nil] at this; omega)
      replace hc := hc.mono P12
      replace sV := sV.mono P12
      rw [hX3, hY3] at sG
      obtain ⟨wGw, rfl, ⟨wGi, rfl, _⟩⟩ := id sG
      try simp only [go_sem, Nat.reduceBEq, Nat.reduceAdd, Nat.reduceMul, Nat.reduceSub, Nat.reduceLeDiff, Nat.le_refl, implies_true, Nat.reduceLT, reduceIte, decide_true, decide_false, true_and, and_true, reduceCtorEq, Nat.mul_one, Int.reduceToNat, Int.reduceLE, Int.reduceLT, Int.reduceAdd, Int.reduceSub, Int.reduceMul, Int.cast_ofNat_Int, cast_zero_int, cast_one_int, Nat.reducePow, Nat.reduceEqDiff, Nat.reduceMod, Nat.zero_add, Nat.sub_zero, Nat.add_zero, own_base L12, own_base0 L12, P12]
      refine ⟨by kernel_rfl, (c_sFromSteps f3 _ l3 (sV.mono (by first | exact List.prefix_rfl | simp)) (by omega)).use (fun _ m => m) ?_⟩
      rintro _ H13 ⟨⟨wK, rfl, sK⟩, P13⟩
      have L13 : h.length ≤ H13.length := by have := P13.length_le; first | omega | (simp only [List.length_append, List.length_cons, List.length_nil] at this; omega)
      have Q13 : H12.length + 1 ≤ H13.length := by have := P13.length_le; first | omega | (simp only [List.length_append, List.length_cons, List.length_nil] at this; omega)
      replace hc := hc.mono ((List.prefix_append _ _).trans P13)
      replace sV := sV.mono ((List.prefix_append _ _).trans P13)
      replace sG := sG.mono ((List.prefix_append _ _).trans P13)
      have bG := keep_get (h := H12 ++ _) hget_new P13
      rw [hX3, hY3] at sK
      obtain ⟨wKw, rfl, ⟨wKi, rfl, _⟩⟩ := id sK
      try simp only [go_sem, Nat.reduceBEq, Nat.reduceAdd, Nat.reduceMul, Nat.reduceSub, Nat.reduceLeDiff, Nat.le_refl, implies_true, Nat.reduceLT, reduceIte, decide_true, decide_false, true_and, and_true, reduceCtorEq, Nat.mul_one, Int.reduceToNat, Int.reduceLE, Int.reduceLT, Int.reduceAdd, Int.reduceSub, Int.reduceMul, Int.cast_ofNat_Int, cast_zero_int, cast_one_int, Nat.reducePow, Nat.reduceEqDiff, Nat.reduceMod, Nat.zero_add, Nat.sub_zero, Nat.add_zero, bG, self_get bG, own_base L13, own_base0 L13, P13]
      refine ⟨by kernel_rfl, (c_rArchives _ _ X3 Y3 (sG.mono (by simp)).aa (sK.mono (by simp)).aa hY3m).use (fun _ m => m) ?_⟩
      rintro _ H14 ⟨rfl, P14⟩
      have L14 : h.length ≤ H14.length := by have := P14.length_le; first | omega | (simp only [List.length_append, List.length_cons, List.length_nil] at this; omega)
      have Q14 : H13.length + 1 ≤ H14.length := by have := P14.length_le; first | omega | (simp only [List.length_append, List.length_cons, List.length_nil] at this; omega)
      replace hc := hc.mono ((List.prefix_append _ _).trans P14)
      replace sV := sV.mono ((List.prefix_append _ _).trans P14)
      replace sG := sG.mono ((List.prefix_append _ _).trans P14)
      replace sK := sK.mono ((List.prefix_append _ _).trans P14)
      replace bG := keep_get bG ((List.prefix_append _ _).trans P14)
      have bK := keep_get (h := H13 ++ _) hget_new P14
      try simp only [go_sem, Nat.reduceBEq, Nat.reduceAdd, Nat.reduceMul, Nat.reduceSub, Nat.reduceLeDiff, Nat.le_refl, implies_true, Nat.reduceLT, reduceIte, decide_true, decide_false, true_and, and_true, reduceCtorEq, Nat.mul_one, Int.reduceToNat, Int.reduceLE, Int.reduceLT, Int.reduceAdd, Int.reduceSub, Int.reduceMul, Int.cast_ofNat_Int, cast_zero_int, cast_one_int, Nat.reducePow, Nat.reduceEqDiff, Nat.reduceMod, Nat.zero_add, Nat.sub_zero, Nat.add_zero, bG, bK, self_get bG, self_get bK, own_base L14, own_base0 L14, P14, Try.underlying4, and_self, bne_self_eq_false, decide_true]
end

theorem a_FnArchives (h : Heap) (a : List Value) (ft : FitsAll h [.slice (.int .u8)] a) : vCall [] Try.prog (fun _ => False) 4 a h (fun r _ => r = .bool true) := by
  obtain ⟨v, vs, rfl, f, g⟩ := ft.cons
  obtain rfl := g.nil
  obtain ⟨b, n, rfl, hc⟩ := Fits.code f
  exact l_FnArchives b n hc
end Go.Proofs.Ytjgekhahklidcaa
