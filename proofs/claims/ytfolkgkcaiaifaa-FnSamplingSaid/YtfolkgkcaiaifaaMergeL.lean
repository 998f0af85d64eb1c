
/- MergeSamples answers as the reference does. No condition. -/
import Derived.Test.YtfolkgkcaiaifaaMerge
namespace Go.Proofs.Ytfolkgkcaiaifaa
open Go.HH
set_option linter.unusedSimpArgs false
set_option linter.unusedVariables false

theorem mrgRes_len {a b : List Smp} : (mrgRes a b).length ≤ 1048576 := by
  unfold mrgRes
  split
  · rename_i g
    exact Nat.le_trans g.2.2 (by decide)
  · simp
section
variable {h : Heap} {M : Nat → Prop}
set_option maxHeartbeats 4000000 in
theorem l_MergeSamples (va vb : Value) (a b : List Smp) (s : SB h.length 4 h va (a.map smp)) (s' : SB h.length 4 h vb (b.map smp)) (hmax : a.length ≤ 9223372036854775807) (hmax' : b.length ≤ 9223372036854775807) : vCall [] Try.prog M 3 [va, vb] h (fun r h' => r = .bool true) := by
  refine body_of mo Try.func3 rfl (by kernel_rfl) (Nat.le_of_ble_eq_true (by kernel_rfl)) rfl ?_
  simp only [go_sem, Nat.reduceBEq, Nat.reduceAdd, Nat.reduceMul, Nat.reduceSub, Nat.reduceLeDiff, Nat.le_refl, implies_true, Nat.reduceLT, reduceIte, decide_true, decide_false, true_and, and_true, reduceCtorEq, Nat.mul_one, Int.reduceToNat, Int.reduceLE, Int.reduceLT, Int.reduceAdd, Int.reduceSub, Int.reduceMul, Int.cast_ofNat_Int, cast_zero_int, cast_one_int, Nat.reducePow, Nat.reduceEqDiff, Nat.reduceMod, Nat.zero_add, Nat.sub_zero, Nat.add_zero]
  refine ⟨by kernel_rfl, (c_szSampleS va a s.1 _ (by omega) hmax).use (fun _ m => m) ?_⟩
  rintro _ _ ⟨rfl, rfl⟩
  simp only [go_sem, Nat.reduceBEq, Nat.reduceAdd, Nat.reduceMul, Nat.reduceSub, Nat.reduceLeDiff, Nat.le_refl, implies_true, Nat.reduceLT, reduceIte, decide_true, decide_false, true_and, and_true, reduceCtorEq, Nat.mul_one, Int.reduceToNat, Int.reduceLE, Int.reduceLT, Int.reduceAdd, Int.reduceSub, Int.reduceMul, Int.cast_ofNat_Int, cast_zero_int, cast_one_int, Nat.reducePow, Nat.reduceEqDiff, Nat.reduceMod, Nat.zero_add, Nat.sub_zero, Nat.add_zero]
  by_cases h1 : (1048576 : Int) - a.length < 0
  · simp only [go_sem, Nat.reduceBEq, Nat.reduceAdd, Nat.reduceMul, Nat.reduceSub, Nat.reduceLeDiff, Nat.le_refl, implies_true, Nat.reduceLT, reduceIte, decide_true, decide_false, true_and, and_true, reduceCtorEq, Nat.mul_one, Int.reduceToNat, Int.reduceLE, Int.reduceLT, Int.reduceAdd, Int.reduceSub, Int.reduceMul, Int.cast_ofNat_Int, cast_zero_int, cast_one_int, Nat.reducePow, Nat.reduceEqDiff, Nat.reduceMod, Nat.zero_add, Nat.sub_zero, Nat.add_zero, h1]
  simp only [go_sem, Nat.reduceBEq, Nat.reduceAdd, Nat.reduceMul, Nat.reduceSub, Nat.reduceLeDiff, Nat.le_refl, implies_true, Nat.reduceLT, reduceIte, decide_true, decide_false, true_and, and_true, reduceCtorEq, Nat.mul_one, Int.reduceToNat, Int.reduceLE, Int.reduceLT, Int.reduceAdd, Int.reduceSub, Int.reduceMul, Int.cast_ofNat_Int, cast_zero_int, cast_one_int, Nat.reducePow, Nat.reduceEqDiff, Nat.reduceMod, Nat.zero_add, Nat.sub_zero, Nat.add_zero, h1]
  refine ⟨by kernel_rfl, (c_szSampleS vb b s'.1 _ (by omega) hmax').use (fun _ m => m) ?_⟩
  rintro _ _ ⟨rfl, rfl⟩
  simp only [go_sem, Nat.reduceBEq, Nat.reduceAdd, Nat.reduceMul, Nat.reduceSub, Nat.reduceLeDiff, Nat.le_refl, implies_true, Nat.reduceLT, reduceIte, decide_true, decide_false, true_and, and_true, reduceCtorEq, Nat.mul_one, Int.reduceToNat, Int.reduceLE, Int.reduceLT, Int.reduceAdd, Int.reduceSub, Int.reduceMul, Int.cast_ofNat_Int, cast_zero_int, cast_one_int, Nat.reducePow, Nat.reduceEqDiff, Nat.reduceMod, Nat.zero_add, Nat.sub_zero, Nat.add_zero]
  by_cases h2 : (1048576 : Int) - a.length - b.length < 0
  · simp only [go_sem, Nat.reduceBEq, Nat.reduceAdd, Nat.reduceMul, Nat.reduceSub, Nat.reduceLeDiff, Nat.le_refl, implies_true, Nat.reduceLT, reduceIte, decide_true, decide_false, true_and, and_true, reduceCtorEq, Nat.mul_one, Int.reduceToNat, Int.reduceLE, Int.reduceLT, Int.reduceAdd, Int.reduceSub, Int.reduceMul, Int.cast_ofNat_Int, cast_zero_int, cast_one_int, Nat.reducePow, Nat.reduceEqDiff, Nat.reduceMod, Nat.zero_add, Nat.sub_zero, Nat.add_zero, h2]
  have hm : a.length ≤ 1048576 := by omega
  have hm' : b.length ≤ 1048576 := by omega
  have hy := @mrgRes_len a b
  simp only [go_sem, Nat.reduceBEq, Nat.reduceAdd, Nat.reduceMul, Nat.reduceSub, Nat.reduceLeDiff, Nat.le_refl, implies_true, Nat.reduceLT, reduceIte, decide_true, decide_false, true_and, and_true, reduceCtorEq, Nat.mul_one, Int.reduceToNat, Int.reduceLE, Int.reduceLT, Int.reduceAdd, Int.reduceSub, Int.reduceMul, Int.cast_ofNat_Int, cast_zero_int, cast_one_int, Nat.reducePow, Nat.reduceEqDiff, Nat.reduceMod, Nat.zero_add, Nat.sub_zero, Nat.add_zero, h2]
  refine ⟨by kernel_rfl, (c_toSampleS va a s.1 hm).use (fun _ m => m) ?_⟩
  rintro v1 _ ⟨s1, ⟨t1, rfl⟩⟩
  try simp only [List.append_assoc, List.cons_append] at s1
  try simp only [go_sem, Nat.reduceBEq, Nat.reduceAdd, Nat.reduceMul, Nat.reduceSub, Nat.reduceLeDiff, Nat.le_refl, implies_true, Nat.reduceLT, reduceIte, decide_true, decide_false, true_and, and_true, reduceCtorEq, Nat.mul_one, Int.reduceToNat, Int.reduceLE, Int.reduceLT, Int.reduceAdd, Int.reduceSub, Int.reduceMul, Int.cast_ofNat_Int, cast_zero_int, cast_one_int, Nat.reducePow, Nat.reduceEqDiff, Nat.reduceMod, Nat.zero_add, Nat.sub_zero, Nat.add_zero]
  refine ⟨by kernel_rfl, (c_toSampleS vb b (s'.mono (by simp)).1 hm').use (fun _ m => m) ?_⟩
  rintro v2 _ ⟨s2, ⟨t2, rfl⟩⟩
  try simp only [List.append_assoc, List.cons_append] at s2
  try simp only [go_sem, Nat.reduceBEq, Nat.reduceAdd, Nat.reduceMul, Nat.reduceSub, Nat.reduceLeDiff, Nat.le_refl, implies_true, Nat.reduceLT, reduceIte, decide_true, decide_false, true_and, and_true, reduceCtorEq, Nat.mul_one, Int.reduceToNat, Int.reduceLE, Int.reduceLT, Int.reduceAdd, Int.reduceSub, Int.reduceMul, Int.cast_ofNat_Int, cast_zero_int, cast_one_int, Nat.reducePow, Nat.reduceEqDiff, Nat.reduceMod, Nat.zero_add, Nat.sub_zero, Nat.add_zero]
  refine ⟨by kernel_rfl, (c_sMergeSamples v1 v2 a b (s1.mono (by simp)).sl s2.sl (FR.esz s2) hm hm').use (fun _ m => m) ?_⟩
  rintro _ _ ⟨⟨w0, rfl, sw⟩, ⟨t3, rfl⟩⟩
  try simp only [List.append_assoc, List.cons_append] at sw
  try simp only [go_sem, Nat.reduceBEq, Nat.reduceAdd, Nat.reduceMul, Nat.reduceSub, Nat.reduceLeDiff, Nat.le_refl, implies_true, Nat.reduceLT, reduceIte, decide_true, decide_false, true_and, and_true, reduceCtorEq, Nat.mul_one, Int.reduceToNat, Int.reduceLE, Int.reduceLT, Int.reduceAdd, Int.reduceSub, Int.reduceMul, Int.cast_ofNat_Int, cast_zero_int, cast_one_int, Nat.reducePow, Nat.reduceEqDiff, Nat.reduceMod, Nat.zero_add, Nat.sub_zero, Nat.add_zero]
  refine ⟨by kernel_rfl, (c_toSampleS va a (s.mono (by simp)).1 hm).use (fun _ m => m) ?_⟩
  rintro v3 _ ⟨s3, ⟨t4, rfl⟩⟩
  try simp only [List.append_assoc, List.cons_append] at s3
  try simp only [go_sem, Nat.reduceBEq, Nat.reduceAdd, Nat.reduceMul, Nat.reduceSub, Nat.reduceLeDiff, Nat.le_refl, implies_true, Nat.reduceLT, reduceIte, decide_true, decide_false, true_and, and_true, reduceCtorEq, Nat.mul_one, Int.reduceToNat, Int.reduceLE, Int.reduceLT, Int.reduceAdd, Int.reduceSub, Int.reduceMul, Int.cast_ofNat_Int, cast_zero_int, cast_one_int, Nat.reducePow, Nat.reduceEqDiff, Nat.reduceMod, Nat.zero_add, Nat.sub_zero, Nat.add_zero]
  refine ⟨by kernel_rfl, (c_toSampleS vb b (s'.mono (by simp)).1 hm').use (fun _ m => m) ?_⟩
  rintro v4 _ ⟨s4, ⟨t5, rfl⟩⟩
  try simp only [List.append_assoc, List.cons_append] at s4
  try simp only [go_sem, Nat.reduceBEq, Nat.reduceAdd, Nat.reduceMul, Nat.reduceSub, Nat.reduceLeDiff, Nat.le_refl, implies_true, Nat.reduceLT, reduceIte, decide_true, decide_false, true_and, and_true, reduceCtorEq, Nat.mul_one, Int.reduceToNat, Int.reduceLE, Int.reduceLT, Int.reduceAdd, Int.reduceSub, Int.reduceMul, Int.cast_ofNat_Int, cast_zero_int, cast_one_int, Nat.reducePow, Nat.reduceEqDiff, Nat.reduceMod, Nat.zero_add, Nat.sub_zero, Nat.add_zero]
  refine ⟨by kernel_rfl, (c_MergeSamples v3 v4 a b (s3.mono (by simp)).sl s4.sl hm hm').use (fun _ m => m) ?_⟩
  rintro _ _ ⟨⟨g0, rfl, sg⟩, ⟨t6, rfl⟩⟩
  try simp only [List.append_assoc, List.cons_append] at sg
  try simp only [go_sem, Nat.reduceBEq, Nat.reduceAdd, Nat.reduceMul, Nat.reduceSub, Nat.reduceLeDiff, Nat.le_refl, implies_true, Nat.reduceLT, reduceIte, decide_true, decide_false, true_and, and_true, reduceCtorEq, Nat.mul_one, Int.reduceToNat, Int.reduceLE, Int.reduceLT, Int.reduceAdd, Int.reduceSub, Int.reduceMul, Int.cast_ofNat_Int, cast_zero_int, cast_one_int, Nat.reducePow, Nat.reduceEqDiff, Nat.reduceMod, Nat.zero_add, Nat.sub_zero, Nat.add_zero]
  refine ⟨by kernel_rfl, (c_eqSampleS g0 w0 (mrgRes a b) sg.sl (sw.mono (by simp)).sl hy).use (fun _ m => m) ?_⟩
  rintro _ _ ⟨rfl, ⟨t7, rfl⟩⟩
  simp only [go_sem, Nat.reduceBEq, Nat.reduceAdd, Nat.reduceMul, Nat.reduceSub, Nat.reduceLeDiff, Nat.le_refl, implies_true, Nat.reduceLT, reduceIte, decide_true, decide_false, true_and, and_true, reduceCtorEq, Nat.mul_one, Int.reduceToNat, Int.reduceLE, Int.reduceLT, Int.reduceAdd, Int.reduceSub, Int.reduceMul, Int.cast_ofNat_Int, cast_zero_int, cast_one_int, Nat.reducePow, Nat.reduceEqDiff, Nat.reduceMod, Nat.zero_add, Nat.sub_zero, Nat.add_zero, Try.underlying4]
  refine ⟨by kernel_rfl, (c_toSampleS va a (s.mono (by simp)).1 hm).use (fun _ m => m) ?_⟩
  rintro v5 _ ⟨s5, ⟨t8, rfl⟩⟩
  try simp only [List.append_assoc, List.cons_append] at s5
  try simp only [go_sem, Nat.reduceBEq, Nat.reduceAdd, Nat.reduceMul, Nat.reduceSub, Nat.reduceLeDiff, Nat.le_refl, implies_true, Nat.reduceLT, reduceIte, decide_true, decide_false, true_and, and_true, reduceCtorEq, Nat.mul_one, Int.reduceToNat, Int.reduceLE, Int.reduceLT, Int.reduceAdd, Int.reduceSub, Int.reduceMul, Int.cast_ofNat_Int, cast_zero_int, cast_one_int, Nat.reducePow, Nat.reduceEqDiff, Nat.reduceMod, Nat.zero_add, Nat.sub_zero, Nat.add_zero]
  refine ⟨by kernel_rfl, (c_eqSampleS v3 v5 a (s3.mono (by simp)).sl s5.sl hm).use (fun _ m => m) ?_⟩
  rintro _ _ ⟨rfl, ⟨t9, rfl⟩⟩
  simp only [go_sem, Nat.reduceBEq, Nat.reduceAdd, Nat.reduceMul, Nat.reduceSub, Nat.reduceLeDiff, Nat.le_refl, implies_true, Nat.reduceLT, reduceIte, decide_true, decide_false, true_and, and_true, reduceCtorEq, Nat.mul_one, Int.reduceToNat, Int.reduceLE, Int.reduceLT, Int.reduceAdd, Int.reduceSub, Int.reduceMul, Int.cast_ofNat_Int, cast_zero_int, cast_one_int, Nat.reducePow, Nat.reduceEqDiff, Nat.reduceMod, Nat.zero_add, Nat.sub_zero, Nat.add_zero, and_self]
  refine ⟨by kernel_rfl, (c_toSampleS vb b (s'.mono (by simp)).1 hm').use (fun _ m => m) ?_⟩
  rintro v6 _ ⟨s6, ⟨t10, rfl⟩⟩
  try simp only [List.append_assoc, List.cons_append] at s6
  try simp only [go_sem, Nat.reduceBEq, Nat.reduceAdd, Nat.reduceMul, Nat.reduceSub, Nat.reduceLeDiff, Nat.le_refl, implies_true, Nat.reduceLT, reduceIte, decide_true, decide_false, true_and, and_true, reduceCtorEq, Nat.mul_one, Int.reduceToNat, Int.reduceLE, Int.reduceLT, Int.reduceAdd, Int.reduceSub, Int.reduceMul, Int.cast_ofNat_Int, cast_zero_int, cast_one_int, Nat.reducePow, Nat.reduceEqDiff, Nat.reduceMod, Nat.zero_add, Nat.sub_zero, Nat.add_zero]
  refine ⟨by kernel_rfl, (c_eqSampleS v4 v6 b (s4.mono (by simp)).sl s6.sl hm').use (fun _ m => m) ?_⟩
  rintro _ _ ⟨rfl, ⟨t11, rfl⟩⟩
  simp only [go_sem, Nat.reduceBEq, Nat.reduceAdd, Nat.reduceMul, Nat.reduceSub, Nat.reduceLeDiff, Nat.le_refl, implies_true, Nat.reduceLT, reduceIte, decide_true, decide_false, true_and, and_true, reduceCtorEq, Nat.mul_one, Int.reduceToNat, Int.reduceLE, Int.reduceLT, Int.reduceAdd, Int.reduceSub, Int.reduceMul, Int.cast_ofNat_Int, cast_zero_int, cast_one_int, Nat.reducePow, Nat.reduceEqDiff, Nat.reduceMod, Nat.zero_add, Nat.sub_zero, Nat.add_zero, and_self]
  have cs : ∀ {H : Heap}, h <+: H → SB h.length 4 H va (a.map smp) ∧ SB h.length 4 H vb (b.map smp) := fun hp => ⟨s.mono hp, s'.mono hp⟩
  obtain ⟨H, hH⟩ : ∃ H : Heap, H = h ++ (t1 ++ (t2 ++ (t3 ++ (t4 ++ (t5 ++ (t6 ++ (t7 ++ (t8 ++ (t9 ++ (t10 ++ t11)))))))))) := ⟨_, rfl⟩
  have sgH : FQs (h.length + (t1.length + (t2.length + (t3.length + (t4.length + t5.length))))) (h.length + (t1.length + (t2.length + (t3.length + (t4.length + (t5.length + t6.length)))))) 4 H g0 ((mrgRes a b).map smp) := by
    rw [hH]; exact FQs.mono (by simpa using sg) (by simp)
  have swH : FQs (h.length + (t1.length + t2.length)) (h.length + (t1.length + (t2.length + t3.length))) 4 H w0 ((mrgRes a b).map smp) := by
    rw [hH]; exact FQs.mono (by simpa using sw) (by simp)
  have s3H : FR (h.length + (t1.length + (t2.length + t3.length))) (h.length + (t1.length + (t2.length + (t3.length + t4.length)))) 4 H v3 (a.map smp) := by
    rw [hH]; exact FR.mono (by simpa using s3) (by simp)
  have s4H : FR (h.length + (t1.length + (t2.length + (t3.length + t4.length)))) (h.length + (t1.length + (t2.length + (t3.length + (t4.length + t5.length))))) 4 H v4 (b.map smp) := by
    rw [hH]; exact FR.mono (by simpa using s4) (by simp)
  have sA : SB h.length 4 H va (a.map smp) := by rw [hH]; exact s.mono (by simp)
  have sB : SB h.length 4 H vb (b.map smp) := by rw [hH]; exact s'.mono (by simp)
  have hlen : h.length + (t1.length + (t2.length + (t3.length + (t4.length + (t5.length + t6.length))))) ≤ H.length := by rw [hH]; simp
  rw [← hH]
  clear hH s1 s2 s3 s4 s5 s6 sw sg cs
  obtain ⟨p0, hp0⟩ : ∃ p, p = h.length := ⟨_, rfl⟩
  obtain ⟨p1, hp1⟩ : ∃ p, p = h.length + (t1.length + t2.length) := ⟨_, rfl⟩
  obtain ⟨p2, hp2⟩ : ∃ p, p = h.length + (t1.length + (t2.length + t3.length)) := ⟨_, rfl⟩
  obtain ⟨p3, hp3⟩ : ∃ p, p = h.length + (t1.length + (t2.length + (t3.length + t4.length))) := ⟨_, rfl⟩
  obtain ⟨p4, hp4⟩ : ∃ p, p = h.length + (t1.length + (t2.length + (t3.length + (t4.length + t5.length)))) := ⟨_, rfl⟩
  obtain ⟨p5, hp5⟩ : ∃ p, p = h.length + (t1.length + (t2.length + (t3.length + (t4.length + (t5.length + t6.length))))) := ⟨_, rfl⟩
  rw [← hp4, ← hp5] at sgH
  rw [← hp1, ← hp2] at swH
  rw [← hp2, ← hp3] at s3H
  rw [← hp3, ← hp4] at s4H
  rw [← hp5] at hlen
  have q01 : p0 ≤ p1 := by omega
  have q12 : p1 ≤ p2 := by omega
  have q23 : p2 ≤ p3 := by omega
  have q34 : p3 ≤ p4 := by omega
  have q45 : p4 ≤ p5 := by omega
  have hL : h.length ≤ p0 := by omega
  clear hp1 hp2 hp3 hp4 hp5
  refine ⟨by kernel_rfl, (c_markSampleF v3 a s3H (fun i x y => Or.inl (by omega)) _ (by omega) hm).use (fun _ m => m) ?_⟩
  rintro _ H1 ⟨rfl, -, ag1⟩
  have sg1 := sgH.agr ag1 (by omega)
  have sw1 := swH.agr ag1 (by omega)
  have s41 : FR p3 p4 4 H1 v4 (b.map smp) := by
    obtain ⟨id, e, e1, e2, e3, e4⟩ := s4H
    exact ⟨id, e, e1, e2, by rw [ag1.2 id (hget_lt e3) (by omega)]; exact e3, e4⟩
  have sA1 := sA.agr ag1 (by omega)
  have sB1 := sB.agr ag1 (by omega)
  have l1 := ag1.1
  refine ⟨by kernel_rfl, (c_markSampleF v4 b s41 (fun i x y => Or.inl (by omega)) _ (by omega) hm').use (fun _ m => m) ?_⟩
  rintro _ H2 ⟨rfl, -, ag2⟩
  have sg2 := sg1.agr ag2 (by omega)
  have sw2 := sw1.agr ag2 (by omega)
  have sA2 := sA1.agr ag2 (by omega)
  have sB2 := sB1.agr ag2 (by omega)
  have l2 := ag2.1
  clear sgH swH s3H s4H sA sB sg1 sw1 s41 sA1 sB1 ag1 ag2
  have n1 : ¬ (1 + 4 * (a.length : Int) + 4 * (b.length : Int) < 0) := by omega
  have n2 : ¬ (1 + 4 * ((mrgRes a b).length : Int) < 0) := by omega
  simp only [go_sem, Nat.reduceBEq, Nat.reduceAdd, Nat.reduceMul, Nat.reduceSub, Nat.reduceLeDiff, Nat.le_refl, implies_true, Nat.reduceLT, reduceIte, decide_true, decide_false, true_and, and_true, reduceCtorEq, Nat.mul_one, Int.reduceToNat, Int.reduceLE, Int.reduceLT, Int.reduceAdd, Int.reduceSub, Int.reduceMul, Int.cast_ofNat_Int, cast_zero_int, cast_one_int, Nat.reducePow, Nat.reduceEqDiff, Nat.reduceMod, Nat.zero_add, Nat.sub_zero, Nat.add_zero, n1]
  refine ⟨by kernel_rfl, (c_eqSampleS g0 w0 (mrgRes a b) sg2.sl sw2.sl hy).use (fun _ m => m) ?_⟩
  rintro _ _ ⟨rfl, ⟨u1, rfl⟩⟩
  simp only [go_sem, Nat.reduceBEq, Nat.reduceAdd, Nat.reduceMul, Nat.reduceSub, Nat.reduceLeDiff, Nat.le_refl, implies_true, Nat.reduceLT, reduceIte, decide_true, decide_false, true_and, and_true, reduceCtorEq, Nat.mul_one, Int.reduceToNat, Int.reduceLE, Int.reduceLT, Int.reduceAdd, Int.reduceSub, Int.reduceMul, Int.cast_ofNat_Int, cast_zero_int, cast_one_int, Nat.reducePow, Nat.reduceEqDiff, Nat.reduceMod, Nat.zero_add, Nat.sub_zero, Nat.add_zero, n1, Try.underlying4]
  refine ⟨by kernel_rfl, (c_markSampleQ g0 (mrgRes a b) (sg2.mono (List.prefix_append _ _)) (fun i x y => Or.inl (by omega)) _ (by omega) hy).use (fun _ m => m) ?_⟩
  rintro _ H3 ⟨rfl, sg3, ag3⟩
  have sw3 := (sw2.mono (List.prefix_append _ u1)).agr ag3 (by omega)
  have sA3 := (sA2.mono (List.prefix_append _ u1)).agr ag3 (by omega)
  have sB3 := (sB2.mono (List.prefix_append _ u1)).agr ag3 (by omega)
  try simp only [go_sem, Nat.reduceBEq, Nat.reduceAdd, Nat.reduceMul, Nat.reduceSub, Nat.reduceLeDiff, Nat.le_refl, implies_true, Nat.reduceLT, reduceIte, decide_true, decide_false, true_and, and_true, reduceCtorEq, Nat.mul_one, Int.reduceToNat, Int.reduceLE, Int.reduceLT, Int.reduceAdd, Int.reduceSub, Int.reduceMul, Int.cast_ofNat_Int, cast_zero_int, cast_one_int, Nat.reducePow, Nat.reduceEqDiff, Nat.reduceMod, Nat.zero_add, Nat.sub_zero, Nat.add_zero]
  refine ⟨by kernel_rfl, (c_heldSampleS g0 (mrgRes a b).length 1 (by omega) sg3.sl hy).use (fun _ m => m) ?_⟩
  rintro _ _ ⟨rfl, ⟨u2, rfl⟩⟩
  simp only [go_sem, Nat.reduceBEq, Nat.reduceAdd, Nat.reduceMul, Nat.reduceSub, Nat.reduceLeDiff, Nat.le_refl, implies_true, Nat.reduceLT, reduceIte, decide_true, decide_false, true_and, and_true, reduceCtorEq, Nat.mul_one, Int.reduceToNat, Int.reduceLE, Int.reduceLT, Int.reduceAdd, Int.reduceSub, Int.reduceMul, Int.cast_ofNat_Int, cast_zero_int, cast_one_int, Nat.reducePow, Nat.reduceEqDiff, Nat.reduceMod, Nat.zero_add, Nat.sub_zero, Nat.add_zero, n2]
  refine ⟨by kernel_rfl, (c_toSampleS va a (sA3.mono (List.prefix_append _ _)).1 hm).use (fun _ m => m) ?_⟩
  rintro v7 _ ⟨s7, ⟨u3, rfl⟩⟩
  try simp only [List.append_assoc, List.cons_append] at s7
  try simp only [go_sem, Nat.reduceBEq, Nat.reduceAdd, Nat.reduceMul, Nat.reduceSub, Nat.reduceLeDiff, Nat.le_refl, implies_true, Nat.reduceLT, reduceIte, decide_true, decide_false, true_and, and_true, reduceCtorEq, Nat.mul_one, Int.reduceToNat, Int.reduceLE, Int.reduceLT, Int.reduceAdd, Int.reduceSub, Int.reduceMul, Int.cast_ofNat_Int, cast_zero_int, cast_one_int, Nat.reducePow, Nat.reduceEqDiff, Nat.reduceMod, Nat.zero_add, Nat.sub_zero, Nat.add_zero]
  refine ⟨by kernel_rfl, (c_toSampleS vb b (sB3.mono (by simp)).1 hm').use (fun _ m => m) ?_⟩
  rintro v8 _ ⟨s8, ⟨u4, rfl⟩⟩
  try simp only [List.append_assoc, List.cons_append] at s8
  try simp only [go_sem, Nat.reduceBEq, Nat.reduceAdd, Nat.reduceMul, Nat.reduceSub, Nat.reduceLeDiff, Nat.le_refl, implies_true, Nat.reduceLT, reduceIte, decide_true, decide_false, true_and, and_true, reduceCtorEq, Nat.mul_one, Int.reduceToNat, Int.reduceLE, Int.reduceLT, Int.reduceAdd, Int.reduceSub, Int.reduceMul, Int.cast_ofNat_Int, cast_zero_int, cast_one_int, Nat.reducePow, Nat.reduceEqDiff, Nat.reduceMod, Nat.zero_add, Nat.sub_zero, Nat.add_zero]
  refine ⟨by kernel_rfl, (c_MergeSamples v7 v8 a b (s7.mono (by simp)).sl s8.sl hm hm').use (fun _ m => m) ?_⟩
  rintro _ _ ⟨⟨h0, rfl, sh⟩, ⟨u5, rfl⟩⟩
  try simp only [List.append_assoc, List.cons_append] at sh
  try simp only [go_sem, Nat.reduceBEq, Nat.reduceAdd, Nat.reduceMul, Nat.reduceSub, Nat.reduceLeDiff, Nat.le_refl, implies_true, Nat.reduceLT, reduceIte, decide_true, decide_false, true_and, and_true, reduceCtorEq, Nat.mul_one, Int.reduceToNat, Int.reduceLE, Int.reduceLT, Int.reduceAdd, Int.reduceSub, Int.reduceMul, Int.cast_ofNat_Int, cast_zero_int, cast_one_int, Nat.reducePow, Nat.reduceEqDiff, Nat.reduceMod, Nat.zero_add, Nat.sub_zero, Nat.add_zero]
  refine ⟨by kernel_rfl, (c_eqSampleS h0 w0 _ sh.sl (sw3.mono (by simp)).sl hy).use (fun _ m => m) ?_⟩
  rintro _ _ ⟨rfl, ⟨u6, rfl⟩⟩
  simp only [go_sem, Nat.reduceBEq, Nat.reduceAdd, Nat.reduceMul, Nat.reduceSub, Nat.reduceLeDiff, Nat.le_refl, implies_true, Nat.reduceLT, reduceIte, decide_true, decide_false, true_and, and_true, reduceCtorEq, Nat.mul_one, Int.reduceToNat, Int.reduceLE, Int.reduceLT, Int.reduceAdd, Int.reduceSub, Int.reduceMul, Int.cast_ofNat_Int, cast_zero_int, cast_one_int, Nat.reducePow, Nat.reduceEqDiff, Nat.reduceMod, Nat.zero_add, Nat.sub_zero, Nat.add_zero, Try.underlying4]
  refine ⟨by kernel_rfl, (c_heldSampleS g0 _ 1 (by omega) (sg3.mono (by simp)).sl hy).use (fun _ m => m) ?_⟩
  rintro _ _ ⟨rfl, ⟨u7, rfl⟩⟩
  simp only [go_sem, Nat.reduceBEq, Nat.reduceAdd, Nat.reduceMul, Nat.reduceSub, Nat.reduceLeDiff, Nat.le_refl, implies_true, Nat.reduceLT, reduceIte, decide_true, decide_false, true_and, and_true, reduceCtorEq, Nat.mul_one, Int.reduceToNat, Int.reduceLE, Int.reduceLT, Int.reduceAdd, Int.reduceSub, Int.reduceMul, Int.cast_ofNat_Int, cast_zero_int, cast_one_int, Nat.reducePow, Nat.reduceEqDiff, Nat.reduceMod, Nat.zero_add, Nat.sub_zero, Nat.add_zero, n2]
end
theorem a_FnExactMergeSamples (h : Heap) (a : List Value) (ft : FitsAll h [.slice (.struct (.pair (.int .i64) (.pair (.int .i64) (.pair (.int .i64) (.pair (.int .i64) .unit))))), .slice (.struct (.pair (.int .i64) (.pair (.int .i64) (.pair (.int .i64) (.pair (.int .i64) .unit)))))] a) : vCall [] Try.prog (fun _ => False) 3 a h (fun r _ => r = .bool true) := by
  obtain ⟨v, vs, rfl, f, g⟩ := ft.cons
  obtain ⟨v2, vs, rfl, f2, g⟩ := g.cons
  obtain rfl := g.nil
  obtain ⟨l, s, hl⟩ := Fits.smps f
  obtain ⟨l2, s2, hl2⟩ := Fits.smps f2
  exact l_MergeSamples v v2 l l2 s s2 hl hl2
end Go.Proofs.Ytfolkgkcaiaifaa
