
/- Laws about a log's records and about crashes. No condition. -/
import Derived.Test.YtkogddiefniihaaDoorLogH
import Derived.Test.YtkogddiefniihaaDoorH3
namespace Go.Proofs.YtkogddiefniihaaDoor
open Go.HH Go.Proofs
set_option linter.unusedSimpArgs false
set_option linter.unusedVariables false

theorem PowAt.agr {G : List (Nat × Nat)} {h0 h H : Heap} {lo hi : Nat} (a : PowAt G h0) (hp : h0 <+: h) (ag : Agr lo hi h H) (hl : h0.length ≤ lo) : PowAt G H := by
  have b := a.mono hp
  exact ⟨a.1, (ag.2 _ (hget_lt b.2) (.inl (Nat.lt_of_lt_of_le (hget_lt a.2) hl))).trans b.2⟩

section
variable {G : List (Nat × Nat)} {h : Heap} {M : Nat → Prop}

theorem crashV_shape (D P : ByteArray) (n keep : Int) (torn : Bool) : ∃ a g, crashV D P n keep torn = .tuple #[.string a, .bool g] := by
  unfold crashV
  split <;> exact ⟨_, _, rfl⟩
theorem l_CrashLog (pw : PowAt G h) (D P : ByteArray) (n keep : Int) (torn : Bool) (hD : D.size ≤ 9223372036854775807) (hP : P.size ≤ 9223372036854775807) : vCall G Tryd.prog M 6 [.agg #[.string D, .string P, .int .i64 n], .int .i64 keep, .bool torn] h (fun v h' => v = .bool true) := by
  obtain ⟨a, g, hs⟩ := crashV_shape D P n keep torn
  refine body_of mo Tryd.func6 rfl (by kernel_rfl) (Nat.le_of_ble_eq_true (by kernel_rfl)) rfl ?_
  simp only [go_sem, Nat.reduceBEq, Nat.reduceAdd, Nat.reduceMul, Nat.reduceSub, Nat.reduceLeDiff, Nat.le_refl, implies_true, Nat.reduceLT, reduceIte, decide_true, decide_false, true_and, and_true, reduceCtorEq, Nat.mul_one, Int.reduceToNat, Int.reduceLE, Int.reduceLT, Int.reduceAdd, Int.reduceSub, Int.reduceMul, Int.cast_ofNat_Int, cast_zero_int, cast_one_int, Nat.reducePow, Nat.reduceEqDiff, Nat.reduceMod, Nat.zero_add, Nat.sub_zero, Nat.add_zero]
  by_cases h1 : (1048576 : Int) < D.size + P.size
  · refine ⟨by kernel_rfl, ((c_szLogN D P _ n (by omega) hD hP h1).addG).use (fun _ m => m) ?_⟩
    rintro _ _ ⟨rfl, ⟨t, rfl⟩⟩
    simp only [go_sem, Nat.reduceBEq, Nat.reduceAdd, Nat.reduceMul, Nat.reduceSub, Nat.reduceLeDiff, Nat.le_refl, implies_true, Nat.reduceLT, reduceIte, decide_true, decide_false, true_and, and_true, reduceCtorEq, Nat.mul_one, Int.reduceToNat, Int.reduceLE, Int.reduceLT, Int.reduceAdd, Int.reduceSub, Int.reduceMul, Int.cast_ofNat_Int, cast_zero_int, cast_one_int, Nat.reducePow, Nat.reduceEqDiff, Nat.reduceMod, Nat.zero_add, Nat.sub_zero, Nat.add_zero]
  · refine ⟨by kernel_rfl, ((c_szLogY D P _ n (by omega) hD hP h1).addG).use (fun _ m => m) ?_⟩
    rintro _ _ ⟨rfl, ⟨t, rfl⟩⟩
    simp only [go_sem, Nat.reduceBEq, Nat.reduceAdd, Nat.reduceMul, Nat.reduceSub, Nat.reduceLeDiff, Nat.le_refl, implies_true, Nat.reduceLT, reduceIte, decide_true, decide_false, true_and, and_true, reduceCtorEq, Nat.mul_one, Int.reduceToNat, Int.reduceLE, Int.reduceLT, Int.reduceAdd, Int.reduceSub, Int.reduceMul, Int.cast_ofNat_Int, cast_zero_int, cast_one_int, Nat.reducePow, Nat.reduceEqDiff, Nat.reduceMod, Nat.zero_add, Nat.sub_zero, Nat.add_zero, show ¬ ((1048576 : Int) - D.size - P.size < 0) by omega]
    refine ⟨by kernel_rfl, ((c_toLog D P n).addG).use (fun _ m => m) ?_⟩
    rintro _ _ ⟨rfl, ⟨t1, rfl⟩⟩
    try simp only [go_sem, Nat.reduceBEq, Nat.reduceAdd, Nat.reduceMul, Nat.reduceSub, Nat.reduceLeDiff, Nat.le_refl, implies_true, Nat.reduceLT, reduceIte, decide_true, decide_false, true_and, and_true, reduceCtorEq, Nat.mul_one, Int.reduceToNat, Int.reduceLE, Int.reduceLT, Int.reduceAdd, Int.reduceSub, Int.reduceMul, Int.cast_ofNat_Int, cast_zero_int, cast_one_int, Nat.reducePow, Nat.reduceEqDiff, Nat.reduceMod, Nat.zero_add, Nat.sub_zero, Nat.add_zero]
    refine ⟨by kernel_rfl, ((c_sCrashLog D P n keep torn (by omega)).addG).use (fun _ m => m) ?_⟩
    rintro _ _ ⟨rfl, ⟨t2, rfl⟩⟩
    rw [hs]
    try simp only [go_sem, Nat.reduceBEq, Nat.reduceAdd, Nat.reduceMul, Nat.reduceSub, Nat.reduceLeDiff, Nat.le_refl, implies_true, Nat.reduceLT, reduceIte, decide_true, decide_false, true_and, and_true, reduceCtorEq, Nat.mul_one, Int.reduceToNat, Int.reduceLE, Int.reduceLT, Int.reduceAdd, Int.reduceSub, Int.reduceMul, Int.cast_ofNat_Int, cast_zero_int, cast_one_int, Nat.reducePow, Nat.reduceEqDiff, Nat.reduceMod, Nat.zero_add, Nat.sub_zero, Nat.add_zero]
    refine ⟨by kernel_rfl, ((c_toLog D P n).addG).use (fun _ m => m) ?_⟩
    rintro _ _ ⟨rfl, ⟨t3, rfl⟩⟩
    try simp only [go_sem, Nat.reduceBEq, Nat.reduceAdd, Nat.reduceMul, Nat.reduceSub, Nat.reduceLeDiff, Nat.le_refl, implies_true, Nat.reduceLT, reduceIte, decide_true, decide_false, true_and, and_true, reduceCtorEq, Nat.mul_one, Int.reduceToNat, Int.reduceLE, Int.reduceLT, Int.reduceAdd, Int.reduceSub, Int.reduceMul, Int.cast_ofNat_Int, cast_zero_int, cast_one_int, Nat.reducePow, Nat.reduceEqDiff, Nat.reduceMod, Nat.zero_add, Nat.sub_zero, Nat.add_zero]
    refine ⟨by kernel_rfl, (c_CrashLog (pw.mono (by simp)) D P n keep torn (by omega)).use (fun _ m => m) ?_⟩
    rintro _ _ ⟨rfl, ⟨t4, rfl⟩⟩
    rw [hs]
    simp only [go_sem, Nat.reduceBEq, Nat.reduceAdd, Nat.reduceMul, Nat.reduceSub, Nat.reduceLeDiff, Nat.le_refl, implies_true, Nat.reduceLT, reduceIte, decide_true, decide_false, true_and, and_true, reduceCtorEq, Nat.mul_one, Int.reduceToNat, Int.reduceLE, Int.reduceLT, Int.reduceAdd, Int.reduceSub, Int.reduceMul, Int.cast_ofNat_Int, cast_zero_int, cast_one_int, Nat.reducePow, Nat.reduceEqDiff, Nat.reduceMod, Nat.zero_add, Nat.sub_zero, Nat.add_zero, eqs, Bool.not_true, bne_self_eq_false]

theorem l_LogRecords (pw : PowAt G h) (D P : ByteArray) (n : Int) (hD : D.size ≤ 9223372036854775807) (hP : P.size ≤ 9223372036854775807) : vCall G Tryd.prog M 9 [.agg #[.string D, .string P, .int .i64 n]] h (fun v h' => v = .bool true) := by
  refine body_of mo Tryd.func9 rfl (by kernel_rfl) (Nat.le_of_ble_eq_true (by kernel_rfl)) rfl ?_
  simp only [go_sem, Nat.reduceBEq, Nat.reduceAdd, Nat.reduceMul, Nat.reduceSub, Nat.reduceLeDiff, Nat.le_refl, implies_true, Nat.reduceLT, reduceIte, decide_true, decide_false, true_and, and_true, reduceCtorEq, Nat.mul_one, Int.reduceToNat, Int.reduceLE, Int.reduceLT, Int.reduceAdd, Int.reduceSub, Int.reduceMul, Int.cast_ofNat_Int, cast_zero_int, cast_one_int, Nat.reducePow, Nat.reduceEqDiff, Nat.reduceMod, Nat.zero_add, Nat.sub_zero, Nat.add_zero]
  by_cases h1 : (1048576 : Int) < D.size + P.size
  · refine ⟨by kernel_rfl, ((c_szLogN D P _ n (by omega) hD hP h1).addG).use (fun _ m => m) ?_⟩
    rintro _ _ ⟨rfl, ⟨t, rfl⟩⟩
    simp only [go_sem, Nat.reduceBEq, Nat.reduceAdd, Nat.reduceMul, Nat.reduceSub, Nat.reduceLeDiff, Nat.le_refl, implies_true, Nat.reduceLT, reduceIte, decide_true, decide_false, true_and, and_true, reduceCtorEq, Nat.mul_one, Int.reduceToNat, Int.reduceLE, Int.reduceLT, Int.reduceAdd, Int.reduceSub, Int.reduceMul, Int.cast_ofNat_Int, cast_zero_int, cast_one_int, Nat.reducePow, Nat.reduceEqDiff, Nat.reduceMod, Nat.zero_add, Nat.sub_zero, Nat.add_zero]
  · refine ⟨by kernel_rfl, ((c_szLogY D P _ n (by omega) hD hP h1).addG).use (fun _ m => m) ?_⟩
    rintro _ _ ⟨rfl, ⟨t, rfl⟩⟩
    simp only [go_sem, Nat.reduceBEq, Nat.reduceAdd, Nat.reduceMul, Nat.reduceSub, Nat.reduceLeDiff, Nat.le_refl, implies_true, Nat.reduceLT, reduceIte, decide_true, decide_false, true_and, and_true, reduceCtorEq, Nat.mul_one, Int.reduceToNat, Int.reduceLE, Int.reduceLT, Int.reduceAdd, Int.reduceSub, Int.reduceMul, Int.cast_ofNat_Int, cast_zero_int, cast_one_int, Nat.reducePow, Nat.reduceEqDiff, Nat.reduceMod, Nat.zero_add, Nat.sub_zero, Nat.add_zero, show ¬ ((1048576 : Int) - D.size - P.size < 0) by omega]
    have hz : D.size + P.size ≤ 9000000 := by omega
    refine ⟨by kernel_rfl, ((c_toLog D P n).addG).use (fun _ m => m) ?_⟩
    rintro _ _ ⟨rfl, ⟨t1, rfl⟩⟩
    try simp only [go_sem, Nat.reduceBEq, Nat.reduceAdd, Nat.reduceMul, Nat.reduceSub, Nat.reduceLeDiff, Nat.le_refl, implies_true, Nat.reduceLT, reduceIte, decide_true, decide_false, true_and, and_true, reduceCtorEq, Nat.mul_one, Int.reduceToNat, Int.reduceLE, Int.reduceLT, Int.reduceAdd, Int.reduceSub, Int.reduceMul, Int.cast_ofNat_Int, cast_zero_int, cast_one_int, Nat.reducePow, Nat.reduceEqDiff, Nat.reduceMod, Nat.zero_add, Nat.sub_zero, Nat.add_zero]
    by_cases g : logOk (bl D) (bl P) n
    · obtain ⟨d, hd⟩ : ∃ d, openL 60 0 (bl D ++ bl P) = d := ⟨_, rfl⟩
      have dl : d.length ≤ 60 := by rw [← hd]; exact openL_len 60 0 _
      refine ⟨by kernel_rfl, ((c_sLogRecordsY D P n hz g).addG).use (fun _ m => m) ?_⟩
      rintro _ _ ⟨⟨w, rfl, sw⟩, ⟨t2, rfl⟩⟩
      rw [hd] at sw
      try simp only [List.append_assoc, List.cons_append] at sw
      simp only [go_sem, Nat.reduceBEq, Nat.reduceAdd, Nat.reduceMul, Nat.reduceSub, Nat.reduceLeDiff, Nat.le_refl, implies_true, Nat.reduceLT, reduceIte, decide_true, decide_false, true_and, and_true, reduceCtorEq, Nat.mul_one, Int.reduceToNat, Int.reduceLE, Int.reduceLT, Int.reduceAdd, Int.reduceSub, Int.reduceMul, Int.cast_ofNat_Int, cast_zero_int, cast_one_int, Nat.reducePow, Nat.reduceEqDiff, Nat.reduceMod, Nat.zero_add, Nat.sub_zero, Nat.add_zero]
      refine ⟨by kernel_rfl, ((c_toLog D P n).addG).use (fun _ m => m) ?_⟩
      rintro _ _ ⟨rfl, ⟨t3, rfl⟩⟩
      try simp only [go_sem, Nat.reduceBEq, Nat.reduceAdd, Nat.reduceMul, Nat.reduceSub, Nat.reduceLeDiff, Nat.le_refl, implies_true, Nat.reduceLT, reduceIte, decide_true, decide_false, true_and, and_true, reduceCtorEq, Nat.mul_one, Int.reduceToNat, Int.reduceLE, Int.reduceLT, Int.reduceAdd, Int.reduceSub, Int.reduceMul, Int.cast_ofNat_Int, cast_zero_int, cast_one_int, Nat.reducePow, Nat.reduceEqDiff, Nat.reduceMod, Nat.zero_add, Nat.sub_zero, Nat.add_zero]
      refine ⟨by kernel_rfl, (c_LogRecordsY (pw.mono (by simp)) D P n hz g).use (fun _ m => m) ?_⟩
      rintro _ _ ⟨⟨v, rfl, sv⟩, ⟨t4, rfl⟩⟩
      rw [hd] at sv
      try simp only [List.append_assoc, List.cons_append] at sv
      simp only [go_sem, Nat.reduceBEq, Nat.reduceAdd, Nat.reduceMul, Nat.reduceSub, Nat.reduceLeDiff, Nat.le_refl, implies_true, Nat.reduceLT, reduceIte, decide_true, decide_false, true_and, and_true, reduceCtorEq, Nat.mul_one, Int.reduceToNat, Int.reduceLE, Int.reduceLT, Int.reduceAdd, Int.reduceSub, Int.reduceMul, Int.cast_ofNat_Int, cast_zero_int, cast_one_int, Nat.reducePow, Nat.reduceEqDiff, Nat.reduceMod, Nat.zero_add, Nat.sub_zero, Nat.add_zero]
      refine ⟨by kernel_rfl, ((c_eqLogRecordS v w d sv.sl (sw.mono (by simp)).sl (by omega)).addG).use (fun _ m => m) ?_⟩
      rintro _ _ ⟨rfl, ⟨t5, rfl⟩⟩
      simp only [go_sem, Nat.reduceBEq, Nat.reduceAdd, Nat.reduceMul, Nat.reduceSub, Nat.reduceLeDiff, Nat.le_refl, implies_true, Nat.reduceLT, reduceIte, decide_true, decide_false, true_and, and_true, reduceCtorEq, Nat.mul_one, Int.reduceToNat, Int.reduceLE, Int.reduceLT, Int.reduceAdd, Int.reduceSub, Int.reduceMul, Int.cast_ofNat_Int, cast_zero_int, cast_one_int, Nat.reducePow, Nat.reduceEqDiff, Nat.reduceMod, Nat.zero_add, Nat.sub_zero, Nat.add_zero, bne_self_eq_false]
      refine ⟨by kernel_rfl, ((c_markLogRecordS v d (sv.mono (by simp)) (fun i a b => Or.inl (by simp at a; omega)) 1 (by omega) (by omega)).addG).use (fun _ m => m) ?_⟩
      rintro _ H1 ⟨rfl, sv1, ag1⟩
      have sw1 := FR.agr (FR.mono sw (h' := _) (by simp)) ag1 (by simp)
      have pw1 : PowAt G H1 := pw.agr (h := _) (by simp) ag1 (by simp)
      have hb : hget H1 h.length = some ⟨[.string D, .string P, .int .i64 n], 3, .rw⟩ := (ag1.2 h.length (by simp) (.inl (by simp))).trans (by simp [hget])
      clear ag1 sv sw
      try simp only [go_sem, Nat.reduceBEq, Nat.reduceAdd, Nat.reduceMul, Nat.reduceSub, Nat.reduceLeDiff, Nat.le_refl, implies_true, Nat.reduceLT, reduceIte, decide_true, decide_false, true_and, and_true, reduceCtorEq, Nat.mul_one, Int.reduceToNat, Int.reduceLE, Int.reduceLT, Int.reduceAdd, Int.reduceSub, Int.reduceMul, Int.cast_ofNat_Int, cast_zero_int, cast_one_int, Nat.reducePow, Nat.reduceEqDiff, Nat.reduceMod, Nat.zero_add, Nat.sub_zero, Nat.add_zero]
      refine ⟨by kernel_rfl, ((c_heldLogRecordS v d.length 1 (by omega) sv1.sl (by omega)).addG).use (fun _ m => m) ?_⟩
      rintro _ _ ⟨rfl, ⟨t6, rfl⟩⟩
      have n1 : ¬ (((1 + 2 * d.length : Nat) : Int) < 0) := by omega
      simp only [go_sem, Nat.reduceBEq, Nat.reduceAdd, Nat.reduceMul, Nat.reduceSub, Nat.reduceLeDiff, Nat.le_refl, implies_true, Nat.reduceLT, reduceIte, decide_true, decide_false, true_and, and_true, reduceCtorEq, Nat.mul_one, Int.reduceToNat, Int.reduceLE, Int.reduceLT, Int.reduceAdd, Int.reduceSub, Int.reduceMul, Int.cast_ofNat_Int, cast_zero_int, cast_one_int, Nat.reducePow, Nat.reduceEqDiff, Nat.reduceMod, Nat.zero_add, Nat.sub_zero, Nat.add_zero, n1, bne_self_eq_false, self_get hb t6]
      refine ⟨by kernel_rfl, ((c_toLog D P n).addG).use (fun _ m => m) ?_⟩
      rintro _ _ ⟨rfl, ⟨t7, rfl⟩⟩
      try simp only [go_sem, Nat.reduceBEq, Nat.reduceAdd, Nat.reduceMul, Nat.reduceSub, Nat.reduceLeDiff, Nat.le_refl, implies_true, Nat.reduceLT, reduceIte, decide_true, decide_false, true_and, and_true, reduceCtorEq, Nat.mul_one, Int.reduceToNat, Int.reduceLE, Int.reduceLT, Int.reduceAdd, Int.reduceSub, Int.reduceMul, Int.cast_ofNat_Int, cast_zero_int, cast_one_int, Nat.reducePow, Nat.reduceEqDiff, Nat.reduceMod, Nat.zero_add, Nat.sub_zero, Nat.add_zero]
      refine ⟨by kernel_rfl, (c_LogRecordsY (pw1.mono (by simp)) D P n hz g).use (fun _ m => m) ?_⟩
      rintro _ _ ⟨⟨v2, rfl, sv2⟩, ⟨t8, rfl⟩⟩
      rw [hd] at sv2
      try simp only [List.append_assoc, List.cons_append] at sv2
      simp only [go_sem, Nat.reduceBEq, Nat.reduceAdd, Nat.reduceMul, Nat.reduceSub, Nat.reduceLeDiff, Nat.le_refl, implies_true, Nat.reduceLT, reduceIte, decide_true, decide_false, true_and, and_true, reduceCtorEq, Nat.mul_one, Int.reduceToNat, Int.reduceLE, Int.reduceLT, Int.reduceAdd, Int.reduceSub, Int.reduceMul, Int.cast_ofNat_Int, cast_zero_int, cast_one_int, Nat.reducePow, Nat.reduceEqDiff, Nat.reduceMod, Nat.zero_add, Nat.sub_zero, Nat.add_zero]
      refine ⟨by kernel_rfl, ((c_eqLogRecordS v2 w d sv2.sl (sw1.mono (by simp)).sl (by omega)).addG).use (fun _ m => m) ?_⟩
      rintro _ _ ⟨rfl, ⟨t9, rfl⟩⟩
      simp only [go_sem, Nat.reduceBEq, Nat.reduceAdd, Nat.reduceMul, Nat.reduceSub, Nat.reduceLeDiff, Nat.le_refl, implies_true, Nat.reduceLT, reduceIte, decide_true, decide_false, true_and, and_true, reduceCtorEq, Nat.mul_one, Int.reduceToNat, Int.reduceLE, Int.reduceLT, Int.reduceAdd, Int.reduceSub, Int.reduceMul, Int.cast_ofNat_Int, cast_zero_int, cast_one_int, Nat.reducePow, Nat.reduceEqDiff, Nat.reduceMod, Nat.zero_add, Nat.sub_zero, Nat.add_zero, bne_self_eq_false]
      refine ⟨by kernel_rfl, ((c_heldLogRecordS v d.length 1 (by omega) (sv1.mono (by simp)).sl (by omega)).addG).use (fun _ m => m) ?_⟩
      rintro _ _ ⟨rfl, ⟨t10, rfl⟩⟩
      simp only [go_sem, Nat.reduceBEq, Nat.reduceAdd, Nat.reduceMul, Nat.reduceSub, Nat.reduceLeDiff, Nat.le_refl, implies_true, Nat.reduceLT, reduceIte, decide_true, decide_false, true_and, and_true, reduceCtorEq, Nat.mul_one, Int.reduceToNat, Int.reduceLE, Int.reduceLT, Int.reduceAdd, Int.reduceSub, Int.reduceMul, Int.cast_ofNat_Int, cast_zero_int, cast_one_int, Nat.reducePow, Nat.reduceEqDiff, Nat.reduceMod, Nat.zero_add, Nat.sub_zero, Nat.add_zero, n1, bne_self_eq_false]
    · refine ⟨by kernel_rfl, ((c_sLogRecordsN D P n hz g).addG).use (fun _ m => m) ?_⟩
      rintro _ _ ⟨⟨a, rfl⟩, ⟨t2, rfl⟩⟩
      simp only [go_sem, Nat.reduceBEq, Nat.reduceAdd, Nat.reduceMul, Nat.reduceSub, Nat.reduceLeDiff, Nat.le_refl, implies_true, Nat.reduceLT, reduceIte, decide_true, decide_false, true_and, and_true, reduceCtorEq, Nat.mul_one, Int.reduceToNat, Int.reduceLE, Int.reduceLT, Int.reduceAdd, Int.reduceSub, Int.reduceMul, Int.cast_ofNat_Int, cast_zero_int, cast_one_int, Nat.reducePow, Nat.reduceEqDiff, Nat.reduceMod, Nat.zero_add, Nat.sub_zero, Nat.add_zero]
      refine ⟨by kernel_rfl, ((c_toLog D P n).addG).use (fun _ m => m) ?_⟩
      rintro _ _ ⟨rfl, ⟨t3, rfl⟩⟩
      try simp only [go_sem, Nat.reduceBEq, Nat.reduceAdd, Nat.reduceMul, Nat.reduceSub, Nat.reduceLeDiff, Nat.le_refl, implies_true, Nat.reduceLT, reduceIte, decide_true, decide_false, true_and, and_true, reduceCtorEq, Nat.mul_one, Int.reduceToNat, Int.reduceLE, Int.reduceLT, Int.reduceAdd, Int.reduceSub, Int.reduceMul, Int.cast_ofNat_Int, cast_zero_int, cast_one_int, Nat.reducePow, Nat.reduceEqDiff, Nat.reduceMod, Nat.zero_add, Nat.sub_zero, Nat.add_zero]
      refine ⟨by kernel_rfl, (c_LogRecordsN (pw.mono (by simp)) D P n hz g).use (fun _ m => m) ?_⟩
      rintro _ _ ⟨rfl, ⟨t4, rfl⟩⟩
      simp only [go_sem, Nat.reduceBEq, Nat.reduceAdd, Nat.reduceMul, Nat.reduceSub, Nat.reduceLeDiff, Nat.le_refl, implies_true, Nat.reduceLT, reduceIte, decide_true, decide_false, true_and, and_true, reduceCtorEq, Nat.mul_one, Int.reduceToNat, Int.reduceLE, Int.reduceLT, Int.reduceAdd, Int.reduceSub, Int.reduceMul, Int.cast_ofNat_Int, cast_zero_int, cast_one_int, Nat.reducePow, Nat.reduceEqDiff, Nat.reduceMod, Nat.zero_add, Nat.sub_zero, Nat.add_zero]
      refine ⟨by kernel_rfl, ((c_eqNil none a).addG).use (fun _ m => m) ?_⟩
      rintro _ _ ⟨rfl, rfl⟩
      simp only [go_sem, Nat.reduceBEq, Nat.reduceAdd, Nat.reduceMul, Nat.reduceSub, Nat.reduceLeDiff, Nat.le_refl, implies_true, Nat.reduceLT, reduceIte, decide_true, decide_false, true_and, and_true, reduceCtorEq, Nat.mul_one, Int.reduceToNat, Int.reduceLE, Int.reduceLT, Int.reduceAdd, Int.reduceSub, Int.reduceMul, Int.cast_ofNat_Int, cast_zero_int, cast_one_int, Nat.reducePow, Nat.reduceEqDiff, Nat.reduceMod, Nat.zero_add, Nat.sub_zero, Nat.add_zero, bne_self_eq_false]
      refine ⟨by kernel_rfl, ((c_markNil none 1).addG).use (fun _ m => m) ?_⟩
      rintro _ _ ⟨rfl, rfl⟩
      try simp only [go_sem, Nat.reduceBEq, Nat.reduceAdd, Nat.reduceMul, Nat.reduceSub, Nat.reduceLeDiff, Nat.le_refl, implies_true, Nat.reduceLT, reduceIte, decide_true, decide_false, true_and, and_true, reduceCtorEq, Nat.mul_one, Int.reduceToNat, Int.reduceLE, Int.reduceLT, Int.reduceAdd, Int.reduceSub, Int.reduceMul, Int.cast_ofNat_Int, cast_zero_int, cast_one_int, Nat.reducePow, Nat.reduceEqDiff, Nat.reduceMod, Nat.zero_add, Nat.sub_zero, Nat.add_zero]
      refine ⟨by kernel_rfl, ((c_heldNil none 1).addG).use (fun _ m => m) ?_⟩
      rintro _ _ ⟨rfl, rfl⟩
      simp only [go_sem, Nat.reduceBEq, Nat.reduceAdd, Nat.reduceMul, Nat.reduceSub, Nat.reduceLeDiff, Nat.le_refl, implies_true, Nat.reduceLT, reduceIte, decide_true, decide_false, true_and, and_true, reduceCtorEq, Nat.mul_one, Int.reduceToNat, Int.reduceLE, Int.reduceLT, Int.reduceAdd, Int.reduceSub, Int.reduceMul, Int.cast_ofNat_Int, cast_zero_int, cast_one_int, Nat.reducePow, Nat.reduceEqDiff, Nat.reduceMod, Nat.zero_add, Nat.sub_zero, Nat.add_zero, bne_self_eq_false]
      refine ⟨by kernel_rfl, ((c_toLog D P n).addG).use (fun _ m => m) ?_⟩
      rintro _ _ ⟨rfl, ⟨t3, rfl⟩⟩
      try simp only [go_sem, Nat.reduceBEq, Nat.reduceAdd, Nat.reduceMul, Nat.reduceSub, Nat.reduceLeDiff, Nat.le_refl, implies_true, Nat.reduceLT, reduceIte, decide_true, decide_false, true_and, and_true, reduceCtorEq, Nat.mul_one, Int.reduceToNat, Int.reduceLE, Int.reduceLT, Int.reduceAdd, Int.reduceSub, Int.reduceMul, Int.cast_ofNat_Int, cast_zero_int, cast_one_int, Nat.reducePow, Nat.reduceEqDiff, Nat.reduceMod, Nat.zero_add, Nat.sub_zero, Nat.add_zero]
      refine ⟨by kernel_rfl, (c_LogRecordsN (pw.mono (by simp)) D P n hz g).use (fun _ m => m) ?_⟩
      rintro _ _ ⟨rfl, ⟨t4, rfl⟩⟩
      simp only [go_sem, Nat.reduceBEq, Nat.reduceAdd, Nat.reduceMul, Nat.reduceSub, Nat.reduceLeDiff, Nat.le_refl, implies_true, Nat.reduceLT, reduceIte, decide_true, decide_false, true_and, and_true, reduceCtorEq, Nat.mul_one, Int.reduceToNat, Int.reduceLE, Int.reduceLT, Int.reduceAdd, Int.reduceSub, Int.reduceMul, Int.cast_ofNat_Int, cast_zero_int, cast_one_int, Nat.reducePow, Nat.reduceEqDiff, Nat.reduceMod, Nat.zero_add, Nat.sub_zero, Nat.add_zero]
      refine ⟨by kernel_rfl, ((c_eqNil none a).addG).use (fun _ m => m) ?_⟩
      rintro _ _ ⟨rfl, rfl⟩
      simp only [go_sem, Nat.reduceBEq, Nat.reduceAdd, Nat.reduceMul, Nat.reduceSub, Nat.reduceLeDiff, Nat.le_refl, implies_true, Nat.reduceLT, reduceIte, decide_true, decide_false, true_and, and_true, reduceCtorEq, Nat.mul_one, Int.reduceToNat, Int.reduceLE, Int.reduceLT, Int.reduceAdd, Int.reduceSub, Int.reduceMul, Int.cast_ofNat_Int, cast_zero_int, cast_one_int, Nat.reducePow, Nat.reduceEqDiff, Nat.reduceMod, Nat.zero_add, Nat.sub_zero, Nat.add_zero, bne_self_eq_false]
      refine ⟨by kernel_rfl, ((c_heldNil none 1).addG).use (fun _ m => m) ?_⟩
      rintro _ _ ⟨rfl, rfl⟩
      simp only [go_sem, Nat.reduceBEq, Nat.reduceAdd, Nat.reduceMul, Nat.reduceSub, Nat.reduceLeDiff, Nat.le_refl, implies_true, Nat.reduceLT, reduceIte, decide_true, decide_false, true_and, and_true, reduceCtorEq, Nat.mul_one, Int.reduceToNat, Int.reduceLE, Int.reduceLT, Int.reduceAdd, Int.reduceSub, Int.reduceMul, Int.cast_ofNat_Int, cast_zero_int, cast_one_int, Nat.reducePow, Nat.reduceEqDiff, Nat.reduceMod, Nat.zero_add, Nat.sub_zero, Nat.add_zero, bne_self_eq_false]
end
theorem a_FnExactLogRecords (h : Heap) (a : List Value) (hp : glH <+: h) (ft : FitsAll h [.struct (.pair .str (.pair .str (.pair (.int .i64) .unit)))] a) : vCall glG Tryd.prog (fun _ => False) 9 a h (fun r _ => r = .bool true) := by
  obtain ⟨v, vs, rfl, f, g⟩ := ft.cons
  obtain rfl := g.nil
  obtain ⟨D, P, n, rfl, hD, hP⟩ := FitV.log f
  exact l_LogRecords (glH_at hp) D P n hD hP
theorem a_FnExactCrashLog (h : Heap) (a : List Value) (hp : glH <+: h) (ft : FitsAll h [.struct (.pair .str (.pair .str (.pair (.int .i64) .unit))), .int .i64, .bool] a) : vCall glG Tryd.prog (fun _ => False) 6 a h (fun r _ => r = .bool true) := by
  obtain ⟨v, vs, rfl, f, g⟩ := ft.cons
  obtain ⟨v2, vs, rfl, f2, g⟩ := g.cons
  obtain ⟨v3, vs, rfl, f3, g⟩ := g.cons
  obtain rfl := g.nil
  obtain ⟨D, P, n, rfl, hD, hP⟩ := FitV.log f
  obtain ⟨k, rfl, _⟩ := f2.int
  obtain ⟨b, rfl⟩ := f3.bool
  exact l_CrashLog (glH_at hp) D P n k b hD hP
end Go.Proofs.YtkogddiefniihaaDoor
