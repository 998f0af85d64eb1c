
/- Logs judged, and what is made of them. No condition. -/
import Derived.Test.YtedidddimikjhaaDoorLogQ
import Derived.Test.YtedidddimikjhaaDoorH3
namespace Go.Proofs.YtedidddimikjhaaDoor
open Go.HH Go.Proofs
set_option linter.unusedSimpArgs false
set_option linter.unusedVariables false

/-- A log's cells. -/
def logV (D P : ByteArray) (n : Int) : Value := .agg #[.string D, .string P, .int .i64 n]
theorem joinDP (D P : ByteArray) (h : D.size + P.size ≤ 9000000) : hBin .add (.string D) (.string P) = some (.string (D ++ P)) := adds (by omega)
theorem hget_add1 {h t : Heap} {b : Blk} {j : Nat} : hget (h ++ b :: t) (h.length + (1 + j)) = t[j]? := by rw [hget_app, Nat.add_comm 1 j, List.getElem?_cons_succ]
theorem ends_at {d : List (BL × BL)} {j : Nat} (h : j < d.length + 1) : ((endsL d).map iv)[j]? = some (.int .i64 (endL 0 (d.take j) : Nat)) := by
  have h2 : j < (endsL d).length := by rw [endsL_len]; exact h
  rw [List.getElem?_map, List.getElem?_eq_getElem h2, endsL_at]; rfl

section
variable {G : List (Nat × Nat)} {h : Heap} {M : Nat → Prop}

theorem c_IsValidLog (pw : PowAt G h) (D P : ByteArray) (n : Int) (hz : D.size + P.size ≤ 9000000) : vCall G Tryd.prog M 21 [.agg #[.string D, .string P, .int .i64 n]] h (fun r h' => r = .bool (decide (logOk (bl D) (bl P) n)) ∧ h <+: h') := by
  have lD := bl_len D
  have lP := bl_len P
  have lDP : (bl D ++ bl P).length = D.size + P.size := by rw [List.length_append, lD, lP]
  refine body_of mo Tryd.func21 rfl (by kernel_rfl) (Nat.le_of_ble_eq_true (by kernel_rfl)) rfl ?_
  simp only [go_sem, Nat.reduceBEq, Nat.reduceAdd, Nat.reduceMul, Nat.reduceSub, Nat.reduceLeDiff, Nat.le_refl, implies_true, Nat.reduceLT, reduceIte, decide_true, decide_false, true_and, and_true, reduceCtorEq, Nat.mul_one, Int.reduceToNat, Int.reduceLE, Int.reduceLT, Int.reduceAdd, Int.reduceSub, Int.reduceMul, Int.cast_ofNat_Int, cast_zero_int, cast_one_int, Nat.reducePow, Nat.reduceEqDiff, Nat.reduceMod, Nat.zero_add, Nat.sub_zero, Nat.add_zero, joinDP D P hz]
  refine ⟨by kernel_rfl, (c_readRecords (pw.mono (by simp)) (D ++ P) (by rw [ByteArray.size_append]; omega)).use (fun _ m => m) ?_⟩
  rintro _ _ ⟨t, j, j2, rfl, rfl, hj, hj2, hne⟩
  rw [bl_app] at hj hj2
  rw [bl_app]
  obtain ⟨d, hd⟩ : ∃ d, d = openL 60 0 (bl D ++ bl P) := ⟨_, rfl⟩
  rw [← hd] at hj hj2
  rw [← hd]
  have eA := ends_at (d := d) (j := d.length) (by omega)
  rw [List.take_length] at eA
  have dl : d.length ≤ 60 := by rw [hd]; exact openL_len 60 0 _
  have b0 : (d.length : Int) < ((d.length + 1 : Nat) : Int) := by omega
  simp only [go_sem, Nat.reduceBEq, Nat.reduceAdd, Nat.reduceMul, Nat.reduceSub, Nat.reduceLeDiff, Nat.le_refl, implies_true, Nat.reduceLT, reduceIte, decide_true, decide_false, true_and, and_true, reduceCtorEq, Nat.mul_one, Int.reduceToNat, Int.reduceLE, Int.reduceLT, Int.reduceAdd, Int.reduceSub, Int.reduceMul, Int.cast_ofNat_Int, cast_zero_int, cast_one_int, Nat.reducePow, Nat.reduceEqDiff, Nat.reduceMod, Nat.zero_add, Nat.sub_zero, Nat.add_zero, hget_one, hj2, eA, Int.toNat_natCast, b0]
  by_cases g1 : endL 0 d = D.size + P.size
  · have ne1 : (((endL 0 d : Nat) : Int) != ((D.size + P.size : Nat) : Int)) = false := by rw [bne_eq_false_iff_eq]; omega
    by_cases g2 : (d.length : Int) = n
    · have ne2 : ((d.length : Int) != n) = false := by rw [g2]; exact bne_self_eq_false _
      simp only [go_sem, Nat.reduceBEq, Nat.reduceAdd, Nat.reduceMul, Nat.reduceSub, Nat.reduceLeDiff, Nat.le_refl, implies_true, Nat.reduceLT, reduceIte, decide_true, decide_false, true_and, and_true, reduceCtorEq, Nat.mul_one, Int.reduceToNat, Int.reduceLE, Int.reduceLT, Int.reduceAdd, Int.reduceSub, Int.reduceMul, Int.cast_ofNat_Int, cast_zero_int, cast_one_int, Nat.reducePow, Nat.reduceEqDiff, Nat.reduceMod, Nat.zero_add, Nat.sub_zero, Nat.add_zero, hget_one, hj2, eA, Int.toNat_natCast, b0, ne1, ne2]
      have okif : logOk (bl D) (bl P) n ↔ ∃ j, j ≤ d.length ∧ endL 0 (d.take j) = (bl D).length := by
        rw [logOk, ← hd, hd, logOk_ends, ← hd, lDP]
        exact ⟨fun hh => hh.2.1, fun hh => ⟨g1, hh, g2⟩⟩
      refine vLoop.count mo (d.length + 1) (fun i e h' => e 33 = .slice (some ⟨h.length + (1 + j2), 0, none⟩) (d.length + 1) 0 ∧ e 34 = .int .i64 (d.length + 1 : Nat) ∧ e 35 = .int .i64 i ∧ e 1 = .pointer (some ⟨h.length, 0, none⟩) ∧
        h' = h ++ ⟨[.string D, .string P, .int .i64 n], 3, .rw⟩ :: t ∧ ∀ k, k < i → endL 0 (d.take k) ≠ (bl D).length) ?_ ?_
      · simp only [go_sem, Nat.reduceBEq, Nat.reduceAdd, Nat.reduceMul, Nat.reduceSub, Nat.reduceLeDiff, Nat.le_refl, implies_true, Nat.reduceLT, reduceIte, decide_true, decide_false, true_and, and_true, reduceCtorEq, Nat.mul_one, Int.reduceToNat, Int.reduceLE, Int.reduceLT, Int.reduceAdd, Int.reduceSub, Int.reduceMul, Int.cast_ofNat_Int, cast_zero_int, cast_one_int, Nat.reducePow, Nat.reduceEqDiff, Nat.reduceMod, Nat.zero_add, Nat.sub_zero, Nat.add_zero]
        exact ⟨by rw [Nat.add_assoc], fun k hk => absurd hk (by omega)⟩
      · rintro i e _ hi ⟨e33, e34, e35, e1, rfl, hno⟩
        simp only [go_sem, Nat.reduceBEq, Nat.reduceAdd, Nat.reduceMul, Nat.reduceSub, Nat.reduceLeDiff, Nat.le_refl, implies_true, Nat.reduceLT, reduceIte, decide_true, decide_false, true_and, and_true, reduceCtorEq, Nat.mul_one, Int.reduceToNat, Int.reduceLE, Int.reduceLT, Int.reduceAdd, Int.reduceSub, Int.reduceMul, Int.cast_ofNat_Int, cast_zero_int, cast_one_int, Nat.reducePow, Nat.reduceEqDiff, Nat.reduceMod, Nat.zero_add, Nat.sub_zero, Nat.add_zero, e33, e34, e35, e1]
        refine .intro (fun h1 => ?_) (fun h1 => ?_)
        · have hlt : i < d.length + 1 := by have := of_decide_eq_true h1; omega
          have hlt2 : (i : Int) < ((d.length + 1 : Nat) : Int) := by omega
          simp only [go_sem, Nat.reduceBEq, Nat.reduceAdd, Nat.reduceMul, Nat.reduceSub, Nat.reduceLeDiff, Nat.le_refl, implies_true, Nat.reduceLT, reduceIte, decide_true, decide_false, true_and, and_true, reduceCtorEq, Nat.mul_one, Int.reduceToNat, Int.reduceLE, Int.reduceLT, Int.reduceAdd, Int.reduceSub, Int.reduceMul, Int.cast_ofNat_Int, cast_zero_int, cast_one_int, Nat.reducePow, Nat.reduceEqDiff, Nat.reduceMod, Nat.zero_add, Nat.sub_zero, Nat.add_zero, e33, e34, e35, e1, hget_add1, hj2, ends_at hlt, hlt2]
          by_cases g3 : endL 0 (d.take i) = D.size
          · have eq3 : (((endL 0 (d.take i) : Nat) : Int) == (D.size : Int)) = true := by rw [g3]; exact beq_self_eq_true _
            simp only [go_sem, Nat.reduceBEq, Nat.reduceAdd, Nat.reduceMul, Nat.reduceSub, Nat.reduceLeDiff, Nat.le_refl, implies_true, Nat.reduceLT, reduceIte, decide_true, decide_false, true_and, and_true, reduceCtorEq, Nat.mul_one, Int.reduceToNat, Int.reduceLE, Int.reduceLT, Int.reduceAdd, Int.reduceSub, Int.reduceMul, Int.cast_ofNat_Int, cast_zero_int, cast_one_int, Nat.reducePow, Nat.reduceEqDiff, Nat.reduceMod, Nat.zero_add, Nat.sub_zero, Nat.add_zero, e33, e34, e35, e1, hget_add1, hj2, ends_at hlt, hlt2, eq3]
            rw [decide_eq_true (okif.2 ⟨i, by omega, by rw [lD]; exact g3⟩)]
            all_goals first | exact rfl | exact ⟨rfl, rfl⟩ | exact List.prefix_append _ _ | exact ⟨rfl, List.prefix_append _ _⟩ | assumption | exact ⟨rfl, by assumption⟩ | exact List.prefix_rfl | exact ⟨rfl, List.prefix_rfl⟩ | exact List.IsPrefix.trans (by assumption) (by assumption) | exact ⟨rfl, List.IsPrefix.trans (by assumption) (by assumption)⟩
          · have eq3 : (((endL 0 (d.take i) : Nat) : Int) == (D.size : Int)) = false := by rw [beq_eq_false_iff_ne]; omega
            simp only [go_sem, Nat.reduceBEq, Nat.reduceAdd, Nat.reduceMul, Nat.reduceSub, Nat.reduceLeDiff, Nat.le_refl, implies_true, Nat.reduceLT, reduceIte, decide_true, decide_false, true_and, and_true, reduceCtorEq, Nat.mul_one, Int.reduceToNat, Int.reduceLE, Int.reduceLT, Int.reduceAdd, Int.reduceSub, Int.reduceMul, Int.cast_ofNat_Int, cast_zero_int, cast_one_int, Nat.reducePow, Nat.reduceEqDiff, Nat.reduceMod, Nat.zero_add, Nat.sub_zero, Nat.add_zero, e33, e34, e35, e1, hget_add1, hj2, ends_at hlt, hlt2, eq3]
            refine ⟨hlt, by rw [wrap64 (by omega)]; rfl, fun k hk => ?_⟩
            rcases Nat.lt_succ_iff_lt_or_eq.1 hk with h2 | rfl
            · exact hno k h2
            · rw [lD]; exact g3
        · obtain rfl : i = d.length + 1 := by have := of_decide_eq_false h1; omega
          simp only [go_sem, Nat.reduceBEq, Nat.reduceAdd, Nat.reduceMul, Nat.reduceSub, Nat.reduceLeDiff, Nat.le_refl, implies_true, Nat.reduceLT, reduceIte, decide_true, decide_false, true_and, and_true, reduceCtorEq, Nat.mul_one, Int.reduceToNat, Int.reduceLE, Int.reduceLT, Int.reduceAdd, Int.reduceSub, Int.reduceMul, Int.cast_ofNat_Int, cast_zero_int, cast_one_int, Nat.reducePow, Nat.reduceEqDiff, Nat.reduceMod, Nat.zero_add, Nat.sub_zero, Nat.add_zero, e33, e34, e35, e1]
          rw [decide_eq_false (fun hh => by obtain ⟨k, k1, k2⟩ := okif.1 hh; exact hno k (by omega) k2)]
          all_goals first | exact rfl | exact ⟨rfl, rfl⟩ | exact List.prefix_append _ _ | exact ⟨rfl, List.prefix_append _ _⟩ | assumption | exact ⟨rfl, by assumption⟩ | exact List.prefix_rfl | exact ⟨rfl, List.prefix_rfl⟩ | exact List.IsPrefix.trans (by assumption) (by assumption) | exact ⟨rfl, List.IsPrefix.trans (by assumption) (by assumption)⟩
    · have ne2 : ((d.length : Int) != n) = true := by rw [bne_iff_ne]; exact g2
      simp only [go_sem, Nat.reduceBEq, Nat.reduceAdd, Nat.reduceMul, Nat.reduceSub, Nat.reduceLeDiff, Nat.le_refl, implies_true, Nat.reduceLT, reduceIte, decide_true, decide_false, true_and, and_true, reduceCtorEq, Nat.mul_one, Int.reduceToNat, Int.reduceLE, Int.reduceLT, Int.reduceAdd, Int.reduceSub, Int.reduceMul, Int.cast_ofNat_Int, cast_zero_int, cast_one_int, Nat.reducePow, Nat.reduceEqDiff, Nat.reduceMod, Nat.zero_add, Nat.sub_zero, Nat.add_zero, hget_one, hj2, eA, Int.toNat_natCast, b0, ne1, ne2]
      rw [decide_eq_false (fun hh => g2 (by rw [logOk, ← hd] at hh; exact hh.2.2))]
      all_goals first | exact rfl | exact ⟨rfl, rfl⟩ | exact List.prefix_append _ _ | exact ⟨rfl, List.prefix_append _ _⟩ | assumption | exact ⟨rfl, by assumption⟩ | exact List.prefix_rfl | exact ⟨rfl, List.prefix_rfl⟩ | exact List.IsPrefix.trans (by assumption) (by assumption) | exact ⟨rfl, List.IsPrefix.trans (by assumption) (by assumption)⟩
  · have ne1 : (((endL 0 d : Nat) : Int) != ((D.size + P.size : Nat) : Int)) = true := by rw [bne_iff_ne]; omega
    simp only [go_sem, Nat.reduceBEq, Nat.reduceAdd, Nat.reduceMul, Nat.reduceSub, Nat.reduceLeDiff, Nat.le_refl, implies_true, Nat.reduceLT, reduceIte, decide_true, decide_false, true_and, and_true, reduceCtorEq, Nat.mul_one, Int.reduceToNat, Int.reduceLE, Int.reduceLT, Int.reduceAdd, Int.reduceSub, Int.reduceMul, Int.cast_ofNat_Int, cast_zero_int, cast_one_int, Nat.reducePow, Nat.reduceEqDiff, Nat.reduceMod, Nat.zero_add, Nat.sub_zero, Nat.add_zero, hget_one, hj2, eA, Int.toNat_natCast, b0, ne1]
    rw [decide_eq_false (fun hh => g1 (by rw [logOk, ← hd, lDP] at hh; exact hh.1))]
    all_goals first | exact rfl | exact ⟨rfl, rfl⟩ | exact List.prefix_append _ _ | exact ⟨rfl, List.prefix_append _ _⟩ | assumption | exact ⟨rfl, by assumption⟩ | exact List.prefix_rfl | exact ⟨rfl, List.prefix_rfl⟩ | exact List.IsPrefix.trans (by assumption) (by assumption) | exact ⟨rfl, List.IsPrefix.trans (by assumption) (by assumption)⟩

set_option maxRecDepth 100000 in
theorem c_l27Log (D P : ByteArray) (n : Int) (hz : D.size + P.size ≤ 9000000) : vCall [] Tryd.prog M 32 [.agg #[.string D, .string P, .int .i64 n]] h (fun r h' => r = .bool (decide (logOk (bl D) (bl P) n)) ∧ h <+: h') := by
  have lD := bl_len D
  have lP := bl_len P
  have lDP : (bl D ++ bl P).length = D.size + P.size := by rw [List.length_append, lD, lP]
  have w1 : IntKind.i64.wrap ((D.size : Int) + P.size) = ((D.size + P.size : Nat) : Int) := by rw [wrap64 (by omega)]; omega
  refine body_of mo Tryd.func32 rfl (by kernel_rfl) (Nat.le_of_ble_eq_true (by kernel_rfl)) rfl ?_
  simp only [go_sem, Nat.reduceBEq, Nat.reduceAdd, Nat.reduceMul, Nat.reduceSub, Nat.reduceLeDiff, Nat.le_refl, implies_true, Nat.reduceLT, reduceIte, decide_true, decide_false, true_and, and_true, reduceCtorEq, Nat.mul_one, Int.reduceToNat, Int.reduceLE, Int.reduceLT, Int.reduceAdd, Int.reduceSub, Int.reduceMul, Int.cast_ofNat_Int, cast_zero_int, cast_one_int, Nat.reducePow, Nat.reduceEqDiff, Nat.reduceMod, Nat.zero_add, Nat.sub_zero, Nat.add_zero, joinDP D P hz, w1]
  by_cases g0 : 30000 < D.size + P.size
  · simp only [go_sem, Nat.reduceBEq, Nat.reduceAdd, Nat.reduceMul, Nat.reduceSub, Nat.reduceLeDiff, Nat.le_refl, implies_true, Nat.reduceLT, reduceIte, decide_true, decide_false, true_and, and_true, reduceCtorEq, Nat.mul_one, Int.reduceToNat, Int.reduceLE, Int.reduceLT, Int.reduceAdd, Int.reduceSub, Int.reduceMul, Int.cast_ofNat_Int, cast_zero_int, cast_one_int, Nat.reducePow, Nat.reduceEqDiff, Nat.reduceMod, Nat.zero_add, Nat.sub_zero, Nat.add_zero, joinDP D P hz, w1, show (30000 : Int) < ((D.size + P.size : Nat) : Int) by omega]
    rw [decide_eq_false (fun hh => by have := logOk_small hh.1; rw [lDP] at this; omega)]
    all_goals first | exact rfl | exact ⟨rfl, rfl⟩ | exact List.prefix_append _ _ | exact ⟨rfl, List.prefix_append _ _⟩ | assumption | exact ⟨rfl, by assumption⟩ | exact List.prefix_rfl | exact ⟨rfl, List.prefix_rfl⟩ | exact List.IsPrefix.trans (by assumption) (by assumption) | exact ⟨rfl, List.IsPrefix.trans (by assumption) (by assumption)⟩
  · simp only [go_sem, Nat.reduceBEq, Nat.reduceAdd, Nat.reduceMul, Nat.reduceSub, Nat.reduceLeDiff, Nat.le_refl, implies_true, Nat.reduceLT, reduceIte, decide_true, decide_false, true_and, and_true, reduceCtorEq, Nat.mul_one, Int.reduceToNat, Int.reduceLE, Int.reduceLT, Int.reduceAdd, Int.reduceSub, Int.reduceMul, Int.cast_ofNat_Int, cast_zero_int, cast_one_int, Nat.reducePow, Nat.reduceEqDiff, Nat.reduceMod, Nat.zero_add, Nat.sub_zero, Nat.add_zero, joinDP D P hz, w1, show ¬ (30000 : Int) < ((D.size + P.size : Nat) : Int) by omega]
    refine ⟨by kernel_rfl, (c_l27Open (D ++ P) (by rw [ByteArray.size_append]; omega)).use (fun _ m => m) ?_⟩
    rintro _ _ ⟨t, j, rfl, rfl, hj⟩
    rw [bl_app]
    obtain ⟨d, hd⟩ : ∃ d, d = openL 60 0 (bl D ++ bl P) := ⟨_, rfl⟩
    rw [← hd]
    simp only [go_sem, Nat.reduceBEq, Nat.reduceAdd, Nat.reduceMul, Nat.reduceSub, Nat.reduceLeDiff, Nat.le_refl, implies_true, Nat.reduceLT, reduceIte, decide_true, decide_false, true_and, and_true, reduceCtorEq, Nat.mul_one, Int.reduceToNat, Int.reduceLE, Int.reduceLT, Int.reduceAdd, Int.reduceSub, Int.reduceMul, Int.cast_ofNat_Int, cast_zero_int, cast_one_int, Nat.reducePow, Nat.reduceEqDiff, Nat.reduceMod, Nat.zero_add, Nat.sub_zero, Nat.add_zero, joinDP D P hz, w1]
    refine ⟨by kernel_rfl, (c_l27Open D (by omega)).use (fun _ m => m) ?_⟩
    rintro _ _ ⟨t2, j2, rfl, rfl, hj2⟩
    obtain ⟨d2, hd2⟩ : ∃ d2, d2 = openL 60 0 (bl D) := ⟨_, rfl⟩
    rw [← hd2]
    have ok : logOk (bl D) (bl P) n ↔ endL 0 d = D.size + P.size ∧ endL 0 d2 = D.size ∧ (d.length : Int) = n := by rw [logOk, ← hd, ← hd2, lDP, lD]
    by_cases g1 : endL 0 d = D.size + P.size
    · have q1 : (((endL 0 d : Nat) : Int) == ((D.size + P.size : Nat) : Int)) = true := by rw [g1]; exact beq_self_eq_true _
      by_cases g2 : endL 0 d2 = D.size
      · have q2 : (((endL 0 d2 : Nat) : Int) == (D.size : Int)) = true := by rw [g2]; exact beq_self_eq_true _
        simp only [go_sem, Nat.reduceBEq, Nat.reduceAdd, Nat.reduceMul, Nat.reduceSub, Nat.reduceLeDiff, Nat.le_refl, implies_true, Nat.reduceLT, reduceIte, decide_true, decide_false, true_and, and_true, reduceCtorEq, Nat.mul_one, Int.reduceToNat, Int.reduceLE, Int.reduceLT, Int.reduceAdd, Int.reduceSub, Int.reduceMul, Int.cast_ofNat_Int, cast_zero_int, cast_one_int, Nat.reducePow, Nat.reduceEqDiff, Nat.reduceMod, Nat.zero_add, Nat.sub_zero, Nat.add_zero, joinDP D P hz, w1, q1, q2]
        have : (decide (logOk (bl D) (bl P) n)) = ((d.length : Int) == n) := by
          rw [Bool.eq_iff_iff, decide_eq_true_iff, beq_iff_eq, ok]
          exact ⟨fun hh => hh.2.2, fun hh => ⟨g1, g2, hh⟩⟩
        rw [this]
        try all_goals first | exact rfl | exact ⟨rfl, rfl⟩ | exact List.prefix_append _ _ | exact ⟨rfl, List.prefix_append _ _⟩ | assumption | exact ⟨rfl, by assumption⟩ | exact List.prefix_rfl | exact ⟨rfl, List.prefix_rfl⟩ | exact List.IsPrefix.trans (by assumption) (by assumption) | exact ⟨rfl, List.IsPrefix.trans (by assumption) (by assumption)⟩
      · have q2 : (((endL 0 d2 : Nat) : Int) == (D.size : Int)) = false := by rw [beq_eq_false_iff_ne]; omega
        simp only [go_sem, Nat.reduceBEq, Nat.reduceAdd, Nat.reduceMul, Nat.reduceSub, Nat.reduceLeDiff, Nat.le_refl, implies_true, Nat.reduceLT, reduceIte, decide_true, decide_false, true_and, and_true, reduceCtorEq, Nat.mul_one, Int.reduceToNat, Int.reduceLE, Int.reduceLT, Int.reduceAdd, Int.reduceSub, Int.reduceMul, Int.cast_ofNat_Int, cast_zero_int, cast_one_int, Nat.reducePow, Nat.reduceEqDiff, Nat.reduceMod, Nat.zero_add, Nat.sub_zero, Nat.add_zero, joinDP D P hz, w1, q1, q2]
        rw [decide_eq_false (fun hh => g2 (ok.1 hh).2.1)]
        try all_goals first | exact rfl | exact ⟨rfl, rfl⟩ | exact List.prefix_append _ _ | exact ⟨rfl, List.prefix_append _ _⟩ | assumption | exact ⟨rfl, by assumption⟩ | exact List.prefix_rfl | exact ⟨rfl, List.prefix_rfl⟩ | exact List.IsPrefix.trans (by assumption) (by assumption) | exact ⟨rfl, List.IsPrefix.trans (by assumption) (by assumption)⟩
    · have q1 : (((endL 0 d : Nat) : Int) == ((D.size + P.size : Nat) : Int)) = false := by rw [beq_eq_false_iff_ne]; omega
      simp only [go_sem, Nat.reduceBEq, Nat.reduceAdd, Nat.reduceMul, Nat.reduceSub, Nat.reduceLeDiff, Nat.le_refl, implies_true, Nat.reduceLT, reduceIte, decide_true, decide_false, true_and, and_true, reduceCtorEq, Nat.mul_one, Int.reduceToNat, Int.reduceLE, Int.reduceLT, Int.reduceAdd, Int.reduceSub, Int.reduceMul, Int.cast_ofNat_Int, cast_zero_int, cast_one_int, Nat.reducePow, Nat.reduceEqDiff, Nat.reduceMod, Nat.zero_add, Nat.sub_zero, Nat.add_zero, joinDP D P hz, w1, q1]
      rw [decide_eq_false (fun hh => g1 (ok.1 hh).1)]
      try all_goals first | exact rfl | exact ⟨rfl, rfl⟩ | exact List.prefix_append _ _ | exact ⟨rfl, List.prefix_append _ _⟩ | assumption | exact ⟨rfl, by assumption⟩ | exact List.prefix_rfl | exact ⟨rfl, List.prefix_rfl⟩ | exact List.IsPrefix.trans (by assumption) (by assumption) | exact ⟨rfl, List.IsPrefix.trans (by assumption) (by assumption)⟩

/-- What both programs return. -/
def encV (k : Int) (c r : ByteArray) : Value := if (0 ≤ k ∧ k ≤ 59) ∧ recOk c r = true then .tuple #[.string (mkB (lineL k.toNat (bl c) (bl r) ++ [10])), .bool true] else .tuple #[.string ⟨#[]⟩, .bool false]
def recoV (s : ByteArray) : Value := if s.size ≤ 30000 then .tuple #[.agg #[.string (s.extract 0 (endL 0 (openL 60 0 (bl s)))), .string ⟨#[]⟩, .int .i64 (openL 60 0 (bl s)).length], .int .i64 (endL 0 (openL 60 0 (bl s)) : Nat), .bool true]
  else .tuple #[.agg #[.string ⟨#[]⟩, .string ⟨#[]⟩, .int .i64 0], .int .i64 0, .bool false]
theorem end_le (s : ByteArray) : endL 0 (openL 60 0 (bl s)) ≤ s.size := by
  have := (endL_le 60 0 (bl s) (by omega)).2
  rwa [bl_len] at this
def syncV (D P : ByteArray) (n : Int) : Value := if logOk (bl D) (bl P) n then .tuple #[.agg #[.string (D ++ P), .string ⟨#[]⟩, .int .i64 n], .bool true] else .tuple #[.agg #[.string ⟨#[]⟩, .string ⟨#[]⟩, .int .i64 0], .bool false]
theorem logOk_count {D P : BL} {n : Int} (h : logOk D P n) : 0 ≤ n ∧ n ≤ 60 := by
  have h1 := h.2.2
  have h2 := openL_len 60 0 (D ++ P)
  omega
def appV (D P : ByteArray) (n : Int) (c r : ByteArray) : Value := if logOk (bl D) (bl P) n ∧ recOk c r = true then (if n = 60 then .tuple #[.agg #[.string D, .string P, .int .i64 n], .int .i64 2]
  else .tuple #[.agg #[.string D, .string (P ++ mkB (lineL n.toNat (bl c) (bl r) ++ [10])), .int .i64 (n + 1)], .int .i64 0]) else .tuple #[.agg #[.string D, .string P, .int .i64 n], .int .i64 1]
theorem line_add (P : ByteArray) (k : Nat) (c r : ByteArray) (hk : k < 100) (g : recOk c r = true) (hP : P.size ≤ 9000000) : hBin .add (.string P) (.string (mkB (lineL k (bl c) (bl r) ++ [10]))) = some (.string (P ++ mkB (lineL k (bl c) (bl r) ++ [10]))) := by
  rw [recOk_L] at g
  have := lineL_len g hk
  exact adds (by rw [mkB_size, List.length_append, List.length_singleton]; omega)
end
end Go.Proofs.YtedidddimikjhaaDoor
