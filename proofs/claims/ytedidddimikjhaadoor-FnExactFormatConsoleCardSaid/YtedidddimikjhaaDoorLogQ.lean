
/- The log read by the other program. No condition. -/
import Derived.Test.YtedidddimikjhaaDoorLogR
import Derived.Test.YtedidddimikjhaaDoorH3
namespace Go.Proofs.YtedidddimikjhaaDoor
open Go.HH Go.Proofs
set_option linter.unusedSimpArgs false
set_option linter.unusedVariables false

theorem pre_iff {p l : BL} : (l.length < p.length ∨ l.take p.length ≠ p) ↔ ¬ p <+: l := by
  rw [List.prefix_iff_eq_take]
  constructor
  · rintro (h | h) e
    · have := congrArg List.length e
      rw [List.length_take] at this
      omega
    · exact h e.symm
  · intro h
    exact .inr fun e => h e.symm
theorem hget_one {h t : Heap} {b : Blk} {j : Nat} : hget (h ++ b :: t) (h.length + 1 + j) = t[j]? := by rw [Nat.add_assoc, hget_app, Nat.add_comm 1 j, List.getElem?_cons_succ]
theorem hget_two {h t t2 : Heap} {b : Blk} {j : Nat} : hget (h ++ b :: (t ++ t2)) (h.length + (t.length + 1) + j) = t2[j]? := by
  rw [Nat.add_assoc, hget_app, show t.length + 1 + j = (t.length + j) + 1 by omega, List.getElem?_cons_succ, List.getElem?_append_right (by omega), Nat.add_sub_cancel_left]
theorem hget_mid {h t t2 : Heap} {j : Nat} : hget (h ++ (t ++ t2)) (h.length + t.length + j) = t2[j]? := by
  rw [Nat.add_assoc, hget_app, List.getElem?_append_right (by omega), Nat.add_sub_cancel_left]
theorem hget_setmid {h t t2 y z : Heap} {j j2 : Nat} {b K : Blk} (hj : j < t.length) (hj2 : t2[j2]? = some K) : hget (h ++ ((t ++ (t2 ++ y)).set j b ++ z)) (h.length + t.length + j2) = some K := by
  have h2 := (List.getElem?_eq_some_iff.1 hj2).1
  rw [Nat.add_assoc, hget_app, List.getElem?_append_left (by simp; omega), List.getElem?_set_ne (by omega), List.getElem?_append_right (by omega), Nat.add_sub_cancel_left, List.getElem?_append_left h2, hj2]
theorem strsV_head {x : BL} {r : List BL} : (strsV (x :: r))[0]? = some (.string (mkB x)) := rfl

section
variable {G : List (Nat × Nat)} {h : Heap} {M : Nat → Prop}

set_option maxRecDepth 100000 in
theorem c_l27Read (s : ByteArray) (k : Nat) (hk : k ≤ 60) (hs : s.size ≤ 1000000) : vCall [] Tryd.prog M 58 [.string s, .int .i64 k] h
    (fun v h' => ∃ c r, v = .tuple #[.agg #[.string (mkB c), .string (mkB r)], .bool (readL k (bl s)).isSome] ∧ (∀ e, readL k (bl s) = some e → e = (c, r)) ∧ h <+: h') := by
  have hbl := bl_len s
  have nk := num_size 2 k (by omega) (by omega)
  have s1 : (⟨#[32]⟩ : ByteArray).size = 1 := rfl
  obtain ⟨ahead, ha⟩ : ∃ ahead, ahead = num k ++ ⟨#[32]⟩ := ⟨_, rfl⟩
  have a1 : hBin .add (.string (num k)) (.string ⟨#[32]⟩) = some (.string ahead) := by rw [ha]; exact adds (by omega)
  have za : ahead.size ≤ 3 := by rw [ha, ByteArray.size_append]; omega
  have bla : bl ahead = Lib.decDigits k ++ [32] := by rw [ha, bl_app, bl_num]; rfl
  obtain ⟨r1, p1, p2⟩ := splitL_head (bl s) 35
  obtain ⟨text, ht⟩ : ∃ text, cutA (bl s) 35 = text := ⟨_, rfl⟩
  have l1 := cutA_le (bl s) 35
  rw [ht] at p1 l1
  have lah := bl_len ahead
  refine body_of mo Tryd.func58 rfl (by kernel_rfl) (Nat.le_of_ble_eq_true (by kernel_rfl)) rfl ?_
  simp only [go_sem, Nat.reduceBEq, Nat.reduceAdd, Nat.reduceMul, Nat.reduceSub, Nat.reduceLeDiff, Nat.le_refl, implies_true, Nat.reduceLT, reduceIte, decide_true, decide_false, true_and, and_true, reduceCtorEq, Nat.mul_one, Int.reduceToNat, Int.reduceLE, Int.reduceLT, Int.reduceAdd, Int.reduceSub, Int.reduceMul, Int.cast_ofNat_Int, cast_zero_int, cast_one_int, Nat.reducePow, Nat.reduceEqDiff, Nat.reduceMod, Nat.zero_add, Nat.sub_zero, Nat.add_zero]
  refine ⟨by kernel_rfl, (c_l1Num k (by omega)).use (fun _ m => m) ?_⟩
  rintro _ _ ⟨rfl, rfl⟩
  simp only [go_sem, Nat.reduceBEq, Nat.reduceAdd, Nat.reduceMul, Nat.reduceSub, Nat.reduceLeDiff, Nat.le_refl, implies_true, Nat.reduceLT, reduceIte, decide_true, decide_false, true_and, and_true, reduceCtorEq, Nat.mul_one, Int.reduceToNat, Int.reduceLE, Int.reduceLT, Int.reduceAdd, Int.reduceSub, Int.reduceMul, Int.cast_ofNat_Int, cast_zero_int, cast_one_int, Nat.reducePow, Nat.reduceEqDiff, Nat.reduceMod, Nat.zero_add, Nat.sub_zero, Nat.add_zero, a1]
  refine ⟨by kernel_rfl, (c_l1Split s 35 (by omega)).use (fun _ m => m) ?_⟩
  rintro _ _ ⟨t, j, rfl, rfl, hj⟩
  rw [p1] at hj
  rw [p1]
  simp only [go_sem, Nat.reduceBEq, Nat.reduceAdd, Nat.reduceMul, Nat.reduceSub, Nat.reduceLeDiff, Nat.le_refl, implies_true, Nat.reduceLT, reduceIte, decide_true, decide_false, true_and, and_true, reduceCtorEq, Nat.mul_one, Int.reduceToNat, Int.reduceLE, Int.reduceLT, Int.reduceAdd, Int.reduceSub, Int.reduceMul, Int.cast_ofNat_Int, cast_zero_int, cast_one_int, Nat.reducePow, Nat.reduceEqDiff, Nat.reduceMod, Nat.zero_add, Nat.sub_zero, Nat.add_zero, hget_one, hj, strsV_len, strsV_head, mkB_size]
  refine ⟨by omega, ?_⟩
  have b0 : (0 : Int) ≤ (ahead.size : Int) := by omega
  by_cases g2 : bl ahead <+: text
  · obtain ⟨rest, hrest⟩ := id g2
    have lt2 := congrArg List.length hrest
    rw [List.length_append] at lt2
    have g1 : ¬ ((text.length : Int) < ahead.size) := by omega
    have g3 : ahead.size ≤ text.length := by omega
    have ex1 : (mkB text).extract 0 ahead.size = ahead := by
      apply bl_ext; rw [bl_extract, bl_mkB, ← hrest, ← lah]; simp
    have ex2 : (mkB text).extract ahead.size text.length = mkB rest := by
      apply bl_ext; rw [bl_extract, bl_mkB, bl_mkB, List.take_length, ← hrest, ← lah]; simp
    have hhead : cutA (bl s) 35 = Lib.decDigits k ++ [32] ++ rest := by rw [ht, ← hrest, bla]
    obtain ⟨r2, p3, p4⟩ := splitL_head rest 64
    have l4 := cutA_le rest 64
    simp only [go_sem, Nat.reduceBEq, Nat.reduceAdd, Nat.reduceMul, Nat.reduceSub, Nat.reduceLeDiff, Nat.le_refl, implies_true, Nat.reduceLT, reduceIte, decide_true, decide_false, true_and, and_true, reduceCtorEq, Nat.mul_one, Int.reduceToNat, Int.reduceLE, Int.reduceLT, Int.reduceAdd, Int.reduceSub, Int.reduceMul, Int.cast_ofNat_Int, cast_zero_int, cast_one_int, Nat.reducePow, Nat.reduceEqDiff, Nat.reduceMod, Nat.zero_add, Nat.sub_zero, Nat.add_zero, hget_one, hj, strsV_len, strsV_head, mkB_size, g1, g3, ex1, beq_self_eq_true, Bool.not_true, ex2]
    refine ⟨by omega, ?_⟩
    refine ⟨by kernel_rfl, (c_l1Split (mkB rest) 64 (by rw [mkB_size]; omega)).use (fun _ m => m) ?_⟩
    rintro _ _ ⟨t2, j2, rfl, rfl, hj2⟩
    rw [bl_mkB, p3] at hj2
    rw [bl_mkB, p3]
    by_cases g4 : 64 ∈ rest
    · have l5 := cut_len g4
      have ne4 : (((cutA rest 64).length : Int) == rest.length) = false := by rw [beq_eq_false_iff_ne]; omega
      have e1 : IntKind.i64.wrap (((cutA rest 64).length : Int) + 1) = (((cutA rest 64).length + 1 : Nat) : Int) := by rw [wrap64 (by omega)]; omega
      have ex3 : (mkB rest).extract ((cutA rest 64).length + 1) rest.length = mkB (cutB rest 64) := by
        have := cutB_extract (s := mkB rest) (c := 64) g4
        rwa [mkB_size] at this
      have b1 : (0 : Int) ≤ (((cutA rest 64).length + 1 : Nat) : Int) := by omega
      obtain ⟨c, hc⟩ : ∃ c, c = cutA rest 64 := ⟨_, rfl⟩
      obtain ⟨r, hr⟩ : ∃ r, r = cutB rest 64 := ⟨_, rfl⟩
      have rd := readL_head hhead
      rw [← hc, ← hr] at rd
      rw [← hr] at ex3 l5
      rw [← hc] at hj2 l5 ne4 e1 ex3 b1 l4
      rw [← hc]
      simp only [go_sem, Nat.reduceBEq, Nat.reduceAdd, Nat.reduceMul, Nat.reduceSub, Nat.reduceLeDiff, Nat.le_refl, implies_true, Nat.reduceLT, reduceIte, decide_true, decide_false, true_and, and_true, reduceCtorEq, Nat.mul_one, Int.reduceToNat, Int.reduceLE, Int.reduceLT, Int.reduceAdd, Int.reduceSub, Int.reduceMul, Int.cast_ofNat_Int, cast_zero_int, cast_one_int, Nat.reducePow, Nat.reduceEqDiff, Nat.reduceMod, Nat.zero_add, Nat.sub_zero, Nat.add_zero, hget_two, hj2, strsV_len, strsV_head, mkB_size, ne4, e1, ex3, b1, Int.toNat_natCast]
      refine ⟨by omega, by omega, ?_⟩
      refine ⟨by kernel_rfl, (c_l27Good (mkB c) (mkB r) (by rw [mkB_size]; omega) (by rw [mkB_size]; omega)).use (fun _ m => m) ?_⟩
      rintro _ _ ⟨rfl, ⟨t3, rfl⟩⟩
      rw [recOk_mk]
      cases g5 : okL c r
      · have no : readL k (bl s) = none := by rw [rd, if_neg (by simp [g5])]
        simp only [go_sem, Nat.reduceBEq, Nat.reduceAdd, Nat.reduceMul, Nat.reduceSub, Nat.reduceLeDiff, Nat.le_refl, implies_true, Nat.reduceLT, reduceIte, decide_true, decide_false, true_and, and_true, reduceCtorEq, Nat.mul_one, Int.reduceToNat, Int.reduceLE, Int.reduceLT, Int.reduceAdd, Int.reduceSub, Int.reduceMul, Int.cast_ofNat_Int, cast_zero_int, cast_one_int, Nat.reducePow, Nat.reduceEqDiff, Nat.reduceMod, Nat.zero_add, Nat.sub_zero, Nat.add_zero, g5]
        exact ⟨c, r, by rw [no]; rfl, fun e he => by rw [no] at he; cases he⟩
      · simp only [go_sem, Nat.reduceBEq, Nat.reduceAdd, Nat.reduceMul, Nat.reduceSub, Nat.reduceLeDiff, Nat.le_refl, implies_true, Nat.reduceLT, reduceIte, decide_true, decide_false, true_and, and_true, reduceCtorEq, Nat.mul_one, Int.reduceToNat, Int.reduceLE, Int.reduceLT, Int.reduceAdd, Int.reduceSub, Int.reduceMul, Int.cast_ofNat_Int, cast_zero_int, cast_one_int, Nat.reducePow, Nat.reduceEqDiff, Nat.reduceMod, Nat.zero_add, Nat.sub_zero, Nat.add_zero, g5]
        refine ⟨by kernel_rfl, (c_l27Line k (mkB c) (mkB r) (by omega) (by rw [recOk_mk]; exact g5)).use (fun _ m => m) ?_⟩
        rintro _ _ ⟨rfl, ⟨t4, rfl⟩⟩
        have a2 : hBin .add (.string s) (.string ⟨#[10]⟩) = some (.string (mkB (bl s ++ [10]))) := by
          rw [← nlB, mkB_bl]
          refine adds ?_
          have : (⟨#[10]⟩ : ByteArray).size = 1 := rfl
          omega
        by_cases g6 : lineL k c r = bl s
        · have e5 : (mkB (lineL k c r ++ [10])).toList == (mkB (bl s ++ [10])).toList := by rw [g6]; exact beq_self_eq_true _
          have yes : readL k (bl s) = some (c, r) := by rw [rd, if_pos ⟨g5, g6⟩]
          simp only [go_sem, Nat.reduceBEq, Nat.reduceAdd, Nat.reduceMul, Nat.reduceSub, Nat.reduceLeDiff, Nat.le_refl, implies_true, Nat.reduceLT, reduceIte, decide_true, decide_false, true_and, and_true, reduceCtorEq, Nat.mul_one, Int.reduceToNat, Int.reduceLE, Int.reduceLT, Int.reduceAdd, Int.reduceSub, Int.reduceMul, Int.cast_ofNat_Int, cast_zero_int, cast_one_int, Nat.reducePow, Nat.reduceEqDiff, Nat.reduceMod, Nat.zero_add, Nat.sub_zero, Nat.add_zero, g5, bl_mkB, a2, e5]
          exact ⟨c, r, by rw [yes]; rfl, fun e he => by rw [yes] at he; cases he; rfl⟩
        · have e5 : ((mkB (lineL k c r ++ [10])).toList == (mkB (bl s ++ [10])).toList) = false := by
            rw [toList_eq]
            refine decide_eq_false fun hh => g6 ?_
            exact List.append_cancel_right (mkB_inj.1 hh)
          have no : readL k (bl s) = none := by rw [rd, if_neg (fun hh => g6 hh.2)]
          simp only [go_sem, Nat.reduceBEq, Nat.reduceAdd, Nat.reduceMul, Nat.reduceSub, Nat.reduceLeDiff, Nat.le_refl, implies_true, Nat.reduceLT, reduceIte, decide_true, decide_false, true_and, and_true, reduceCtorEq, Nat.mul_one, Int.reduceToNat, Int.reduceLE, Int.reduceLT, Int.reduceAdd, Int.reduceSub, Int.reduceMul, Int.cast_ofNat_Int, cast_zero_int, cast_one_int, Nat.reducePow, Nat.reduceEqDiff, Nat.reduceMod, Nat.zero_add, Nat.sub_zero, Nat.add_zero, g5, bl_mkB, a2, e5]
          exact ⟨c, r, by rw [no]; rfl, fun e he => by rw [no] at he; cases he⟩
    · rw [cutA_miss g4] at hj2
      rw [cutA_miss g4]
      simp only [go_sem, Nat.reduceBEq, Nat.reduceAdd, Nat.reduceMul, Nat.reduceSub, Nat.reduceLeDiff, Nat.le_refl, implies_true, Nat.reduceLT, reduceIte, decide_true, decide_false, true_and, and_true, reduceCtorEq, Nat.mul_one, Int.reduceToNat, Int.reduceLE, Int.reduceLT, Int.reduceAdd, Int.reduceSub, Int.reduceMul, Int.cast_ofNat_Int, cast_zero_int, cast_one_int, Nat.reducePow, Nat.reduceEqDiff, Nat.reduceMod, Nat.zero_add, Nat.sub_zero, Nat.add_zero, hget_two, hj2, strsV_len, strsV_head, mkB_size, beq_self_eq_true]
      have no := readL_no_at hhead g4
      exact ⟨by omega, [], [], by rw [no]; rfl, fun e he => by rw [no] at he; cases he⟩
  · have no : readL k (bl s) = none := readL_no_head (by rw [ht, ← bla]; exact g2)
    by_cases g1 : text.length < ahead.size
    · simp only [go_sem, Nat.reduceBEq, Nat.reduceAdd, Nat.reduceMul, Nat.reduceSub, Nat.reduceLeDiff, Nat.le_refl, implies_true, Nat.reduceLT, reduceIte, decide_true, decide_false, true_and, and_true, reduceCtorEq, Nat.mul_one, Int.reduceToNat, Int.reduceLE, Int.reduceLT, Int.reduceAdd, Int.reduceSub, Int.reduceMul, Int.cast_ofNat_Int, cast_zero_int, cast_one_int, Nat.reducePow, Nat.reduceEqDiff, Nat.reduceMod, Nat.zero_add, Nat.sub_zero, Nat.add_zero, hget_one, hj, strsV_len, strsV_head, mkB_size, show ((text.length : Int) < ahead.size) by omega]
      exact ⟨[], [], by rw [no]; rfl, fun e he => by rw [no] at he; cases he⟩
    · have ne : (((mkB text).extract 0 ahead.size).toList == ahead.toList) = false := by
        rw [toList_eq]
        refine decide_eq_false fun hh => g2 ?_
        have := congrArg bl hh
        rw [bl_extract, bl_mkB, List.drop_zero] at this
        rw [List.prefix_iff_eq_take, lah]; exact this.symm
      simp only [go_sem, Nat.reduceBEq, Nat.reduceAdd, Nat.reduceMul, Nat.reduceSub, Nat.reduceLeDiff, Nat.le_refl, implies_true, Nat.reduceLT, reduceIte, decide_true, decide_false, true_and, and_true, reduceCtorEq, Nat.mul_one, Int.reduceToNat, Int.reduceLE, Int.reduceLT, Int.reduceAdd, Int.reduceSub, Int.reduceMul, Int.cast_ofNat_Int, cast_zero_int, cast_one_int, Nat.reducePow, Nat.reduceEqDiff, Nat.reduceMod, Nat.zero_add, Nat.sub_zero, Nat.add_zero, hget_one, hj, strsV_len, strsV_head, mkB_size, show ¬ ((text.length : Int) < ahead.size) by omega, show ahead.size ≤ text.length by omega, ne, Bool.not_false]
      exact ⟨by omega, [], [], by rw [no]; rfl, fun e he => by rw [no] at he; cases he⟩

set_option maxRecDepth 100000 in
theorem c_l27Open (s : ByteArray) (hs : s.size ≤ 100000) : vCall [] Tryd.prog M 48 [.string s] h
    (fun r h' => ∃ t j, r = .tuple #[.slice (some ⟨h.length + j, 0, none⟩) (openL 60 0 (bl s)).length 0, .int .i64 (endL 0 (openL 60 0 (bl s)) : Nat)] ∧ h' = h ++ t ∧ t[j]? = some ⟨recV (openL 60 0 (bl s)), 2, .rw⟩) := by
  have hbl := bl_len s
  refine body_of mo Tryd.func48 rfl (by kernel_rfl) (Nat.le_of_ble_eq_true (by kernel_rfl)) rfl ?_
  simp only [go_sem, Nat.reduceBEq, Nat.reduceAdd, Nat.reduceMul, Nat.reduceSub, Nat.reduceLeDiff, Nat.le_refl, implies_true, Nat.reduceLT, reduceIte, decide_true, decide_false, true_and, and_true, reduceCtorEq, Nat.mul_one, Int.reduceToNat, Int.reduceLE, Int.reduceLT, Int.reduceAdd, Int.reduceSub, Int.reduceMul, Int.cast_ofNat_Int, cast_zero_int, cast_one_int, Nat.reducePow, Nat.reduceEqDiff, Nat.reduceMod, Nat.zero_add, Nat.sub_zero, Nat.add_zero]
  refine vLoop.count mo 60 (fun i e h' => ∃ (d : List (BL × BL)) (t : Heap) (j : Nat), d.length = i ∧ AtL (bl s) d ∧ e 0 = .string s ∧ e 4 = .slice (some ⟨h.length + j, 0, none⟩) d.length 0 ∧
      e 5 = .int .i64 (endL 0 d : Nat) ∧ h' = h ++ t ∧ t[j]? = some ⟨recV d, 2, .rw⟩) ?_ ?_
  · exact ⟨[], [⟨[], 2, .rw⟩], 0, rfl, AtL.start _, rfl, rfl, rfl, rfl, rfl⟩
  · rintro i e _ hi ⟨d, t, j, rfl, at1, e0, e4, e5, rfl, hj⟩
    have hle := at1.2.2
    have fin : openL 60 0 (bl s) = d → ∃ t_1 j_1, Value.tuple #[.slice (some ⟨h.length + j, 0, none⟩) d.length 0, .int .i64 (endL 0 d : Nat)] = Value.tuple #[.slice (some ⟨h.length + j_1, 0, none⟩) (openL 60 0 (bl s)).length 0, .int .i64 (endL 0 (openL 60 0 (bl s)) : Nat)] ∧ h ++ t = h ++ t_1 ∧ t_1[j_1]? = some ⟨recV (openL 60 0 (bl s)), 2, .rw⟩ :=
      fun hd => by rw [hd]; exact ⟨t, j, rfl, rfl, hj⟩
    have fin' : ∀ x, openL 60 0 (bl s) = d → ∃ t_1 j_1, Value.tuple #[.slice (some ⟨h.length + j, 0, none⟩) d.length 0, .int .i64 (endL 0 d : Nat)] = Value.tuple #[.slice (some ⟨h.length + j_1, 0, none⟩) (openL 60 0 (bl s)).length 0, .int .i64 (endL 0 (openL 60 0 (bl s)) : Nat)] ∧ h ++ (t ++ x) = h ++ t_1 ∧ t_1[j_1]? = some ⟨recV (openL 60 0 (bl s)), 2, .rw⟩ :=
      fun x hd => by rw [hd]; exact ⟨t ++ x, j, rfl, rfl, app_old hj x⟩
    by_cases g1 : endL 0 d < s.size
    · by_cases g2 : d.length < 60
      · have d1 : ((endL 0 d : Nat) : Int) < s.size := by omega
        have d2 : (d.length : Int) < 60 := by omega
        have d3 : endL 0 d ≤ s.size := by omega
        simp only [go_sem, Nat.reduceBEq, Nat.reduceAdd, Nat.reduceMul, Nat.reduceSub, Nat.reduceLeDiff, Nat.le_refl, implies_true, Nat.reduceLT, reduceIte, decide_true, decide_false, true_and, and_true, reduceCtorEq, Nat.mul_one, Int.reduceToNat, Int.reduceLE, Int.reduceLT, Int.reduceAdd, Int.reduceSub, Int.reduceMul, Int.cast_ofNat_Int, cast_zero_int, cast_one_int, Nat.reducePow, Nat.reduceEqDiff, Nat.reduceMod, Nat.zero_add, Nat.sub_zero, Nat.add_zero, e0, e4, e5, d1, d2, d3]
        refine ⟨by kernel_rfl, (c_l1Split (s.extract (endL 0 d) s.size) 10 (by rw [ByteArray.size_extract]; omega)).use (fun _ m => m) ?_⟩
        rintro _ _ ⟨t2, j2, rfl, rfl, hj2⟩
        have ex : bl (s.extract (endL 0 d) s.size) = (bl s).drop (endL 0 d) := by rw [bl_extract, ← hbl, List.take_length]
        obtain ⟨r1, p1, p2⟩ := splitL_head ((bl s).drop (endL 0 d)) 10
        rw [ex, p1] at hj2
        rw [ex, p1]
        have l1 := cutA_le ((bl s).drop (endL 0 d)) 10
        rw [List.length_drop] at l1
        obtain ⟨line, hl⟩ : ∃ line, line = cutA ((bl s).drop (endL 0 d)) 10 := ⟨_, rfl⟩
        rw [← hl] at hj2 l1
        rw [← hl]
        simp only [go_sem, Nat.reduceBEq, Nat.reduceAdd, Nat.reduceMul, Nat.reduceSub, Nat.reduceLeDiff, Nat.le_refl, implies_true, Nat.reduceLT, reduceIte, decide_true, decide_false, true_and, and_true, reduceCtorEq, Nat.mul_one, Int.reduceToNat, Int.reduceLE, Int.reduceLT, Int.reduceAdd, Int.reduceSub, Int.reduceMul, Int.cast_ofNat_Int, cast_zero_int, cast_one_int, Nat.reducePow, Nat.reduceEqDiff, Nat.reduceMod, Nat.zero_add, Nat.sub_zero, Nat.add_zero, e0, e4, e5, d1, d2, d3, hget_mid, hj2, strsV_len, strsV_head]
        refine ⟨by omega, ?_⟩
        refine ⟨by kernel_rfl, (c_l27Read (mkB line) d.length (by omega) (by rw [mkB_size]; omega)).use (fun _ m => m) ?_⟩
        rintro _ _ ⟨c, r, rfl, hcr, ⟨t3, rfl⟩⟩
        rw [bl_mkB] at hcr
        rw [bl_mkB]
        have stop2 : ¬ (10 ∈ (bl s).drop (endL 0 d) ∧ d.length < 60 ∧ (readL d.length (cutA ((bl s).drop (endL 0 d)) 10)).isSome = true) → openL 60 0 (bl s) = d := at1.stop
        rw [← hl] at stop2
        by_cases g3 : r1 = []
        · have d4 : ((r1.length + 1 : Nat) : Int) < 2 := by rw [g3]; decide
          simp only [go_sem, Nat.reduceBEq, Nat.reduceAdd, Nat.reduceMul, Nat.reduceSub, Nat.reduceLeDiff, Nat.le_refl, implies_true, Nat.reduceLT, reduceIte, decide_true, decide_false, true_and, and_true, reduceCtorEq, Nat.mul_one, Int.reduceToNat, Int.reduceLE, Int.reduceLT, Int.reduceAdd, Int.reduceSub, Int.reduceMul, Int.cast_ofNat_Int, cast_zero_int, cast_one_int, Nat.reducePow, Nat.reduceEqDiff, Nat.reduceMod, Nat.zero_add, Nat.sub_zero, Nat.add_zero, e0, e4, e5, d1, d2, d3, d4]
          refine fin' _ (stop2 fun ⟨m1, _, _⟩ => p2.1 g3 m1)
        · have d4 : ¬ ((r1.length + 1 : Nat) : Int) < 2 := by
            have : 0 < r1.length := List.length_pos_iff.2 g3
            omega
          have m1 : 10 ∈ (bl s).drop (endL 0 d) := by
            rcases Classical.em (10 ∈ (bl s).drop (endL 0 d)) with m | m
            · exact m
            · exact absurd (p2.2 m) g3
          cases g4 : readL d.length line with
          | none =>
            simp only [go_sem, Nat.reduceBEq, Nat.reduceAdd, Nat.reduceMul, Nat.reduceSub, Nat.reduceLeDiff, Nat.le_refl, implies_true, Nat.reduceLT, reduceIte, decide_true, decide_false, true_and, and_true, reduceCtorEq, Nat.mul_one, Int.reduceToNat, Int.reduceLE, Int.reduceLT, Int.reduceAdd, Int.reduceSub, Int.reduceMul, Int.cast_ofNat_Int, cast_zero_int, cast_one_int, Nat.reducePow, Nat.reduceEqDiff, Nat.reduceMod, Nat.zero_add, Nat.sub_zero, Nat.add_zero, e0, e4, e5, d1, d2, d3, d4, g4, Option.isSome_none]
            refine fin' _ (stop2 fun ⟨_, _, m3⟩ => by rw [g4] at m3; cases m3)
          | some x =>
            obtain rfl := hcr x g4
            have jlt := (List.getElem?_eq_some_iff.1 hj).1
            obtain ⟨s1, s2⟩ := at1.step g2 m1 (by rw [← hl]; exact g4)
            have el : endL 0 (d ++ [(c, r)]) ≤ (bl s).length := s1.2.2
            have s2' : endL 0 (d ++ [(c, r)]) = endL 0 d + ((lineL d.length c r).length + 1) := s2
            have ll := congrArg List.length (readL_some g4).2
            rw [ll] at l1
            have w1 : IntKind.i64.wrap ((endL 0 d : Int) + (line.length : Nat)) = (endL 0 d : Int) + (line.length : Nat) := wrap64 (by omega)
            have w2 : IntKind.i64.wrap ((endL 0 d : Int) + (line.length : Nat) + 1) = (endL 0 (d ++ [(c, r)]) : Nat) := by rw [wrap64 (by omega)]; omega
            simp only [go_sem, Nat.reduceBEq, Nat.reduceAdd, Nat.reduceMul, Nat.reduceSub, Nat.reduceLeDiff, Nat.le_refl, implies_true, Nat.reduceLT, reduceIte, decide_true, decide_false, true_and, and_true, reduceCtorEq, Nat.mul_one, Int.reduceToNat, Int.reduceLE, Int.reduceLT, Int.reduceAdd, Int.reduceSub, Int.reduceMul, Int.cast_ofNat_Int, cast_zero_int, cast_one_int, Nat.reducePow, Nat.reduceEqDiff, Nat.reduceMod, Nat.zero_add, Nat.sub_zero, Nat.add_zero, e0, e4, e5, d1, d2, d3, d4, g4, hget_mid, app_old hj, recV_len, hget_setmid jlt hj2, strsV_head, mkB_size, w1, w2, Option.isSome_some]
            refine ⟨by omega, by omega, by omega, g2, d ++ [(c, r)], _, t.length + (t2.length + (t3.length + 2)), by simp, s1, ?_, rfl, rfl, ?_⟩
            · simp only [List.length_append, List.length_singleton]
            · rw [recV_snoc]; exact new_endL (by simp)
      · simp only [go_sem, Nat.reduceBEq, Nat.reduceAdd, Nat.reduceMul, Nat.reduceSub, Nat.reduceLeDiff, Nat.le_refl, implies_true, Nat.reduceLT, reduceIte, decide_true, decide_false, true_and, and_true, reduceCtorEq, Nat.mul_one, Int.reduceToNat, Int.reduceLE, Int.reduceLT, Int.reduceAdd, Int.reduceSub, Int.reduceMul, Int.cast_ofNat_Int, cast_zero_int, cast_one_int, Nat.reducePow, Nat.reduceEqDiff, Nat.reduceMod, Nat.zero_add, Nat.sub_zero, Nat.add_zero, e0, e4, e5, show ¬ ((d.length : Int) < 60) by omega, show ((endL 0 d : Nat) : Int) < s.size by omega]
        exact fin (at1.stop fun ⟨_, m2, _⟩ => g2 m2)
    · simp only [go_sem, Nat.reduceBEq, Nat.reduceAdd, Nat.reduceMul, Nat.reduceSub, Nat.reduceLeDiff, Nat.le_refl, implies_true, Nat.reduceLT, reduceIte, decide_true, decide_false, true_and, and_true, reduceCtorEq, Nat.mul_one, Int.reduceToNat, Int.reduceLE, Int.reduceLT, Int.reduceAdd, Int.reduceSub, Int.reduceMul, Int.cast_ofNat_Int, cast_zero_int, cast_one_int, Nat.reducePow, Nat.reduceEqDiff, Nat.reduceMod, Nat.zero_add, Nat.sub_zero, Nat.add_zero, e0, e4, e5, show ¬ (((endL 0 d : Nat) : Int) < s.size) by omega]
      refine fin (at1.stop fun ⟨m1, _, _⟩ => ?_)
      rw [List.drop_eq_nil_of_le (by omega)] at m1
      cases m1
end
end Go.Proofs.YtedidddimikjhaaDoor
