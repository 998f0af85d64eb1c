
/- Laws about logs, lines and recovery, on drawn logs. No condition. -/
import Derived.Test.YtkogddiefniihaaDoorLogJ
import Derived.Test.YtkogddiefniihaaDoorLogP
import Derived.Test.YtkogddiefniihaaDoorLogI
import Derived.Test.YtkogddiefniihaaDoorH3
namespace Go.Proofs.YtkogddiefniihaaDoor
open Go.HH Go.Proofs
set_option linter.unusedSimpArgs false
set_option linter.unusedVariables false

section
variable {G : List (Nat × Nat)} {h : Heap} {M : Nat → Prop}

theorem c_vBig (b : Option Addr) (n : Nat) : vCall [] Tryd.prog M 37 [.slice b n 0] h (fun r h' => r = .bool (decide ((65536 : Int) < n)) ∧ h = h') := by
  refine body_of mo Tryd.func37 rfl (by kernel_rfl) (Nat.le_of_ble_eq_true (by kernel_rfl)) rfl ?_
  simp only [go_sem, Nat.reduceBEq, Nat.reduceAdd, Nat.reduceMul, Nat.reduceSub, Nat.reduceLeDiff, Nat.le_refl, implies_true, Nat.reduceLT, reduceIte, decide_true, decide_false, true_and, and_true, reduceCtorEq, Nat.mul_one, Int.reduceToNat, Int.reduceLE, Int.reduceLT, Int.reduceAdd, Int.reduceSub, Int.reduceMul, Int.cast_ofNat_Int, cast_zero_int, cast_one_int, Nat.reducePow, Nat.reduceEqDiff, Nat.reduceMod, Nat.zero_add, Nat.sub_zero, Nat.add_zero]
  all_goals first | exact rfl | exact ⟨rfl, rfl⟩ | exact List.prefix_append _ _ | exact ⟨rfl, List.prefix_append _ _⟩ | assumption | exact ⟨rfl, by assumption⟩ | exact List.prefix_rfl | exact ⟨rfl, List.prefix_rfl⟩ | exact List.IsPrefix.trans (by assumption) (by assumption) | exact ⟨rfl, List.IsPrefix.trans (by assumption) (by assumption)⟩

theorem encV_case (k : Int) (c r : ByteArray) : (∃ (i : Nat), k = i ∧ i < 60 ∧ okL (bl c) (bl r) = true ∧ encV k c r = .tuple #[.string (mkB (lineL i (bl c) (bl r) ++ [10])), .bool true]) ∨ encV k c r = .tuple #[.string ⟨#[]⟩, .bool false] := by
  unfold encV
  split
  · rename_i g
    obtain ⟨i, rfl⟩ := Int.eq_ofNat_of_zero_le g.1.1
    rw [recOk_L] at g
    exact .inl ⟨i, rfl, by omega, g.2, rfl⟩
  · exact .inr rfl
theorem recoV_ok {s : ByteArray} (h : s.size ≤ 30000) : recoV s = .tuple #[.agg #[.string (s.extract 0 (endL 0 (openL 60 0 (bl s)))), .string ⟨#[]⟩, .int .i64 (openL 60 0 (bl s)).length], .int .i64 (endL 0 (openL 60 0 (bl s)) : Nat), .bool true] := if_pos h
theorem recoV_no {s : ByteArray} (h : ¬ s.size ≤ 30000) : recoV s = .tuple #[.agg #[.string ⟨#[]⟩, .string ⟨#[]⟩, .int .i64 0], .int .i64 0, .bool false] := if_neg h
theorem reco_log (s : ByteArray) : logOk (bl (s.extract 0 (endL 0 (openL 60 0 (bl s))))) (bl ⟨#[]⟩) (openL 60 0 (bl s)).length := by
  rw [bl_extract, List.drop_zero]
  exact (logOk_take (bl s)).2
theorem app_none (D : ByteArray) : D ++ (⟨#[]⟩ : ByteArray) = D := bl_ext (by rw [bl_app]; exact List.append_nil _)
theorem reco_sync (s : ByteArray) : syncV (s.extract 0 (endL 0 (openL 60 0 (bl s)))) ⟨#[]⟩ (openL 60 0 (bl s)).length = .tuple #[.agg #[.string (s.extract 0 (endL 0 (openL 60 0 (bl s)))), .string ⟨#[]⟩, .int .i64 (openL 60 0 (bl s)).length], .bool true] := by
  rw [syncV, if_pos (reco_log s), app_none]
theorem reco_size (s : ByteArray) : (s.extract 0 (endL 0 (openL 60 0 (bl s)))).size + (⟨#[]⟩ : ByteArray).size ≤ s.size := by
  have z : (⟨#[]⟩ : ByteArray).size = 0 := rfl
  rw [ByteArray.size_extract, z]; omega

theorem enc_reco (k : Int) (c r : ByteArray) : ∃ s ok xD xk xe, encV k c r = .tuple #[.string s, .bool ok] ∧ s.size ≤ 1000 ∧ recoV s = .tuple #[.agg #[.string xD, .string ⟨#[]⟩, .int .i64 xk], .int .i64 xe, .bool true] ∧ (ok = true → (k = 0 → 0 < xe ∧ xk = 1) ∧ (k ≠ 0 → xe = 0)) ∧ (ok = false → s = ⟨#[]⟩) := by
  rcases encV_case k c r with ⟨i, rfl, hi, ho, h4⟩ | h4
  · have zl := lineL_len (k := i) ho (by omega)
    have zs : (mkB (lineL i (bl c) (bl r) ++ [10])).size ≤ 1000 := by rw [mkB_size, List.length_append, List.length_singleton]; omega
    have e1 := line_alone (k := i) ho
    refine ⟨_, _, _, _, _, h4, zs, recoV_ok (by omega), fun _ => ⟨fun h0 => ?_, fun h0 => ?_⟩, by simp⟩
    · rw [if_pos (by omega)] at e1
      rw [bl_mkB, e1]
      exact ⟨by simp only [endL]; omega, rfl⟩
    · rw [if_neg (by omega)] at e1
      rw [bl_mkB, e1]; rfl
  · exact ⟨_, _, _, _, _, h4, by decide, recoV_ok (by decide), by simp, fun _ => rfl⟩

theorem reco_case (t : ByteArray) (zt : t.size ≤ 40000) : ∃ mD mk me told ok, recoV t = .tuple #[.agg #[.string mD, .string ⟨#[]⟩, .int .i64 mk], .int .i64 me, .bool told] ∧ mD.size + (⟨#[]⟩ : ByteArray).size ≤ 40000 ∧
    syncV mD ⟨#[]⟩ mk = .tuple #[.agg #[.string mD, .string ⟨#[]⟩, .int .i64 mk], .bool ok] ∧ ok = true ∧ logOk (bl mD) (bl ⟨#[]⟩) mk := by
  have z : (⟨#[]⟩ : ByteArray).size = 0 := rfl
  by_cases g : t.size ≤ 30000
  · exact ⟨_, _, _, _, _, recoV_ok g, by have := reco_size t; omega, reco_sync t, rfl, reco_log t⟩
  · have l : logOk (bl ⟨#[]⟩) (bl ⟨#[]⟩) 0 := ⟨rfl, rfl, rfl⟩
    exact ⟨_, _, _, _, _, recoV_no g, by omega, by rw [syncV, if_pos l]; rfl, rfl, l⟩

set_option maxRecDepth 20000 in
theorem l_FnLogLines (pw : PowAt G h) (b : Option Addr) (n : Nat) (hc : CodeOk h b n) : vCall G Tryd.prog M 11 [.slice b n 0] h (fun r _ => r = .bool true) := by
  refine body_of mo Tryd.func11 rfl (by kernel_rfl) (Nat.le_of_ble_eq_true (by kernel_rfl)) rfl ?_
  simp only [go_sem, Nat.reduceBEq, Nat.reduceAdd, Nat.reduceMul, Nat.reduceSub, Nat.reduceLeDiff, Nat.le_refl, implies_true, Nat.reduceLT, reduceIte, decide_true, decide_false, true_and, and_true, reduceCtorEq, Nat.mul_one, Int.reduceToNat, Int.reduceLE, Int.reduceLT, Int.reduceAdd, Int.reduceSub, Int.reduceMul, Int.cast_ofNat_Int, cast_zero_int, cast_one_int, Nat.reducePow, Nat.reduceEqDiff, Nat.reduceMod, Nat.zero_add, Nat.sub_zero, Nat.add_zero]
  refine ⟨by kernel_rfl, ((c_vBig b n).addG).use (fun _ m => m) ?_⟩
  rintro _ _ ⟨rfl, rfl⟩
  by_cases hb : (65536 : Int) < n
  · simp only [go_sem, Nat.reduceBEq, Nat.reduceAdd, Nat.reduceMul, Nat.reduceSub, Nat.reduceLeDiff, Nat.le_refl, implies_true, Nat.reduceLT, reduceIte, decide_true, decide_false, true_and, and_true, reduceCtorEq, Nat.mul_one, Int.reduceToNat, Int.reduceLE, Int.reduceLT, Int.reduceAdd, Int.reduceSub, Int.reduceMul, Int.cast_ofNat_Int, cast_zero_int, cast_one_int, Nat.reducePow, Nat.reduceEqDiff, Nat.reduceMod, Nat.zero_add, Nat.sub_zero, Nat.add_zero, decb hb]
  simp only [go_sem, Nat.reduceBEq, Nat.reduceAdd, Nat.reduceMul, Nat.reduceSub, Nat.reduceLeDiff, Nat.le_refl, implies_true, Nat.reduceLT, reduceIte, decide_true, decide_false, true_and, and_true, reduceCtorEq, Nat.mul_one, Int.reduceToNat, Int.reduceLE, Int.reduceLT, Int.reduceAdd, Int.reduceSub, Int.reduceMul, Int.cast_ofNat_Int, cast_zero_int, cast_one_int, Nat.reducePow, Nat.reduceEqDiff, Nat.reduceMod, Nat.zero_add, Nat.sub_zero, Nat.add_zero, dect hb]
  refine ⟨by kernel_rfl, ((c_DrawEncodeRecord b n hc).addG).use (fun _ m => m) ?_⟩
  rintro _ _ ⟨⟨k, c, r2, rfl, zc, zr⟩, ⟨t1, rfl⟩⟩
  try simp only [go_sem, Nat.reduceBEq, Nat.reduceAdd, Nat.reduceMul, Nat.reduceSub, Nat.reduceLeDiff, Nat.le_refl, implies_true, Nat.reduceLT, reduceIte, decide_true, decide_false, true_and, and_true, reduceCtorEq, Nat.mul_one, Int.reduceToNat, Int.reduceLE, Int.reduceLT, Int.reduceAdd, Int.reduceSub, Int.reduceMul, Int.cast_ofNat_Int, cast_zero_int, cast_one_int, Nat.reducePow, Nat.reduceEqDiff, Nat.reduceMod, Nat.zero_add, Nat.sub_zero, Nat.add_zero]
  refine ⟨by kernel_rfl, (c_EncodeRecord (pw.mono (by simp)) k c r2 (by omega) (by omega)).use (fun _ m => m) ?_⟩
  rintro _ _ ⟨rfl, ⟨t2, rfl⟩⟩
  obtain ⟨s, ok, xD, xk, xe, he, zs, hx, o1, o2⟩ := enc_reco k c r2
  rw [he]
  try simp only [go_sem, Nat.reduceBEq, Nat.reduceAdd, Nat.reduceMul, Nat.reduceSub, Nat.reduceLeDiff, Nat.le_refl, implies_true, Nat.reduceLT, reduceIte, decide_true, decide_false, true_and, and_true, reduceCtorEq, Nat.mul_one, Int.reduceToNat, Int.reduceLE, Int.reduceLT, Int.reduceAdd, Int.reduceSub, Int.reduceMul, Int.cast_ofNat_Int, cast_zero_int, cast_one_int, Nat.reducePow, Nat.reduceEqDiff, Nat.reduceMod, Nat.zero_add, Nat.sub_zero, Nat.add_zero]
  refine ⟨by kernel_rfl, ((c_sEncodeRecord k c r2 (by omega) (by omega)).addG).use (fun _ m => m) ?_⟩
  rintro _ _ ⟨rfl, ⟨t3, rfl⟩⟩
  rw [he]
  try simp only [go_sem, Nat.reduceBEq, Nat.reduceAdd, Nat.reduceMul, Nat.reduceSub, Nat.reduceLeDiff, Nat.le_refl, implies_true, Nat.reduceLT, reduceIte, decide_true, decide_false, true_and, and_true, reduceCtorEq, Nat.mul_one, Int.reduceToNat, Int.reduceLE, Int.reduceLT, Int.reduceAdd, Int.reduceSub, Int.reduceMul, Int.cast_ofNat_Int, cast_zero_int, cast_one_int, Nat.reducePow, Nat.reduceEqDiff, Nat.reduceMod, Nat.zero_add, Nat.sub_zero, Nat.add_zero]
  refine ⟨by kernel_rfl, ((c_DrawRecoverLog b n (hc.mono (by simp))).addG).use (fun _ m => m) ?_⟩
  rintro _ _ ⟨⟨t, rfl, zt⟩, ⟨t4, rfl⟩⟩
  try simp only [go_sem, Nat.reduceBEq, Nat.reduceAdd, Nat.reduceMul, Nat.reduceSub, Nat.reduceLeDiff, Nat.le_refl, implies_true, Nat.reduceLT, reduceIte, decide_true, decide_false, true_and, and_true, reduceCtorEq, Nat.mul_one, Int.reduceToNat, Int.reduceLE, Int.reduceLT, Int.reduceAdd, Int.reduceSub, Int.reduceMul, Int.cast_ofNat_Int, cast_zero_int, cast_one_int, Nat.reducePow, Nat.reduceEqDiff, Nat.reduceMod, Nat.zero_add, Nat.sub_zero, Nat.add_zero]
  refine ⟨by kernel_rfl, (c_RecoverLog (pw.mono (by simp)) t (by omega)).use (fun _ m => m) ?_⟩
  rintro _ _ ⟨rfl, ⟨t5, rfl⟩⟩
  obtain ⟨mD, mk, me, told, so, hr, zm, hy, hso, lg⟩ := reco_case t zt
  subst hso
  rw [hr]
  try simp only [go_sem, Nat.reduceBEq, Nat.reduceAdd, Nat.reduceMul, Nat.reduceSub, Nat.reduceLeDiff, Nat.le_refl, implies_true, Nat.reduceLT, reduceIte, decide_true, decide_false, true_and, and_true, reduceCtorEq, Nat.mul_one, Int.reduceToNat, Int.reduceLE, Int.reduceLT, Int.reduceAdd, Int.reduceSub, Int.reduceMul, Int.cast_ofNat_Int, cast_zero_int, cast_one_int, Nat.reducePow, Nat.reduceEqDiff, Nat.reduceMod, Nat.zero_add, Nat.sub_zero, Nat.add_zero]
  refine ⟨by kernel_rfl, ((c_sRecoverLog t (by omega)).addG).use (fun _ m => m) ?_⟩
  rintro _ _ ⟨rfl, ⟨t6, rfl⟩⟩
  rw [hr]
  simp only [go_sem, Nat.reduceBEq, Nat.reduceAdd, Nat.reduceMul, Nat.reduceSub, Nat.reduceLeDiff, Nat.le_refl, implies_true, Nat.reduceLT, reduceIte, decide_true, decide_false, true_and, and_true, reduceCtorEq, Nat.mul_one, Int.reduceToNat, Int.reduceLE, Int.reduceLT, Int.reduceAdd, Int.reduceSub, Int.reduceMul, Int.cast_ofNat_Int, cast_zero_int, cast_one_int, Nat.reducePow, Nat.reduceEqDiff, Nat.reduceMod, Nat.zero_add, Nat.sub_zero, Nat.add_zero, eqs, Bool.not_true, bne_self_eq_false]
  refine ⟨by kernel_rfl, (c_RecoverLog (pw.mono (by simp)) s (by omega)).use (fun _ m => m) ?_⟩
  rintro _ _ ⟨rfl, ⟨t7, rfl⟩⟩
  rw [hx]
  simp only [go_sem, Nat.reduceBEq, Nat.reduceAdd, Nat.reduceMul, Nat.reduceSub, Nat.reduceLeDiff, Nat.le_refl, implies_true, Nat.reduceLT, reduceIte, decide_true, decide_false, true_and, and_true, reduceCtorEq, Nat.mul_one, Int.reduceToNat, Int.reduceLE, Int.reduceLT, Int.reduceAdd, Int.reduceSub, Int.reduceMul, Int.cast_ofNat_Int, cast_zero_int, cast_one_int, Nat.reducePow, Nat.reduceEqDiff, Nat.reduceMod, Nat.zero_add, Nat.sub_zero, Nat.add_zero, eqs, Bool.not_true, bne_self_eq_false]
  cases ok
  · obtain rfl := o2 rfl
    simp only [go_sem, Nat.reduceBEq, Nat.reduceAdd, Nat.reduceMul, Nat.reduceSub, Nat.reduceLeDiff, Nat.le_refl, implies_true, Nat.reduceLT, reduceIte, decide_true, decide_false, true_and, and_true, reduceCtorEq, Nat.mul_one, Int.reduceToNat, Int.reduceLE, Int.reduceLT, Int.reduceAdd, Int.reduceSub, Int.reduceMul, Int.cast_ofNat_Int, cast_zero_int, cast_one_int, Nat.reducePow, Nat.reduceEqDiff, Nat.reduceMod, Nat.zero_add, Nat.sub_zero, Nat.add_zero]
    refine ⟨by kernel_rfl, (c_SyncLog (pw.mono (by simp)) mD ⟨#[]⟩ mk (by omega)).use (fun _ m => m) ?_⟩
    rintro _ _ ⟨rfl, ⟨t8, rfl⟩⟩
    rw [hy]
    simp only [go_sem, Nat.reduceBEq, Nat.reduceAdd, Nat.reduceMul, Nat.reduceSub, Nat.reduceLeDiff, Nat.le_refl, implies_true, Nat.reduceLT, reduceIte, decide_true, decide_false, true_and, and_true, reduceCtorEq, Nat.mul_one, Int.reduceToNat, Int.reduceLE, Int.reduceLT, Int.reduceAdd, Int.reduceSub, Int.reduceMul, Int.cast_ofNat_Int, cast_zero_int, cast_one_int, Nat.reducePow, Nat.reduceEqDiff, Nat.reduceMod, Nat.zero_add, Nat.sub_zero, Nat.add_zero, eqs, Bool.not_true, bne_self_eq_false]
    cases told
    · simp only [go_sem, Nat.reduceBEq, Nat.reduceAdd, Nat.reduceMul, Nat.reduceSub, Nat.reduceLeDiff, Nat.le_refl, implies_true, Nat.reduceLT, reduceIte, decide_true, decide_false, true_and, and_true, reduceCtorEq, Nat.mul_one, Int.reduceToNat, Int.reduceLE, Int.reduceLT, Int.reduceAdd, Int.reduceSub, Int.reduceMul, Int.cast_ofNat_Int, cast_zero_int, cast_one_int, Nat.reducePow, Nat.reduceEqDiff, Nat.reduceMod, Nat.zero_add, Nat.sub_zero, Nat.add_zero]
    · simp only [go_sem, Nat.reduceBEq, Nat.reduceAdd, Nat.reduceMul, Nat.reduceSub, Nat.reduceLeDiff, Nat.le_refl, implies_true, Nat.reduceLT, reduceIte, decide_true, decide_false, true_and, and_true, reduceCtorEq, Nat.mul_one, Int.reduceToNat, Int.reduceLE, Int.reduceLT, Int.reduceAdd, Int.reduceSub, Int.reduceMul, Int.cast_ofNat_Int, cast_zero_int, cast_one_int, Nat.reducePow, Nat.reduceEqDiff, Nat.reduceMod, Nat.zero_add, Nat.sub_zero, Nat.add_zero, eqs, Bool.not_true, bne_self_eq_false]
      refine ⟨by kernel_rfl, (c_IsValidLog (pw.mono (by simp)) mD ⟨#[]⟩ mk (by omega)).use (fun _ m => m) ?_⟩
      rintro _ _ ⟨rfl, ⟨t8, rfl⟩⟩
      simp only [go_sem, Nat.reduceBEq, Nat.reduceAdd, Nat.reduceMul, Nat.reduceSub, Nat.reduceLeDiff, Nat.le_refl, implies_true, Nat.reduceLT, reduceIte, decide_true, decide_false, true_and, and_true, reduceCtorEq, Nat.mul_one, Int.reduceToNat, Int.reduceLE, Int.reduceLT, Int.reduceAdd, Int.reduceSub, Int.reduceMul, Int.cast_ofNat_Int, cast_zero_int, cast_one_int, Nat.reducePow, Nat.reduceEqDiff, Nat.reduceMod, Nat.zero_add, Nat.sub_zero, Nat.add_zero, eqs, Bool.not_true, bne_self_eq_false, decb lg]
  · obtain ⟨o3, o4⟩ := o1 rfl
    by_cases k0 : k = 0
    · obtain ⟨q1, rfl⟩ := o3 k0
      subst k0
      simp only [go_sem, Nat.reduceBEq, Nat.reduceAdd, Nat.reduceMul, Nat.reduceSub, Nat.reduceLeDiff, Nat.le_refl, implies_true, Nat.reduceLT, reduceIte, decide_true, decide_false, true_and, and_true, reduceCtorEq, Nat.mul_one, Int.reduceToNat, Int.reduceLE, Int.reduceLT, Int.reduceAdd, Int.reduceSub, Int.reduceMul, Int.cast_ofNat_Int, cast_zero_int, cast_one_int, Nat.reducePow, Nat.reduceEqDiff, Nat.reduceMod, Nat.zero_add, Nat.sub_zero, Nat.add_zero, q1]
      refine ⟨by kernel_rfl, (c_SyncLog (pw.mono (by simp)) mD ⟨#[]⟩ mk (by omega)).use (fun _ m => m) ?_⟩
      rintro _ _ ⟨rfl, ⟨t8, rfl⟩⟩
      rw [hy]
      simp only [go_sem, Nat.reduceBEq, Nat.reduceAdd, Nat.reduceMul, Nat.reduceSub, Nat.reduceLeDiff, Nat.le_refl, implies_true, Nat.reduceLT, reduceIte, decide_true, decide_false, true_and, and_true, reduceCtorEq, Nat.mul_one, Int.reduceToNat, Int.reduceLE, Int.reduceLT, Int.reduceAdd, Int.reduceSub, Int.reduceMul, Int.cast_ofNat_Int, cast_zero_int, cast_one_int, Nat.reducePow, Nat.reduceEqDiff, Nat.reduceMod, Nat.zero_add, Nat.sub_zero, Nat.add_zero, q1]
      cases told
      · simp only [go_sem, Nat.reduceBEq, Nat.reduceAdd, Nat.reduceMul, Nat.reduceSub, Nat.reduceLeDiff, Nat.le_refl, implies_true, Nat.reduceLT, reduceIte, decide_true, decide_false, true_and, and_true, reduceCtorEq, Nat.mul_one, Int.reduceToNat, Int.reduceLE, Int.reduceLT, Int.reduceAdd, Int.reduceSub, Int.reduceMul, Int.cast_ofNat_Int, cast_zero_int, cast_one_int, Nat.reducePow, Nat.reduceEqDiff, Nat.reduceMod, Nat.zero_add, Nat.sub_zero, Nat.add_zero]
      · simp only [go_sem, Nat.reduceBEq, Nat.reduceAdd, Nat.reduceMul, Nat.reduceSub, Nat.reduceLeDiff, Nat.le_refl, implies_true, Nat.reduceLT, reduceIte, decide_true, decide_false, true_and, and_true, reduceCtorEq, Nat.mul_one, Int.reduceToNat, Int.reduceLE, Int.reduceLT, Int.reduceAdd, Int.reduceSub, Int.reduceMul, Int.cast_ofNat_Int, cast_zero_int, cast_one_int, Nat.reducePow, Nat.reduceEqDiff, Nat.reduceMod, Nat.zero_add, Nat.sub_zero, Nat.add_zero, eqs, Bool.not_true, bne_self_eq_false, q1]
        refine ⟨by kernel_rfl, (c_IsValidLog (pw.mono (by simp)) mD ⟨#[]⟩ mk (by omega)).use (fun _ m => m) ?_⟩
        rintro _ _ ⟨rfl, ⟨t8, rfl⟩⟩
        simp only [go_sem, Nat.reduceBEq, Nat.reduceAdd, Nat.reduceMul, Nat.reduceSub, Nat.reduceLeDiff, Nat.le_refl, implies_true, Nat.reduceLT, reduceIte, decide_true, decide_false, true_and, and_true, reduceCtorEq, Nat.mul_one, Int.reduceToNat, Int.reduceLE, Int.reduceLT, Int.reduceAdd, Int.reduceSub, Int.reduceMul, Int.cast_ofNat_Int, cast_zero_int, cast_one_int, Nat.reducePow, Nat.reduceEqDiff, Nat.reduceMod, Nat.zero_add, Nat.sub_zero, Nat.add_zero, eqs, Bool.not_true, bne_self_eq_false, decb lg, q1]
    · obtain rfl := o4 k0
      simp only [go_sem, Nat.reduceBEq, Nat.reduceAdd, Nat.reduceMul, Nat.reduceSub, Nat.reduceLeDiff, Nat.le_refl, implies_true, Nat.reduceLT, reduceIte, decide_true, decide_false, true_and, and_true, reduceCtorEq, Nat.mul_one, Int.reduceToNat, Int.reduceLE, Int.reduceLT, Int.reduceAdd, Int.reduceSub, Int.reduceMul, Int.cast_ofNat_Int, cast_zero_int, cast_one_int, Nat.reducePow, Nat.reduceEqDiff, Nat.reduceMod, Nat.zero_add, Nat.sub_zero, Nat.add_zero, show (k == 0) = false by simpa using k0]
      refine ⟨by kernel_rfl, (c_SyncLog (pw.mono (by simp)) mD ⟨#[]⟩ mk (by omega)).use (fun _ m => m) ?_⟩
      rintro _ _ ⟨rfl, ⟨t8, rfl⟩⟩
      rw [hy]
      simp only [go_sem, Nat.reduceBEq, Nat.reduceAdd, Nat.reduceMul, Nat.reduceSub, Nat.reduceLeDiff, Nat.le_refl, implies_true, Nat.reduceLT, reduceIte, decide_true, decide_false, true_and, and_true, reduceCtorEq, Nat.mul_one, Int.reduceToNat, Int.reduceLE, Int.reduceLT, Int.reduceAdd, Int.reduceSub, Int.reduceMul, Int.cast_ofNat_Int, cast_zero_int, cast_one_int, Nat.reducePow, Nat.reduceEqDiff, Nat.reduceMod, Nat.zero_add, Nat.sub_zero, Nat.add_zero, show (k == 0) = false by simpa using k0]
      cases told
      · simp only [go_sem, Nat.reduceBEq, Nat.reduceAdd, Nat.reduceMul, Nat.reduceSub, Nat.reduceLeDiff, Nat.le_refl, implies_true, Nat.reduceLT, reduceIte, decide_true, decide_false, true_and, and_true, reduceCtorEq, Nat.mul_one, Int.reduceToNat, Int.reduceLE, Int.reduceLT, Int.reduceAdd, Int.reduceSub, Int.reduceMul, Int.cast_ofNat_Int, cast_zero_int, cast_one_int, Nat.reducePow, Nat.reduceEqDiff, Nat.reduceMod, Nat.zero_add, Nat.sub_zero, Nat.add_zero]
      · simp only [go_sem, Nat.reduceBEq, Nat.reduceAdd, Nat.reduceMul, Nat.reduceSub, Nat.reduceLeDiff, Nat.le_refl, implies_true, Nat.reduceLT, reduceIte, decide_true, decide_false, true_and, and_true, reduceCtorEq, Nat.mul_one, Int.reduceToNat, Int.reduceLE, Int.reduceLT, Int.reduceAdd, Int.reduceSub, Int.reduceMul, Int.cast_ofNat_Int, cast_zero_int, cast_one_int, Nat.reducePow, Nat.reduceEqDiff, Nat.reduceMod, Nat.zero_add, Nat.sub_zero, Nat.add_zero, eqs, Bool.not_true, bne_self_eq_false, show (k == 0) = false by simpa using k0]
        refine ⟨by kernel_rfl, (c_IsValidLog (pw.mono (by simp)) mD ⟨#[]⟩ mk (by omega)).use (fun _ m => m) ?_⟩
        rintro _ _ ⟨rfl, ⟨t8, rfl⟩⟩
        simp only [go_sem, Nat.reduceBEq, Nat.reduceAdd, Nat.reduceMul, Nat.reduceSub, Nat.reduceLeDiff, Nat.le_refl, implies_true, Nat.reduceLT, reduceIte, decide_true, decide_false, true_and, and_true, reduceCtorEq, Nat.mul_one, Int.reduceToNat, Int.reduceLE, Int.reduceLT, Int.reduceAdd, Int.reduceSub, Int.reduceMul, Int.cast_ofNat_Int, cast_zero_int, cast_one_int, Nat.reducePow, Nat.reduceEqDiff, Nat.reduceMod, Nat.zero_add, Nat.sub_zero, Nat.add_zero, eqs, Bool.not_true, bne_self_eq_false, decb lg, show (k == 0) = false by simpa using k0]

/-- The slots that a loop keeps. -/
def Keep (e0 e : Env) : List Nat → Prop
  | [] => True
  | s :: r => e s = e0 s ∧ Keep e0 e r
theorem keep_nil {e0 e : Env} : Keep e0 e [] = True := rfl
theorem keep_cons {e0 e : Env} {s : Nat} {r : List Nat} : Keep e0 e (s :: r) = (e s = e0 s ∧ Keep e0 e r) := rfl
theorem keep_refl (e : Env) : ∀ S, Keep e e S
  | [] => trivial
  | _ :: r => ⟨rfl, keep_refl e r⟩
theorem loopKeep {G : List (Nat × Nat)} {P : Program} {n : Nat} {M : Nat → Prop} {c : Code} {Q : Exit → Env → Heap → Prop} {e : Env} {h : Heap} (hm : P.follows .mixedOrders = true) (N v : Nat) (S : List Nat) (h0 : e v = .int .i64 0)
    (round : ∀ H, H = h → ∀ i e', i ≤ N → Keep e e' S → e' v = .int .i64 i → vCode G P n M c (thenQ Q (fun e2 h2 => i < N ∧ Keep e e2 S ∧ e2 v = .int .i64 (i + 1 : Nat) ∧ h2 = H)) e' H) : vLoop G P n M c Q e h :=
  vLoop.count hm N (fun i e' h' => Keep e e' S ∧ e' v = .int .i64 i ∧ h' = h) ⟨keep_refl e S, h0, rfl⟩ fun i e' h' hi ⟨a, b, q⟩ => by
    subst q
    exact round _ rfl i e' hi a b
theorem Sl.recLen {h : Heap} {v : Value} {d : List (BL × BL)} (s : Sl h 2 v (d.map recR)) : ∃ a, v = .slice a d.length 0 := by
  obtain ⟨a, hv, _⟩ := s
  exact ⟨a, by rw [hv, List.length_map]⟩
theorem extract_all (s : ByteArray) : s.extract 0 s.size = s := by
  rw [← mkB_bl (s.extract 0 s.size), bl_extract, List.drop_zero, ← bl_len, List.take_length, mkB_bl]
theorem app_case (D P : ByteArray) (k : Int) (c r : ByteArray) (hz : D.size + P.size ≤ 30000) (hc : c.size ≤ 20) (hr : r.size ≤ 20) :
    (∃ co, appV D P k c r = .tuple #[.agg #[.string D, .string P, .int .i64 k], .int .i64 co] ∧ co ≠ 0) ∨
    (∃ P' k', appV D P k c r = .tuple #[.agg #[.string D, .string P', .int .i64 k'], .int .i64 0] ∧ D.size + P'.size ≤ 30000 ∧ logOk (bl D) (bl P) k ∧ logOk (bl D) (bl P') k' ∧ openL 60 0 (bl D ++ bl P') = openL 60 0 (bl D ++ bl P) ++ [(bl c, bl r)]) := by
  unfold appV
  split
  · rename_i g
    have g1 := logOk_count g.1
    have g2 := g.2
    rw [recOk_L] at g2
    split
    · exact .inl ⟨2, rfl, by decide⟩
    · rename_i g3
      obtain ⟨i, rfl⟩ := Int.eq_ofNat_of_zero_le g1.1
      have sm := logOk_small g.1.1
      rw [List.length_append, bl_len, bl_len] at sm
      have zl := lineL_len (k := i) g2 (by omega)
      obtain ⟨a1, a2⟩ := logOk_app (n := i) g.1 (by omega) g2
      have e : bl (P ++ mkB (lineL (Int.toNat (i : Nat)) (bl c) (bl r) ++ [10])) = bl P ++ (lineL i (bl c) (bl r) ++ [10]) := by rw [bl_app, bl_mkB, Int.toNat_natCast]
      refine .inr ⟨_, _, rfl, ?_, g.1, ?_, ?_⟩
      · rw [← bl_len (P ++ _), e, List.length_append, List.length_append, List.length_singleton, bl_len]; omega
      · rw [e]; exact a2
      · rw [e]; exact a1
  · exact .inl ⟨1, rfl, by decide⟩

set_option maxRecDepth 20000 in
theorem l_FnLog (pw : PowAt G h) (b : Option Addr) (n : Nat) (hc : CodeOk h b n) : vCall G Tryd.prog M 10 [.slice b n 0] h (fun r _ => r = .bool true) := by
  refine body_of mo Tryd.func10 rfl (by kernel_rfl) (Nat.le_of_ble_eq_true (by kernel_rfl)) rfl ?_
  simp only [go_sem, Nat.reduceBEq, Nat.reduceAdd, Nat.reduceMul, Nat.reduceSub, Nat.reduceLeDiff, Nat.le_refl, implies_true, Nat.reduceLT, reduceIte, decide_true, decide_false, true_and, and_true, reduceCtorEq, Nat.mul_one, Int.reduceToNat, Int.reduceLE, Int.reduceLT, Int.reduceAdd, Int.reduceSub, Int.reduceMul, Int.cast_ofNat_Int, cast_zero_int, cast_one_int, Nat.reducePow, Nat.reduceEqDiff, Nat.reduceMod, Nat.zero_add, Nat.sub_zero, Nat.add_zero]
  refine ⟨by kernel_rfl, ((c_vBig b n).addG).use (fun _ m => m) ?_⟩
  rintro _ _ ⟨rfl, rfl⟩
  by_cases hb : (65536 : Int) < n
  · simp only [go_sem, Nat.reduceBEq, Nat.reduceAdd, Nat.reduceMul, Nat.reduceSub, Nat.reduceLeDiff, Nat.le_refl, implies_true, Nat.reduceLT, reduceIte, decide_true, decide_false, true_and, and_true, reduceCtorEq, Nat.mul_one, Int.reduceToNat, Int.reduceLE, Int.reduceLT, Int.reduceAdd, Int.reduceSub, Int.reduceMul, Int.cast_ofNat_Int, cast_zero_int, cast_one_int, Nat.reducePow, Nat.reduceEqDiff, Nat.reduceMod, Nat.zero_add, Nat.sub_zero, Nat.add_zero, decb hb]
  simp only [go_sem, Nat.reduceBEq, Nat.reduceAdd, Nat.reduceMul, Nat.reduceSub, Nat.reduceLeDiff, Nat.le_refl, implies_true, Nat.reduceLT, reduceIte, decide_true, decide_false, true_and, and_true, reduceCtorEq, Nat.mul_one, Int.reduceToNat, Int.reduceLE, Int.reduceLT, Int.reduceAdd, Int.reduceSub, Int.reduceMul, Int.cast_ofNat_Int, cast_zero_int, cast_one_int, Nat.reducePow, Nat.reduceEqDiff, Nat.reduceMod, Nat.zero_add, Nat.sub_zero, Nat.add_zero, dect hb]
  refine ⟨by kernel_rfl, ((c_DrawAppendRecord b n hc).addG).use (fun _ m => m) ?_⟩
  rintro _ _ ⟨⟨D, P, k, c, r2, rfl, zD, zc, zr⟩, ⟨t1, rfl⟩⟩
  try simp only [go_sem, Nat.reduceBEq, Nat.reduceAdd, Nat.reduceMul, Nat.reduceSub, Nat.reduceLeDiff, Nat.le_refl, implies_true, Nat.reduceLT, reduceIte, decide_true, decide_false, true_and, and_true, reduceCtorEq, Nat.mul_one, Int.reduceToNat, Int.reduceLE, Int.reduceLT, Int.reduceAdd, Int.reduceSub, Int.reduceMul, Int.cast_ofNat_Int, cast_zero_int, cast_one_int, Nat.reducePow, Nat.reduceEqDiff, Nat.reduceMod, Nat.zero_add, Nat.sub_zero, Nat.add_zero]
  refine ⟨by kernel_rfl, (c_AppendRecord (pw.mono (by simp)) D P k c r2 (by omega) (by omega) (by omega)).use (fun _ m => m) ?_⟩
  rintro _ _ ⟨rfl, ⟨t2, rfl⟩⟩
  rcases app_case D P k c r2 zD zc zr with ⟨co, ha, hco⟩ | ⟨P', k', ha, zP, ok1, ok2, op⟩
  · have q : (co == 0) = false := by simpa using hco
    rw [ha]
    try simp only [go_sem, Nat.reduceBEq, Nat.reduceAdd, Nat.reduceMul, Nat.reduceSub, Nat.reduceLeDiff, Nat.le_refl, implies_true, Nat.reduceLT, reduceIte, decide_true, decide_false, true_and, and_true, reduceCtorEq, Nat.mul_one, Int.reduceToNat, Int.reduceLE, Int.reduceLT, Int.reduceAdd, Int.reduceSub, Int.reduceMul, Int.cast_ofNat_Int, cast_zero_int, cast_one_int, Nat.reducePow, Nat.reduceEqDiff, Nat.reduceMod, Nat.zero_add, Nat.sub_zero, Nat.add_zero]
    refine ⟨by kernel_rfl, ((c_sAppendRecord D P k c r2 (by omega) (by omega) (by omega)).addG).use (fun _ m => m) ?_⟩
    rintro _ _ ⟨rfl, ⟨t3, rfl⟩⟩
    rw [ha]
    simp only [go_sem, Nat.reduceBEq, Nat.reduceAdd, Nat.reduceMul, Nat.reduceSub, Nat.reduceLeDiff, Nat.le_refl, implies_true, Nat.reduceLT, reduceIte, decide_true, decide_false, true_and, and_true, reduceCtorEq, Nat.mul_one, Int.reduceToNat, Int.reduceLE, Int.reduceLT, Int.reduceAdd, Int.reduceSub, Int.reduceMul, Int.cast_ofNat_Int, cast_zero_int, cast_one_int, Nat.reducePow, Nat.reduceEqDiff, Nat.reduceMod, Nat.zero_add, Nat.sub_zero, Nat.add_zero, eqs, Bool.not_true, bne_self_eq_false]
    refine ⟨by kernel_rfl, (c_IsValidLog (pw.mono (by simp)) D P k (by omega)).use (fun _ m => m) ?_⟩
    rintro _ _ ⟨rfl, ⟨t4, rfl⟩⟩
    simp only [go_sem, Nat.reduceBEq, Nat.reduceAdd, Nat.reduceMul, Nat.reduceSub, Nat.reduceLeDiff, Nat.le_refl, implies_true, Nat.reduceLT, reduceIte, decide_true, decide_false, true_and, and_true, reduceCtorEq, Nat.mul_one, Int.reduceToNat, Int.reduceLE, Int.reduceLT, Int.reduceAdd, Int.reduceSub, Int.reduceMul, Int.cast_ofNat_Int, cast_zero_int, cast_one_int, Nat.reducePow, Nat.reduceEqDiff, Nat.reduceMod, Nat.zero_add, Nat.sub_zero, Nat.add_zero, eqs, Bool.not_true, bne_self_eq_false]
    refine ⟨by kernel_rfl, ((c_sIsValidLog D P k (by omega)).addG).use (fun _ m => m) ?_⟩
    rintro _ _ ⟨rfl, ⟨t5, rfl⟩⟩
    simp only [go_sem, Nat.reduceBEq, Nat.reduceAdd, Nat.reduceMul, Nat.reduceSub, Nat.reduceLeDiff, Nat.le_refl, implies_true, Nat.reduceLT, reduceIte, decide_true, decide_false, true_and, and_true, reduceCtorEq, Nat.mul_one, Int.reduceToNat, Int.reduceLE, Int.reduceLT, Int.reduceAdd, Int.reduceSub, Int.reduceMul, Int.cast_ofNat_Int, cast_zero_int, cast_one_int, Nat.reducePow, Nat.reduceEqDiff, Nat.reduceMod, Nat.zero_add, Nat.sub_zero, Nat.add_zero, eqs, Bool.not_true, bne_self_eq_false]
    refine ⟨by kernel_rfl, ((c_IsValidRecord c r2 (by omega) (by omega)).addG).use (fun _ m => m) ?_⟩
    rintro _ _ ⟨rfl, ⟨t6, rfl⟩⟩
    simp only [go_sem, Nat.reduceBEq, Nat.reduceAdd, Nat.reduceMul, Nat.reduceSub, Nat.reduceLeDiff, Nat.le_refl, implies_true, Nat.reduceLT, reduceIte, decide_true, decide_false, true_and, and_true, reduceCtorEq, Nat.mul_one, Int.reduceToNat, Int.reduceLE, Int.reduceLT, Int.reduceAdd, Int.reduceSub, Int.reduceMul, Int.cast_ofNat_Int, cast_zero_int, cast_one_int, Nat.reducePow, Nat.reduceEqDiff, Nat.reduceMod, Nat.zero_add, Nat.sub_zero, Nat.add_zero, eqs, Bool.not_true, bne_self_eq_false]
    refine ⟨by kernel_rfl, ((c_sIsValidRecord c r2 (by omega) (by omega)).addG).use (fun _ m => m) ?_⟩
    rintro _ _ ⟨rfl, ⟨t7, rfl⟩⟩
    simp only [go_sem, Nat.reduceBEq, Nat.reduceAdd, Nat.reduceMul, Nat.reduceSub, Nat.reduceLeDiff, Nat.le_refl, implies_true, Nat.reduceLT, reduceIte, decide_true, decide_false, true_and, and_true, reduceCtorEq, Nat.mul_one, Int.reduceToNat, Int.reduceLE, Int.reduceLT, Int.reduceAdd, Int.reduceSub, Int.reduceMul, Int.cast_ofNat_Int, cast_zero_int, cast_one_int, Nat.reducePow, Nat.reduceEqDiff, Nat.reduceMod, Nat.zero_add, Nat.sub_zero, Nat.add_zero, eqs, Bool.not_true, bne_self_eq_false, bne, q]
  · obtain ⟨d, hd⟩ : ∃ d, openL 60 0 (bl D ++ bl P) = d := ⟨_, rfl⟩
    rw [hd] at op
    have dl : d.length + 1 ≤ 60 := by have := openL_len 60 0 (bl D ++ bl P'); rw [op, List.length_append, List.length_singleton] at this; exact this
    have hk' : k' = ((d.length + 1 : Nat) : Int) := by have := ok2.2.2; rw [op, List.length_append, List.length_singleton] at this; exact this.symm
    subst hk'
    have hlen : endL 0 (d ++ [(bl c, bl r2)]) = (D ++ P').size := by have := ok2.1; rw [op] at this; rw [this, ← bl_app, bl_len]
    have sDP : (D ++ P').size ≤ 30000 := by rw [ByteArray.size_append]; omega
    have hreco : recoV (D ++ P') = .tuple #[.agg #[.string (D ++ P'), .string ⟨#[]⟩, .int .i64 ((d.length + 1 : Nat) : Int)], .int .i64 (D ++ P').size, .bool true] := by
      rw [recoV_ok sDP, bl_app, op, hlen, extract_all, List.length_append, List.length_singleton]
    have hsync : syncV D P' ((d.length + 1 : Nat) : Int) = .tuple #[.agg #[.string (D ++ P'), .string ⟨#[]⟩, .int .i64 ((d.length + 1 : Nat) : Int)], .bool true] := if_pos ok2
    have hm : d.map recR ++ [recR (bl c, bl r2)] = (d ++ [(bl c, bl r2)]).map recR := by rw [List.map_append]; rfl
    rw [ha]
    try simp only [go_sem, Nat.reduceBEq, Nat.reduceAdd, Nat.reduceMul, Nat.reduceSub, Nat.reduceLeDiff, Nat.le_refl, implies_true, Nat.reduceLT, reduceIte, decide_true, decide_false, true_and, and_true, reduceCtorEq, Nat.mul_one, Int.reduceToNat, Int.reduceLE, Int.reduceLT, Int.reduceAdd, Int.reduceSub, Int.reduceMul, Int.cast_ofNat_Int, cast_zero_int, cast_one_int, Nat.reducePow, Nat.reduceEqDiff, Nat.reduceMod, Nat.zero_add, Nat.sub_zero, Nat.add_zero]
    refine ⟨by kernel_rfl, ((c_sAppendRecord D P k c r2 (by omega) (by omega) (by omega)).addG).use (fun _ m => m) ?_⟩
    rintro _ _ ⟨rfl, ⟨t3, rfl⟩⟩
    rw [ha]
    simp only [go_sem, Nat.reduceBEq, Nat.reduceAdd, Nat.reduceMul, Nat.reduceSub, Nat.reduceLeDiff, Nat.le_refl, implies_true, Nat.reduceLT, reduceIte, decide_true, decide_false, true_and, and_true, reduceCtorEq, Nat.mul_one, Int.reduceToNat, Int.reduceLE, Int.reduceLT, Int.reduceAdd, Int.reduceSub, Int.reduceMul, Int.cast_ofNat_Int, cast_zero_int, cast_one_int, Nat.reducePow, Nat.reduceEqDiff, Nat.reduceMod, Nat.zero_add, Nat.sub_zero, Nat.add_zero, eqs, Bool.not_true, bne_self_eq_false]
    refine ⟨by kernel_rfl, (c_IsValidLog (pw.mono (by simp)) D P k (by omega)).use (fun _ m => m) ?_⟩
    rintro _ _ ⟨rfl, ⟨t4, rfl⟩⟩
    simp only [go_sem, Nat.reduceBEq, Nat.reduceAdd, Nat.reduceMul, Nat.reduceSub, Nat.reduceLeDiff, Nat.le_refl, implies_true, Nat.reduceLT, reduceIte, decide_true, decide_false, true_and, and_true, reduceCtorEq, Nat.mul_one, Int.reduceToNat, Int.reduceLE, Int.reduceLT, Int.reduceAdd, Int.reduceSub, Int.reduceMul, Int.cast_ofNat_Int, cast_zero_int, cast_one_int, Nat.reducePow, Nat.reduceEqDiff, Nat.reduceMod, Nat.zero_add, Nat.sub_zero, Nat.add_zero, eqs, Bool.not_true, bne_self_eq_false]
    refine ⟨by kernel_rfl, ((c_sIsValidLog D P k (by omega)).addG).use (fun _ m => m) ?_⟩
    rintro _ _ ⟨rfl, ⟨t5, rfl⟩⟩
    simp only [go_sem, Nat.reduceBEq, Nat.reduceAdd, Nat.reduceMul, Nat.reduceSub, Nat.reduceLeDiff, Nat.le_refl, implies_true, Nat.reduceLT, reduceIte, decide_true, decide_false, true_and, and_true, reduceCtorEq, Nat.mul_one, Int.reduceToNat, Int.reduceLE, Int.reduceLT, Int.reduceAdd, Int.reduceSub, Int.reduceMul, Int.cast_ofNat_Int, cast_zero_int, cast_one_int, Nat.reducePow, Nat.reduceEqDiff, Nat.reduceMod, Nat.zero_add, Nat.sub_zero, Nat.add_zero, eqs, Bool.not_true, bne_self_eq_false]
    refine ⟨by kernel_rfl, ((c_IsValidRecord c r2 (by omega) (by omega)).addG).use (fun _ m => m) ?_⟩
    rintro _ _ ⟨rfl, ⟨t6, rfl⟩⟩
    simp only [go_sem, Nat.reduceBEq, Nat.reduceAdd, Nat.reduceMul, Nat.reduceSub, Nat.reduceLeDiff, Nat.le_refl, implies_true, Nat.reduceLT, reduceIte, decide_true, decide_false, true_and, and_true, reduceCtorEq, Nat.mul_one, Int.reduceToNat, Int.reduceLE, Int.reduceLT, Int.reduceAdd, Int.reduceSub, Int.reduceMul, Int.cast_ofNat_Int, cast_zero_int, cast_one_int, Nat.reducePow, Nat.reduceEqDiff, Nat.reduceMod, Nat.zero_add, Nat.sub_zero, Nat.add_zero, eqs, Bool.not_true, bne_self_eq_false]
    refine ⟨by kernel_rfl, ((c_sIsValidRecord c r2 (by omega) (by omega)).addG).use (fun _ m => m) ?_⟩
    rintro _ _ ⟨rfl, ⟨t7, rfl⟩⟩
    simp only [go_sem, Nat.reduceBEq, Nat.reduceAdd, Nat.reduceMul, Nat.reduceSub, Nat.reduceLeDiff, Nat.le_refl, implies_true, Nat.reduceLT, reduceIte, decide_true, decide_false, true_and, and_true, reduceCtorEq, Nat.mul_one, Int.reduceToNat, Int.reduceLE, Int.reduceLT, Int.reduceAdd, Int.reduceSub, Int.reduceMul, Int.cast_ofNat_Int, cast_zero_int, cast_one_int, Nat.reducePow, Nat.reduceEqDiff, Nat.reduceMod, Nat.zero_add, Nat.sub_zero, Nat.add_zero, eqs, Bool.not_true, bne_self_eq_false]
    refine ⟨by kernel_rfl, (c_LogRecordsY (pw.mono (by simp)) D P' _ (by omega) ok2).use (fun _ m => m) ?_⟩
    rintro _ _ ⟨⟨v, rfl, sv⟩, ⟨t8, rfl⟩⟩
    rw [op] at sv
    have sv2 : Sl _ 2 _ _ := sv.sl
    obtain ⟨va, rfl⟩ : ∃ a, v = .slice a (d.length + 1) 0 := by have := Sl.recLen sv2; rw [List.length_append, List.length_singleton] at this; exact this
    try simp only [go_sem, Nat.reduceBEq, Nat.reduceAdd, Nat.reduceMul, Nat.reduceSub, Nat.reduceLeDiff, Nat.le_refl, implies_true, Nat.reduceLT, reduceIte, decide_true, decide_false, true_and, and_true, reduceCtorEq, Nat.mul_one, Int.reduceToNat, Int.reduceLE, Int.reduceLT, Int.reduceAdd, Int.reduceSub, Int.reduceMul, Int.cast_ofNat_Int, cast_zero_int, cast_one_int, Nat.reducePow, Nat.reduceEqDiff, Nat.reduceMod, Nat.zero_add, Nat.sub_zero, Nat.add_zero]
    refine ⟨by kernel_rfl, (c_LogRecordsY (pw.mono (by simp)) D P _ (by omega) ok1).use (fun _ m => m) ?_⟩
    rintro _ _ ⟨⟨w, rfl, sw⟩, ⟨t9, rfl⟩⟩
    rw [hd] at sw
    have sw2 : Sl _ 2 _ _ := sw.sl
    obtain ⟨wa, rfl⟩ := Sl.recLen sw2
    simp only [go_sem, Nat.reduceBEq, Nat.reduceAdd, Nat.reduceMul, Nat.reduceSub, Nat.reduceLeDiff, Nat.le_refl, implies_true, Nat.reduceLT, reduceIte, decide_true, decide_false, true_and, and_true, reduceCtorEq, Nat.mul_one, Int.reduceToNat, Int.reduceLE, Int.reduceLT, Int.reduceAdd, Int.reduceSub, Int.reduceMul, Int.cast_ofNat_Int, cast_zero_int, cast_one_int, Nat.reducePow, Nat.reduceEqDiff, Nat.reduceMod, Nat.zero_add, Nat.sub_zero, Nat.add_zero, joinDP D P' (by omega)]
    refine ⟨by kernel_rfl, (c_RecoverLog (pw.mono (by simp)) (D ++ P') (by omega)).use (fun _ m => m) ?_⟩
    rintro _ _ ⟨rfl, ⟨t10, rfl⟩⟩
    rw [hreco]
    simp only [go_sem, Nat.reduceBEq, Nat.reduceAdd, Nat.reduceMul, Nat.reduceSub, Nat.reduceLeDiff, Nat.le_refl, implies_true, Nat.reduceLT, reduceIte, decide_true, decide_false, true_and, and_true, reduceCtorEq, Nat.mul_one, Int.reduceToNat, Int.reduceLE, Int.reduceLT, Int.reduceAdd, Int.reduceSub, Int.reduceMul, Int.cast_ofNat_Int, cast_zero_int, cast_one_int, Nat.reducePow, Nat.reduceEqDiff, Nat.reduceMod, Nat.zero_add, Nat.sub_zero, Nat.add_zero]
    refine ⟨by kernel_rfl, (c_SyncLog (pw.mono (by simp)) D P' _ (by omega)).use (fun _ m => m) ?_⟩
    rintro _ _ ⟨rfl, ⟨t11, rfl⟩⟩
    rw [hsync]
    have w1 : IntKind.i64.wrap ((d.length : Int) + 1) = ((d.length + 1 : Nat) : Int) := by rw [wrap64 (by omega)]; rfl
    simp only [go_sem, Nat.reduceBEq, Nat.reduceAdd, Nat.reduceMul, Nat.reduceSub, Nat.reduceLeDiff, Nat.le_refl, implies_true, Nat.reduceLT, reduceIte, decide_true, decide_false, true_and, and_true, reduceCtorEq, Nat.mul_one, Int.reduceToNat, Int.reduceLE, Int.reduceLT, Int.reduceAdd, Int.reduceSub, Int.reduceMul, Int.cast_ofNat_Int, cast_zero_int, cast_one_int, Nat.reducePow, Nat.reduceEqDiff, Nat.reduceMod, Nat.zero_add, Nat.sub_zero, Nat.add_zero, eqs, Bool.not_true, bne_self_eq_false, w1]
    refine loopKeep mo d.length 18 [4, 5, 9, 11, 13, 14, 15, 16, 17] ?_ ?_
    · simp only [go_sem, Nat.reduceBEq, Nat.reduceAdd, Nat.reduceMul, Nat.reduceSub, Nat.reduceLeDiff, Nat.le_refl, implies_true, Nat.reduceLT, reduceIte, decide_true, decide_false, true_and, and_true, reduceCtorEq, Nat.mul_one, Int.reduceToNat, Int.reduceLE, Int.reduceLT, Int.reduceAdd, Int.reduceSub, Int.reduceMul, Int.cast_ofNat_Int, cast_zero_int, cast_one_int, Nat.reducePow, Nat.reduceEqDiff, Nat.reduceMod, Nat.zero_add, Nat.sub_zero, Nat.add_zero]
    rintro H hH i e hi ⟨k4, k5, k9, k11, k13, k14, k15, k16, k17, _⟩ ei
    simp only [go_sem, Nat.reduceBEq, Nat.reduceAdd, Nat.reduceMul, Nat.reduceSub, Nat.reduceLeDiff, Nat.le_refl, implies_true, Nat.reduceLT, reduceIte, decide_true, decide_false, true_and, and_true, reduceCtorEq, Nat.mul_one, Int.reduceToNat, Int.reduceLE, Int.reduceLT, Int.reduceAdd, Int.reduceSub, Int.reduceMul, Int.cast_ofNat_Int, cast_zero_int, cast_one_int, Nat.reducePow, Nat.reduceEqDiff, Nat.reduceMod, Nat.zero_add, Nat.sub_zero, Nat.add_zero] at k4 k5 k9 k11 k13 k14 k15 k16 k17
    simp only [go_sem, Nat.reduceBEq, Nat.reduceAdd, Nat.reduceMul, Nat.reduceSub, Nat.reduceLeDiff, Nat.le_refl, implies_true, Nat.reduceLT, reduceIte, decide_true, decide_false, true_and, and_true, reduceCtorEq, Nat.mul_one, Int.reduceToNat, Int.reduceLE, Int.reduceLT, Int.reduceAdd, Int.reduceSub, Int.reduceMul, Int.cast_ofNat_Int, cast_zero_int, cast_one_int, Nat.reducePow, Nat.reduceEqDiff, Nat.reduceMod, Nat.zero_add, Nat.sub_zero, Nat.add_zero, ei, k11]
    refine .intro (fun h1 => ?_) (fun h1 => ?_)
    · have hlt : i < d.length := by simpa using h1
      have hz : (i : Int) < d.length := by omega
      have hlt1 : i < ((d ++ [(bl c, bl r2)]).map recR).length := by simp; omega
      have hlt2 : i < (d.map recR).length := by simpa using hlt
      have sv3 : Sl H 2 (.slice va (d.length + 1) 0) ((d ++ [(bl c, bl r2)]).map recR) := by rw [hH]; exact sv2.mono (by simp)
      have sw3 : Sl H 2 (.slice wa d.length 0) (d.map recR) := by rw [hH]; exact sw2.mono (by simp)
      obtain ⟨id, off, kk, hv, _, hk, hdd, hbb, hrow, hat⟩ := sv3.at hlt1
      obtain rfl : va = some ⟨id, off, none⟩ := by simpa using hv
      obtain ⟨id2, off2, kk2, hv2, _, hk2, hdd2, hbb2, hrow2, hat2⟩ := sw3.at hlt2
      obtain rfl : wa = some ⟨id2, off2, none⟩ := by simpa using hv2
      have er : ((d ++ [(bl c, bl r2)]).map recR)[i] = recR d[i] := by rw [List.getElem_map, List.getElem_append_left hlt]
      have q0 : kk.cells[off + i * 2]? = some (.string (mkB d[i].1)) := by have := hat 0 (by omega); rw [er] at this; exact this
      have q1 : kk.cells[off + i * 2 + 1]? = some (.string (mkB d[i].2)) := by have := hat 1 (by omega); rw [er] at this; exact this
      have q2 : kk2.cells[off2 + i * 2]? = some (.string (mkB d[i].1)) := by have := hat2 0 (by omega); rw [List.getElem_map] at this; exact this
      have q3 : kk2.cells[off2 + i * 2 + 1]? = some (.string (mkB d[i].2)) := by have := hat2 1 (by omega); rw [List.getElem_map] at this; exact this
      rw [er] at hrow
      rw [List.getElem_map] at hrow2
      clear hH
      simp only [go_sem, Nat.reduceBEq, Nat.reduceAdd, Nat.reduceMul, Nat.reduceSub, Nat.reduceLeDiff, Nat.le_refl, implies_true, Nat.reduceLT, reduceIte, decide_true, decide_false, true_and, and_true, reduceCtorEq, Nat.mul_one, Int.reduceToNat, Int.reduceLE, Int.reduceLT, Int.reduceAdd, Int.reduceSub, Int.reduceMul, Int.cast_ofNat_Int, cast_zero_int, cast_one_int, Nat.reducePow, Nat.reduceEqDiff, Nat.reduceMod, Nat.zero_add, Nat.sub_zero, Nat.add_zero, ei, k11, k9, hz, show (i : Int) < ((d.length + 1 : Nat) : Int) by omega, hk, hk2, q0, q1, q2, q3, hdd, hdd2, hbb, hbb2, hrow, hrow2, recR, eqs, Bool.not_true]
      refine ⟨hlt, ?_, by rw [wrap64 (by omega)]; rfl⟩
      simp only [go_sem, Nat.reduceBEq, Nat.reduceAdd, Nat.reduceMul, Nat.reduceSub, Nat.reduceLeDiff, Nat.le_refl, implies_true, Nat.reduceLT, reduceIte, decide_true, decide_false, true_and, and_true, reduceCtorEq, Nat.mul_one, Int.reduceToNat, Int.reduceLE, Int.reduceLT, Int.reduceAdd, Int.reduceSub, Int.reduceMul, Int.cast_ofNat_Int, cast_zero_int, cast_one_int, Nat.reducePow, Nat.reduceEqDiff, Nat.reduceMod, Nat.zero_add, Nat.sub_zero, Nat.add_zero, keep_cons, keep_nil, k4, k5, k9, k11, k13, k14, k15, k16, k17, and_self]
    · obtain rfl : i = d.length := by have := h1; simp at this; omega
      have hlt1 : d.length < ((d ++ [(bl c, bl r2)]).map recR).length := by simp
      have sv3 : Sl H 2 (.slice va (d.length + 1) 0) ((d ++ [(bl c, bl r2)]).map recR) := by rw [hH]; exact sv2.mono (by simp)
      obtain ⟨id, off, kk, hv, _, hk, hdd, hbb, hrow, hat⟩ := sv3.at hlt1
      obtain rfl : va = some ⟨id, off, none⟩ := by simpa using hv
      have er : ((d ++ [(bl c, bl r2)]).map recR)[d.length] = recR (bl c, bl r2) := by rw [List.getElem_map, List.getElem_append_right (Nat.le_refl _)]; simp
      have q0 : kk.cells[off + d.length * 2]? = some (.string c) := by have := hat 0 (by omega); rw [er] at this; rw [← mkB_bl c]; exact this
      have q1 : kk.cells[off + d.length * 2 + 1]? = some (.string r2) := by have := hat 1 (by omega); rw [er] at this; rw [← mkB_bl r2]; exact this
      rw [er] at hrow
      have hm2 : recR (bl c, bl r2) = [.string c, .string r2] := by simp [recR, mkB_bl]
      subst hH
      simp only [go_sem, Nat.reduceBEq, Nat.reduceAdd, Nat.reduceMul, Nat.reduceSub, Nat.reduceLeDiff, Nat.le_refl, implies_true, Nat.reduceLT, reduceIte, decide_true, decide_false, true_and, and_true, reduceCtorEq, Nat.mul_one, Int.reduceToNat, Int.reduceLE, Int.reduceLT, Int.reduceAdd, Int.reduceSub, Int.reduceMul, Int.cast_ofNat_Int, cast_zero_int, cast_one_int, Nat.reducePow, Nat.reduceEqDiff, Nat.reduceMod, Nat.zero_add, Nat.sub_zero, Nat.add_zero, ei, k4, k5, k9, k11, k13, k14, k15, k16, k17, show (d.length : Int) < ((d.length + 1 : Nat) : Int) by omega, hk, q0, q1, hdd, hbb, hrow, hm2, eqs, joinDP D P' (by omega)]
      refine ⟨by kernel_rfl, (c_IsValidLog (pw.mono (by simp)) D P' _ (by omega)).use (fun _ m => m) ?_⟩
      rintro _ _ ⟨rfl, ⟨t12, rfl⟩⟩
      simp only [go_sem, Nat.reduceBEq, Nat.reduceAdd, Nat.reduceMul, Nat.reduceSub, Nat.reduceLeDiff, Nat.le_refl, implies_true, Nat.reduceLT, reduceIte, decide_true, decide_false, true_and, and_true, reduceCtorEq, Nat.mul_one, Int.reduceToNat, Int.reduceLE, Int.reduceLT, Int.reduceAdd, Int.reduceSub, Int.reduceMul, Int.cast_ofNat_Int, cast_zero_int, cast_one_int, Nat.reducePow, Nat.reduceEqDiff, Nat.reduceMod, Nat.zero_add, Nat.sub_zero, Nat.add_zero, ei, k4, k5, k9, k11, k13, k14, k15, k16, k17, eqs, decb ok2]
end
end Go.Proofs.YtkogddiefniihaaDoor
