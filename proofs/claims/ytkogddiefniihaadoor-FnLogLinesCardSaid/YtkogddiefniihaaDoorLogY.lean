
/- Recovery after a crash. No condition. -/
import Derived.Test.YtkogddiefniihaaDoorLogX
import Derived.Test.YtkogddiefniihaaDoorH3
namespace Go.Proofs.YtkogddiefniihaaDoor
open Go.HH Go.Proofs
set_option linter.unusedSimpArgs false
set_option linter.unusedVariables false

theorem tear_open {D T : BL} (torn : Bool) (hb : ∀ b ∈ T, b.toNat ≤ 126) : ∃ T', T' <+: T ∧ openL 60 0 (D ++ tearL T torn) = openL 60 0 (D ++ T') := by
  unfold tearL
  split
  · rename_i g
    obtain ⟨X, x, rfl⟩ : ∃ X x, T = X ++ [x] := by
      have hne : T ≠ [] := by intro h; rw [h] at g; exact absurd g.2 (by simp)
      exact ⟨T.dropLast, T.getLast hne, (List.dropLast_concat_getLast hne).symm⟩
    refine ⟨X, List.prefix_append _ _, ?_⟩
    have e : (X ++ [x]).set ((X ++ [x]).length - 1) (255 - (X ++ [x]).getD ((X ++ [x]).length - 1) 0) = X ++ [255 - x] := by
      rw [List.length_append, List.length_singleton, Nat.add_sub_cancel, List.getD_eq_getElem?_getD]
      simp
    have hx := hb x (by simp)
    rw [e, ← List.append_assoc, open_snoc]
    intro h
    have := congrArg UInt8.toNat h
    rw [UInt8.toNat_sub_of_le _ _ (by rw [UInt8.le_iff_toNat_le]; show x.toNat ≤ 255; omega)] at this
    have e255 : (255 : UInt8).toNat = 255 := rfl
    have e10 : (10 : UInt8).toNat = 10 := rfl
    omega
  · exact ⟨T, List.prefix_rfl, rfl⟩
theorem endL_pre : ∀ (k : Nat) (a b : List (BL × BL)), a <+: b → endL k a ≤ endL k b
  | _, [], _, _ => Nat.zero_le _
  | k, x :: a, [], h => by simp at h
  | k, x :: a, y :: b, h => by
    obtain ⟨rfl, h2⟩ := List.cons_prefix_cons.1 h
    have := endL_pre (k + 1) a b h2
    simp only [endL]; omega
/-- What a crash leaves. -/
theorem crash_case (D P : ByteArray) (k keep : Int) (torn : Bool) (hz : D.size + P.size ≤ 6000) :
    (∃ s, crashV D P k keep torn = .tuple #[.string s, .bool true] ∧ s.size ≤ 30000 ∧ logOk (bl D) (bl P) k ∧ openL 60 0 (bl s) <+: openL 60 0 (bl D ++ bl P) ∧ D.size ≤ endL 0 (openL 60 0 (bl s))) ∨ crashV D P k keep torn = .tuple #[.string ⟨#[]⟩, .bool false] := by
  unfold crashV
  split
  · rename_i g
    have hb : ∀ b ∈ (bl P).take keep.toNat, b.toNat ≤ 126 := fun b hb => by
      have h1 := List.mem_of_mem_take hb
      have h2 := logOk_lines (S := bl D ++ bl P) g.1.1
      refine lines_byte (openL 60 0 (bl D ++ bl P)) 0 (open_lines 60 0 _).2 b ?_
      rw [h2]; exact List.mem_append_right _ h1
    obtain ⟨T', ⟨u, hu⟩, e⟩ := tear_open (D := bl D) torn hb
    have p1 := open_pre 60 0 (bl D) T'
    have p2 := open_pre 60 0 (bl D ++ T') (u ++ (bl P).drop keep.toNat)
    rw [show bl D ++ T' ++ (u ++ (bl P).drop keep.toNat) = bl D ++ bl P by rw [List.append_assoc, ← List.append_assoc T', hu, List.take_append_drop]] at p2
    refine .inl ⟨_, rfl, ?_, g.1, ?_, ?_⟩
    · rw [ByteArray.size_append, mkB_size, tear_len, List.length_take, bl_len]; omega
    · rw [bl_app, bl_mkB, e]; exact p2
    · rw [bl_app, bl_mkB, e]
      have h1 := endL_pre 0 _ _ p1
      have h2 := g.1.2.1
      rw [bl_len] at h2; omega
  · exact .inr rfl

section
variable {G : List (Nat × Nat)} {h : Heap} {M : Nat → Prop}
set_option maxRecDepth 20000 in
theorem l_FnCrashRecovery (pw : PowAt G h) (b : Option Addr) (n : Nat) (hc : CodeOk h b n) : vCall G Tryd.prog M 12 [.slice b n 0] h (fun r _ => r = .bool true) := by
  refine body_of mo Tryd.func12 rfl (by kernel_rfl) (Nat.le_of_ble_eq_true (by kernel_rfl)) rfl ?_
  simp only [go_sem, Nat.reduceBEq, Nat.reduceAdd, Nat.reduceMul, Nat.reduceSub, Nat.reduceLeDiff, Nat.le_refl, implies_true, Nat.reduceLT, reduceIte, decide_true, decide_false, true_and, and_true, reduceCtorEq, Nat.mul_one, Int.reduceToNat, Int.reduceLE, Int.reduceLT, Int.reduceAdd, Int.reduceSub, Int.reduceMul, Int.cast_ofNat_Int, cast_zero_int, cast_one_int, Nat.reducePow, Nat.reduceEqDiff, Nat.reduceMod, Nat.zero_add, Nat.sub_zero, Nat.add_zero]
  refine ⟨by kernel_rfl, ((c_vBig b n).addG).use (fun _ m => m) ?_⟩
  rintro _ _ ⟨rfl, rfl⟩
  by_cases hb : (65536 : Int) < n
  · simp only [go_sem, Nat.reduceBEq, Nat.reduceAdd, Nat.reduceMul, Nat.reduceSub, Nat.reduceLeDiff, Nat.le_refl, implies_true, Nat.reduceLT, reduceIte, decide_true, decide_false, true_and, and_true, reduceCtorEq, Nat.mul_one, Int.reduceToNat, Int.reduceLE, Int.reduceLT, Int.reduceAdd, Int.reduceSub, Int.reduceMul, Int.cast_ofNat_Int, cast_zero_int, cast_one_int, Nat.reducePow, Nat.reduceEqDiff, Nat.reduceMod, Nat.zero_add, Nat.sub_zero, Nat.add_zero, decb hb]
  simp only [go_sem, Nat.reduceBEq, Nat.reduceAdd, Nat.reduceMul, Nat.reduceSub, Nat.reduceLeDiff, Nat.le_refl, implies_true, Nat.reduceLT, reduceIte, decide_true, decide_false, true_and, and_true, reduceCtorEq, Nat.mul_one, Int.reduceToNat, Int.reduceLE, Int.reduceLT, Int.reduceAdd, Int.reduceSub, Int.reduceMul, Int.cast_ofNat_Int, cast_zero_int, cast_one_int, Nat.reducePow, Nat.reduceEqDiff, Nat.reduceMod, Nat.zero_add, Nat.sub_zero, Nat.add_zero, dect hb]
  refine ⟨by kernel_rfl, ((c_DrawCrashLog b n hc).addG).use (fun _ m => m) ?_⟩
  rintro _ _ ⟨⟨D, P, k, keep, torn, rfl, zD⟩, ⟨t1, rfl⟩⟩
  try simp only [go_sem, Nat.reduceBEq, Nat.reduceAdd, Nat.reduceMul, Nat.reduceSub, Nat.reduceLeDiff, Nat.le_refl, implies_true, Nat.reduceLT, reduceIte, decide_true, decide_false, true_and, and_true, reduceCtorEq, Nat.mul_one, Int.reduceToNat, Int.reduceLE, Int.reduceLT, Int.reduceAdd, Int.reduceSub, Int.reduceMul, Int.cast_ofNat_Int, cast_zero_int, cast_one_int, Nat.reducePow, Nat.reduceEqDiff, Nat.reduceMod, Nat.zero_add, Nat.sub_zero, Nat.add_zero]
  refine ⟨by kernel_rfl, (c_CrashLog (pw.mono (by simp)) D P k keep torn (by omega)).use (fun _ m => m) ?_⟩
  rintro _ _ ⟨rfl, ⟨t2, rfl⟩⟩
  rcases crash_case D P k keep torn zD with ⟨s, ha, zs, lg, pre, hend⟩ | ha
  · rw [ha]
    try simp only [go_sem, Nat.reduceBEq, Nat.reduceAdd, Nat.reduceMul, Nat.reduceSub, Nat.reduceLeDiff, Nat.le_refl, implies_true, Nat.reduceLT, reduceIte, decide_true, decide_false, true_and, and_true, reduceCtorEq, Nat.mul_one, Int.reduceToNat, Int.reduceLE, Int.reduceLT, Int.reduceAdd, Int.reduceSub, Int.reduceMul, Int.cast_ofNat_Int, cast_zero_int, cast_one_int, Nat.reducePow, Nat.reduceEqDiff, Nat.reduceMod, Nat.zero_add, Nat.sub_zero, Nat.add_zero]
    refine ⟨by kernel_rfl, ((c_sCrashLog D P k keep torn (by omega)).addG).use (fun _ m => m) ?_⟩
    rintro _ _ ⟨rfl, ⟨t3, rfl⟩⟩
    rw [ha]
    simp only [go_sem, Nat.reduceBEq, Nat.reduceAdd, Nat.reduceMul, Nat.reduceSub, Nat.reduceLeDiff, Nat.le_refl, implies_true, Nat.reduceLT, reduceIte, decide_true, decide_false, true_and, and_true, reduceCtorEq, Nat.mul_one, Int.reduceToNat, Int.reduceLE, Int.reduceLT, Int.reduceAdd, Int.reduceSub, Int.reduceMul, Int.cast_ofNat_Int, cast_zero_int, cast_one_int, Nat.reducePow, Nat.reduceEqDiff, Nat.reduceMod, Nat.zero_add, Nat.sub_zero, Nat.add_zero, eqs, Bool.not_true, bne_self_eq_false]
    refine ⟨by kernel_rfl, (c_RecoverLog (pw.mono (by simp)) s (by omega)).use (fun _ m => m) ?_⟩
    rintro _ _ ⟨rfl, ⟨t4, rfl⟩⟩
    rw [recoV_ok (by omega)]
    have zr := reco_size s
    have lr := reco_log s
    have ze := end_le s
    obtain ⟨m, hm⟩ : ∃ m, m = s.extract 0 (endL 0 (openL 60 0 (bl s))) := ⟨_, rfl⟩
    have om : openL 60 0 (bl m ++ bl ⟨#[]⟩) = openL 60 0 (bl s) := by
      rw [show bl (⟨#[]⟩ : ByteArray) = [] from rfl, List.append_nil, hm, bl_extract, List.drop_zero]
      exact (logOk_take (bl s)).1
    rw [← hm] at zr lr
    rw [← hm]
    obtain ⟨d, hd⟩ : ∃ d, d = openL 60 0 (bl s) := ⟨_, rfl⟩
    obtain ⟨d2, hd2⟩ : ∃ d, d = openL 60 0 (bl D ++ bl P) := ⟨_, rfl⟩
    rw [← hd] at om hend ze hm lr pre
    rw [← hd]
    rw [← hd2] at pre
    have dl : d.length ≤ 60 := by rw [hd]; exact openL_len 60 0 _
    have d2l : d2.length ≤ 60 := by rw [hd2]; exact openL_len 60 0 _
    have dd := pre.length_le
    simp only [go_sem, Nat.reduceBEq, Nat.reduceAdd, Nat.reduceMul, Nat.reduceSub, Nat.reduceLeDiff, Nat.le_refl, implies_true, Nat.reduceLT, reduceIte, decide_true, decide_false, true_and, and_true, reduceCtorEq, Nat.mul_one, Int.reduceToNat, Int.reduceLE, Int.reduceLT, Int.reduceAdd, Int.reduceSub, Int.reduceMul, Int.cast_ofNat_Int, cast_zero_int, cast_one_int, Nat.reducePow, Nat.reduceEqDiff, Nat.reduceMod, Nat.zero_add, Nat.sub_zero, Nat.add_zero]
    refine ⟨by kernel_rfl, (c_LogRecordsY (pw.mono (by simp)) m ⟨#[]⟩ _ (by omega) lr).use (fun _ m => m) ?_⟩
    rintro _ _ ⟨⟨v, rfl, sv⟩, ⟨t5, rfl⟩⟩
    rw [om] at sv
    have sv2 : Sl _ 2 _ _ := sv.sl
    obtain ⟨va, rfl⟩ := Sl.recLen sv2
    try simp only [go_sem, Nat.reduceBEq, Nat.reduceAdd, Nat.reduceMul, Nat.reduceSub, Nat.reduceLeDiff, Nat.le_refl, implies_true, Nat.reduceLT, reduceIte, decide_true, decide_false, true_and, and_true, reduceCtorEq, Nat.mul_one, Int.reduceToNat, Int.reduceLE, Int.reduceLT, Int.reduceAdd, Int.reduceSub, Int.reduceMul, Int.cast_ofNat_Int, cast_zero_int, cast_one_int, Nat.reducePow, Nat.reduceEqDiff, Nat.reduceMod, Nat.zero_add, Nat.sub_zero, Nat.add_zero]
    refine ⟨by kernel_rfl, ((c_sLogRecordsY D P _ (by omega) lg).addG).use (fun _ m => m) ?_⟩
    rintro _ _ ⟨⟨w, rfl, sw⟩, ⟨t6, rfl⟩⟩
    rw [← hd2] at sw
    have sw2 : Sl _ 2 _ _ := sw.sl
    obtain ⟨wa, rfl⟩ := Sl.recLen sw2
    simp only [go_sem, Nat.reduceBEq, Nat.reduceAdd, Nat.reduceMul, Nat.reduceSub, Nat.reduceLeDiff, Nat.le_refl, implies_true, Nat.reduceLT, reduceIte, decide_true, decide_false, true_and, and_true, reduceCtorEq, Nat.mul_one, Int.reduceToNat, Int.reduceLE, Int.reduceLT, Int.reduceAdd, Int.reduceSub, Int.reduceMul, Int.cast_ofNat_Int, cast_zero_int, cast_one_int, Nat.reducePow, Nat.reduceEqDiff, Nat.reduceMod, Nat.zero_add, Nat.sub_zero, Nat.add_zero, show ¬ ((s.size : Int) < (endL 0 d : Nat)) by omega, show ¬ (((endL 0 d : Nat) : Int) < D.size) by omega, show ¬ ((d2.length : Int) < d.length) by omega]
    refine loopKeep mo d.length 17 [3, 6, 10, 11, 13, 15] ?_ ?_
    · simp only [go_sem, Nat.reduceBEq, Nat.reduceAdd, Nat.reduceMul, Nat.reduceSub, Nat.reduceLeDiff, Nat.le_refl, implies_true, Nat.reduceLT, reduceIte, decide_true, decide_false, true_and, and_true, reduceCtorEq, Nat.mul_one, Int.reduceToNat, Int.reduceLE, Int.reduceLT, Int.reduceAdd, Int.reduceSub, Int.reduceMul, Int.cast_ofNat_Int, cast_zero_int, cast_one_int, Nat.reducePow, Nat.reduceEqDiff, Nat.reduceMod, Nat.zero_add, Nat.sub_zero, Nat.add_zero]
    rintro H hH i e hi ⟨k3, k6, k10, k11, k13, k15, _⟩ ei
    simp only [go_sem, Nat.reduceBEq, Nat.reduceAdd, Nat.reduceMul, Nat.reduceSub, Nat.reduceLeDiff, Nat.le_refl, implies_true, Nat.reduceLT, reduceIte, decide_true, decide_false, true_and, and_true, reduceCtorEq, Nat.mul_one, Int.reduceToNat, Int.reduceLE, Int.reduceLT, Int.reduceAdd, Int.reduceSub, Int.reduceMul, Int.cast_ofNat_Int, cast_zero_int, cast_one_int, Nat.reducePow, Nat.reduceEqDiff, Nat.reduceMod, Nat.zero_add, Nat.sub_zero, Nat.add_zero] at k3 k6 k10 k11 k13 k15
    simp only [go_sem, Nat.reduceBEq, Nat.reduceAdd, Nat.reduceMul, Nat.reduceSub, Nat.reduceLeDiff, Nat.le_refl, implies_true, Nat.reduceLT, reduceIte, decide_true, decide_false, true_and, and_true, reduceCtorEq, Nat.mul_one, Int.reduceToNat, Int.reduceLE, Int.reduceLT, Int.reduceAdd, Int.reduceSub, Int.reduceMul, Int.cast_ofNat_Int, cast_zero_int, cast_one_int, Nat.reducePow, Nat.reduceEqDiff, Nat.reduceMod, Nat.zero_add, Nat.sub_zero, Nat.add_zero, ei, k13]
    refine .intro (fun h1 => ?_) (fun h1 => ?_)
    · have hlt : i < d.length := by simpa using h1
      have hz : (i : Int) < d.length := by omega
      have hlt1 : i < (d.map recR).length := by simpa using hlt
      have hlt2 : i < (d2.map recR).length := by simp; omega
      have sv3 : Sl H 2 (.slice va d.length 0) (d.map recR) := by rw [hH]; exact sv2.mono (by simp)
      have sw3 : Sl H 2 (.slice wa d2.length 0) (d2.map recR) := by rw [hH]; exact sw2.mono (by simp)
      obtain ⟨id, off, kk, hv, _, hk, hdd, hbb, hrow, hat⟩ := sv3.at hlt1
      obtain rfl : va = some ⟨id, off, none⟩ := by simpa using hv
      obtain ⟨id2, off2, kk2, hv2, _, hk2, hdd2, hbb2, hrow2, hat2⟩ := sw3.at hlt2
      obtain rfl : wa = some ⟨id2, off2, none⟩ := by simpa using hv2
      have er : (d2.map recR)[i] = recR d[i] := by rw [List.getElem_map, pre.getElem hlt]
      have q0 : kk.cells[off + i * 2]? = some (.string (mkB d[i].1)) := by have := hat 0 (by omega); rw [List.getElem_map] at this; exact this
      have q1 : kk.cells[off + i * 2 + 1]? = some (.string (mkB d[i].2)) := by have := hat 1 (by omega); rw [List.getElem_map] at this; exact this
      have q2 : kk2.cells[off2 + i * 2]? = some (.string (mkB d[i].1)) := by have := hat2 0 (by omega); rw [er] at this; exact this
      have q3 : kk2.cells[off2 + i * 2 + 1]? = some (.string (mkB d[i].2)) := by have := hat2 1 (by omega); rw [er] at this; exact this
      rw [er] at hrow2
      rw [List.getElem_map] at hrow
      clear hH
      simp only [go_sem, Nat.reduceBEq, Nat.reduceAdd, Nat.reduceMul, Nat.reduceSub, Nat.reduceLeDiff, Nat.le_refl, implies_true, Nat.reduceLT, reduceIte, decide_true, decide_false, true_and, and_true, reduceCtorEq, Nat.mul_one, Int.reduceToNat, Int.reduceLE, Int.reduceLT, Int.reduceAdd, Int.reduceSub, Int.reduceMul, Int.cast_ofNat_Int, cast_zero_int, cast_one_int, Nat.reducePow, Nat.reduceEqDiff, Nat.reduceMod, Nat.zero_add, Nat.sub_zero, Nat.add_zero, ei, k13, k15, hz, show (i : Int) < d2.length by omega, hk, hk2, q0, q1, q2, q3, hdd, hdd2, hbb, hbb2, hrow, hrow2, recR, eqs, Bool.not_true]
      refine ⟨hlt, ?_, by rw [wrap64 (by omega)]; rfl⟩
      simp only [go_sem, Nat.reduceBEq, Nat.reduceAdd, Nat.reduceMul, Nat.reduceSub, Nat.reduceLeDiff, Nat.le_refl, implies_true, Nat.reduceLT, reduceIte, decide_true, decide_false, true_and, and_true, reduceCtorEq, Nat.mul_one, Int.reduceToNat, Int.reduceLE, Int.reduceLT, Int.reduceAdd, Int.reduceSub, Int.reduceMul, Int.cast_ofNat_Int, cast_zero_int, cast_one_int, Nat.reducePow, Nat.reduceEqDiff, Nat.reduceMod, Nat.zero_add, Nat.sub_zero, Nat.add_zero, keep_cons, keep_nil, k3, k6, k10, k11, k13, k15, and_self]
    · obtain rfl : i = d.length := by have := h1; simp at this; omega
      subst hH
      simp only [go_sem, Nat.reduceBEq, Nat.reduceAdd, Nat.reduceMul, Nat.reduceSub, Nat.reduceLeDiff, Nat.le_refl, implies_true, Nat.reduceLT, reduceIte, decide_true, decide_false, true_and, and_true, reduceCtorEq, Nat.mul_one, Int.reduceToNat, Int.reduceLE, Int.reduceLT, Int.reduceAdd, Int.reduceSub, Int.reduceMul, Int.cast_ofNat_Int, cast_zero_int, cast_one_int, Nat.reducePow, Nat.reduceEqDiff, Nat.reduceMod, Nat.zero_add, Nat.sub_zero, Nat.add_zero, ei, k3, k6, k10, k11, k13, k15]
      refine ⟨by kernel_rfl, (c_IsValidLog (pw.mono (by simp)) m ⟨#[]⟩ _ (by omega)).use (fun _ m => m) ?_⟩
      rintro _ _ ⟨rfl, ⟨t12, rfl⟩⟩
      simp only [go_sem, Nat.reduceBEq, Nat.reduceAdd, Nat.reduceMul, Nat.reduceSub, Nat.reduceLeDiff, Nat.le_refl, implies_true, Nat.reduceLT, reduceIte, decide_true, decide_false, true_and, and_true, reduceCtorEq, Nat.mul_one, Int.reduceToNat, Int.reduceLE, Int.reduceLT, Int.reduceAdd, Int.reduceSub, Int.reduceMul, Int.cast_ofNat_Int, cast_zero_int, cast_one_int, Nat.reducePow, Nat.reduceEqDiff, Nat.reduceMod, Nat.zero_add, Nat.sub_zero, Nat.add_zero, ei, k3, k6, k10, k11, k13, k15, eqs, decb lr]
      exact ⟨by omega, by omega, by rw [← hm, eqs]⟩
  · rw [ha]
    try simp only [go_sem, Nat.reduceBEq, Nat.reduceAdd, Nat.reduceMul, Nat.reduceSub, Nat.reduceLeDiff, Nat.le_refl, implies_true, Nat.reduceLT, reduceIte, decide_true, decide_false, true_and, and_true, reduceCtorEq, Nat.mul_one, Int.reduceToNat, Int.reduceLE, Int.reduceLT, Int.reduceAdd, Int.reduceSub, Int.reduceMul, Int.cast_ofNat_Int, cast_zero_int, cast_one_int, Nat.reducePow, Nat.reduceEqDiff, Nat.reduceMod, Nat.zero_add, Nat.sub_zero, Nat.add_zero]
    refine ⟨by kernel_rfl, ((c_sCrashLog D P k keep torn (by omega)).addG).use (fun _ m => m) ?_⟩
    rintro _ _ ⟨rfl, ⟨t3, rfl⟩⟩
    rw [ha]
    simp only [go_sem, Nat.reduceBEq, Nat.reduceAdd, Nat.reduceMul, Nat.reduceSub, Nat.reduceLeDiff, Nat.le_refl, implies_true, Nat.reduceLT, reduceIte, decide_true, decide_false, true_and, and_true, reduceCtorEq, Nat.mul_one, Int.reduceToNat, Int.reduceLE, Int.reduceLT, Int.reduceAdd, Int.reduceSub, Int.reduceMul, Int.cast_ofNat_Int, cast_zero_int, cast_one_int, Nat.reducePow, Nat.reduceEqDiff, Nat.reduceMod, Nat.zero_add, Nat.sub_zero, Nat.add_zero, eqs, Bool.not_true, bne_self_eq_false]
end
theorem a_FnLog (h : Heap) (a : List Value) (hp : glH <+: h) (ft : FitsAll h [.slice (.int .u8)] a) : vCall glG Tryd.prog (fun _ => False) 10 a h (fun r _ => r = .bool true) := by
  obtain ⟨v, vs, rfl, f, g⟩ := ft.cons
  obtain rfl := g.nil
  obtain ⟨b, n, rfl, hc⟩ := Fits.code f
  exact l_FnLog (glH_at hp) b n hc
theorem a_FnLogLines (h : Heap) (a : List Value) (hp : glH <+: h) (ft : FitsAll h [.slice (.int .u8)] a) : vCall glG Tryd.prog (fun _ => False) 11 a h (fun r _ => r = .bool true) := by
  obtain ⟨v, vs, rfl, f, g⟩ := ft.cons
  obtain rfl := g.nil
  obtain ⟨b, n, rfl, hc⟩ := Fits.code f
  exact l_FnLogLines (glH_at hp) b n hc
theorem a_FnCrashRecovery (h : Heap) (a : List Value) (hp : glH <+: h) (ft : FitsAll h [.slice (.int .u8)] a) : vCall glG Tryd.prog (fun _ => False) 12 a h (fun r _ => r = .bool true) := by
  obtain ⟨v, vs, rfl, f, g⟩ := ft.cons
  obtain rfl := g.nil
  obtain ⟨b, n, rfl, hc⟩ := Fits.code f
  exact l_FnCrashRecovery (glH_at hp) b n hc
end Go.Proofs.YtkogddiefniihaaDoor
