
/- What the law of sampling draws. No condition. -/
import Derived.Test.YtfolkgkcaiaifaaDSmp
import Derived.Test.YtfolkgkcaiaifaaMerge
import Derived.Test.YtfolkgkcaiaifaaH3
namespace Go.Proofs.Ytfolkgkcaiaifaa
open Go.HH Go.Proofs
set_option linter.unusedSimpArgs false
set_option linter.unusedVariables false

theorem Wst.rowsN {h H : Heap} {id n B sid k : Nat} {a : Option Addr} {l : List Smp} (s : Wst h H id n a B sid 4 (flM l)) (h0 : k ≤ h.length) : FR k H.length 4 H (.slice (some ⟨sid, 0, none⟩) l.length 0) (l.map smp) :=
  ⟨sid, by rw [List.length_map], Nat.le_trans h0 s.low.1, hget_lt s.s, s.s, fun r hr => by obtain ⟨x, _, rfl⟩ := List.mem_map.1 hr; rfl⟩
section
variable {h : Heap} {M : Nat → Prop}
theorem d_kind23 {H : Heap} {id n B : Nat} {a : Option Addr} (s : St H id n a B) (hM : M id) (hB : B ≤ 900000) :
    vCall [] Try.prog M 32 [.pointer (some ⟨id, 0, none⟩)] H (fun r H' => (∃ m, r = .int .i64 m) ∧ St H' id n a (B + 4) ∧ Agr id (id + 1) H H') := by
  have hid := s.lt
  have hown : own H.length M id := Or.inr hM
  refine body_of mo Try.func32 rfl (by kernel_rfl) (Nat.le_of_ble_eq_true (by kernel_rfl)) rfl ?_
  simp only [go_sem, Nat.reduceBEq, Nat.reduceAdd, Nat.reduceMul, Nat.reduceSub, Nat.reduceLeDiff, Nat.le_refl, implies_true, Nat.reduceLT, reduceIte, decide_true, decide_false, true_and, and_true, reduceCtorEq, Nat.mul_one, Int.reduceToNat, Int.reduceLE, Int.reduceLT, Int.reduceAdd, Int.reduceSub, Int.reduceMul, Int.cast_ofNat_Int, cast_zero_int, cast_one_int, Nat.reducePow, Nat.reduceEqDiff, Nat.reduceMod, Nat.zero_add, Nat.sub_zero, Nat.add_zero]
  refine ⟨by kernel_rfl, (d_pick _ (s.app _) hown (by omega)).use (fun _ m => m) ?_⟩
  rintro _ H2 ⟨⟨m, rfl, m0, m1⟩, s1, g1⟩
  obtain ⟨q, e1, q1, q2⟩ := cutLen 4 (by omega) m0 m1
  simp only [Int.reduceToNat] at q1 q2
  have k0 := agr_get g1 hget_new (by omega)
  simp only [go_sem, Nat.reduceBEq, Nat.reduceAdd, Nat.reduceMul, Nat.reduceSub, Nat.reduceLeDiff, Nat.le_refl, implies_true, Nat.reduceLT, reduceIte, decide_true, decide_false, true_and, and_true, reduceCtorEq, Nat.mul_one, Int.reduceToNat, Int.reduceLE, Int.reduceLT, Int.reduceAdd, Int.reduceSub, Int.reduceMul, Int.cast_ofNat_Int, cast_zero_int, cast_one_int, Nat.reducePow, Nat.reduceEqDiff, Nat.reduceMod, Nat.zero_add, Nat.sub_zero, Nat.add_zero, hBin_quo (show (11 : Int) ≠ 0 by omega), e1, k0]
  refine ⟨by omega, by omega, ?_⟩
  refine ⟨by kernel_rfl, (d_among _ q _ s1 hown k0 rfl rfl (by simp; omega) (by omega) (by omega) (by omega) (by omega)).use (fun _ m => m) ?_⟩
  rintro _ H3 ⟨⟨x, rfl⟩, s2, g2⟩
  try simp only [go_sem, Nat.reduceBEq, Nat.reduceAdd, Nat.reduceMul, Nat.reduceSub, Nat.reduceLeDiff, Nat.le_refl, implies_true, Nat.reduceLT, reduceIte, decide_true, decide_false, true_and, and_true, reduceCtorEq, Nat.mul_one, Int.reduceToNat, Int.reduceLE, Int.reduceLT, Int.reduceAdd, Int.reduceSub, Int.reduceMul, Int.cast_ofNat_Int, cast_zero_int, cast_one_int, Nat.reducePow, Nat.reduceEqDiff, Nat.reduceMod, Nat.zero_add, Nat.sub_zero, Nat.add_zero]
  exact ⟨⟨x, rfl⟩, s2, (Agr.app.trans g1).trans g2⟩
set_option maxRecDepth 20000 in
theorem c_DrawBadNodes (b : Option Addr) (n : Nat) (hcode : CodeOk h b n) :
    vCall [] Try.prog M 13 [.slice b n 0] h (fun r h' => (∃ (v : Value) (l : List Smp) (p : Int), r = .tuple #[v, .int .i64 p] ∧ FR h.length h'.length 4 h' v (l.map smp) ∧ l.length ≤ 16) ∧ h <+: h') := by
  have hown : own h.length M h.length := Or.inl (Nat.le_refl _)
  refine body_of mo Try.func13 rfl (by kernel_rfl) (Nat.le_of_ble_eq_true (by kernel_rfl)) rfl ?_
  simp only [go_sem, Nat.reduceBEq, Nat.reduceAdd, Nat.reduceMul, Nat.reduceSub, Nat.reduceLeDiff, Nat.le_refl, implies_true, Nat.reduceLT, reduceIte, decide_true, decide_false, true_and, and_true, reduceCtorEq, Nat.mul_one, Int.reduceToNat, Int.reduceLE, Int.reduceLT, Int.reduceAdd, Int.reduceSub, Int.reduceMul, Int.cast_ofNat_Int, cast_zero_int, cast_one_int, Nat.reducePow, Nat.reduceEqDiff, Nat.reduceMod, Nat.zero_add, Nat.sub_zero, Nat.add_zero]
  refine ⟨by kernel_rfl, (d_samples (St.start0W hcode) (Or.inl (Nat.le_refl _)) (by omega)).use (fun _ m => m) ?_⟩
  rintro _ H1 ⟨l, sid, rfl, ss, hl⟩
  try simp only [go_sem, Nat.reduceBEq, Nat.reduceAdd, Nat.reduceMul, Nat.reduceSub, Nat.reduceLeDiff, Nat.le_refl, implies_true, Nat.reduceLT, reduceIte, decide_true, decide_false, true_and, and_true, reduceCtorEq, Nat.mul_one, Int.reduceToNat, Int.reduceLE, Int.reduceLT, Int.reduceAdd, Int.reduceSub, Int.reduceMul, Int.cast_ofNat_Int, cast_zero_int, cast_one_int, Nat.reducePow, Nat.reduceEqDiff, Nat.reduceMod, Nat.zero_add, Nat.sub_zero, Nat.add_zero]
  refine ⟨by kernel_rfl, (d_kind23 ss.st hown (by omega)).use (fun _ m => m) ?_⟩
  rintro _ H2 ⟨⟨x, rfl⟩, s2, g2⟩
  have s4 := ss.step s2 g2
  try simp only [go_sem, Nat.reduceBEq, Nat.reduceAdd, Nat.reduceMul, Nat.reduceSub, Nat.reduceLeDiff, Nat.le_refl, implies_true, Nat.reduceLT, reduceIte, decide_true, decide_false, true_and, and_true, reduceCtorEq, Nat.mul_one, Int.reduceToNat, Int.reduceLE, Int.reduceLT, Int.reduceAdd, Int.reduceSub, Int.reduceMul, Int.cast_ofNat_Int, cast_zero_int, cast_one_int, Nat.reducePow, Nat.reduceEqDiff, Nat.reduceMod, Nat.zero_add, Nat.sub_zero, Nat.add_zero]
  exact ⟨⟨_, l, x, rfl, s4.rowsN (by simp), hl⟩, agr_preW (List.prefix_append _ _) s4.out (Nat.le_refl _)⟩
set_option maxRecDepth 20000 in
theorem c_DrawMergeSamples (b : Option Addr) (n : Nat) (hcode : CodeOk h b n) :
    vCall [] Try.prog M 21 [.slice b n 0] h (fun r h' => (∃ (v w : Value) (l l2 : List Smp), r = .tuple #[v, w] ∧ FR h.length h'.length 4 h' v (l.map smp) ∧ FR h.length h'.length 4 h' w (l2.map smp) ∧ l.length ≤ 16 ∧ l2.length ≤ 16) ∧ h <+: h') := by
  have hown : own h.length M h.length := Or.inl (Nat.le_refl _)
  refine body_of mo Try.func21 rfl (by kernel_rfl) (Nat.le_of_ble_eq_true (by kernel_rfl)) rfl ?_
  simp only [go_sem, Nat.reduceBEq, Nat.reduceAdd, Nat.reduceMul, Nat.reduceSub, Nat.reduceLeDiff, Nat.le_refl, implies_true, Nat.reduceLT, reduceIte, decide_true, decide_false, true_and, and_true, reduceCtorEq, Nat.mul_one, Int.reduceToNat, Int.reduceLE, Int.reduceLT, Int.reduceAdd, Int.reduceSub, Int.reduceMul, Int.cast_ofNat_Int, cast_zero_int, cast_one_int, Nat.reducePow, Nat.reduceEqDiff, Nat.reduceMod, Nat.zero_add, Nat.sub_zero, Nat.add_zero]
  refine ⟨by kernel_rfl, (d_samples (St.start0W hcode) (Or.inl (Nat.le_refl _)) (by omega)).use (fun _ m => m) ?_⟩
  rintro _ H1 ⟨l, sid, rfl, ss, hl⟩
  try simp only [go_sem, Nat.reduceBEq, Nat.reduceAdd, Nat.reduceMul, Nat.reduceSub, Nat.reduceLeDiff, Nat.le_refl, implies_true, Nat.reduceLT, reduceIte, decide_true, decide_false, true_and, and_true, reduceCtorEq, Nat.mul_one, Int.reduceToNat, Int.reduceLE, Int.reduceLT, Int.reduceAdd, Int.reduceSub, Int.reduceMul, Int.cast_ofNat_Int, cast_zero_int, cast_one_int, Nat.reducePow, Nat.reduceEqDiff, Nat.reduceMod, Nat.zero_add, Nat.sub_zero, Nat.add_zero]
  refine ⟨by kernel_rfl, (d_samples ss.st hown (by omega)).use (fun _ m => m) ?_⟩
  rintro _ H2 ⟨l2, sid2, rfl, ss2, hl2⟩
  have s4 := ss.step ss2.st ss2.out
  have hle := ss2.low
  have hle2 := s4.out.1
  try simp only [go_sem, Nat.reduceBEq, Nat.reduceAdd, Nat.reduceMul, Nat.reduceSub, Nat.reduceLeDiff, Nat.le_refl, implies_true, Nat.reduceLT, reduceIte, decide_true, decide_false, true_and, and_true, reduceCtorEq, Nat.mul_one, Int.reduceToNat, Int.reduceLE, Int.reduceLT, Int.reduceAdd, Int.reduceSub, Int.reduceMul, Int.cast_ofNat_Int, cast_zero_int, cast_one_int, Nat.reducePow, Nat.reduceEqDiff, Nat.reduceMod, Nat.zero_add, Nat.sub_zero, Nat.add_zero]
  have o := s4.out.1
  exact ⟨⟨_, _, l, l2, rfl, s4.rowsN (by simp), ss2.rowsN (by have := ss.out.1; simp at this; omega), hl, hl2⟩, agr_preW (List.prefix_append _ _) s4.out (Nat.le_refl _)⟩
set_option maxRecDepth 20000 in
theorem c_DrawNextSampleDay (b : Option Addr) (n : Nat) (hcode : CodeOk h b n) :
    vCall [] Try.prog M 23 [.slice b n 0] h (fun r h' => (∃ (v : Value) (l : List Smp) (p q k : Int), r = .tuple #[v, .int .i64 p, .int .i64 q, .int .i64 k] ∧ FR h.length h'.length 4 h' v (l.map smp) ∧ l.length ≤ 16) ∧ h <+: h') := by
  have hown : own h.length M h.length := Or.inl (Nat.le_refl _)
  refine body_of mo Try.func23 rfl (by kernel_rfl) (Nat.le_of_ble_eq_true (by kernel_rfl)) rfl ?_
  simp only [go_sem, Nat.reduceBEq, Nat.reduceAdd, Nat.reduceMul, Nat.reduceSub, Nat.reduceLeDiff, Nat.le_refl, implies_true, Nat.reduceLT, reduceIte, decide_true, decide_false, true_and, and_true, reduceCtorEq, Nat.mul_one, Int.reduceToNat, Int.reduceLE, Int.reduceLT, Int.reduceAdd, Int.reduceSub, Int.reduceMul, Int.cast_ofNat_Int, cast_zero_int, cast_one_int, Nat.reducePow, Nat.reduceEqDiff, Nat.reduceMod, Nat.zero_add, Nat.sub_zero, Nat.add_zero]
  refine ⟨by kernel_rfl, (d_samples (St.start0W hcode) (Or.inl (Nat.le_refl _)) (by omega)).use (fun _ m => m) ?_⟩
  rintro _ H1 ⟨l, sid, rfl, ss, hl⟩
  try simp only [go_sem, Nat.reduceBEq, Nat.reduceAdd, Nat.reduceMul, Nat.reduceSub, Nat.reduceLeDiff, Nat.le_refl, implies_true, Nat.reduceLT, reduceIte, decide_true, decide_false, true_and, and_true, reduceCtorEq, Nat.mul_one, Int.reduceToNat, Int.reduceLE, Int.reduceLT, Int.reduceAdd, Int.reduceSub, Int.reduceMul, Int.cast_ofNat_Int, cast_zero_int, cast_one_int, Nat.reducePow, Nat.reduceEqDiff, Nat.reduceMod, Nat.zero_add, Nat.sub_zero, Nat.add_zero]
  refine ⟨by kernel_rfl, (d_pick _ (ss.st.app _) hown (by omega)).use (fun _ m => m) ?_⟩
  rintro _ H2 ⟨⟨m, rfl, m0, m1⟩, s1, g1⟩
  obtain ⟨q, e1, q1, q2⟩ := cutLen 4 (by omega) m0 m1
  simp only [Int.reduceToNat] at q1 q2
  have k0 := agr_get g1 hget_new (by have := ss.st.lt; omega)
  simp only [go_sem, Nat.reduceBEq, Nat.reduceAdd, Nat.reduceMul, Nat.reduceSub, Nat.reduceLeDiff, Nat.le_refl, implies_true, Nat.reduceLT, reduceIte, decide_true, decide_false, true_and, and_true, reduceCtorEq, Nat.mul_one, Int.reduceToNat, Int.reduceLE, Int.reduceLT, Int.reduceAdd, Int.reduceSub, Int.reduceMul, Int.cast_ofNat_Int, cast_zero_int, cast_one_int, Nat.reducePow, Nat.reduceEqDiff, Nat.reduceMod, Nat.zero_add, Nat.sub_zero, Nat.add_zero, hBin_quo (show (11 : Int) ≠ 0 by omega), e1, k0]
  refine ⟨by omega, by omega, ?_⟩
  refine ⟨by kernel_rfl, (d_among _ q _ s1 hown k0 rfl rfl (by simp; omega) (by have := ss.st.lt; omega) (by omega) (by omega) (by omega)).use (fun _ m => m) ?_⟩
  rintro _ H3 ⟨⟨x, rfl⟩, s2, g2⟩
  have s3 := (ss.step (ss.st.app _) (Agr.app (t := [_]))).step s1 g1
  have s4 := s3.step s2 g2
  try simp only [go_sem, Nat.reduceBEq, Nat.reduceAdd, Nat.reduceMul, Nat.reduceSub, Nat.reduceLeDiff, Nat.le_refl, implies_true, Nat.reduceLT, reduceIte, decide_true, decide_false, true_and, and_true, reduceCtorEq, Nat.mul_one, Int.reduceToNat, Int.reduceLE, Int.reduceLT, Int.reduceAdd, Int.reduceSub, Int.reduceMul, Int.cast_ofNat_Int, cast_zero_int, cast_one_int, Nat.reducePow, Nat.reduceEqDiff, Nat.reduceMod, Nat.zero_add, Nat.sub_zero, Nat.add_zero]
  refine ⟨by kernel_rfl, (d_kind23 s4.st hown (by omega)).use (fun _ m => m) ?_⟩
  rintro _ H4 ⟨⟨x2, rfl⟩, s5, g5⟩
  have s6 := s4.step s5 g5
  try simp only [go_sem, Nat.reduceBEq, Nat.reduceAdd, Nat.reduceMul, Nat.reduceSub, Nat.reduceLeDiff, Nat.le_refl, implies_true, Nat.reduceLT, reduceIte, decide_true, decide_false, true_and, and_true, reduceCtorEq, Nat.mul_one, Int.reduceToNat, Int.reduceLE, Int.reduceLT, Int.reduceAdd, Int.reduceSub, Int.reduceMul, Int.cast_ofNat_Int, cast_zero_int, cast_one_int, Nat.reducePow, Nat.reduceEqDiff, Nat.reduceMod, Nat.zero_add, Nat.sub_zero, Nat.add_zero]
  refine ⟨by kernel_rfl, (d_pick _ (s6.st.app _) hown (by omega)).use (fun _ m => m) ?_⟩
  rintro _ H5 ⟨⟨m2, rfl, m20, m21⟩, s7, g7⟩
  obtain ⟨q', e1', q1', q2'⟩ := cutLen 4 (by omega) m20 m21
  simp only [Int.reduceToNat] at q1' q2'
  have k1 := agr_get g7 hget_new (by have := s6.st.lt; omega)
  simp only [go_sem, Nat.reduceBEq, Nat.reduceAdd, Nat.reduceMul, Nat.reduceSub, Nat.reduceLeDiff, Nat.le_refl, implies_true, Nat.reduceLT, reduceIte, decide_true, decide_false, true_and, and_true, reduceCtorEq, Nat.mul_one, Int.reduceToNat, Int.reduceLE, Int.reduceLT, Int.reduceAdd, Int.reduceSub, Int.reduceMul, Int.cast_ofNat_Int, cast_zero_int, cast_one_int, Nat.reducePow, Nat.reduceEqDiff, Nat.reduceMod, Nat.zero_add, Nat.sub_zero, Nat.add_zero, hBin_quo (show (11 : Int) ≠ 0 by omega), e1', k1]
  refine ⟨by omega, by omega, ?_⟩
  refine ⟨by kernel_rfl, (d_among _ q' _ s7 hown k1 rfl rfl (by simp; omega) (by have := s6.st.lt; omega) (by omega) (by omega) (by omega)).use (fun _ m => m) ?_⟩
  rintro _ H6 ⟨⟨x3, rfl⟩, s8, g8⟩
  have s9 := ((s6.step (s6.st.app _) (Agr.app (t := [_]))).step s7 g7).step s8 g8
  try simp only [go_sem, Nat.reduceBEq, Nat.reduceAdd, Nat.reduceMul, Nat.reduceSub, Nat.reduceLeDiff, Nat.le_refl, implies_true, Nat.reduceLT, reduceIte, decide_true, decide_false, true_and, and_true, reduceCtorEq, Nat.mul_one, Int.reduceToNat, Int.reduceLE, Int.reduceLT, Int.reduceAdd, Int.reduceSub, Int.reduceMul, Int.cast_ofNat_Int, cast_zero_int, cast_one_int, Nat.reducePow, Nat.reduceEqDiff, Nat.reduceMod, Nat.zero_add, Nat.sub_zero, Nat.add_zero]
  exact ⟨⟨_, l, x, x2, x3, rfl, s9.rowsN (by simp), hl⟩, agr_preW (List.prefix_append _ _) s9.out (Nat.le_refl _)⟩
end
end Go.Proofs.Ytfolkgkcaiaifaa
