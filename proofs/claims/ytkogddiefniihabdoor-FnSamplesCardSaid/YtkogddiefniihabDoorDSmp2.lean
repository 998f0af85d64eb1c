
/- What the laws about samples draw. No condition. -/
import Derived.Test.YtkogddiefniihabDoorDSmp
import Derived.Test.YtkogddiefniihabDoorSpoilt
import Derived.Test.YtkogddiefniihabDoorSmpL
import Derived.Test.YtkogddiefniihabDoorH3
namespace Go.Proofs.YtkogddiefniihabDoor
open Go.HH Go.Proofs
set_option linter.unusedSimpArgs false
set_option linter.unusedVariables false

theorem Wst.rowsM {h H : Heap} {id n B sid k : Nat} {a : Option Addr} {l : List Smp} (s : Wst h H id n a B sid 4 (flM l)) (h0 : k ≤ h.length) : FR k H.length 4 H (.slice (some ⟨sid, 0, none⟩) l.length 0) (l.map smp) :=
  ⟨sid, by rw [List.length_map], Nat.le_trans h0 s.low.1, hget_lt s.s, s.s, fun r hr => by obtain ⟨x, _, rfl⟩ := List.mem_map.1 hr; rfl⟩
theorem smpTV_size (x : Smp) : ∃ s ok, smpTV x = .tuple #[.string s, .bool ok] ∧ s.size ≤ 100 := by
  unfold smpTV
  split
  · rename_i g
    refine ⟨_, _, rfl, ?_⟩
    obtain ⟨a, n, k, v⟩ := x
    obtain ⟨g1, g2, g3, g4⟩ := g
    dsimp only at g1 g2 g3 g4
    have z1 := num_size 4 a.toNat (by omega) (by omega)
    have z2 := num_size 1 n.toNat (by omega) (by omega)
    have z3 := num_size 3 (v.toNat / 1000) (by omega) (by omega)
    have z4 := wordB_size (k := k.toNat) (by omega)
    have e1 : tDay.size = 4 := rfl
    have e2 : tAt.size = 7 := rfl
    have e3 : tCol.size = 2 := rfl
    have e4 : tSp.size = 1 := rfl
    have e5 : tDot.size = 1 := rfl
    have e6 : (d3 (v.toNat % 1000)).size = 3 := rfl
    simp only [smpB, smpS, ByteArray.size_append]
    omega
  · exact ⟨_, _, rfl, by decide⟩
theorem St.start1W {h : Heap} {b : Option Addr} {n : Nat} {z : Blk} (hcode : CodeOk h b n) (L : Blk) : St (h ++ [z, ⟨[.slice b n 0, .int .i64 0, .int .u64 0], 3, .rw⟩, L]) (h.length + 1) n b 0 := by
  have : St (h ++ [z, ⟨[.slice b n 0, .int .i64 0, .int .u64 0], 3, .rw⟩]) (h.length + 1) n b 0 := ⟨⟨0, 0, hget_lit1, by omega, by omega⟩, hcode.app⟩
  have := this.app [L]
  rwa [List.append_assoc] at this
theorem hget_prefix' {h H : Heap} {x : Blk} (hp : h ++ [x] <+: H) : hget H h.length = some x := by rw [hget_prefix hp (by simp)]; exact hget_new
section
variable {h : Heap} {M : Nat → Prop}
set_option maxRecDepth 20000 in
theorem c_DrawBadSamples (b : Option Addr) (n : Nat) (hcode : CodeOk h b n) :
    vCall [] Tryd.prog M 31 [.slice b n 0] h (fun r h' => (∃ l : List Smp, FR h.length h'.length 4 h' r (l.map smp) ∧ l.length ≤ 16) ∧ h <+: h') := by
  refine body_of mo Tryd.func31 rfl (by kernel_rfl) (Nat.le_of_ble_eq_true (by kernel_rfl)) rfl ?_
  simp only [go_sem, Nat.reduceBEq, Nat.reduceAdd, Nat.reduceMul, Nat.reduceSub, Nat.reduceLeDiff, Nat.le_refl, implies_true, Nat.reduceLT, reduceIte, decide_true, decide_false, true_and, and_true, reduceCtorEq, Nat.mul_one, Int.reduceToNat, Int.reduceLE, Int.reduceLT, Int.reduceAdd, Int.reduceSub, Int.reduceMul, Int.cast_ofNat_Int, cast_zero_int, cast_one_int, Nat.reducePow, Nat.reduceEqDiff, Nat.reduceMod, Nat.zero_add, Nat.sub_zero, Nat.add_zero]
  refine ⟨by kernel_rfl, (d_samples (St.start0W hcode) (Or.inl (Nat.le_refl _)) (by omega)).use (fun _ m => m) ?_⟩
  rintro _ H1 ⟨l, sid, rfl, ss, hl⟩
  try simp only [go_sem, Nat.reduceBEq, Nat.reduceAdd, Nat.reduceMul, Nat.reduceSub, Nat.reduceLeDiff, Nat.le_refl, implies_true, Nat.reduceLT, reduceIte, decide_true, decide_false, true_and, and_true, reduceCtorEq, Nat.mul_one, Int.reduceToNat, Int.reduceLE, Int.reduceLT, Int.reduceAdd, Int.reduceSub, Int.reduceMul, Int.cast_ofNat_Int, cast_zero_int, cast_one_int, Nat.reducePow, Nat.reduceEqDiff, Nat.reduceMod, Nat.zero_add, Nat.sub_zero, Nat.add_zero]
  exact ⟨⟨l, ss.rowsM (by simp), hl⟩, agr_preW (List.prefix_append _ _) ss.out (Nat.le_refl _)⟩
set_option maxRecDepth 20000 in
theorem c_DrawGoodShare (b : Option Addr) (n : Nat) (hcode : CodeOk h b n) :
    vCall [] Tryd.prog M 38 [.slice b n 0] h (fun r h' => (∃ (v : Value) (l : List Smp) (p q : Int), r = .tuple #[v, .int .i64 p, .int .i64 q] ∧ FR h.length h'.length 4 h' v (l.map smp) ∧ l.length ≤ 16) ∧ h <+: h') := by
  have hown : own h.length M h.length := Or.inl (Nat.le_refl _)
  refine body_of mo Tryd.func38 rfl (by kernel_rfl) (Nat.le_of_ble_eq_true (by kernel_rfl)) rfl ?_
  simp only [go_sem, Nat.reduceBEq, Nat.reduceAdd, Nat.reduceMul, Nat.reduceSub, Nat.reduceLeDiff, Nat.le_refl, implies_true, Nat.reduceLT, reduceIte, decide_true, decide_false, true_and, and_true, reduceCtorEq, Nat.mul_one, Int.reduceToNat, Int.reduceLE, Int.reduceLT, Int.reduceAdd, Int.reduceSub, Int.reduceMul, Int.cast_ofNat_Int, cast_zero_int, cast_one_int, Nat.reducePow, Nat.reduceEqDiff, Nat.reduceMod, Nat.zero_add, Nat.sub_zero, Nat.add_zero]
  refine ⟨by kernel_rfl, (d_samples (St.start0W hcode) (Or.inl (Nat.le_refl _)) (by omega)).use (fun _ m => m) ?_⟩
  rintro _ H1 ⟨l, sid, rfl, ss, hl⟩
  try simp only [go_sem, Nat.reduceBEq, Nat.reduceAdd, Nat.reduceMul, Nat.reduceSub, Nat.reduceLeDiff, Nat.le_refl, implies_true, Nat.reduceLT, reduceIte, decide_true, decide_false, true_and, and_true, reduceCtorEq, Nat.mul_one, Int.reduceToNat, Int.reduceLE, Int.reduceLT, Int.reduceAdd, Int.reduceSub, Int.reduceMul, Int.cast_ofNat_Int, cast_zero_int, cast_one_int, Nat.reducePow, Nat.reduceEqDiff, Nat.reduceMod, Nat.zero_add, Nat.sub_zero, Nat.add_zero]
  refine ⟨by kernel_rfl, (d_pick _ (ss.st.app _) hown (by omega)).use (fun _ m => m) ?_⟩
  rintro _ H2 ⟨⟨m, rfl, m0, m1⟩, s1, g1⟩
  obtain ⟨q, e1, q1, q2⟩ := cutLen 4 (by omega) m0 m1
  simp only [Int.reduceToNat] at q1 q2
  have k0 := agr_get g1 hget_new (by have := ss.st.lt; omega)
  simp only [go_sem, Nat.reduceBEq, Nat.reduceAdd, Nat.reduceMul, Nat.reduceSub, Nat.reduceLeDiff, Nat.le_refl, implies_true, Nat.reduceLT, reduceIte, decide_true, decide_false, true_and, and_true, reduceCtorEq, Nat.mul_one, Int.reduceToNat, Int.reduceLE, Int.reduceLT, Int.reduceAdd, Int.reduceSub, Int.reduceMul, Int.cast_ofNat_Int, cast_zero_int, cast_one_int, Nat.reducePow, Nat.reduceEqDiff, Nat.reduceMod, Nat.zero_add, Nat.sub_zero, Nat.add_zero, hBin_quo (show (11 : Int) ≠ 0 by omega), e1, k0]
  refine ⟨by omega, by omega, ?_⟩
  refine ⟨by kernel_rfl, (d_among _ q _ s1 hown k0 rfl rfl (by simp; omega) (by have := ss.st.lt; omega) (by omega) (by omega) (by omega)).use (fun _ m => m) ?_⟩
  rintro _ H3 ⟨⟨x, rfl⟩, s2, g2⟩
  have s3 := (ss.step (ss.st.app _) (Agr.app (t := [_]))).step s1 g1
  have s4 := s3.step s2 g2
  try simp only [go_sem, Nat.reduceBEq, Nat.reduceAdd, Nat.reduceMul, Nat.reduceSub, Nat.reduceLeDiff, Nat.le_refl, implies_true, Nat.reduceLT, reduceIte, decide_true, decide_false, true_and, and_true, reduceCtorEq, Nat.mul_one, Int.reduceToNat, Int.reduceLE, Int.reduceLT, Int.reduceAdd, Int.reduceSub, Int.reduceMul, Int.cast_ofNat_Int, cast_zero_int, cast_one_int, Nat.reducePow, Nat.reduceEqDiff, Nat.reduceMod, Nat.zero_add, Nat.sub_zero, Nat.add_zero]
  refine ⟨by kernel_rfl, (d_pick _ (s4.st.app _) hown (by omega)).use (fun _ m => m) ?_⟩
  rintro _ H4 ⟨⟨m2, rfl, n0, n1⟩, s5, g5⟩
  have t0 : 0 ≤ m2 / 11 ∧ m2 / 11 ≤ 1 := by omega
  obtain ⟨q3, hq3⟩ := Int.eq_ofNat_of_zero_le (show 0 ≤ 3 + 2 * (m2 / 11) by omega)
  have t1 : IntKind.i64.wrap (m2.tdiv 11) = m2 / 11 := by rw [Int.tdiv_eq_ediv_of_nonneg n0]; exact wrap64 (by omega)
  have t2 : IntKind.i64.wrap (2 * (m2 / 11)) = 2 * (m2 / 11) := wrap64 (by omega)
  have t3 : IntKind.i64.wrap (3 + 2 * (m2 / 11)) = (q3 : Int) := by rw [← hq3]; exact wrap64 (by omega)
  have k1 := agr_get g5 hget_new (by have := s4.st.lt; omega)
  simp only [go_sem, Nat.reduceBEq, Nat.reduceAdd, Nat.reduceMul, Nat.reduceSub, Nat.reduceLeDiff, Nat.le_refl, implies_true, Nat.reduceLT, reduceIte, decide_true, decide_false, true_and, and_true, reduceCtorEq, Nat.mul_one, Int.reduceToNat, Int.reduceLE, Int.reduceLT, Int.reduceAdd, Int.reduceSub, Int.reduceMul, Int.cast_ofNat_Int, cast_zero_int, cast_one_int, Nat.reducePow, Nat.reduceEqDiff, Nat.reduceMod, Nat.zero_add, Nat.sub_zero, Nat.add_zero, hBin_quo (show (11 : Int) ≠ 0 by omega), t1, t2, t3, k1]
  refine ⟨by omega, by omega, ?_⟩
  refine ⟨by kernel_rfl, (d_among _ q3 _ s5 hown k1 rfl rfl (by simp; omega) (by have := s4.st.lt; omega) (by omega) (by omega) (by omega)).use (fun _ m => m) ?_⟩
  rintro _ H5 ⟨⟨x2, rfl⟩, s6, g6⟩
  have s7 := ((s4.step (s4.st.app _) (Agr.app (t := [_]))).step s5 g5).step s6 g6
  try simp only [go_sem, Nat.reduceBEq, Nat.reduceAdd, Nat.reduceMul, Nat.reduceSub, Nat.reduceLeDiff, Nat.le_refl, implies_true, Nat.reduceLT, reduceIte, decide_true, decide_false, true_and, and_true, reduceCtorEq, Nat.mul_one, Int.reduceToNat, Int.reduceLE, Int.reduceLT, Int.reduceAdd, Int.reduceSub, Int.reduceMul, Int.cast_ofNat_Int, cast_zero_int, cast_one_int, Nat.reducePow, Nat.reduceEqDiff, Nat.reduceMod, Nat.zero_add, Nat.sub_zero, Nat.add_zero]
  exact ⟨⟨_, l, x, _, rfl, s7.rowsM (by simp), hl⟩, agr_preW (List.prefix_append _ _) s7.out (Nat.le_refl _)⟩
set_option maxRecDepth 20000 in
theorem c_DrawIsValidSample (b : Option Addr) (n : Nat) (hcode : CodeOk h b n) :
    vCall [] Tryd.prog M 82 [.slice b n 0] h (fun r h' => (∃ x : Smp, r = .agg #[.int .i64 x.1, .int .i64 x.2.1, .int .i64 x.2.2.1, .int .i64 x.2.2.2]) ∧ h <+: h') := by
  have hown : own h.length M (h.length + 1) := Or.inl (Nat.le_succ _)
  refine body_of mo Tryd.func82 rfl (by kernel_rfl) (Nat.le_of_ble_eq_true (by kernel_rfl)) rfl ?_
  simp only [go_sem, Nat.reduceBEq, Nat.reduceAdd, Nat.reduceMul, Nat.reduceSub, Nat.reduceLeDiff, Nat.le_refl, implies_true, Nat.reduceLT, reduceIte, decide_true, decide_false, true_and, and_true, reduceCtorEq, Nat.mul_one, Int.reduceToNat, Int.reduceLE, Int.reduceLT, Int.reduceAdd, Int.reduceSub, Int.reduceMul, Int.cast_ofNat_Int, cast_zero_int, cast_one_int, Nat.reducePow, Nat.reduceEqDiff, Nat.reduceMod, Nat.zero_add, Nat.sub_zero, Nat.add_zero]
  refine ⟨by kernel_rfl, (d_among (h.length + 2) 3 ⟨[.int .i64 0, .int .i64 12, .int .i64 3650], 1, .rw⟩ (St.start1W hcode ⟨[.int .i64 0, .int .i64 12, .int .i64 3650], 1, .rw⟩) hown (by simp [hget]) rfl rfl (by decide) (by omega) (by omega) (by omega) (by omega)).use (fun _ m => m) ?_⟩
  rintro _ H1 ⟨⟨w0, rfl⟩, s1, g1⟩
  have z1 : hget H1 h.length = some smpZ := agr_get g1 (by simp [hget, smpZ]) (by omega)
  have L1 := g1.1
  simp only [List.length_append, List.length_cons, List.length_nil] at L1
  try simp only [go_sem, Nat.reduceBEq, Nat.reduceAdd, Nat.reduceMul, Nat.reduceSub, Nat.reduceLeDiff, Nat.le_refl, implies_true, Nat.reduceLT, reduceIte, decide_true, decide_false, true_and, and_true, reduceCtorEq, Nat.mul_one, Int.reduceToNat, Int.reduceLE, Int.reduceLT, Int.reduceAdd, Int.reduceSub, Int.reduceMul, Int.cast_ofNat_Int, cast_zero_int, cast_one_int, Nat.reducePow, Nat.reduceEqDiff, Nat.reduceMod, Nat.zero_add, Nat.sub_zero, Nat.add_zero]
  refine ⟨by kernel_rfl, (d_sample _ s1 hown (by omega)).use (fun _ m => m) ?_⟩
  rintro _ H2 ⟨⟨x, y, z, w, rfl⟩, s2, g2⟩
  have z2 := agr_get g2 z1 (by omega)
  simp only [go_sem, Nat.reduceBEq, Nat.reduceAdd, Nat.reduceMul, Nat.reduceSub, Nat.reduceLeDiff, Nat.le_refl, implies_true, Nat.reduceLT, reduceIte, decide_true, decide_false, true_and, and_true, reduceCtorEq, Nat.mul_one, Int.reduceToNat, Int.reduceLE, Int.reduceLT, Int.reduceAdd, Int.reduceSub, Int.reduceMul, Int.cast_ofNat_Int, cast_zero_int, cast_one_int, Nat.reducePow, Nat.reduceEqDiff, Nat.reduceMod, Nat.zero_add, Nat.sub_zero, Nat.add_zero, z2, smpZ, own_ge (Nat.le_refl h.length), set_get z2]
  exact ⟨⟨(x, y, z, w), rfl⟩, pre_setW (agr_preW (List.prefix_append _ _) (g1.trans g2) (by omega)) (Nat.le_refl _)⟩
theorem c_DrawSampleText (b : Option Addr) (n : Nat) (hcode : CodeOk h b n) :
    vCall [] Tryd.prog M 28 [.slice b n 0] h (fun r h' => (∃ x : Smp, r = .agg #[.int .i64 x.1, .int .i64 x.2.1, .int .i64 x.2.2.1, .int .i64 x.2.2.2]) ∧ h <+: h') := by
  refine body_of mo Tryd.func28 rfl (by kernel_rfl) (Nat.le_of_ble_eq_true (by kernel_rfl)) rfl ?_
  simp only [go_sem, Nat.reduceBEq, Nat.reduceAdd, Nat.reduceMul, Nat.reduceSub, Nat.reduceLeDiff, Nat.le_refl, implies_true, Nat.reduceLT, reduceIte, decide_true, decide_false, true_and, and_true, reduceCtorEq, Nat.mul_one, Int.reduceToNat, Int.reduceLE, Int.reduceLT, Int.reduceAdd, Int.reduceSub, Int.reduceMul, Int.cast_ofNat_Int, cast_zero_int, cast_one_int, Nat.reducePow, Nat.reduceEqDiff, Nat.reduceMod, Nat.zero_add, Nat.sub_zero, Nat.add_zero]
  refine ⟨by kernel_rfl, (c_DrawIsValidSample b n (hcode.mono (by simp))).use (fun _ m => m) ?_⟩
  rintro _ H2 ⟨⟨x, rfl⟩, hp⟩
  have z2 : hget H2 h.length = some smpZ := hget_prefix' hp
  simp only [go_sem, Nat.reduceBEq, Nat.reduceAdd, Nat.reduceMul, Nat.reduceSub, Nat.reduceLeDiff, Nat.le_refl, implies_true, Nat.reduceLT, reduceIte, decide_true, decide_false, true_and, and_true, reduceCtorEq, Nat.mul_one, Int.reduceToNat, Int.reduceLE, Int.reduceLT, Int.reduceAdd, Int.reduceSub, Int.reduceMul, Int.cast_ofNat_Int, cast_zero_int, cast_one_int, Nat.reducePow, Nat.reduceEqDiff, Nat.reduceMod, Nat.zero_add, Nat.sub_zero, Nat.add_zero, z2, smpZ, own_ge (Nat.le_refl h.length), set_get z2]
  exact ⟨⟨x, rfl⟩, pre_setW ((List.prefix_append _ _).trans hp) (Nat.le_refl _)⟩
set_option maxRecDepth 20000 in
theorem c_DrawParseSample (b : Option Addr) (n : Nat) (hcode : CodeOk h b n) :
    vCall [] Tryd.prog M 30 [.slice b n 0] h (fun r h' => (∃ s : ByteArray, r = .string s ∧ s.size ≤ 200) ∧ h <+: h') := by
  have hown : own h.length M h.length := Or.inl (Nat.le_refl _)
  refine body_of mo Tryd.func30 rfl (by kernel_rfl) (Nat.le_of_ble_eq_true (by kernel_rfl)) rfl ?_
  simp only [go_sem, Nat.reduceBEq, Nat.reduceAdd, Nat.reduceMul, Nat.reduceSub, Nat.reduceLeDiff, Nat.le_refl, implies_true, Nat.reduceLT, reduceIte, decide_true, decide_false, true_and, and_true, reduceCtorEq, Nat.mul_one, Int.reduceToNat, Int.reduceLE, Int.reduceLT, Int.reduceAdd, Int.reduceSub, Int.reduceMul, Int.cast_ofNat_Int, cast_zero_int, cast_one_int, Nat.reducePow, Nat.reduceEqDiff, Nat.reduceMod, Nat.zero_add, Nat.sub_zero, Nat.add_zero]
  refine ⟨by kernel_rfl, (d_among (h.length + 1) 3 ⟨[.int .i64 0, .int .i64 12, .int .i64 3650], 1, .rw⟩ (by simpa using (St.start0W hcode).app [⟨[.int .i64 0, .int .i64 12, .int .i64 3650], 1, .rw⟩]) hown hget_lit1 rfl rfl (by decide) (by omega) (by omega) (by omega) (by omega)).use (fun _ m => m) ?_⟩
  rintro _ H1 ⟨⟨w0, rfl⟩, s1, g1⟩
  replace g1 := (Agr.app (t := [(⟨[.int .i64 0, .int .i64 12, .int .i64 3650], 1, .rw⟩ : Blk)])).trans (lo := h.length) (hi := h.length + 1) (h := h ++ [⟨[.slice b n 0, .int .i64 0, .int .u64 0], 3, .rw⟩]) (by simpa using g1)
  try simp only [go_sem, Nat.reduceBEq, Nat.reduceAdd, Nat.reduceMul, Nat.reduceSub, Nat.reduceLeDiff, Nat.le_refl, implies_true, Nat.reduceLT, reduceIte, decide_true, decide_false, true_and, and_true, reduceCtorEq, Nat.mul_one, Int.reduceToNat, Int.reduceLE, Int.reduceLT, Int.reduceAdd, Int.reduceSub, Int.reduceMul, Int.cast_ofNat_Int, cast_zero_int, cast_one_int, Nat.reducePow, Nat.reduceEqDiff, Nat.reduceMod, Nat.zero_add, Nat.sub_zero, Nat.add_zero]
  refine ⟨by kernel_rfl, (d_sample _ s1 hown (by omega)).use (fun _ m => m) ?_⟩
  rintro _ H2 ⟨⟨x, y, z, w, rfl⟩, s2, g2⟩
  try simp only [go_sem, Nat.reduceBEq, Nat.reduceAdd, Nat.reduceMul, Nat.reduceSub, Nat.reduceLeDiff, Nat.le_refl, implies_true, Nat.reduceLT, reduceIte, decide_true, decide_false, true_and, and_true, reduceCtorEq, Nat.mul_one, Int.reduceToNat, Int.reduceLE, Int.reduceLT, Int.reduceAdd, Int.reduceSub, Int.reduceMul, Int.cast_ofNat_Int, cast_zero_int, cast_one_int, Nat.reducePow, Nat.reduceEqDiff, Nat.reduceMod, Nat.zero_add, Nat.sub_zero, Nat.add_zero]
  refine ⟨by kernel_rfl, (c_sSampleText (x, y, z, w)).use (fun _ m => m) ?_⟩
  rintro _ _ ⟨rfl, ⟨t, rfl⟩⟩
  obtain ⟨s, ok, hs, zs⟩ := smpTV_size (x, y, z, w)
  rw [hs]
  try simp only [go_sem, Nat.reduceBEq, Nat.reduceAdd, Nat.reduceMul, Nat.reduceSub, Nat.reduceLeDiff, Nat.le_refl, implies_true, Nat.reduceLT, reduceIte, decide_true, decide_false, true_and, and_true, reduceCtorEq, Nat.mul_one, Int.reduceToNat, Int.reduceLE, Int.reduceLT, Int.reduceAdd, Int.reduceSub, Int.reduceMul, Int.cast_ofNat_Int, cast_zero_int, cast_one_int, Nat.reducePow, Nat.reduceEqDiff, Nat.reduceMod, Nat.zero_add, Nat.sub_zero, Nat.add_zero]
  refine ⟨by kernel_rfl, (d_one _ (s2.app t) hown (by omega)).use (fun _ m => m) ?_⟩
  rintro _ H3 ⟨⟨gb, rfl⟩, s3, g3⟩
  have gA := ((g1.trans g2).trans (Agr.app (t := t))).trans g3
  cases gb
  · try simp only [go_sem, Nat.reduceBEq, Nat.reduceAdd, Nat.reduceMul, Nat.reduceSub, Nat.reduceLeDiff, Nat.le_refl, implies_true, Nat.reduceLT, reduceIte, decide_true, decide_false, true_and, and_true, reduceCtorEq, Nat.mul_one, Int.reduceToNat, Int.reduceLE, Int.reduceLT, Int.reduceAdd, Int.reduceSub, Int.reduceMul, Int.cast_ofNat_Int, cast_zero_int, cast_one_int, Nat.reducePow, Nat.reduceEqDiff, Nat.reduceMod, Nat.zero_add, Nat.sub_zero, Nat.add_zero]
    exact ⟨⟨s, rfl, by omega⟩, agr_preW (List.prefix_append _ _) gA (Nat.le_refl _)⟩
  · try simp only [go_sem, Nat.reduceBEq, Nat.reduceAdd, Nat.reduceMul, Nat.reduceSub, Nat.reduceLeDiff, Nat.le_refl, implies_true, Nat.reduceLT, reduceIte, decide_true, decide_false, true_and, and_true, reduceCtorEq, Nat.mul_one, Int.reduceToNat, Int.reduceLE, Int.reduceLT, Int.reduceAdd, Int.reduceSub, Int.reduceMul, Int.cast_ofNat_Int, cast_zero_int, cast_one_int, Nat.reducePow, Nat.reduceEqDiff, Nat.reduceMod, Nat.zero_add, Nat.sub_zero, Nat.add_zero]
    refine ⟨by kernel_rfl, (d_spoilt s ⟨#[48, 46, 44, 32, 58, 105]⟩ s3 hown (by omega) (by decide) (by omega)).use (fun _ m => m) ?_⟩
    rintro _ H4 ⟨⟨s', rfl, hs'⟩, s4, g4⟩
    try simp only [go_sem, Nat.reduceBEq, Nat.reduceAdd, Nat.reduceMul, Nat.reduceSub, Nat.reduceLeDiff, Nat.le_refl, implies_true, Nat.reduceLT, reduceIte, decide_true, decide_false, true_and, and_true, reduceCtorEq, Nat.mul_one, Int.reduceToNat, Int.reduceLE, Int.reduceLT, Int.reduceAdd, Int.reduceSub, Int.reduceMul, Int.cast_ofNat_Int, cast_zero_int, cast_one_int, Nat.reducePow, Nat.reduceEqDiff, Nat.reduceMod, Nat.zero_add, Nat.sub_zero, Nat.add_zero]
    exact ⟨⟨s', rfl, by omega⟩, agr_preW (List.prefix_append _ _) (gA.trans g4) (Nat.le_refl _)⟩
end
end Go.Proofs.YtkogddiefniihabDoor
