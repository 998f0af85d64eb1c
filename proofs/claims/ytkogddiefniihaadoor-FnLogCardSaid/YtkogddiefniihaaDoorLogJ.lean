
/- What the laws about logs draw. No condition. -/
import Derived.Test.YtkogddiefniihaaDoorLogE
import Derived.Test.YtkogddiefniihaaDoorH3
namespace Go.Proofs.YtkogddiefniihaaDoor
open Go.HH Go.Proofs
set_option linter.unusedSimpArgs false
set_option linter.unusedVariables false

theorem St.start1 {h : Heap} {b : Option Addr} {n : Nat} {z : Blk} (hcode : CodeOk h b n) : St (h ++ [z, ⟨[.slice b n 0, .int .i64 0, .int .u64 0], 3, .rw⟩]) (h.length + 1) n b 0 :=
  ⟨⟨0, 0, hget_lit1, by omega, by omega⟩, hcode.app⟩
theorem St.start1' {h : Heap} {b : Option Addr} {n : Nat} {z : Blk} (hcode : CodeOk h b n) (L : Blk) : St (h ++ [z, ⟨[.slice b n 0, .int .i64 0, .int .u64 0], 3, .rw⟩, L]) (h.length + 1) n b 0 := by
  have := (St.start1 (z := z) hcode).app [L]
  rwa [List.append_assoc] at this
theorem St.start2 {h : Heap} {b : Option Addr} {n : Nat} {y z : Blk} (hcode : CodeOk h b n) : St (h ++ [y, z, ⟨[.slice b n 0, .int .i64 0, .int .u64 0], 3, .rw⟩]) (h.length + 2) n b 0 :=
  ⟨⟨0, 0, by simp [hget, curB], by omega, by omega⟩, hcode.app⟩
theorem St.start0 {h : Heap} {b : Option Addr} {n : Nat} (hcode : CodeOk h b n) : St (h ++ [⟨[.slice b n 0, .int .i64 0, .int .u64 0], 3, .rw⟩]) h.length n b 0 :=
  ⟨⟨0, 0, by simp [hget, curB], by omega, by omega⟩, hcode.app⟩

/-- A log's block beside a cursor and the blocks for two results. -/
structure Ast (h H : Heap) (n : Nat) (b : Option Addr) (B j : Nat) (D P : ByteArray) (k : Int) : Prop where
  st : St H (h.length + 2) n b B
  out : Agr (h.length + 2) (h.length + 2 + 1) (h ++ [logZ, recZ, ⟨[.slice b n 0, .int .i64 0, .int .u64 0], 3, .rw⟩]) H
  y : hget H h.length = some logZ
  z : hget H (h.length + 1) = some recZ
  lb : hget H j = some ⟨[.string D, .string P, .int .i64 k], 3, .rw⟩
  low : h.length + 3 ≤ j
section
variable {h H H' : Heap} {n B B' j : Nat} {b : Option Addr} {D P : ByteArray} {k : Int}
theorem Ast.step (s : Ast h H n b B j D P k) (s' : St H' (h.length + 2) n b B') (g : Agr (h.length + 2) (h.length + 2 + 1) H H') : Ast h H' n b B' j D P k := by
  have h1 := s.low
  exact ⟨s', s.out.trans g, agr_get g s.y (by omega), agr_get g s.z (by omega), agr_get g s.lb (by omega), h1⟩
theorem Ast.grow (s : Ast h H n b B j D P k) (t : Heap) : Ast h (H ++ t) n b B j D P k := s.step (s.st.app t) Agr.app
theorem Ast.put (s : Ast h H n b B j D P k) (D' P' : ByteArray) (k' : Int) : Ast h (H.set j ⟨[.string D', .string P', .int .i64 k'], 3, .rw⟩) n b B j D' P' k' := by
  have h1 := s.low
  exact ⟨s.st.set s.lb rfl (by omega), agr_set_out s.out (by simp; omega), by rw [hget_set_ne (by omega)]; exact s.y, by rw [hget_set_ne (by omega)]; exact s.z, hget_set_same (hget_lt s.lb), h1⟩
end
theorem set_get2 {H : Heap} {i j : Nat} {x y b : Blk} (hx : hget H i = some x) (hy : hget H j = some y) (hne : i ≠ j) : hget (H.set i b) j = some y := by rw [hget_set_ne hne]; exact hy
theorem fin_a {H : Heap} {i : Nat} {x y b c : Blk} (hx : hget H i = some x) (hy : hget H (i + 1) = some y) : hget ((H.set i b).set (i + 1) c) i = some b := by rw [hget_set_ne (by omega)]; exact hget_set_same (hget_lt hx)
theorem fin_b {H : Heap} {i : Nat} {x y b c : Blk} (hx : hget H i = some x) (hy : hget H (i + 1) = some y) : hget ((H.set i b).set (i + 1) c) (i + 1) = some c := hget_set_same (by have := hget_lt hy; simpa using this)
theorem hget_at2 {h : Heap} {x y z : Blk} : hget (h ++ ([x, y] ++ [z])) (h.length + 2) = some z := by simp [hget]
theorem hget_set_new {h : Heap} {x y : Blk} : hget (List.set (h ++ [x]) h.length y) h.length = some y := hget_set_same (by simp)
theorem set_new {h : Heap} {x y : Blk} : List.set (h ++ [x]) h.length y = h ++ [y] := by simp
section
variable {h : Heap} {M : Nat → Prop}

set_option maxRecDepth 20000 in
theorem c_DrawEncodeRecord (b : Option Addr) (n : Nat) (hcode : CodeOk h b n) :
    vCall [] Tryd.prog M 41 [.slice b n 0] h (fun r h' => (∃ (k : Int) (c r2 : ByteArray), r = .tuple #[.int .i64 k, .agg #[.string c, .string r2]] ∧ c.size ≤ 20 ∧ r2.size ≤ 20) ∧ h <+: h') := by
  refine body_of mo Tryd.func41 rfl (by kernel_rfl) (Nat.le_of_ble_eq_true (by kernel_rfl)) rfl ?_
  try simp only [go_sem, Nat.reduceBEq, Nat.reduceAdd, Nat.reduceMul, Nat.reduceSub, Nat.reduceLeDiff, Nat.le_refl, implies_true, Nat.reduceLT, reduceIte, decide_true, decide_false, true_and, and_true, reduceCtorEq, Nat.mul_one, Int.reduceToNat, Int.reduceLE, Int.reduceLT, Int.reduceAdd, Int.reduceSub, Int.reduceMul, Int.cast_ofNat_Int, cast_zero_int, cast_one_int, Nat.reducePow, Nat.reduceEqDiff, Nat.reduceMod, Nat.zero_add, Nat.sub_zero, Nat.add_zero]
  refine ⟨by kernel_rfl, (d_among (h.length + 2) 6 ⟨[.int .i64 0, .int .i64 1, .int .i64 12, .int .i64 59, .int .i64 60, .int .i64 (-1)], 1, .rw⟩ (St.start1' (z := ⟨[.string ⟨#[]⟩, .string ⟨#[]⟩], 2, .rw⟩) hcode _) (Or.inl (Nat.le_succ _)) (by simp [hget]) rfl rfl (by decide) (by omega) (by omega) (by omega) (by omega)).use (fun _ m => m) ?_⟩
  rintro _ H1 ⟨⟨k, rfl⟩, s1, g1⟩
  have L1 := g1.1
  simp only [List.length_append, List.length_cons, List.length_nil] at L1
  have r1 : hget H1 h.length = some ⟨[.string ⟨#[]⟩, .string ⟨#[]⟩], 2, .rw⟩ := agr_get g1 (by simp [hget]) (by omega)
  try simp only [go_sem, Nat.reduceBEq, Nat.reduceAdd, Nat.reduceMul, Nat.reduceSub, Nat.reduceLeDiff, Nat.le_refl, implies_true, Nat.reduceLT, reduceIte, decide_true, decide_false, true_and, and_true, reduceCtorEq, Nat.mul_one, Int.reduceToNat, Int.reduceLE, Int.reduceLT, Int.reduceAdd, Int.reduceSub, Int.reduceMul, Int.cast_ofNat_Int, cast_zero_int, cast_one_int, Nat.reducePow, Nat.reduceEqDiff, Nat.reduceMod, Nat.zero_add, Nat.sub_zero, Nat.add_zero]
  refine ⟨by kernel_rfl, (d_logRecord s1 (Or.inl (Nat.le_succ _)) (by omega)).use (fun _ m => m) ?_⟩
  rintro _ H2 ⟨⟨c, r2, rfl, hc, hr⟩, s2, g2⟩
  have r2' := agr_get g2 r1 (by omega)
  try simp only [go_sem, Nat.reduceBEq, Nat.reduceAdd, Nat.reduceMul, Nat.reduceSub, Nat.reduceLeDiff, Nat.le_refl, implies_true, Nat.reduceLT, reduceIte, decide_true, decide_false, true_and, and_true, reduceCtorEq, Nat.mul_one, Int.reduceToNat, Int.reduceLE, Int.reduceLT, Int.reduceAdd, Int.reduceSub, Int.reduceMul, Int.cast_ofNat_Int, cast_zero_int, cast_one_int, Nat.reducePow, Nat.reduceEqDiff, Nat.reduceMod, Nat.zero_add, Nat.sub_zero, Nat.add_zero, r2', own_ge (Nat.le_refl h.length), set_get r2']
  exact ⟨⟨k, c, r2, rfl, hc, hr⟩, pre_set (agr_pre (List.prefix_append _ _) (g1.trans g2) (by omega)) (Nat.le_refl _)⟩

set_option maxRecDepth 20000 in
theorem c_DrawCrashLog (b : Option Addr) (n : Nat) (hcode : CodeOk h b n) :
    vCall [] Tryd.prog M 43 [.slice b n 0] h (fun r h' => (∃ (D P : ByteArray) (k keep : Int) (torn : Bool), r = .tuple #[.agg #[.string D, .string P, .int .i64 k], .int .i64 keep, .bool torn] ∧ D.size + P.size ≤ 6000) ∧ h <+: h') := by
  refine body_ofR ([(4,[0,3,1004])]) mo Tryd.func43 rfl (by kernel_rfl) (Nat.le_of_ble_eq_true (by kernel_rfl)) rfl ?_
  try simp only [go_sem, Nat.reduceBEq, Nat.reduceAdd, Nat.reduceMul, Nat.reduceSub, Nat.reduceLeDiff, Nat.le_refl, implies_true, Nat.reduceLT, reduceIte, decide_true, decide_false, true_and, and_true, reduceCtorEq, Nat.mul_one, Int.reduceToNat, Int.reduceLE, Int.reduceLT, Int.reduceAdd, Int.reduceSub, Int.reduceMul, Int.cast_ofNat_Int, cast_zero_int, cast_one_int, Nat.reducePow, Nat.reduceEqDiff, Nat.reduceMod, Nat.zero_add, Nat.sub_zero, Nat.add_zero]
  have s0 := St.start1 (z := logZ) hcode
  refine ⟨by kernel_rfl, (d_anyLog s0 (Or.inl (Nat.le_succ _)) (by omega)).use (fun _ m => m) ?_⟩
  rintro _ H1 ⟨⟨D, P, k, rfl, hz⟩, s1, g1⟩
  have L1 := g1.1
  simp only [List.length_append, List.length_cons, List.length_nil] at L1
  have r1 := agr_get g1 hget_lit0 (by omega)
  unfold logZ at r1
  have g2 := g1.trans (Agr.app (t := [⟨[.string D, .string P, .int .i64 k], 3, .rw⟩]))
  have s2 := s1.app [⟨[.string D, .string P, .int .i64 k], 3, .rw⟩]
  have r2 := self_get r1 [⟨[.string D, .string P, .int .i64 k], 3, .rw⟩]
  try simp only [go_sem, Nat.reduceBEq, Nat.reduceAdd, Nat.reduceMul, Nat.reduceSub, Nat.reduceLeDiff, Nat.le_refl, implies_true, Nat.reduceLT, reduceIte, decide_true, decide_false, true_and, and_true, reduceCtorEq, Nat.mul_one, Int.reduceToNat, Int.reduceLE, Int.reduceLT, Int.reduceAdd, Int.reduceSub, Int.reduceMul, Int.cast_ofNat_Int, cast_zero_int, cast_one_int, Nat.reducePow, Nat.reduceEqDiff, Nat.reduceMod, Nat.zero_add, Nat.sub_zero, Nat.add_zero, own_ge (show h.length ≤ H1.length by omega), hget_set_new, set_new]
  refine ⟨by kernel_rfl, (d_pick _ s2 (Or.inl (Nat.le_succ _)) (by omega)).use (fun _ m => m) ?_⟩
  rintro _ H2 ⟨⟨m, rfl, m0, m1⟩, s3, g3⟩
  have lb : hget H2 H1.length = some ⟨[.string D, .string P, .int .i64 k], 3, .rw⟩ := agr_get g3 hget_new (by omega)
  have r3 := agr_get g3 r2 (by omega)
  try simp only [go_sem, Nat.reduceBEq, Nat.reduceAdd, Nat.reduceMul, Nat.reduceSub, Nat.reduceLeDiff, Nat.le_refl, implies_true, Nat.reduceLT, reduceIte, decide_true, decide_false, true_and, and_true, reduceCtorEq, Nat.mul_one, Int.reduceToNat, Int.reduceLE, Int.reduceLT, Int.reduceAdd, Int.reduceSub, Int.reduceMul, Int.cast_ofNat_Int, cast_zero_int, cast_one_int, Nat.reducePow, Nat.reduceEqDiff, Nat.reduceMod, Nat.zero_add, Nat.sub_zero, Nat.add_zero, lb]
  refine ⟨by kernel_rfl, (d_one _ s3 (Or.inl (Nat.le_succ _)) (by omega)).use (fun _ m => m) ?_⟩
  rintro _ H3 ⟨⟨tb, rfl⟩, s4, g4⟩
  have lb3 := agr_get g4 lb (by omega)
  have r4 := agr_get g4 r3 (by omega)
  try simp only [go_sem, Nat.reduceBEq, Nat.reduceAdd, Nat.reduceMul, Nat.reduceSub, Nat.reduceLeDiff, Nat.le_refl, implies_true, Nat.reduceLT, reduceIte, decide_true, decide_false, true_and, and_true, reduceCtorEq, Nat.mul_one, Int.reduceToNat, Int.reduceLE, Int.reduceLT, Int.reduceAdd, Int.reduceSub, Int.reduceMul, Int.cast_ofNat_Int, cast_zero_int, cast_one_int, Nat.reducePow, Nat.reduceEqDiff, Nat.reduceMod, Nat.zero_add, Nat.sub_zero, Nat.add_zero, lb3, g4.1, own_ge (Nat.le_refl h.length), r4, set_get r4]
  exact ⟨⟨D, P, k, _, tb, rfl, hz⟩, pre_set (agr_pre (List.prefix_append _ _) ((g2.trans g3).trans g4) (by omega)) (Nat.le_refl _)⟩

set_option maxRecDepth 20000 in
theorem c_DrawAppendRecord (b : Option Addr) (n : Nat) (hcode : CodeOk h b n) :
    vCall [] Tryd.prog M 38 [.slice b n 0] h (fun r h' => (∃ (D P : ByteArray) (k : Int) (c r2 : ByteArray), r = .tuple #[.agg #[.string D, .string P, .int .i64 k], .agg #[.string c, .string r2]] ∧ D.size + P.size ≤ 30000 ∧ c.size ≤ 20 ∧ r2.size ≤ 20) ∧ h <+: h') := by
  refine body_ofR ([(9,[0,2,1003,1004])]) mo Tryd.func38 rfl (by kernel_rfl) (Nat.le_of_ble_eq_true (by kernel_rfl)) rfl ?_
  try simp only [go_sem, Nat.reduceBEq, Nat.reduceAdd, Nat.reduceMul, Nat.reduceSub, Nat.reduceLeDiff, Nat.le_refl, implies_true, Nat.reduceLT, reduceIte, decide_true, decide_false, true_and, and_true, reduceCtorEq, Nat.mul_one, Int.reduceToNat, Int.reduceLE, Int.reduceLT, Int.reduceAdd, Int.reduceSub, Int.reduceMul, Int.cast_ofNat_Int, cast_zero_int, cast_one_int, Nat.reducePow, Nat.reduceEqDiff, Nat.reduceMod, Nat.zero_add, Nat.sub_zero, Nat.add_zero]
  have s0 := St.start2 (y := logZ) (z := recZ) hcode
  have z0 : (⟨#[]⟩ : ByteArray).size = 0 := rfl
  refine ⟨by kernel_rfl, (d_anyLog s0 (Or.inl (by omega)) (by omega)).use (fun _ m => m) ?_⟩
  rintro _ H1 ⟨⟨D, P, k, rfl, hz⟩, s1, g1⟩
  have L1 := g1.1
  simp only [List.length_append, List.length_cons, List.length_nil] at L1
  have y1 : hget H1 h.length = some logZ := agr_get g1 (by simp [hget]) (by omega)
  have q1 : hget H1 (h.length + 1) = some recZ := agr_get g1 (by simp [hget]) (by omega)
  try simp only [go_sem, Nat.reduceBEq, Nat.reduceAdd, Nat.reduceMul, Nat.reduceSub, Nat.reduceLeDiff, Nat.le_refl, implies_true, Nat.reduceLT, reduceIte, decide_true, decide_false, true_and, and_true, reduceCtorEq, Nat.mul_one, Int.reduceToNat, Int.reduceLE, Int.reduceLT, Int.reduceAdd, Int.reduceSub, Int.reduceMul, Int.cast_ofNat_Int, cast_zero_int, cast_one_int, Nat.reducePow, Nat.reduceEqDiff, Nat.reduceMod, Nat.zero_add, Nat.sub_zero, Nat.add_zero, own_ge (show h.length ≤ H1.length by omega), hget_set_new, set_new]
  refine ⟨by kernel_rfl, (d_one _ (s1.app _) (Or.inl (by omega)) (by omega)).use (fun _ m => m) ?_⟩
  rintro _ H2 ⟨⟨gb, rfl⟩, s2, g2⟩
  have L2 := g2.1
  simp only [List.length_append, List.length_cons, List.length_nil] at L2
  have bs : Ast h H2 n b (0 + 200 + 2) H1.length D P k := ⟨s2, (g1.trans Agr.app).trans g2, agr_get g2 (self_get y1 _) (by omega), agr_get g2 (self_get q1 _) (by omega), agr_get g2 hget_new (by omega), by omega⟩
  cases gb
  · try simp only [go_sem, Nat.reduceBEq, Nat.reduceAdd, Nat.reduceMul, Nat.reduceSub, Nat.reduceLeDiff, Nat.le_refl, implies_true, Nat.reduceLT, reduceIte, decide_true, decide_false, true_and, and_true, reduceCtorEq, Nat.mul_one, Int.reduceToNat, Int.reduceLE, Int.reduceLT, Int.reduceAdd, Int.reduceSub, Int.reduceMul, Int.cast_ofNat_Int, cast_zero_int, cast_one_int, Nat.reducePow, Nat.reduceEqDiff, Nat.reduceMod, Nat.zero_add, Nat.sub_zero, Nat.add_zero, bs.lb]
    refine ⟨by kernel_rfl, (d_logRecord bs.st (Or.inl (by omega)) (by omega)).use (fun _ m => m) ?_⟩
    rintro _ H9 ⟨⟨c, r2, rfl, hc, hr⟩, s9, g9⟩
    have b9 := bs.step s9 g9
    have y9 : hget H9 h.length = some ⟨[.string ⟨#[]⟩, .string ⟨#[]⟩, .int .i64 0], 3, .rw⟩ := b9.y
    have z9 : hget H9 (h.length + 1) = some ⟨[.string ⟨#[]⟩, .string ⟨#[]⟩], 2, .rw⟩ := b9.z
    have p1 := set_get2 (b := ⟨[.string D, .string P, .int .i64 k], 3, .rw⟩) y9 z9 (by omega)
    try simp only [go_sem, Nat.reduceBEq, Nat.reduceAdd, Nat.reduceMul, Nat.reduceSub, Nat.reduceLeDiff, Nat.le_refl, implies_true, Nat.reduceLT, reduceIte, decide_true, decide_false, true_and, and_true, reduceCtorEq, Nat.mul_one, Int.reduceToNat, Int.reduceLE, Int.reduceLT, Int.reduceAdd, Int.reduceSub, Int.reduceMul, Int.cast_ofNat_Int, cast_zero_int, cast_one_int, Nat.reducePow, Nat.reduceEqDiff, Nat.reduceMod, Nat.zero_add, Nat.sub_zero, Nat.add_zero, g9.1, b9.lb, own_ge (Nat.le_refl h.length), own_ge (show h.length ≤ h.length + 1 by omega), y9, p1, fin_a y9 z9, fin_b y9 z9]
    exact ⟨⟨D, P, k, c, r2, rfl, by omega, hc, hr⟩, pre_set (pre_set (agr_pre (List.prefix_append _ _) b9.out (by omega)) (Nat.le_refl _)) (by omega)⟩
  · have oL : own h.length M H1.length = True := own_ge (by omega)
    have bs0 := bs.put ⟨#[]⟩ ⟨#[]⟩ 0
    try simp only [go_sem, Nat.reduceBEq, Nat.reduceAdd, Nat.reduceMul, Nat.reduceSub, Nat.reduceLeDiff, Nat.le_refl, implies_true, Nat.reduceLT, reduceIte, decide_true, decide_false, true_and, and_true, reduceCtorEq, Nat.mul_one, Int.reduceToNat, Int.reduceLE, Int.reduceLT, Int.reduceAdd, Int.reduceSub, Int.reduceMul, Int.cast_ofNat_Int, cast_zero_int, cast_one_int, Nat.reducePow, Nat.reduceEqDiff, Nat.reduceMod, Nat.zero_add, Nat.sub_zero, Nat.add_zero, bs.lb, oL]
    refine ⟨by kernel_rfl, (d_pick _ bs0.st (Or.inl (by omega)) (by omega)).use (fun _ m => m) ?_⟩
    rintro _ H3 ⟨⟨m, rfl, m0, m1⟩, s3, g3⟩
    have bs1 := bs0.step s3 g3
    have w1 : IntKind.i64.wrap (59 + m) = 59 + m := wrap64 (by omega)
    try simp only [go_sem, Nat.reduceBEq, Nat.reduceAdd, Nat.reduceMul, Nat.reduceSub, Nat.reduceLeDiff, Nat.le_refl, implies_true, Nat.reduceLT, reduceIte, decide_true, decide_false, true_and, and_true, reduceCtorEq, Nat.mul_one, Int.reduceToNat, Int.reduceLE, Int.reduceLT, Int.reduceAdd, Int.reduceSub, Int.reduceMul, Int.cast_ofNat_Int, cast_zero_int, cast_one_int, Nat.reducePow, Nat.reduceEqDiff, Nat.reduceMod, Nat.zero_add, Nat.sub_zero, Nat.add_zero, w1]
    refine vLoopR.count mo (59 + m).toNat (fun i e H' => ∃ (D P : ByteArray) (k : Int), e 2 = .pointer (some ⟨h.length, 0, none⟩) ∧ e 3 = .pointer (some ⟨h.length + 1, 0, none⟩) ∧ e 4 = .pointer (some ⟨h.length + 2, 0, none⟩) ∧ e 5 = .pointer (some ⟨H1.length, 0, none⟩) ∧ e 6 = .int .i64 (59 + m - i) ∧
      Ast h H' n b (0 + 200 + 2 + 2) H1.length D P k ∧ D.size + P.size ≤ 372 * i) ?_ ?_
    · refine ⟨⟨#[]⟩, ⟨#[]⟩, 0, ?_⟩
      try simp only [go_sem, Nat.reduceBEq, Nat.reduceAdd, Nat.reduceMul, Nat.reduceSub, Nat.reduceLeDiff, Nat.le_refl, implies_true, Nat.reduceLT, reduceIte, decide_true, decide_false, true_and, and_true, reduceCtorEq, Nat.mul_one, Int.reduceToNat, Int.reduceLE, Int.reduceLT, Int.reduceAdd, Int.reduceSub, Int.reduceMul, Int.cast_ofNat_Int, cast_zero_int, cast_one_int, Nat.reducePow, Nat.reduceEqDiff, Nat.reduceMod, Nat.zero_add, Nat.sub_zero, Nat.add_zero]
      exact ⟨by simp [bs1], by omega⟩
    · rintro i e H' hi ⟨D, P, k, e2, e3, e4, e5, e6, bs, hz⟩
      by_cases hlt : (i : Int) < 59 + m
      · have q1 : (0 : Int) < 59 + m - i := by omega
        have z1 : (⟨#[120]⟩ : ByteArray).size = 1 := rfl
        try simp only [go_sem, Nat.reduceBEq, Nat.reduceAdd, Nat.reduceMul, Nat.reduceSub, Nat.reduceLeDiff, Nat.le_refl, implies_true, Nat.reduceLT, reduceIte, decide_true, decide_false, true_and, and_true, reduceCtorEq, Nat.mul_one, Int.reduceToNat, Int.reduceLE, Int.reduceLT, Int.reduceAdd, Int.reduceSub, Int.reduceMul, Int.cast_ofNat_Int, cast_zero_int, cast_one_int, Nat.reducePow, Nat.reduceEqDiff, Nat.reduceMod, Nat.zero_add, Nat.sub_zero, Nat.add_zero, e2, e3, e4, e5, e6, q1, bs.lb]
        refine ⟨by kernel_rfl, (c_sAppendRecord D P k ⟨#[120]⟩ ⟨#[]⟩ (by omega) (by omega) (by omega)).use (fun _ m => m) ?_⟩
        rintro _ _ ⟨rfl, ⟨t, rfl⟩⟩
        obtain ⟨D2, P2, k2, co, hv, hb⟩ := appV_bound D P k ⟨#[120]⟩ ⟨#[]⟩
        rw [hv]
        have bs3 := bs.grow t
        have bs4 := bs3.put D2 P2 k2
        try simp only [go_sem, Nat.reduceBEq, Nat.reduceAdd, Nat.reduceMul, Nat.reduceSub, Nat.reduceLeDiff, Nat.le_refl, implies_true, Nat.reduceLT, reduceIte, decide_true, decide_false, true_and, and_true, reduceCtorEq, Nat.mul_one, Int.reduceToNat, Int.reduceLE, Int.reduceLT, Int.reduceAdd, Int.reduceSub, Int.reduceMul, Int.cast_ofNat_Int, cast_zero_int, cast_one_int, Nat.reducePow, Nat.reduceEqDiff, Nat.reduceMod, Nat.zero_add, Nat.sub_zero, Nat.add_zero, e2, e3, e4, e5, e6, q1, bs3.lb, oL]
        exact ⟨by omega, D2, P2, k2, by rw [wrap64 (by omega)]; congr 1; omega, bs4, by omega⟩
      · try simp only [go_sem, Nat.reduceBEq, Nat.reduceAdd, Nat.reduceMul, Nat.reduceSub, Nat.reduceLeDiff, Nat.le_refl, implies_true, Nat.reduceLT, reduceIte, decide_true, decide_false, true_and, and_true, reduceCtorEq, Nat.mul_one, Int.reduceToNat, Int.reduceLE, Int.reduceLT, Int.reduceAdd, Int.reduceSub, Int.reduceMul, Int.cast_ofNat_Int, cast_zero_int, cast_one_int, Nat.reducePow, Nat.reduceEqDiff, Nat.reduceMod, Nat.zero_add, Nat.sub_zero, Nat.add_zero, e2, e3, e4, e5, e6, show ¬ (0 : Int) < 59 + m - i by omega, bs.lb]
        refine ⟨by kernel_rfl, (d_logRecord bs.st (Or.inl (by omega)) (by omega)).use (fun _ m => m) ?_⟩
        rintro _ H9 ⟨⟨c, r2, rfl, hc, hr⟩, s9, g9⟩
        have b9 := bs.step s9 g9
        have y9 : hget H9 h.length = some ⟨[.string ⟨#[]⟩, .string ⟨#[]⟩, .int .i64 0], 3, .rw⟩ := b9.y
        have z9 : hget H9 (h.length + 1) = some ⟨[.string ⟨#[]⟩, .string ⟨#[]⟩], 2, .rw⟩ := b9.z
        have p1 := set_get2 (b := ⟨[.string D, .string P, .int .i64 k], 3, .rw⟩) y9 z9 (by omega)
        try simp only [go_sem, Nat.reduceBEq, Nat.reduceAdd, Nat.reduceMul, Nat.reduceSub, Nat.reduceLeDiff, Nat.le_refl, implies_true, Nat.reduceLT, reduceIte, decide_true, decide_false, true_and, and_true, reduceCtorEq, Nat.mul_one, Int.reduceToNat, Int.reduceLE, Int.reduceLT, Int.reduceAdd, Int.reduceSub, Int.reduceMul, Int.cast_ofNat_Int, cast_zero_int, cast_one_int, Nat.reducePow, Nat.reduceEqDiff, Nat.reduceMod, Nat.zero_add, Nat.sub_zero, Nat.add_zero, e2, e3, e4, e5, e6, g9.1, b9.lb, own_ge (Nat.le_refl h.length), own_ge (show h.length ≤ h.length + 1 by omega), y9, p1, fin_a y9 z9, fin_b y9 z9]
        exact ⟨⟨D, P, k, c, r2, rfl, by omega, hc, hr⟩, pre_set (pre_set (agr_pre (List.prefix_append _ _) b9.out (by omega)) (Nat.le_refl _)) (by omega)⟩

theorem lineL_any (k : Nat) (c r : BL) (hk : k < 100) : (lineL k c r).length ≤ c.length + r.length + 20 := by
  have h1 := dec_len (n := k) (k := 2) (by omega) (by omega)
  have h2 := dec_len (n := sumL (recL k c r)) (k := 6) (Nat.lt_trans (sumL_lt _) (by omega)) (by omega)
  simp only [lineL, recL, List.length_append, List.length_cons] at *
  omega
theorem c_l27LineAny (k : Nat) (c r : ByteArray) (hk : k < 100) (hc : c.size ≤ 1000) (hr : r.size ≤ 1000) : vCall [] Tryd.prog M 54 [.int .i64 k, .agg #[.string c, .string r]] h (fun v h' => v = .string (mkB (lineL k (bl c) (bl r) ++ [10])) ∧ h <+: h') := by
  have n1 := num_size 2 k (by omega) (by omega)
  have e1 : (⟨#[32]⟩ : ByteArray).size = 1 := rfl
  have e2 : (⟨#[64]⟩ : ByteArray).size = 1 := rfl
  have e3 : (⟨#[10]⟩ : ByteArray).size = 1 := rfl
  have a1 : hBin .add (.string (num k)) (.string ⟨#[32]⟩) = some (.string (num k ++ ⟨#[32]⟩)) := adds (by omega)
  have a2 : hBin .add (.string (num k ++ ⟨#[32]⟩)) (.string c) = some (.string (num k ++ ⟨#[32]⟩ ++ c)) := adds (by rw [ByteArray.size_append]; omega)
  have a3 : hBin .add (.string (num k ++ ⟨#[32]⟩ ++ c)) (.string ⟨#[64]⟩) = some (.string (num k ++ ⟨#[32]⟩ ++ c ++ ⟨#[64]⟩)) := adds (by simp only [ByteArray.size_append]; omega)
  have a4 : hBin .add (.string (num k ++ ⟨#[32]⟩ ++ c ++ ⟨#[64]⟩)) (.string r) = some (.string (recB k c r)) := adds (by simp only [ByteArray.size_append]; omega)
  have a5 : (recB k c r).size ≤ 3000 := by simp only [recB, ByteArray.size_append]; omega
  have a6 : hBin .add (.string (mkB (sealL (bl (recB k c r))))) (.string ⟨#[10]⟩) = some (.string (mkB (lineL k (bl c) (bl r) ++ [10]))) := by
    rw [bl_recB, sealL_rec, ← nlB]
    have := lineL_any k (bl c) (bl r) hk
    rw [bl_len, bl_len] at this
    exact adds (by rw [mkB_size]; omega)
  refine body_of mo Tryd.func54 rfl (by kernel_rfl) (Nat.le_of_ble_eq_true (by kernel_rfl)) rfl ?_
  simp only [go_sem, Nat.reduceBEq, Nat.reduceAdd, Nat.reduceMul, Nat.reduceSub, Nat.reduceLeDiff, Nat.le_refl, implies_true, Nat.reduceLT, reduceIte, decide_true, decide_false, true_and, and_true, reduceCtorEq, Nat.mul_one, Int.reduceToNat, Int.reduceLE, Int.reduceLT, Int.reduceAdd, Int.reduceSub, Int.reduceMul, Int.cast_ofNat_Int, cast_zero_int, cast_one_int, Nat.reducePow, Nat.reduceEqDiff, Nat.reduceMod, Nat.zero_add, Nat.sub_zero, Nat.add_zero]
  refine ⟨by kernel_rfl, (c_l1Num k (by omega)).use (fun _ m => m) ?_⟩
  rintro _ _ ⟨rfl, rfl⟩
  simp only [go_sem, Nat.reduceBEq, Nat.reduceAdd, Nat.reduceMul, Nat.reduceSub, Nat.reduceLeDiff, Nat.le_refl, implies_true, Nat.reduceLT, reduceIte, decide_true, decide_false, true_and, and_true, reduceCtorEq, Nat.mul_one, Int.reduceToNat, Int.reduceLE, Int.reduceLT, Int.reduceAdd, Int.reduceSub, Int.reduceMul, Int.cast_ofNat_Int, cast_zero_int, cast_one_int, Nat.reducePow, Nat.reduceEqDiff, Nat.reduceMod, Nat.zero_add, Nat.sub_zero, Nat.add_zero, a1, a2, a3, a4]
  refine ⟨by kernel_rfl, (c_l1Seal (recB k c r) (by omega)).use (fun _ m => m) ?_⟩
  rintro _ _ ⟨rfl, rfl⟩
  simp only [go_sem, Nat.reduceBEq, Nat.reduceAdd, Nat.reduceMul, Nat.reduceSub, Nat.reduceLeDiff, Nat.le_refl, implies_true, Nat.reduceLT, reduceIte, decide_true, decide_false, true_and, and_true, reduceCtorEq, Nat.mul_one, Int.reduceToNat, Int.reduceLE, Int.reduceLT, Int.reduceAdd, Int.reduceSub, Int.reduceMul, Int.cast_ofNat_Int, cast_zero_int, cast_one_int, Nat.reducePow, Nat.reduceEqDiff, Nat.reduceMod, Nat.zero_add, Nat.sub_zero, Nat.add_zero, a6]
  all_goals first | exact rfl | exact ⟨rfl, rfl⟩ | exact List.prefix_append _ _ | exact ⟨rfl, List.prefix_append _ _⟩ | assumption | exact ⟨rfl, by assumption⟩ | exact List.prefix_rfl | exact ⟨rfl, List.prefix_rfl⟩ | exact List.IsPrefix.trans (by assumption) (by assumption) | exact ⟨rfl, List.IsPrefix.trans (by assumption) (by assumption)⟩

set_option maxRecDepth 20000 in
theorem c_DrawRecoverLog (b : Option Addr) (n : Nat) (hcode : CodeOk h b n) :
    vCall [] Tryd.prog M 42 [.slice b n 0] h (fun r h' => (∃ s : ByteArray, r = .string s ∧ s.size ≤ 40000) ∧ h <+: h') := by
  refine body_of mo Tryd.func42 rfl (by kernel_rfl) (Nat.le_of_ble_eq_true (by kernel_rfl)) rfl ?_
  try simp only [go_sem, Nat.reduceBEq, Nat.reduceAdd, Nat.reduceMul, Nat.reduceSub, Nat.reduceLeDiff, Nat.le_refl, implies_true, Nat.reduceLT, reduceIte, decide_true, decide_false, true_and, and_true, reduceCtorEq, Nat.mul_one, Int.reduceToNat, Int.reduceLE, Int.reduceLT, Int.reduceAdd, Int.reduceSub, Int.reduceMul, Int.cast_ofNat_Int, cast_zero_int, cast_one_int, Nat.reducePow, Nat.reduceEqDiff, Nat.reduceMod, Nat.zero_add, Nat.sub_zero, Nat.add_zero]
  have hM : own h.length M h.length := Or.inl (Nat.le_refl _)
  refine ⟨by kernel_rfl, (d_log (St.start0 hcode) hM (by omega)).use (fun _ m => m) ?_⟩
  rintro _ H1 ⟨⟨D, P, k, rfl, hz⟩, s1, g1⟩
  have L1 := g1.1
  simp only [List.length_append, List.length_cons, List.length_nil] at L1
  have zs : (D ++ P).size ≤ 3000 := by rw [ByteArray.size_append]; omega
  try simp only [go_sem, Nat.reduceBEq, Nat.reduceAdd, Nat.reduceMul, Nat.reduceSub, Nat.reduceLeDiff, Nat.le_refl, implies_true, Nat.reduceLT, reduceIte, decide_true, decide_false, true_and, and_true, reduceCtorEq, Nat.mul_one, Int.reduceToNat, Int.reduceLE, Int.reduceLT, Int.reduceAdd, Int.reduceSub, Int.reduceMul, Int.cast_ofNat_Int, cast_zero_int, cast_one_int, Nat.reducePow, Nat.reduceEqDiff, Nat.reduceMod, Nat.zero_add, Nat.sub_zero, Nat.add_zero, own_ge (show h.length ≤ H1.length by omega), hget_set_new, set_new, hget_new, joinDP D P (by omega)]
  obtain ⟨s, hs⟩ : ∃ s, s = D ++ P := ⟨_, rfl⟩
  rw [← hs] at zs
  rw [← hs]
  refine ⟨by kernel_rfl, (d_pick _ (s1.app _) hM (by omega)).use (fun _ m => m) ?_⟩
  rintro _ H2 ⟨⟨m, rfl, m0, m1⟩, s2, g2⟩
  have gA := (g1.trans Agr.app).trans g2
  have fin : ∀ (Hx : Heap) (Bx : Nat), St Hx h.length n b Bx → Agr h.length (h.length + 1) (h ++ [⟨[.slice b n 0, .int .i64 0, .int .u64 0], 3, .rw⟩]) Hx → h <+: Hx := fun Hx Bx _ g => agr_pre (List.prefix_append _ _) g (Nat.le_refl _)
  by_cases q1 : m = 0
  · have e1 : (m == 0) = true := by simpa using q1
    try simp only [go_sem, Nat.reduceBEq, Nat.reduceAdd, Nat.reduceMul, Nat.reduceSub, Nat.reduceLeDiff, Nat.le_refl, implies_true, Nat.reduceLT, reduceIte, decide_true, decide_false, true_and, and_true, reduceCtorEq, Nat.mul_one, Int.reduceToNat, Int.reduceLE, Int.reduceLT, Int.reduceAdd, Int.reduceSub, Int.reduceMul, Int.cast_ofNat_Int, cast_zero_int, cast_one_int, Nat.reducePow, Nat.reduceEqDiff, Nat.reduceMod, Nat.zero_add, Nat.sub_zero, Nat.add_zero, e1]
    refine ⟨by kernel_rfl, (d_spoilt s ⟨#[35, 64, 10, 48, 49]⟩ s2 hM (by omega) (by decide) (by omega)).use (fun _ m => m) ?_⟩
    rintro _ H3 ⟨⟨s', rfl, hs'⟩, s3, g3⟩
    try simp only [go_sem, Nat.reduceBEq, Nat.reduceAdd, Nat.reduceMul, Nat.reduceSub, Nat.reduceLeDiff, Nat.le_refl, implies_true, Nat.reduceLT, reduceIte, decide_true, decide_false, true_and, and_true, reduceCtorEq, Nat.mul_one, Int.reduceToNat, Int.reduceLE, Int.reduceLT, Int.reduceAdd, Int.reduceSub, Int.reduceMul, Int.cast_ofNat_Int, cast_zero_int, cast_one_int, Nat.reducePow, Nat.reduceEqDiff, Nat.reduceMod, Nat.zero_add, Nat.sub_zero, Nat.add_zero, e1]
    refine ⟨by kernel_rfl, (d_one _ s3 hM (by omega)).use (fun _ m => m) ?_⟩
    rintro _ H8 ⟨⟨gb, rfl⟩, s8, g8⟩
    cases gb
    · try simp only [go_sem, Nat.reduceBEq, Nat.reduceAdd, Nat.reduceMul, Nat.reduceSub, Nat.reduceLeDiff, Nat.le_refl, implies_true, Nat.reduceLT, reduceIte, decide_true, decide_false, true_and, and_true, reduceCtorEq, Nat.mul_one, Int.reduceToNat, Int.reduceLE, Int.reduceLT, Int.reduceAdd, Int.reduceSub, Int.reduceMul, Int.cast_ofNat_Int, cast_zero_int, cast_one_int, Nat.reducePow, Nat.reduceEqDiff, Nat.reduceMod, Nat.zero_add, Nat.sub_zero, Nat.add_zero, e1]
      exact ⟨⟨_, rfl, by omega⟩, fin _ _ s8 ((gA.trans g3).trans g8)⟩
    · try simp only [go_sem, Nat.reduceBEq, Nat.reduceAdd, Nat.reduceMul, Nat.reduceSub, Nat.reduceLeDiff, Nat.le_refl, implies_true, Nat.reduceLT, reduceIte, decide_true, decide_false, true_and, and_true, reduceCtorEq, Nat.mul_one, Int.reduceToNat, Int.reduceLE, Int.reduceLT, Int.reduceAdd, Int.reduceSub, Int.reduceMul, Int.cast_ofNat_Int, cast_zero_int, cast_one_int, Nat.reducePow, Nat.reduceEqDiff, Nat.reduceMod, Nat.zero_add, Nat.sub_zero, Nat.add_zero, e1]
      refine ⟨by kernel_rfl, (d_pick _ s8 hM (by omega)).use (fun _ m => m) ?_⟩
      rintro _ H9 ⟨⟨x, rfl, x0, x1⟩, s9, g9⟩
      have w9 : IntKind.i64.wrap (30000 + x) = 30000 + x := wrap64 (by omega)
      have oz : own h.length M H9.length = True := own_ge (by have := ((gA.trans g3).trans g8).1; have := g9.1; simp at *; omega)
      have oz2 : own h.length M (H9.length + 1) = True := own_ge (by have := ((gA.trans g3).trans g8).1; have := g9.1; simp at *; omega)
      have c0 : (0 : Int) ≤ 30000 + x := by omega
      have c1 : (30000 : Int) + x ≤ 9223372036854775807 := by omega
      have c2 : 1 * (30000 + x) ≤ 281474976710656 := by omega
      have c3 : (zeros (30000 + x).toNat [Value.int .u8 0]).length = (30000 + x).toNat := by rw [zeros_length]; simp
      try simp only [go_sem, Nat.reduceBEq, Nat.reduceAdd, Nat.reduceMul, Nat.reduceSub, Nat.reduceLeDiff, Nat.le_refl, implies_true, Nat.reduceLT, reduceIte, decide_true, decide_false, true_and, and_true, reduceCtorEq, Nat.mul_one, Int.reduceToNat, Int.reduceLE, Int.reduceLT, Int.reduceAdd, Int.reduceSub, Int.reduceMul, Int.cast_ofNat_Int, cast_zero_int, cast_one_int, Nat.reducePow, Nat.reduceEqDiff, Nat.reduceMod, Nat.zero_add, Nat.sub_zero, Nat.add_zero, e1, w9, c0, c1, c2, oz, oz2, onCv_more (show 0 < (30000 + x).toNat by omega), c3, strOf_zeros, hget_new]
      exact ⟨⟨_, rfl, by rw [mkB_size, List.length_replicate]; omega⟩, (fin _ _ s9 (((gA.trans g3).trans g8).trans g9)).trans (List.prefix_append _ _)⟩
  · have e1 : (m == 0) = false := by simpa using q1
    by_cases q2 : m = 1
    · have e2 : (m == 1) = true := by simpa using q2
      have w1 : IntKind.i64.wrap ((s.size : Int) + 1) = ((s.size + 1 : Nat) : Int) := by rw [wrap64 (by omega)]; omega
      try simp only [go_sem, Nat.reduceBEq, Nat.reduceAdd, Nat.reduceMul, Nat.reduceSub, Nat.reduceLeDiff, Nat.le_refl, implies_true, Nat.reduceLT, reduceIte, decide_true, decide_false, true_and, and_true, reduceCtorEq, Nat.mul_one, Int.reduceToNat, Int.reduceLE, Int.reduceLT, Int.reduceAdd, Int.reduceSub, Int.reduceMul, Int.cast_ofNat_Int, cast_zero_int, cast_one_int, Nat.reducePow, Nat.reduceEqDiff, Nat.reduceMod, Nat.zero_add, Nat.sub_zero, Nat.add_zero, e1, e2, w1]
      refine ⟨by kernel_rfl, (d_pick _ s2 hM (by omega)).use (fun _ m => m) ?_⟩
      rintro _ H3 ⟨⟨x, rfl, x0, x1⟩, s3, g3⟩
      obtain ⟨y, rfl⟩ := Int.eq_ofNat_of_zero_le x0
      have b0 : (0 : Int) ≤ (y : Nat) := by omega
      have zy : (s.extract 0 y).size ≤ 3000 := by rw [ByteArray.size_extract]; omega
      try simp only [go_sem, Nat.reduceBEq, Nat.reduceAdd, Nat.reduceMul, Nat.reduceSub, Nat.reduceLeDiff, Nat.le_refl, implies_true, Nat.reduceLT, reduceIte, decide_true, decide_false, true_and, and_true, reduceCtorEq, Nat.mul_one, Int.reduceToNat, Int.reduceLE, Int.reduceLT, Int.reduceAdd, Int.reduceSub, Int.reduceMul, Int.cast_ofNat_Int, cast_zero_int, cast_one_int, Nat.reducePow, Nat.reduceEqDiff, Nat.reduceMod, Nat.zero_add, Nat.sub_zero, Nat.add_zero, e1, e2, w1, b0, Int.toNat_natCast, show y ≤ s.size by omega]
      refine ⟨by omega, ?_⟩
      refine ⟨by kernel_rfl, (d_one _ s3 hM (by omega)).use (fun _ m => m) ?_⟩
      rintro _ H8 ⟨⟨gb, rfl⟩, s8, g8⟩
      cases gb
      · try simp only [go_sem, Nat.reduceBEq, Nat.reduceAdd, Nat.reduceMul, Nat.reduceSub, Nat.reduceLeDiff, Nat.le_refl, implies_true, Nat.reduceLT, reduceIte, decide_true, decide_false, true_and, and_true, reduceCtorEq, Nat.mul_one, Int.reduceToNat, Int.reduceLE, Int.reduceLT, Int.reduceAdd, Int.reduceSub, Int.reduceMul, Int.cast_ofNat_Int, cast_zero_int, cast_one_int, Nat.reducePow, Nat.reduceEqDiff, Nat.reduceMod, Nat.zero_add, Nat.sub_zero, Nat.add_zero, e1, e2]
        exact ⟨⟨_, rfl, by omega⟩, fin _ _ s8 ((gA.trans g3).trans g8)⟩
      · try simp only [go_sem, Nat.reduceBEq, Nat.reduceAdd, Nat.reduceMul, Nat.reduceSub, Nat.reduceLeDiff, Nat.le_refl, implies_true, Nat.reduceLT, reduceIte, decide_true, decide_false, true_and, and_true, reduceCtorEq, Nat.mul_one, Int.reduceToNat, Int.reduceLE, Int.reduceLT, Int.reduceAdd, Int.reduceSub, Int.reduceMul, Int.cast_ofNat_Int, cast_zero_int, cast_one_int, Nat.reducePow, Nat.reduceEqDiff, Nat.reduceMod, Nat.zero_add, Nat.sub_zero, Nat.add_zero, e1, e2]
        refine ⟨by kernel_rfl, (d_pick _ s8 hM (by omega)).use (fun _ m => m) ?_⟩
        rintro _ H9 ⟨⟨x, rfl, x0, x1⟩, s9, g9⟩
        have w9 : IntKind.i64.wrap (30000 + x) = 30000 + x := wrap64 (by omega)
        have oz : own h.length M H9.length = True := own_ge (by have := ((gA.trans g3).trans g8).1; have := g9.1; simp at *; omega)
        have oz2 : own h.length M (H9.length + 1) = True := own_ge (by have := ((gA.trans g3).trans g8).1; have := g9.1; simp at *; omega)
        have c0 : (0 : Int) ≤ 30000 + x := by omega
        have c1 : (30000 : Int) + x ≤ 9223372036854775807 := by omega
        have c2 : 1 * (30000 + x) ≤ 281474976710656 := by omega
        have c3 : (zeros (30000 + x).toNat [Value.int .u8 0]).length = (30000 + x).toNat := by rw [zeros_length]; simp
        try simp only [go_sem, Nat.reduceBEq, Nat.reduceAdd, Nat.reduceMul, Nat.reduceSub, Nat.reduceLeDiff, Nat.le_refl, implies_true, Nat.reduceLT, reduceIte, decide_true, decide_false, true_and, and_true, reduceCtorEq, Nat.mul_one, Int.reduceToNat, Int.reduceLE, Int.reduceLT, Int.reduceAdd, Int.reduceSub, Int.reduceMul, Int.cast_ofNat_Int, cast_zero_int, cast_one_int, Nat.reducePow, Nat.reduceEqDiff, Nat.reduceMod, Nat.zero_add, Nat.sub_zero, Nat.add_zero, e1, e2, w9, c0, c1, c2, oz, oz2, onCv_more (show 0 < (30000 + x).toNat by omega), c3, strOf_zeros, hget_new]
        exact ⟨⟨_, rfl, by rw [mkB_size, List.length_replicate]; omega⟩, (fin _ _ s9 (((gA.trans g3).trans g8).trans g9)).trans (List.prefix_append _ _)⟩
    · have e2 : (m == 1) = false := by simpa using q2
      by_cases q3 : m = 2
      · have e3 : (m == 2) = true := by simpa using q3
        try simp only [go_sem, Nat.reduceBEq, Nat.reduceAdd, Nat.reduceMul, Nat.reduceSub, Nat.reduceLeDiff, Nat.le_refl, implies_true, Nat.reduceLT, reduceIte, decide_true, decide_false, true_and, and_true, reduceCtorEq, Nat.mul_one, Int.reduceToNat, Int.reduceLE, Int.reduceLT, Int.reduceAdd, Int.reduceSub, Int.reduceMul, Int.cast_ofNat_Int, cast_zero_int, cast_one_int, Nat.reducePow, Nat.reduceEqDiff, Nat.reduceMod, Nat.zero_add, Nat.sub_zero, Nat.add_zero, e1, e2, e3]
        refine ⟨by kernel_rfl, (d_pick _ s2 hM (by omega)).use (fun _ m => m) ?_⟩
        rintro _ H3 ⟨⟨x, rfl, x0, x1⟩, s3, g3⟩
        obtain ⟨y, rfl⟩ := Int.eq_ofNat_of_zero_le x0
        try simp only [go_sem, Nat.reduceBEq, Nat.reduceAdd, Nat.reduceMul, Nat.reduceSub, Nat.reduceLeDiff, Nat.le_refl, implies_true, Nat.reduceLT, reduceIte, decide_true, decide_false, true_and, and_true, reduceCtorEq, Nat.mul_one, Int.reduceToNat, Int.reduceLE, Int.reduceLT, Int.reduceAdd, Int.reduceSub, Int.reduceMul, Int.cast_ofNat_Int, cast_zero_int, cast_one_int, Nat.reducePow, Nat.reduceEqDiff, Nat.reduceMod, Nat.zero_add, Nat.sub_zero, Nat.add_zero, e1, e2, e3]
        refine ⟨by kernel_rfl, (d_logRecord s3 hM (by omega)).use (fun _ m => m) ?_⟩
        rintro _ H4 ⟨⟨c, r, rfl, hc, hr⟩, s4, g4⟩
        try simp only [go_sem, Nat.reduceBEq, Nat.reduceAdd, Nat.reduceMul, Nat.reduceSub, Nat.reduceLeDiff, Nat.le_refl, implies_true, Nat.reduceLT, reduceIte, decide_true, decide_false, true_and, and_true, reduceCtorEq, Nat.mul_one, Int.reduceToNat, Int.reduceLE, Int.reduceLT, Int.reduceAdd, Int.reduceSub, Int.reduceMul, Int.cast_ofNat_Int, cast_zero_int, cast_one_int, Nat.reducePow, Nat.reduceEqDiff, Nat.reduceMod, Nat.zero_add, Nat.sub_zero, Nat.add_zero, e1, e2, e3]
        refine ⟨by kernel_rfl, (c_l27LineAny y c r (by omega) (by omega) (by omega)).use (fun _ m => m) ?_⟩
        rintro _ _ ⟨rfl, ⟨t, rfl⟩⟩
        have zl := lineL_any y (bl c) (bl r) (by omega)
        rw [bl_len, bl_len] at zl
        have zL : (mkB (lineL y (bl c) (bl r) ++ [10])).size ≤ 100 := by rw [mkB_size, List.length_append, List.length_singleton]; omega
        have a1 : hBin .add (.string s) (.string (mkB (lineL y (bl c) (bl r) ++ [10]))) = some (.string (s ++ mkB (lineL y (bl c) (bl r) ++ [10]))) := adds (by omega)
        have zz : (s ++ mkB (lineL y (bl c) (bl r) ++ [10])).size ≤ 3200 := by rw [ByteArray.size_append]; omega
        have s5 := s4.app t
        try simp only [go_sem, Nat.reduceBEq, Nat.reduceAdd, Nat.reduceMul, Nat.reduceSub, Nat.reduceLeDiff, Nat.le_refl, implies_true, Nat.reduceLT, reduceIte, decide_true, decide_false, true_and, and_true, reduceCtorEq, Nat.mul_one, Int.reduceToNat, Int.reduceLE, Int.reduceLT, Int.reduceAdd, Int.reduceSub, Int.reduceMul, Int.cast_ofNat_Int, cast_zero_int, cast_one_int, Nat.reducePow, Nat.reduceEqDiff, Nat.reduceMod, Nat.zero_add, Nat.sub_zero, Nat.add_zero, e1, e2, e3, a1]
        refine ⟨by kernel_rfl, (d_one _ s5 hM (by omega)).use (fun _ m => m) ?_⟩
        rintro _ H8 ⟨⟨gb, rfl⟩, s8, g8⟩
        cases gb
        · try simp only [go_sem, Nat.reduceBEq, Nat.reduceAdd, Nat.reduceMul, Nat.reduceSub, Nat.reduceLeDiff, Nat.le_refl, implies_true, Nat.reduceLT, reduceIte, decide_true, decide_false, true_and, and_true, reduceCtorEq, Nat.mul_one, Int.reduceToNat, Int.reduceLE, Int.reduceLT, Int.reduceAdd, Int.reduceSub, Int.reduceMul, Int.cast_ofNat_Int, cast_zero_int, cast_one_int, Nat.reducePow, Nat.reduceEqDiff, Nat.reduceMod, Nat.zero_add, Nat.sub_zero, Nat.add_zero, e1, e2, e3]
          exact ⟨⟨_, rfl, by omega⟩, fin _ _ s8 ((((gA.trans g3).trans g4).trans (Agr.app (t := t))).trans g8)⟩
        · try simp only [go_sem, Nat.reduceBEq, Nat.reduceAdd, Nat.reduceMul, Nat.reduceSub, Nat.reduceLeDiff, Nat.le_refl, implies_true, Nat.reduceLT, reduceIte, decide_true, decide_false, true_and, and_true, reduceCtorEq, Nat.mul_one, Int.reduceToNat, Int.reduceLE, Int.reduceLT, Int.reduceAdd, Int.reduceSub, Int.reduceMul, Int.cast_ofNat_Int, cast_zero_int, cast_one_int, Nat.reducePow, Nat.reduceEqDiff, Nat.reduceMod, Nat.zero_add, Nat.sub_zero, Nat.add_zero, e1, e2, e3]
          refine ⟨by kernel_rfl, (d_pick _ s8 hM (by omega)).use (fun _ m => m) ?_⟩
          rintro _ H9 ⟨⟨x, rfl, x0, x1⟩, s9, g9⟩
          have w9 : IntKind.i64.wrap (30000 + x) = 30000 + x := wrap64 (by omega)
          have oz : own h.length M H9.length = True := own_ge (by have := ((((gA.trans g3).trans g4).trans (Agr.app (t := t))).trans g8).1; have := g9.1; simp at *; omega)
          have oz2 : own h.length M (H9.length + 1) = True := own_ge (by have := ((((gA.trans g3).trans g4).trans (Agr.app (t := t))).trans g8).1; have := g9.1; simp at *; omega)
          have c0 : (0 : Int) ≤ 30000 + x := by omega
          have c1 : (30000 : Int) + x ≤ 9223372036854775807 := by omega
          have c2 : 1 * (30000 + x) ≤ 281474976710656 := by omega
          have c3 : (zeros (30000 + x).toNat [Value.int .u8 0]).length = (30000 + x).toNat := by rw [zeros_length]; simp
          try simp only [go_sem, Nat.reduceBEq, Nat.reduceAdd, Nat.reduceMul, Nat.reduceSub, Nat.reduceLeDiff, Nat.le_refl, implies_true, Nat.reduceLT, reduceIte, decide_true, decide_false, true_and, and_true, reduceCtorEq, Nat.mul_one, Int.reduceToNat, Int.reduceLE, Int.reduceLT, Int.reduceAdd, Int.reduceSub, Int.reduceMul, Int.cast_ofNat_Int, cast_zero_int, cast_one_int, Nat.reducePow, Nat.reduceEqDiff, Nat.reduceMod, Nat.zero_add, Nat.sub_zero, Nat.add_zero, e1, e2, e3, w9, c0, c1, c2, oz, oz2, onCv_more (show 0 < (30000 + x).toNat by omega), c3, strOf_zeros, hget_new]
          exact ⟨⟨_, rfl, by rw [mkB_size, List.length_replicate]; omega⟩, (fin _ _ s9 (((((gA.trans g3).trans g4).trans (Agr.app (t := t))).trans g8).trans g9)).trans (List.prefix_append _ _)⟩
      · have e3 : (m == 2) = false := by simpa using q3
        try simp only [go_sem, Nat.reduceBEq, Nat.reduceAdd, Nat.reduceMul, Nat.reduceSub, Nat.reduceLeDiff, Nat.le_refl, implies_true, Nat.reduceLT, reduceIte, decide_true, decide_false, true_and, and_true, reduceCtorEq, Nat.mul_one, Int.reduceToNat, Int.reduceLE, Int.reduceLT, Int.reduceAdd, Int.reduceSub, Int.reduceMul, Int.cast_ofNat_Int, cast_zero_int, cast_one_int, Nat.reducePow, Nat.reduceEqDiff, Nat.reduceMod, Nat.zero_add, Nat.sub_zero, Nat.add_zero, e1, e2, e3]
        refine ⟨by kernel_rfl, (d_one _ s2 hM (by omega)).use (fun _ m => m) ?_⟩
        rintro _ H8 ⟨⟨gb, rfl⟩, s8, g8⟩
        cases gb
        · try simp only [go_sem, Nat.reduceBEq, Nat.reduceAdd, Nat.reduceMul, Nat.reduceSub, Nat.reduceLeDiff, Nat.le_refl, implies_true, Nat.reduceLT, reduceIte, decide_true, decide_false, true_and, and_true, reduceCtorEq, Nat.mul_one, Int.reduceToNat, Int.reduceLE, Int.reduceLT, Int.reduceAdd, Int.reduceSub, Int.reduceMul, Int.cast_ofNat_Int, cast_zero_int, cast_one_int, Nat.reducePow, Nat.reduceEqDiff, Nat.reduceMod, Nat.zero_add, Nat.sub_zero, Nat.add_zero, e1, e2, e3]
          exact ⟨⟨_, rfl, by omega⟩, fin _ _ s8 (gA.trans g8)⟩
        · try simp only [go_sem, Nat.reduceBEq, Nat.reduceAdd, Nat.reduceMul, Nat.reduceSub, Nat.reduceLeDiff, Nat.le_refl, implies_true, Nat.reduceLT, reduceIte, decide_true, decide_false, true_and, and_true, reduceCtorEq, Nat.mul_one, Int.reduceToNat, Int.reduceLE, Int.reduceLT, Int.reduceAdd, Int.reduceSub, Int.reduceMul, Int.cast_ofNat_Int, cast_zero_int, cast_one_int, Nat.reducePow, Nat.reduceEqDiff, Nat.reduceMod, Nat.zero_add, Nat.sub_zero, Nat.add_zero, e1, e2, e3]
          refine ⟨by kernel_rfl, (d_pick _ s8 hM (by omega)).use (fun _ m => m) ?_⟩
          rintro _ H9 ⟨⟨x, rfl, x0, x1⟩, s9, g9⟩
          have w9 : IntKind.i64.wrap (30000 + x) = 30000 + x := wrap64 (by omega)
          have oz : own h.length M H9.length = True := own_ge (by have := (gA.trans g8).1; have := g9.1; simp at *; omega)
          have oz2 : own h.length M (H9.length + 1) = True := own_ge (by have := (gA.trans g8).1; have := g9.1; simp at *; omega)
          have c0 : (0 : Int) ≤ 30000 + x := by omega
          have c1 : (30000 : Int) + x ≤ 9223372036854775807 := by omega
          have c2 : 1 * (30000 + x) ≤ 281474976710656 := by omega
          have c3 : (zeros (30000 + x).toNat [Value.int .u8 0]).length = (30000 + x).toNat := by rw [zeros_length]; simp
          try simp only [go_sem, Nat.reduceBEq, Nat.reduceAdd, Nat.reduceMul, Nat.reduceSub, Nat.reduceLeDiff, Nat.le_refl, implies_true, Nat.reduceLT, reduceIte, decide_true, decide_false, true_and, and_true, reduceCtorEq, Nat.mul_one, Int.reduceToNat, Int.reduceLE, Int.reduceLT, Int.reduceAdd, Int.reduceSub, Int.reduceMul, Int.cast_ofNat_Int, cast_zero_int, cast_one_int, Nat.reducePow, Nat.reduceEqDiff, Nat.reduceMod, Nat.zero_add, Nat.sub_zero, Nat.add_zero, e1, e2, e3, w9, c0, c1, c2, oz, oz2, onCv_more (show 0 < (30000 + x).toNat by omega), c3, strOf_zeros, hget_new]
          exact ⟨⟨_, rfl, by rw [mkB_size, List.length_replicate]; omega⟩, (fin _ _ s9 ((gA.trans g8).trans g9)).trans (List.prefix_append _ _)⟩
end
end Go.Proofs.YtkogddiefniihaaDoor
