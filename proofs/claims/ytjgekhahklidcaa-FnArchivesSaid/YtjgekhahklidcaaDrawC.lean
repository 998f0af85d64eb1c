
/- Draws of runs and of steps. No condition. -/
import Derived.Test.YtjgekhahklidcaaDrawB
import Derived.Test.YtjgekhahklidcaaArchPlain
namespace Go.Proofs.Ytjgekhahklidcaa
open Go.HH
set_option linter.unusedSimpArgs false
set_option linter.unusedVariables false

theorem FG.as {lo hi : Nat} {h : Heap} {v : Value} {rs : List Run} (s : FG lo hi h v rs.length (rowR rs)) : AS hi h v (rowsL rs) := by
  obtain ⟨a, rfl, F⟩ := s
  refine ⟨a, by rw [rowsL_len], fun h0 => ?_⟩
  rw [rowsL_len] at h0
  obtain ⟨oid, cells, f, rfl, e1, e2, e3, e4, e5, e6⟩ := F h0
  refine ⟨oid, 0, _, rfl, e2, e3, by simp, rfl, fun i hq => ?_⟩
  rw [rowsL_len] at hq
  obtain ⟨q1, q2, q3, q4, q5⟩ := e5 i hq
  have er : (rowsL rs)[i]'(by rw [rowsL_len]; exact hq) = rowR rs i := by simp [rowsL, rowR, List.getD, hq]
  refine ⟨_, by rw [Nat.zero_add]; exact q4, ?_⟩
  rw [er]
  exact (show FI lo hi h _ (rowR rs i) from ⟨_, rfl, fun _ => ⟨_, rfl, q1, q2, q5⟩⟩).ai
theorem AS.le {n m : Nat} {h : Heap} {v : Value} {L : List (List Int)} (s : AS n h v L) (hn : n ≤ m) : AS m h v L := by
  obtain ⟨p, e, F⟩ := s
  refine ⟨p, e, fun h0 => ?_⟩
  obtain ⟨id, off, k, e1, e2, e3, e4, e5, e6⟩ := F h0
  exact ⟨id, off, k, e1, by omega, e3, e4, e5, fun i hi => let ⟨w, q1, q2⟩ := e6 i hi; ⟨w, q1, q2.le hn⟩⟩
theorem rowsL_tot {rs : List Run} : ∀ i, i ≤ rs.length → tot (rowsL rs) i = 2 * i
  | 0, _ => rfl
  | i + 1, hi => by
    rw [tot, rowsL_tot i (by omega), rowsL_at (by omega)]; simp; omega
theorem tot_le {L : List (List Int)} (hb : ∀ r ∈ L, r.length ≤ 100) : ∀ i, tot L i ≤ 100 * i
  | 0 => Nat.le_refl _
  | i + 1 => by
    have := tot_le hb i
    have h2 : (L.getD i []).length ≤ 100 := by
      rcases Nat.lt_or_ge i L.length with h | h
      · have := hb _ (List.getElem_mem h); simpa [List.getD, h] using this
      · simp [List.getD, List.getElem?_eq_none h]
    rw [tot]; omega
/-- One row is replaced. -/
theorem FG.put {lo hi : Nat} {h : Heap} {a : Option Addr} {rs : List Run} {k : Nat} {w : Value} {r : List Int} {n : Nat} (hk : k < rs.length) (s : FG lo hi h (.slice a rs.length 0) rs.length (rowR rs)) (hw : AI n h w r) (hn : hi ≤ n ∧ n ≤ h.length) :
    ∃ oid cells, a = some ⟨oid, 0, none⟩ ∧ lo ≤ oid ∧ oid < hi ∧ hget h oid = some ⟨cells, 1, .rw⟩ ∧ k < cells.length ∧
      ((∀ id off, w = .slice (some ⟨id, off, none⟩) r.length 0 → id ≠ oid) → AS h.length (h.set oid ⟨setRange cells k [w], 1, .rw⟩) (.slice a rs.length 0) ((rowsL rs).set k r)) := by
  obtain ⟨a', e, F⟩ := s
  obtain rfl : a' = a := by simpa using e.symm
  obtain ⟨oid, cells, f, rfl, e1, e2, e3, e4, e5, e6⟩ := F (by omega)
  refine ⟨oid, cells, rfl, e1, e2, e3, by omega, fun hne => ⟨_, by rw [List.length_set, rowsL_len], fun _ => ⟨oid, 0, _, rfl, by omega, hget_set_same (hget_lt e3), by simp, rfl, fun i hi => ?_⟩⟩⟩
  rw [List.length_set, rowsL_len] at hi
  rw [← setRange_one (by omega), Nat.zero_add]
  have keep : ∀ id b, id ≠ oid → hget h id = some b → hget (h.set oid ⟨cells.set k w, 1, .rw⟩) id = some b := fun id b h1 h2 => by rw [hget_set_ne (Ne.symm h1)]; exact h2
  by_cases hik : i = k
  · subst hik
    refine ⟨w, by rw [List.getElem?_set_self (by omega)], ?_⟩
    rw [List.getElem_set_self]
    obtain ⟨p, rfl, G⟩ := hw
    refine ⟨p, rfl, fun h0 => ?_⟩
    obtain ⟨id, off, b, rfl, q1, q2, q3, q4, q5, q6⟩ := G h0
    exact ⟨id, off, b, rfl, by omega, keep _ _ (hne id off rfl) q2, q3, q4, q5, q6⟩
  · obtain ⟨q1, q2, q3, q4, q5⟩ := e5 i hi
    have er : (rowsL rs)[i]'(by rw [rowsL_len]; exact hi) = rowR rs i := by simp [rowsL, rowR, List.getD, hi]
    refine ⟨_, by rw [List.getElem?_set_ne (Ne.symm hik)]; exact q4, ?_⟩
    rw [List.getElem_set_ne (Ne.symm hik), er]
    exact ⟨_, rfl, fun _ => ⟨f i, 0, _, rfl, by omega, keep _ _ q3 q5, by simp, rfl, by simp, by rw [List.drop_zero, List.take_of_length_le (by simp)]⟩⟩

section
variable {h : Heap} {M : Nat → Prop}
theorem c_DrawFromSteps (b : Option Addr) (n : Nat) (hcode : CodeOk h b n) :
    vCall [] Try.prog M 29 [.slice b n 0] h (fun r h' => (∃ (f : Int) (l : List Int) (w : Value), r = .tuple #[.int .i64 f, w] ∧ AI h'.length h' w l ∧ l.length ≤ 100) ∧ h <+: h') := by
  refine body_of mo Try.func29 rfl (by kernel_rfl) (Nat.le_of_ble_eq_true (by kernel_rfl)) rfl ?_
  simp only [go_sem, Nat.reduceBEq, Nat.reduceAdd, Nat.reduceMul, Nat.reduceSub, Nat.reduceLeDiff, Nat.le_refl, implies_true, Nat.reduceLT, reduceIte, decide_true, decide_false, true_and, and_true, reduceCtorEq, Nat.mul_one, Int.reduceToNat, Int.reduceLE, Int.reduceLT, Int.reduceAdd, Int.reduceSub, Int.reduceMul, Int.cast_ofNat_Int, cast_zero_int, cast_one_int, Nat.reducePow, Nat.reduceEqDiff, Nat.reduceMod, Nat.zero_add, Nat.sub_zero, Nat.add_zero]
  have s0 : St (h ++ [⟨[.slice b n 0, .int .i64 0, .int .u64 0], 3, .rw⟩]) h.length n b 0 := ⟨⟨0, 0, hget_new, by omega, by omega⟩, hcode.app⟩
  refine ⟨by kernel_rfl, (d_archive s0 (Or.inl (Nat.le_refl _)) (by omega)).use (fun _ m => m) ?_⟩
  rintro _ H1 ⟨⟨f, l, w, rfl, fc, hl⟩, s1, g1⟩
  obtain ⟨aw, rfl⟩ := fc.len
  have L1 : h.length + 1 ≤ H1.length := by have := g1.1; simpa using this
  try simp only [go_sem, Nat.reduceBEq, Nat.reduceAdd, Nat.reduceMul, Nat.reduceSub, Nat.reduceLeDiff, Nat.le_refl, implies_true, Nat.reduceLT, reduceIte, decide_true, decide_false, true_and, and_true, reduceCtorEq, Nat.mul_one, Int.reduceToNat, Int.reduceLE, Int.reduceLT, Int.reduceAdd, Int.reduceSub, Int.reduceMul, Int.cast_ofNat_Int, cast_zero_int, cast_one_int, Nat.reducePow, Nat.reduceEqDiff, Nat.reduceMod, Nat.zero_add, Nat.sub_zero, Nat.add_zero, own_ge (show h.length ≤ H1.length by omega)]
  have aa : AA H1.length H1 (.agg #[.int .i64 f, .slice aw l.length 0]) f l := ⟨_, rfl, fc.fi.ai⟩
  refine ⟨by kernel_rfl, (c_sStepsOf _ f l (aa.mono (List.prefix_append _ _)) (by omega)).use (fun _ m => m) ?_⟩
  rintro _ H2 ⟨⟨w2, rfl, fi2⟩, p2⟩
  have hS : (stepsOf f l).length ≤ 100 := by unfold stepsOf; split; rw [steps_len]; exact hl; simp
  generalize stepsOf f l = S at fi2 hS
  obtain ⟨aw2, rfl, F2⟩ := id fi2
  have g2 : Agr h.length (h.length + 1) H1 H2 := (Agr.app (t := [_])).trans (Agr.pre p2)
  have L2 : H1.length + 1 ≤ H2.length := by have := p2.length_le; simpa using this
  have s2 : St H2 h.length n b 200 := by obtain ⟨t, rfl⟩ := p2; exact ((s1.app _).app t).more (by omega)
  have k0 := keep_get hget_new p2
  try simp only [go_sem, Nat.reduceBEq, Nat.reduceAdd, Nat.reduceMul, Nat.reduceSub, Nat.reduceLeDiff, Nat.le_refl, implies_true, Nat.reduceLT, reduceIte, decide_true, decide_false, true_and, and_true, reduceCtorEq, Nat.mul_one, Int.reduceToNat, Int.reduceLE, Int.reduceLT, Int.reduceAdd, Int.reduceSub, Int.reduceMul, Int.cast_ofNat_Int, cast_zero_int, cast_one_int, Nat.reducePow, Nat.reduceEqDiff, Nat.reduceMod, Nat.zero_add, Nat.sub_zero, Nat.add_zero, k0]
  have pre : ∀ H3 : Heap, Agr h.length (h.length + 1) H2 H3 → h <+: H3 := fun H3 g3 => Agr.pre_out (g1.trans (g2.trans g3)) (Nat.le_refl _)
  by_cases h0 : S.length = 0
  · obtain rfl : S = [] := List.length_eq_zero_iff.1 h0
    try simp only [go_sem, Nat.reduceBEq, Nat.reduceAdd, Nat.reduceMul, Nat.reduceSub, Nat.reduceLeDiff, Nat.le_refl, implies_true, Nat.reduceLT, reduceIte, decide_true, decide_false, true_and, and_true, reduceCtorEq, Nat.mul_one, Int.reduceToNat, Int.reduceLE, Int.reduceLT, Int.reduceAdd, Int.reduceSub, Int.reduceMul, Int.cast_ofNat_Int, cast_zero_int, cast_one_int, Nat.reducePow, Nat.reduceEqDiff, Nat.reduceMod, Nat.zero_add, Nat.sub_zero, Nat.add_zero, List.length_nil, k0]
    exact ⟨⟨f, [], _, rfl, fi2.ai, by simp⟩, pre _ Agr.refl⟩
  · obtain ⟨sid, rfl, q1, q2, q3⟩ := F2 (by omega)
    have hpos : 0 < S.length := by omega
    try simp only [go_sem, Nat.reduceBEq, Nat.reduceAdd, Nat.reduceMul, Nat.reduceSub, Nat.reduceLeDiff, Nat.le_refl, implies_true, Nat.reduceLT, reduceIte, decide_true, decide_false, true_and, and_true, reduceCtorEq, Nat.mul_one, Int.reduceToNat, Int.reduceLE, Int.reduceLT, Int.reduceAdd, Int.reduceSub, Int.reduceMul, Int.cast_ofNat_Int, cast_zero_int, cast_one_int, Nat.reducePow, Nat.reduceEqDiff, Nat.reduceMod, Nat.zero_add, Nat.sub_zero, Nat.add_zero, k0, show (0 : Int) < S.length by omega]
    refine ⟨by kernel_rfl, (d_one _ s2 (Or.inl (Nat.le_refl _)) (by omega)).use (fun _ m => m) ?_⟩
    rintro _ H3 ⟨⟨gb, rfl⟩, s3, g3⟩
    have k3 := agr_get g3 k0 (by omega)
    have q4 := agr_get g3 q3 (by simp at q1; omega)
    have L3 := g3.1
    cases gb with
    | false =>
      try simp only [go_sem, Nat.reduceBEq, Nat.reduceAdd, Nat.reduceMul, Nat.reduceSub, Nat.reduceLeDiff, Nat.le_refl, implies_true, Nat.reduceLT, reduceIte, decide_true, decide_false, true_and, and_true, reduceCtorEq, Nat.mul_one, Int.reduceToNat, Int.reduceLE, Int.reduceLT, Int.reduceAdd, Int.reduceSub, Int.reduceMul, Int.cast_ofNat_Int, cast_zero_int, cast_one_int, Nat.reducePow, Nat.reduceEqDiff, Nat.reduceMod, Nat.zero_add, Nat.sub_zero, Nat.add_zero, k3]
      exact ⟨⟨f, S, _, rfl, (fi2.agr g3 (by simp; omega)).ai.le (by omega), hS⟩, pre _ g3⟩
    | true =>
      try simp only [go_sem, Nat.reduceBEq, Nat.reduceAdd, Nat.reduceMul, Nat.reduceSub, Nat.reduceLeDiff, Nat.le_refl, implies_true, Nat.reduceLT, reduceIte, decide_true, decide_false, true_and, and_true, reduceCtorEq, Nat.mul_one, Int.reduceToNat, Int.reduceLE, Int.reduceLT, Int.reduceAdd, Int.reduceSub, Int.reduceMul, Int.cast_ofNat_Int, cast_zero_int, cast_one_int, Nat.reducePow, Nat.reduceEqDiff, Nat.reduceMod, Nat.zero_add, Nat.sub_zero, Nat.add_zero, k3]
      refine ⟨by kernel_rfl, (d_pick _ s3 (Or.inl (Nat.le_refl _)) (by omega)).use (fun _ m => m) ?_⟩
      rintro _ H4 ⟨⟨m, rfl, m0, m1⟩, s4, g4⟩
      have hm : m < S.length := by omega
      have k4 := agr_get g4 k3 (by omega)
      have q5 := agr_get g4 q4 (by simp at q1; omega)
      try simp only [go_sem, Nat.reduceBEq, Nat.reduceAdd, Nat.reduceMul, Nat.reduceSub, Nat.reduceLeDiff, Nat.le_refl, implies_true, Nat.reduceLT, reduceIte, decide_true, decide_false, true_and, and_true, reduceCtorEq, Nat.mul_one, Int.reduceToNat, Int.reduceLE, Int.reduceLT, Int.reduceAdd, Int.reduceSub, Int.reduceMul, Int.cast_ofNat_Int, cast_zero_int, cast_one_int, Nat.reducePow, Nat.reduceEqDiff, Nat.reduceMod, Nat.zero_add, Nat.sub_zero, Nat.add_zero, k4]
      refine ⟨by kernel_rfl, (d_amongL _ _ s4 (Or.inl (Nat.le_refl _)) rfl (by simp) (by omega) (by omega) (by omega)).use (fun _ m => m) ?_⟩
      rintro _ H5 ⟨⟨x, rfl⟩, s5, g5, l5⟩
      have k5 := agr_get g5 k4 (by omega)
      have q6 := agr_get g5 q5 (by simp at q1; omega)
      have L4 := g4.1
      simp only [List.length_append, List.length_cons, List.length_nil] at q1
      have k6 : hget (H5.set sid ⟨setRange (S.map iv) m.toNat [.int .i64 x], 1, .rw⟩) H1.length = _ := (hget_set_ne (by omega)).trans k5
      try simp only [go_sem, Nat.reduceBEq, Nat.reduceAdd, Nat.reduceMul, Nat.reduceSub, Nat.reduceLeDiff, Nat.le_refl, implies_true, Nat.reduceLT, reduceIte, decide_true, decide_false, true_and, and_true, reduceCtorEq, Nat.mul_one, Int.reduceToNat, Int.reduceLE, Int.reduceLT, Int.reduceAdd, Int.reduceSub, Int.reduceMul, Int.cast_ofNat_Int, cast_zero_int, cast_one_int, Nat.reducePow, Nat.reduceEqDiff, Nat.reduceMod, Nat.zero_add, Nat.sub_zero, Nat.add_zero, k5, m0, hm, q6, own_ge (show h.length ≤ sid by omega), List.length_map, show m.toNat + 1 ≤ S.length by omega, k6]
      have e7 : setRange (S.map iv) m.toNat [.int .i64 x] = (S.set m.toNat x).map iv := by rw [set_iv (by omega)]
      refine ⟨⟨f, S.set m.toNat x, _, rfl, ?_, by simpa using hS⟩, pre_set (pre _ (g3.trans (g4.trans g5))) (by omega)⟩
      rw [e7]
      exact ⟨_, by rw [List.length_set], fun _ => ⟨sid, 0, _, rfl, by have := hget_lt q6; simpa using this, hget_set_same (hget_lt q6), by simp, rfl, by simp, by rw [List.drop_zero, List.take_of_length_le (by simp)]⟩⟩

theorem c_DrawUnpackArchive (b : Option Addr) (n : Nat) (hcode : CodeOk h b n) :
    vCall [] Try.prog M 27 [.slice b n 0] h (fun r h' => (∃ (f : Int) (L : List (List Int)) (w : Value), r = .tuple #[.int .i64 f, w] ∧ AS h'.length h' w L ∧ L.length + tot L L.length ≤ 1048576) ∧ h <+: h') := by
  refine body_ofR ([(8,[5,7,10,1013])]) mo Try.func27 rfl (by kernel_rfl) (Nat.le_of_ble_eq_true (by kernel_rfl)) rfl ?_
  simp only [go_sem, Nat.reduceBEq, Nat.reduceAdd, Nat.reduceMul, Nat.reduceSub, Nat.reduceLeDiff, Nat.le_refl, implies_true, Nat.reduceLT, reduceIte, decide_true, decide_false, true_and, and_true, reduceCtorEq, Nat.mul_one, Int.reduceToNat, Int.reduceLE, Int.reduceLT, Int.reduceAdd, Int.reduceSub, Int.reduceMul, Int.cast_ofNat_Int, cast_zero_int, cast_one_int, Nat.reducePow, Nat.reduceEqDiff, Nat.reduceMod, Nat.zero_add, Nat.sub_zero, Nat.add_zero]
  have s0 : St (h ++ [⟨[.slice b n 0, .int .i64 0, .int .u64 0], 3, .rw⟩]) h.length n b 0 := ⟨⟨0, 0, hget_new, by omega, by omega⟩, hcode.app⟩
  refine ⟨by kernel_rfl, (d_archive s0 (Or.inl (Nat.le_refl _)) (by omega)).use (fun _ m => m) ?_⟩
  rintro _ H1 ⟨⟨f, l, w, rfl, fc, hl⟩, s1, g1⟩
  obtain ⟨aw, rfl⟩ := fc.len
  have L1 : h.length + 1 ≤ H1.length := by have := g1.1; simpa using this
  try simp only [go_sem, Nat.reduceBEq, Nat.reduceAdd, Nat.reduceMul, Nat.reduceSub, Nat.reduceLeDiff, Nat.le_refl, implies_true, Nat.reduceLT, reduceIte, decide_true, decide_false, true_and, and_true, reduceCtorEq, Nat.mul_one, Int.reduceToNat, Int.reduceLE, Int.reduceLT, Int.reduceAdd, Int.reduceSub, Int.reduceMul, Int.cast_ofNat_Int, cast_zero_int, cast_one_int, Nat.reducePow, Nat.reduceEqDiff, Nat.reduceMod, Nat.zero_add, Nat.sub_zero, Nat.add_zero, own_ge (show h.length ≤ H1.length by omega)]
  have aa : AA H1.length H1 (.agg #[.int .i64 f, .slice aw l.length 0]) f l := ⟨_, rfl, fc.fi.ai⟩
  refine ⟨by kernel_rfl, (c_sPackArchive _ f l (aa.mono (List.prefix_append _ _)) (by omega)).use (fun _ m => m) ?_⟩
  rintro _ H2 ⟨⟨w2, rfl, fg⟩, p2⟩
  have hS : (packed f l).length ≤ 30 := packed_len
  generalize packed f l = S at fg hS
  obtain ⟨aw2, rfl, F2⟩ := id fg
  have g2 : Agr h.length (h.length + 1) H1 H2 := (Agr.app (t := [_])).trans (Agr.pre p2)
  have L2 : H1.length + 1 ≤ H2.length := by have := p2.length_le; simpa using this
  have s2 : St H2 h.length n b 200 := by obtain ⟨t, rfl⟩ := p2; exact ((s1.app _).app t).more (by omega)
  have k0 := keep_get hget_new p2
  try simp only [go_sem, Nat.reduceBEq, Nat.reduceAdd, Nat.reduceMul, Nat.reduceSub, Nat.reduceLeDiff, Nat.le_refl, implies_true, Nat.reduceLT, reduceIte, decide_true, decide_false, true_and, and_true, reduceCtorEq, Nat.mul_one, Int.reduceToNat, Int.reduceLE, Int.reduceLT, Int.reduceAdd, Int.reduceSub, Int.reduceMul, Int.cast_ofNat_Int, cast_zero_int, cast_one_int, Nat.reducePow, Nat.reduceEqDiff, Nat.reduceMod, Nat.zero_add, Nat.sub_zero, Nat.add_zero, k0]
  have pre : ∀ H3 : Heap, Agr h.length (h.length + 1) H2 H3 → h <+: H3 := fun H3 g3 => Agr.pre_out (g1.trans (g2.trans g3)) (Nat.le_refl _)
  have lenL : ∀ (k : Nat) (r : List Int), r.length ≤ 2 → ((rowsL S).set k r).length + tot ((rowsL S).set k r) ((rowsL S).set k r).length ≤ 1048576 := fun k r hr => by
    have := tot_le (L := (rowsL S).set k r) (fun x hx => by
      rcases List.mem_or_eq_of_mem_set hx with h1 | h1
      · obtain ⟨y, _, rfl⟩ := List.mem_map.1 h1; simp
      · subst h1; omega) ((rowsL S).set k r).length
    rw [List.length_set, rowsL_len] at *
    omega
  by_cases h0 : S.length = 0
  · obtain rfl : S = [] := List.length_eq_zero_iff.1 h0
    try simp only [go_sem, Nat.reduceBEq, Nat.reduceAdd, Nat.reduceMul, Nat.reduceSub, Nat.reduceLeDiff, Nat.le_refl, implies_true, Nat.reduceLT, reduceIte, decide_true, decide_false, true_and, and_true, reduceCtorEq, Nat.mul_one, Int.reduceToNat, Int.reduceLE, Int.reduceLT, Int.reduceAdd, Int.reduceSub, Int.reduceMul, Int.cast_ofNat_Int, cast_zero_int, cast_one_int, Nat.reducePow, Nat.reduceEqDiff, Nat.reduceMod, Nat.zero_add, Nat.sub_zero, Nat.add_zero, List.length_nil, k0]
    exact ⟨⟨f, _, _, rfl, fg.as, by simp [rowsL, tot]⟩, pre _ Agr.refl⟩
  · have hpos : 0 < S.length := by omega
    try simp only [go_sem, Nat.reduceBEq, Nat.reduceAdd, Nat.reduceMul, Nat.reduceSub, Nat.reduceLeDiff, Nat.le_refl, implies_true, Nat.reduceLT, reduceIte, decide_true, decide_false, true_and, and_true, reduceCtorEq, Nat.mul_one, Int.reduceToNat, Int.reduceLE, Int.reduceLT, Int.reduceAdd, Int.reduceSub, Int.reduceMul, Int.cast_ofNat_Int, cast_zero_int, cast_one_int, Nat.reducePow, Nat.reduceEqDiff, Nat.reduceMod, Nat.zero_add, Nat.sub_zero, Nat.add_zero, k0, show (0 : Int) < S.length by omega]
    refine ⟨by kernel_rfl, (d_pick _ s2 (Or.inl (Nat.le_refl _)) (by omega)).use (fun _ m => m) ?_⟩
    rintro _ H3 ⟨⟨m, rfl, m0, m1⟩, s3, g3⟩
    have hm : m < S.length := by omega
    have k3 := agr_get g3 k0 (by omega)
    try simp only [go_sem, Nat.reduceBEq, Nat.reduceAdd, Nat.reduceMul, Nat.reduceSub, Nat.reduceLeDiff, Nat.le_refl, implies_true, Nat.reduceLT, reduceIte, decide_true, decide_false, true_and, and_true, reduceCtorEq, Nat.mul_one, Int.reduceToNat, Int.reduceLE, Int.reduceLT, Int.reduceAdd, Int.reduceSub, Int.reduceMul, Int.cast_ofNat_Int, cast_zero_int, cast_one_int, Nat.reducePow, Nat.reduceEqDiff, Nat.reduceMod, Nat.zero_add, Nat.sub_zero, Nat.add_zero, k3]
    refine ⟨by kernel_rfl, (d_pick _ s3 (Or.inl (Nat.le_refl _)) (by omega)).use (fun _ m => m) ?_⟩
    rintro _ H4 ⟨⟨c, rfl, c0, c1⟩, s4, g4⟩
    have k4 := agr_get g4 k3 (by omega)
    try simp only [go_sem, Nat.reduceBEq, Nat.reduceAdd, Nat.reduceMul, Nat.reduceSub, Nat.reduceLeDiff, Nat.le_refl, implies_true, Nat.reduceLT, reduceIte, decide_true, decide_false, true_and, and_true, reduceCtorEq, Nat.mul_one, Int.reduceToNat, Int.reduceLE, Int.reduceLT, Int.reduceAdd, Int.reduceSub, Int.reduceMul, Int.cast_ofNat_Int, cast_zero_int, cast_one_int, Nat.reducePow, Nat.reduceEqDiff, Nat.reduceMod, Nat.zero_add, Nat.sub_zero, Nat.add_zero, k4]
    have fg4 := fg.agr (g3.trans g4) (.inr (by simp; omega))
    obtain ⟨_, e, F4⟩ := id fg4
    cases e
    obtain ⟨oid, cells, ff, rfl, e1, e2, e3, e4, e5, e6⟩ := F4 hpos
    obtain ⟨q1, q2, q3, q4, q5⟩ := e5 m.toNat (by omega)
    obtain ⟨y1, y2, y3, y4, y5⟩ := e5 0 hpos
    simp only [List.length_append, List.length_cons, List.length_nil] at e1 q1
    have L3 := g3.1
    have L4 := g4.1
    have hc : m.toNat < cells.length := by omega
    have c0' : 0 < cells.length := by omega
    have fin : ∀ (H5 : Heap) (w : Value) (r : List Int), Agr h.length (h.length + 1) H2 H5 → AI H5.length H5 w r → r.length ≤ 2 → (∀ id off, w = .slice (some ⟨id, off, none⟩) r.length 0 → id ≠ oid) → hget H5 oid = some ⟨cells, 1, .rw⟩ →
        (∃ (f' : Int) (L : List (List Int)) (w' : Value), Value.tuple #[.int .i64 f, .slice (some ⟨oid, 0, none⟩) S.length 0] = .tuple #[.int .i64 f', w'] ∧ AS (H5.set oid ⟨setRange cells m.toNat [w], 1, .rw⟩).length (H5.set oid ⟨setRange cells m.toNat [w], 1, .rw⟩) w' L ∧ L.length + tot L L.length ≤ 1048576) ∧
          h <+: H5.set oid ⟨setRange cells m.toNat [w], 1, .rw⟩ := fun H5 w r ga aw hr hne ho => by
      have lb := ga.1
      obtain ⟨oid', cells', eo, _, _, e3', _, K⟩ := FG.put (k := m.toNat) (by omega) (fg.agr ga (.inr (by simp; omega))) aw ⟨lb, Nat.le_refl _⟩
      obtain rfl : oid = oid' := by simpa using eo
      obtain rfl : cells = cells' := by rw [ho] at e3'; simpa using e3'
      exact ⟨⟨f, _, _, rfl, by simpa using K hne, lenL _ _ hr⟩, pre_set (pre _ ga) (by omega)⟩
    by_cases hc0 : c = 0
    · simp only [go_sem, Nat.reduceBEq, Nat.reduceAdd, Nat.reduceMul, Nat.reduceSub, Nat.reduceLeDiff, Nat.le_refl, implies_true, Nat.reduceLT, reduceIte, decide_true, decide_false, true_and, and_true, reduceCtorEq, Nat.mul_one, Int.reduceToNat, Int.reduceLE, Int.reduceLT, Int.reduceAdd, Int.reduceSub, Int.reduceMul, Int.cast_ofNat_Int, cast_zero_int, cast_one_int, Nat.reducePow, Nat.reduceEqDiff, Nat.reduceMod, Nat.zero_add, Nat.sub_zero, Nat.add_zero, show (rowR S m.toNat).length = 2 from rfl, show (rowR S m.toNat).map iv = [.int .i64 (S.getD m.toNat (0, 0)).1, .int .i64 ((S.getD m.toNat (0, 0)).2 : Int)] from rfl, show ((2 : Nat) : Int) = 2 from rfl, Int.reduceLT, show (c == 0) = true by simpa using hc0, k4, e3, m0, hm, q4, q5, e4, hc, self_get e3, self_get q5, own_ge (show h.length ≤ H4.length by omega)]
      refine ⟨by kernel_rfl, (d_amongL _ _ s4 (Or.inl (Nat.le_refl _)) rfl (by simp) (by omega) (by omega) (by omega)).use (fun _ m => m) ?_⟩
      rintro _ H5 ⟨⟨y, rfl⟩, s5, g5, l5⟩
      have o5 := agr_get g5 e3 (by omega)
      have r5 := agr_get g5 q5 (by omega)
      have k5 := agr_get g5 k4 (by omega)
      have o6 := self_get o5 [(⟨[.int .i64 (S.getD m.toNat (0, 0)).1, .int .i64 y], 1, .rw⟩ : Blk)]
      have k6 : hget ((H5 ++ [(⟨[.int .i64 (S.getD m.toNat (0, 0)).1, .int .i64 y], 1, .rw⟩ : Blk)]).set oid ⟨setRange cells m.toNat [.slice (some ⟨H5.length, 0, none⟩) 2 0], 1, .rw⟩) H1.length = _ := (hget_set_ne (by omega)).trans (self_get k5 _)
      simp only [go_sem, Nat.reduceBEq, Nat.reduceAdd, Nat.reduceMul, Nat.reduceSub, Nat.reduceLeDiff, Nat.le_refl, implies_true, Nat.reduceLT, reduceIte, decide_true, decide_false, true_and, and_true, reduceCtorEq, Nat.mul_one, Int.reduceToNat, Int.reduceLE, Int.reduceLT, Int.reduceAdd, Int.reduceSub, Int.reduceMul, Int.cast_ofNat_Int, cast_zero_int, cast_one_int, Nat.reducePow, Nat.reduceEqDiff, Nat.reduceMod, Nat.zero_add, Nat.sub_zero, Nat.add_zero, show (rowR S m.toNat).map iv = [.int .i64 (S.getD m.toNat (0, 0)).1, .int .i64 ((S.getD m.toNat (0, 0)).2 : Int)] from rfl, o5, r5, l5, o6, m0, hm, e4, show m.toNat + 1 ≤ S.length by omega, own_ge (show h.length ≤ oid by omega), k6]
      refine fin _ _ [(S.getD m.toNat (0, 0)).1, y] (g3.trans (g4.trans (g5.trans Agr.app))) ⟨_, rfl, fun _ => ⟨H5.length, 0, _, rfl, by simp, hget_new, by simp, rfl, by simp, rfl⟩⟩ (by simp) (fun id off e => ?_) o6
      simp at e
      omega
    · by_cases hc1 : c = 1
      · simp only [go_sem, Nat.reduceBEq, Nat.reduceAdd, Nat.reduceMul, Nat.reduceSub, Nat.reduceLeDiff, Nat.le_refl, implies_true, Nat.reduceLT, reduceIte, decide_true, decide_false, true_and, and_true, reduceCtorEq, Nat.mul_one, Int.reduceToNat, Int.reduceLE, Int.reduceLT, Int.reduceAdd, Int.reduceSub, Int.reduceMul, Int.cast_ofNat_Int, cast_zero_int, cast_one_int, Nat.reducePow, Nat.reduceEqDiff, Nat.reduceMod, Nat.zero_add, Nat.sub_zero, Nat.add_zero, show (c == 0) = false by simpa using hc0, show (c == 1) = true by simpa using hc1, k4, e3, m0, hm, y4, y5, e4, hc, show (rowR S 0).length = 2 from rfl, show (rowR S 0).map iv = [.int .i64 (S.getD 0 (0, 0)).1, .int .i64 ((S.getD 0 (0, 0)).2 : Int)] from rfl, show ((2 : Nat) : Int) = 2 from rfl, Int.reduceLT, show (0 : Int) < S.length by omega]
        refine ⟨by kernel_rfl, (d_amongL _ _ s4 (Or.inl (Nat.le_refl _)) rfl (by simp) (by omega) (by omega) (by omega)).use (fun _ m => m) ?_⟩
        rintro _ H5 ⟨⟨y, rfl⟩, s5, g5, l5⟩
        have o5 := agr_get g5 e3 (by omega)
        have k5 := agr_get g5 k4 (by omega)
        have o6 := self_get o5 [(⟨[.int .i64 y, .int .i64 1], 1, .rw⟩ : Blk)]
        have k6 : hget ((H5 ++ [(⟨[.int .i64 y, .int .i64 1], 1, .rw⟩ : Blk)]).set oid ⟨setRange cells m.toNat [.slice (some ⟨H5.length, 0, none⟩) 2 0], 1, .rw⟩) H1.length = _ := (hget_set_ne (by omega)).trans (self_get k5 _)
        simp only [go_sem, Nat.reduceBEq, Nat.reduceAdd, Nat.reduceMul, Nat.reduceSub, Nat.reduceLeDiff, Nat.le_refl, implies_true, Nat.reduceLT, reduceIte, decide_true, decide_false, true_and, and_true, reduceCtorEq, Nat.mul_one, Int.reduceToNat, Int.reduceLE, Int.reduceLT, Int.reduceAdd, Int.reduceSub, Int.reduceMul, Int.cast_ofNat_Int, cast_zero_int, cast_one_int, Nat.reducePow, Nat.reduceEqDiff, Nat.reduceMod, Nat.zero_add, Nat.sub_zero, Nat.add_zero, o5, l5, o6, m0, hm, e4, show m.toNat + 1 ≤ S.length by omega, own_ge (show h.length ≤ oid by omega), k6]
        refine fin _ _ [y, 1] (g3.trans (g4.trans (g5.trans Agr.app))) ⟨_, rfl, fun _ => ⟨H5.length, 0, _, rfl, by simp, hget_new, by simp, rfl, by simp, rfl⟩⟩ (by simp) (fun id off e => ?_) o6
        simp at e
        omega
      · by_cases hc2 : c = 2
        · simp only [go_sem, Nat.reduceBEq, Nat.reduceAdd, Nat.reduceMul, Nat.reduceSub, Nat.reduceLeDiff, Nat.le_refl, implies_true, Nat.reduceLT, reduceIte, decide_true, decide_false, true_and, and_true, reduceCtorEq, Nat.mul_one, Int.reduceToNat, Int.reduceLE, Int.reduceLT, Int.reduceAdd, Int.reduceSub, Int.reduceMul, Int.cast_ofNat_Int, cast_zero_int, cast_one_int, Nat.reducePow, Nat.reduceEqDiff, Nat.reduceMod, Nat.zero_add, Nat.sub_zero, Nat.add_zero, show (c == 0) = false by simpa using hc0, show (c == 1) = false by simpa using hc1, show (c == 2) = true by simpa using hc2, show (rowR S m.toNat).length = 2 from rfl, show (rowR S m.toNat).map iv = [.int .i64 (S.getD m.toNat (0, 0)).1, .int .i64 ((S.getD m.toNat (0, 0)).2 : Int)] from rfl, show ((2 : Nat) : Int) = 2 from rfl, Int.reduceLT, k4, e3, m0, hm, q4, q5, e4, hc, own_ge (show h.length ≤ oid by omega)]
          have k6 : hget (H4.set oid ⟨setRange cells m.toNat [.slice (some ⟨ff m.toNat, 0, none⟩) 1 0], 1, .rw⟩) H1.length = _ := (hget_set_ne (by omega)).trans k4
          simp only [go_sem, Nat.reduceBEq, Nat.reduceAdd, Nat.reduceMul, Nat.reduceSub, Nat.reduceLeDiff, Nat.le_refl, implies_true, Nat.reduceLT, reduceIte, decide_true, decide_false, true_and, and_true, reduceCtorEq, Nat.mul_one, Int.reduceToNat, Int.reduceLE, Int.reduceLT, Int.reduceAdd, Int.reduceSub, Int.reduceMul, Int.cast_ofNat_Int, cast_zero_int, cast_one_int, Nat.reducePow, Nat.reduceEqDiff, Nat.reduceMod, Nat.zero_add, Nat.sub_zero, Nat.add_zero, show m.toNat + 1 ≤ S.length by omega, k6]
          refine fin _ _ [(S.getD m.toNat (0, 0)).1] (g3.trans g4) ⟨_, rfl, fun _ => ⟨ff m.toNat, 0, _, rfl, by have := hget_lt q5; exact this, q5, by simp, rfl, by simp [rowR], rfl⟩⟩ (by simp) (fun id off e => ?_) e3
          simp at e
          omega
        · try simp only [go_sem, Nat.reduceBEq, Nat.reduceAdd, Nat.reduceMul, Nat.reduceSub, Nat.reduceLeDiff, Nat.le_refl, implies_true, Nat.reduceLT, reduceIte, decide_true, decide_false, true_and, and_true, reduceCtorEq, Nat.mul_one, Int.reduceToNat, Int.reduceLE, Int.reduceLT, Int.reduceAdd, Int.reduceSub, Int.reduceMul, Int.cast_ofNat_Int, cast_zero_int, cast_one_int, Nat.reducePow, Nat.reduceEqDiff, Nat.reduceMod, Nat.zero_add, Nat.sub_zero, Nat.add_zero, show (c == 0) = false by simpa using hc0, show (c == 1) = false by simpa using hc1, show (c == 2) = false by simpa using hc2, k4]
          refine ⟨⟨f, _, _, rfl, AS.le fg4.as (by omega), ?_⟩, pre _ (g3.trans g4)⟩
          rw [rowsL_len, rowsL_tot _ (Nat.le_refl _)]; omega
end
end Go.Proofs.Ytjgekhahklidcaa
