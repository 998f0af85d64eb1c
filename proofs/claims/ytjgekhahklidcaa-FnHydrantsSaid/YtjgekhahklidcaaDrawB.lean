
/- Draws about archives. No condition. -/
import Derived.Test.YtjgekhahklidcaaDrawA
namespace Go.Proofs.Ytjgekhahklidcaa
open Go.HH
set_option linter.unusedSimpArgs false
set_option linter.unusedVariables false

theorem pre_of {h H : Heap} (hl : h.length ≤ H.length) (hh : ∀ i, i < h.length → hget H i = hget h i) : h <+: H := by
  rw [List.prefix_iff_eq_take]
  refine List.ext_getElem? fun i => ?_
  rw [List.getElem?_take]
  split
  · rename_i h1; exact (hh i h1).symm
  · rename_i h1; exact List.getElem?_eq_none (by omega)
theorem Agr.pre_out {lo hi : Nat} {h t H : Heap} (g : Agr lo hi (h ++ t) H) (h1 : h.length ≤ lo) : h <+: H :=
  pre_of (by have := g.1; simp at this; omega) fun i hi => by rw [g.2 i (by simp; omega) (by omega)]; exact hget_prefix (List.prefix_append _ _) hi
theorem FC.fi {lo hi : Nat} {h : Heap} {v : Value} {l : List Int} (s : FC lo hi 1 l.length h v (l.map iv)) : FI lo hi h v l := by
  rcases s with ⟨rfl, n1, n2⟩ | ⟨id, rfl, q1, q2, q3, q4⟩
  · exact ⟨none, by rw [n1], fun h0 => by omega⟩
  · exact ⟨_, rfl, fun _ => ⟨id, rfl, q1, q2, q3⟩⟩
theorem St.start {h : Heap} {b : Option Addr} {n : Nat} {z : Blk} (hcode : CodeOk h b n) : St (h ++ [z, ⟨[.slice b n 0, .int .i64 0, .int .u64 0], 3, .rw⟩]) (h.length + 1) n b 0 :=
  ⟨⟨0, 0, hget_lit1, by omega, by omega⟩, hcode.app⟩

theorem fin_pre {h H : Heap} {z c : Blk} (g : Agr (h.length + 1) (h.length + 1 + 1) (h ++ [z, c]) H) (x : Blk) : h <+: H.set h.length x :=
  pre_of (by have := g.1; simp at this ⊢; omega) fun i hi => by rw [hget_set_ne (by omega), g.2 i (by simp; omega) (by omega)]; exact hget_prefix (List.prefix_append _ _) hi
theorem fin_fi {h H : Heap} {w : Value} {l : List Int} {lo : Nat} (fc : FC lo H.length 1 l.length H w (l.map iv)) (hlo : h.length + 1 ≤ lo) (x : Blk) : FI h.length (H.set h.length x).length (H.set h.length x) w l := by
  have := (fc.agr (lo := h.length) (hi := h.length + 1) (Agr.set (b := x) (Nat.le_refl _) (Nat.lt_succ_self _)) (by omega)).fi
  exact FI.wide (by simpa using this) (by omega) (Nat.le_refl _)
section
variable {h : Heap} {M : Nat → Prop}

theorem d_day26 {id n B : Nat} {a : Option Addr} (f : Int) (av : Option Addr) (k : Nat) (s : St h id n a B) (hM : M id) (hB : B ≤ 100000) (hk : k ≤ 1000) :
    vCall [] Try.prog M 79 [.pointer (some ⟨id, 0, none⟩), .agg #[.int .i64 f, .slice av k 0]] h (fun r H' => (∃ m, r = .int .i64 m) ∧ St H' id n a (B + 4) ∧ Agr id (id + 1) h H') := by
  have hid := s.lt
  have hown : own h.length M id := Or.inr hM
  refine body_ofR ([(3,[1,7])]) mo Try.func79 rfl (by kernel_rfl) (Nat.le_of_ble_eq_true (by kernel_rfl)) rfl ?_
  simp only [go_sem, Nat.reduceBEq, Nat.reduceAdd, Nat.reduceMul, Nat.reduceSub, Nat.reduceLeDiff, Nat.le_refl, implies_true, Nat.reduceLT, reduceIte, decide_true, decide_false, true_and, and_true, reduceCtorEq, Nat.mul_one, Int.reduceToNat, Int.reduceLE, Int.reduceLT, Int.reduceAdd, Int.reduceSub, Int.reduceMul, Int.cast_ofNat_Int, cast_zero_int, cast_one_int, Nat.reducePow, Nat.reduceEqDiff, Nat.reduceMod, Nat.zero_add, Nat.sub_zero, Nat.add_zero]
  refine ⟨by kernel_rfl, (d_one _ (s.app _) hown (by omega)).use (fun _ m => m) ?_⟩
  rintro _ H1 ⟨⟨g, rfl⟩, s1, g1⟩
  have b0 := agr_get g1 hget_new (by omega)
  have L1 : h.length + 1 ≤ H1.length := by have := g1.1; simpa using this
  cases g with
  | true =>
    try simp only [go_sem, Nat.reduceBEq, Nat.reduceAdd, Nat.reduceMul, Nat.reduceSub, Nat.reduceLeDiff, Nat.le_refl, implies_true, Nat.reduceLT, reduceIte, decide_true, decide_false, true_and, and_true, reduceCtorEq, Nat.mul_one, Int.reduceToNat, Int.reduceLE, Int.reduceLT, Int.reduceAdd, Int.reduceSub, Int.reduceMul, Int.cast_ofNat_Int, cast_zero_int, cast_one_int, Nat.reducePow, Nat.reduceEqDiff, Nat.reduceMod, Nat.zero_add, Nat.sub_zero, Nat.add_zero]
    refine ⟨by kernel_rfl, (d_amongL _ _ s1 hown rfl (by simp) (by omega) (by omega) (by omega)).use (fun _ m => m) ?_⟩
    rintro _ H2 ⟨⟨x, rfl⟩, s2, g2, l2⟩
    try simp only [go_sem, Nat.reduceBEq, Nat.reduceAdd, Nat.reduceMul, Nat.reduceSub, Nat.reduceLeDiff, Nat.le_refl, implies_true, Nat.reduceLT, reduceIte, decide_true, decide_false, true_and, and_true, reduceCtorEq, Nat.mul_one, Int.reduceToNat, Int.reduceLE, Int.reduceLT, Int.reduceAdd, Int.reduceSub, Int.reduceMul, Int.cast_ofNat_Int, cast_zero_int, cast_one_int, Nat.reducePow, Nat.reduceEqDiff, Nat.reduceMod, Nat.zero_add, Nat.sub_zero, Nat.add_zero]
    exact ⟨⟨_, rfl⟩, s2, Agr.app.trans (g1.trans g2)⟩
  | false =>
    have e1 : IntKind.i64.wrap ((k : Int) + 3) = k + 3 := wrap64 (by omega)
    try simp only [go_sem, Nat.reduceBEq, Nat.reduceAdd, Nat.reduceMul, Nat.reduceSub, Nat.reduceLeDiff, Nat.le_refl, implies_true, Nat.reduceLT, reduceIte, decide_true, decide_false, true_and, and_true, reduceCtorEq, Nat.mul_one, Int.reduceToNat, Int.reduceLE, Int.reduceLT, Int.reduceAdd, Int.reduceSub, Int.reduceMul, Int.cast_ofNat_Int, cast_zero_int, cast_one_int, Nat.reducePow, Nat.reduceEqDiff, Nat.reduceMod, Nat.zero_add, Nat.sub_zero, Nat.add_zero, b0, e1]
    refine ⟨by kernel_rfl, (d_pick _ s1 hown (by omega)).use (fun _ m => m) ?_⟩
    rintro _ H2 ⟨⟨x, rfl, _⟩, s2, g2⟩
    have l2 := g2.1
    have b1 := agr_get g2 b0 (by omega)
    try simp only [go_sem, Nat.reduceBEq, Nat.reduceAdd, Nat.reduceMul, Nat.reduceSub, Nat.reduceLeDiff, Nat.le_refl, implies_true, Nat.reduceLT, reduceIte, decide_true, decide_false, true_and, and_true, reduceCtorEq, Nat.mul_one, Int.reduceToNat, Int.reduceLE, Int.reduceLT, Int.reduceAdd, Int.reduceSub, Int.reduceMul, Int.cast_ofNat_Int, cast_zero_int, cast_one_int, Nat.reducePow, Nat.reduceEqDiff, Nat.reduceMod, Nat.zero_add, Nat.sub_zero, Nat.add_zero, b0, b1, l2]
    exact ⟨⟨_, rfl⟩, s2, Agr.app.trans (g1.trans g2)⟩

theorem c_DrawIsValidArchive (b : Option Addr) (n : Nat) (hcode : CodeOk h b n) :
    vCall [] Try.prog M 69 [.slice b n 0] h (fun r h' => (∃ (f : Int) (l : List Int), FA h.length h'.length h' r f l ∧ l.length ≤ 100) ∧ h <+: h') := by
  refine body_of mo Try.func69 rfl (by kernel_rfl) (Nat.le_of_ble_eq_true (by kernel_rfl)) rfl ?_
  simp only [go_sem, Nat.reduceBEq, Nat.reduceAdd, Nat.reduceMul, Nat.reduceSub, Nat.reduceLeDiff, Nat.le_refl, implies_true, Nat.reduceLT, reduceIte, decide_true, decide_false, true_and, and_true, reduceCtorEq, Nat.mul_one, Int.reduceToNat, Int.reduceLE, Int.reduceLT, Int.reduceAdd, Int.reduceSub, Int.reduceMul, Int.cast_ofNat_Int, cast_zero_int, cast_one_int, Nat.reducePow, Nat.reduceEqDiff, Nat.reduceMod, Nat.zero_add, Nat.sub_zero, Nat.add_zero]
  have s0 := St.start (z := ⟨[.int .i64 0, .slice none 0 0], 2, .rw⟩) hcode
  refine ⟨by kernel_rfl, (d_archive s0 (Or.inl (Nat.le_succ _)) (by omega)).use (fun _ m => m) ?_⟩
  rintro _ H1 ⟨⟨f, l, w, rfl, fc, hl⟩, s1, g1⟩
  obtain ⟨aw, rfl⟩ := fc.len
  have b2 := agr_get g1 hget_lit0 (by omega)
  have L1 : h.length + 2 ≤ H1.length := by have := g1.1; simpa using this
  try simp only [go_sem, Nat.reduceBEq, Nat.reduceAdd, Nat.reduceMul, Nat.reduceSub, Nat.reduceLeDiff, Nat.le_refl, implies_true, Nat.reduceLT, reduceIte, decide_true, decide_false, true_and, and_true, reduceCtorEq, Nat.mul_one, Int.reduceToNat, Int.reduceLE, Int.reduceLT, Int.reduceAdd, Int.reduceSub, Int.reduceMul, Int.cast_ofNat_Int, cast_zero_int, cast_one_int, Nat.reducePow, Nat.reduceEqDiff, Nat.reduceMod, Nat.zero_add, Nat.sub_zero, Nat.add_zero, b2, own_ge (Nat.le_refl h.length), set_get b2]
  exact ⟨⟨f, l, ⟨_, rfl, fin_fi fc (by simp) _⟩, hl⟩, fin_pre g1 _⟩

theorem c_DrawPackArchive (b : Option Addr) (n : Nat) (hcode : CodeOk h b n) :
    vCall [] Try.prog M 15 [.slice b n 0] h (fun r h' => (∃ (f : Int) (l : List Int), FA h.length h'.length h' r f l ∧ l.length ≤ 100) ∧ h <+: h') := by
  refine body_of mo Try.func15 rfl (by kernel_rfl) (Nat.le_of_ble_eq_true (by kernel_rfl)) rfl ?_
  simp only [go_sem, Nat.reduceBEq, Nat.reduceAdd, Nat.reduceMul, Nat.reduceSub, Nat.reduceLeDiff, Nat.le_refl, implies_true, Nat.reduceLT, reduceIte, decide_true, decide_false, true_and, and_true, reduceCtorEq, Nat.mul_one, Int.reduceToNat, Int.reduceLE, Int.reduceLT, Int.reduceAdd, Int.reduceSub, Int.reduceMul, Int.cast_ofNat_Int, cast_zero_int, cast_one_int, Nat.reducePow, Nat.reduceEqDiff, Nat.reduceMod, Nat.zero_add, Nat.sub_zero, Nat.add_zero]
  refine ⟨by kernel_rfl, (c_DrawIsValidArchive b n hcode.app).use (fun _ m => m) ?_⟩
  rintro _ H1 ⟨⟨f, l, ⟨w, rfl, fi⟩, hl⟩, p1⟩
  obtain ⟨aw, rfl, _⟩ := id fi
  have b2 := keep_get hget_new p1
  have L1 : h.length + 1 ≤ H1.length := by have := p1.length_le; simpa using this
  try simp only [go_sem, Nat.reduceBEq, Nat.reduceAdd, Nat.reduceMul, Nat.reduceSub, Nat.reduceLeDiff, Nat.le_refl, implies_true, Nat.reduceLT, reduceIte, decide_true, decide_false, true_and, and_true, reduceCtorEq, Nat.mul_one, Int.reduceToNat, Int.reduceLE, Int.reduceLT, Int.reduceAdd, Int.reduceSub, Int.reduceMul, Int.cast_ofNat_Int, cast_zero_int, cast_one_int, Nat.reducePow, Nat.reduceEqDiff, Nat.reduceMod, Nat.zero_add, Nat.sub_zero, Nat.add_zero, b2, own_ge (Nat.le_refl h.length), set_get b2]
  refine ⟨⟨f, l, ⟨_, rfl, ?_⟩, hl⟩, pre_of (by simp; omega) fun i hi => by rw [hget_set_ne (by omega)]; exact hget_prefix ((List.prefix_append _ _).trans p1) hi⟩
  have := fi.agr (lo := h.length) (hi := h.length + 1) (Agr.set (b := ⟨[.int .i64 f, .slice aw l.length 0], 2, .rw⟩) (Nat.le_refl _) (Nat.lt_succ_self _)) (by simp)
  exact FI.wide (by simpa using this) (by simp) (by simp)

theorem c_DrawWeekMeans (b : Option Addr) (n : Nat) (hcode : CodeOk h b n) :
    vCall [] Try.prog M 38 [.slice b n 0] h (fun r h' => (∃ (f : Int) (l : List Int), FA h.length h'.length h' r f l ∧ l.length ≤ 100) ∧ h <+: h') := by
  refine body_of mo Try.func38 rfl (by kernel_rfl) (Nat.le_of_ble_eq_true (by kernel_rfl)) rfl ?_
  simp only [go_sem, Nat.reduceBEq, Nat.reduceAdd, Nat.reduceMul, Nat.reduceSub, Nat.reduceLeDiff, Nat.le_refl, implies_true, Nat.reduceLT, reduceIte, decide_true, decide_false, true_and, and_true, reduceCtorEq, Nat.mul_one, Int.reduceToNat, Int.reduceLE, Int.reduceLT, Int.reduceAdd, Int.reduceSub, Int.reduceMul, Int.cast_ofNat_Int, cast_zero_int, cast_one_int, Nat.reducePow, Nat.reduceEqDiff, Nat.reduceMod, Nat.zero_add, Nat.sub_zero, Nat.add_zero]
  refine ⟨by kernel_rfl, (c_DrawIsValidArchive b n hcode.app).use (fun _ m => m) ?_⟩
  rintro _ H1 ⟨⟨f, l, ⟨w, rfl, fi⟩, hl⟩, p1⟩
  obtain ⟨aw, rfl, _⟩ := id fi
  have b2 := keep_get hget_new p1
  have L1 : h.length + 1 ≤ H1.length := by have := p1.length_le; simpa using this
  try simp only [go_sem, Nat.reduceBEq, Nat.reduceAdd, Nat.reduceMul, Nat.reduceSub, Nat.reduceLeDiff, Nat.le_refl, implies_true, Nat.reduceLT, reduceIte, decide_true, decide_false, true_and, and_true, reduceCtorEq, Nat.mul_one, Int.reduceToNat, Int.reduceLE, Int.reduceLT, Int.reduceAdd, Int.reduceSub, Int.reduceMul, Int.cast_ofNat_Int, cast_zero_int, cast_one_int, Nat.reducePow, Nat.reduceEqDiff, Nat.reduceMod, Nat.zero_add, Nat.sub_zero, Nat.add_zero, b2, own_ge (Nat.le_refl h.length), set_get b2]
  refine ⟨⟨f, l, ⟨_, rfl, ?_⟩, hl⟩, pre_of (by simp; omega) fun i hi => by rw [hget_set_ne (by omega)]; exact hget_prefix ((List.prefix_append _ _).trans p1) hi⟩
  have := fi.agr (lo := h.length) (hi := h.length + 1) (Agr.set (b := ⟨[.int .i64 f, .slice aw l.length 0], 2, .rw⟩) (Nat.le_refl _) (Nat.lt_succ_self _)) (by simp)
  exact FI.wide (by simpa using this) (by simp) (by simp)

theorem c_DrawStoreValue (b : Option Addr) (n : Nat) (hcode : CodeOk h b n) :
    vCall [] Try.prog M 31 [.slice b n 0] h (fun r h' => (∃ (f : Int) (l : List Int) (w : Value) (d y : Int), r = .tuple #[w, .int .i64 d, .int .i64 y] ∧ FA h.length h'.length h' w f l ∧ l.length ≤ 100) ∧ h <+: h') := by
  refine body_ofR ([(3,[0,3,6,1007])]) mo Try.func31 rfl (by kernel_rfl) (Nat.le_of_ble_eq_true (by kernel_rfl)) rfl ?_
  simp only [go_sem, Nat.reduceBEq, Nat.reduceAdd, Nat.reduceMul, Nat.reduceSub, Nat.reduceLeDiff, Nat.le_refl, implies_true, Nat.reduceLT, reduceIte, decide_true, decide_false, true_and, and_true, reduceCtorEq, Nat.mul_one, Int.reduceToNat, Int.reduceLE, Int.reduceLT, Int.reduceAdd, Int.reduceSub, Int.reduceMul, Int.cast_ofNat_Int, cast_zero_int, cast_one_int, Nat.reducePow, Nat.reduceEqDiff, Nat.reduceMod, Nat.zero_add, Nat.sub_zero, Nat.add_zero]
  have s0 := St.start (z := ⟨[.int .i64 0, .slice none 0 0], 2, .rw⟩) hcode
  refine ⟨by kernel_rfl, (d_archive s0 (Or.inl (Nat.le_succ _)) (by omega)).use (fun _ m => m) ?_⟩
  rintro _ H1 ⟨⟨f, l, w, rfl, fc, hl⟩, s1, g1⟩
  obtain ⟨aw, rfl⟩ := fc.len
  have b2 := agr_get g1 hget_lit0 (by omega)
  have L1 : h.length + 2 ≤ H1.length := by have := g1.1; simpa using this
  try simp only [go_sem, Nat.reduceBEq, Nat.reduceAdd, Nat.reduceMul, Nat.reduceSub, Nat.reduceLeDiff, Nat.le_refl, implies_true, Nat.reduceLT, reduceIte, decide_true, decide_false, true_and, and_true, reduceCtorEq, Nat.mul_one, Int.reduceToNat, Int.reduceLE, Int.reduceLT, Int.reduceAdd, Int.reduceSub, Int.reduceMul, Int.cast_ofNat_Int, cast_zero_int, cast_one_int, Nat.reducePow, Nat.reduceEqDiff, Nat.reduceMod, Nat.zero_add, Nat.sub_zero, Nat.add_zero, own_ge (show h.length ≤ H1.length by omega)]
  refine ⟨by kernel_rfl, (d_day26 f aw l.length (s1.app _) (Or.inl (Nat.le_succ _)) (by omega) (by omega)).use (fun _ m => m) ?_⟩
  rintro _ H2 ⟨⟨d, rfl⟩, s2, g2⟩
  have k0 := agr_get g2 hget_lit0 (by omega)
  have k1 := agr_get g2 hget_lit1 (by omega)
  have b3 := agr_get g2 (self_get b2 _) (by omega)
  have L2 : H1.length + 2 ≤ H2.length := by have := g2.1; simpa using this
  try simp only [go_sem, Nat.reduceBEq, Nat.reduceAdd, Nat.reduceMul, Nat.reduceSub, Nat.reduceLeDiff, Nat.le_refl, implies_true, Nat.reduceLT, reduceIte, decide_true, decide_false, true_and, and_true, reduceCtorEq, Nat.mul_one, Int.reduceToNat, Int.reduceLE, Int.reduceLT, Int.reduceAdd, Int.reduceSub, Int.reduceMul, Int.cast_ofNat_Int, cast_zero_int, cast_one_int, Nat.reducePow, Nat.reduceEqDiff, Nat.reduceMod, Nat.zero_add, Nat.sub_zero, Nat.add_zero, k0, k1, L2]
  refine ⟨by kernel_rfl, (d_among _ _ _ s2 (Or.inl (Nat.le_succ _)) k1 rfl rfl (by simp) (by omega) (by omega) (by omega) (by omega)).use (fun _ m => m) ?_⟩
  rintro _ H3 ⟨⟨y, rfl⟩, s3, g3⟩
  have k2 := agr_get g3 k0 (by omega)
  have b4 := agr_get g3 b3 (by omega)
  have L3 := g3.1
  try simp only [go_sem, Nat.reduceBEq, Nat.reduceAdd, Nat.reduceMul, Nat.reduceSub, Nat.reduceLeDiff, Nat.le_refl, implies_true, Nat.reduceLT, reduceIte, decide_true, decide_false, true_and, and_true, reduceCtorEq, Nat.mul_one, Int.reduceToNat, Int.reduceLE, Int.reduceLT, Int.reduceAdd, Int.reduceSub, Int.reduceMul, Int.cast_ofNat_Int, cast_zero_int, cast_one_int, Nat.reducePow, Nat.reduceEqDiff, Nat.reduceMod, Nat.zero_add, Nat.sub_zero, Nat.add_zero, k0, k2, L3, b4, own_ge (Nat.le_refl h.length), set_get b4]
  have g := g1.trans (Agr.app.trans (g2.trans g3))
  exact ⟨⟨f, l, _, d, y, rfl, ⟨_, rfl, fin_fi ((fc.agr (Agr.app.trans (g2.trans g3)) (by simp)).wide (Nat.le_refl _) (by omega)) (by simp) _⟩, hl⟩, fin_pre g _⟩

theorem c_DrawValueOn (b : Option Addr) (n : Nat) (hcode : CodeOk h b n) :
    vCall [] Try.prog M 42 [.slice b n 0] h (fun r h' => (∃ (f : Int) (l : List Int) (w : Value) (d : Int), r = .tuple #[w, .int .i64 d] ∧ FA h.length h'.length h' w f l ∧ l.length ≤ 100) ∧ h <+: h') := by
  refine body_ofR ([(3,[0,3,1004])]) mo Try.func42 rfl (by kernel_rfl) (Nat.le_of_ble_eq_true (by kernel_rfl)) rfl ?_
  simp only [go_sem, Nat.reduceBEq, Nat.reduceAdd, Nat.reduceMul, Nat.reduceSub, Nat.reduceLeDiff, Nat.le_refl, implies_true, Nat.reduceLT, reduceIte, decide_true, decide_false, true_and, and_true, reduceCtorEq, Nat.mul_one, Int.reduceToNat, Int.reduceLE, Int.reduceLT, Int.reduceAdd, Int.reduceSub, Int.reduceMul, Int.cast_ofNat_Int, cast_zero_int, cast_one_int, Nat.reducePow, Nat.reduceEqDiff, Nat.reduceMod, Nat.zero_add, Nat.sub_zero, Nat.add_zero]
  have s0 := St.start (z := ⟨[.int .i64 0, .slice none 0 0], 2, .rw⟩) hcode
  refine ⟨by kernel_rfl, (d_archive s0 (Or.inl (Nat.le_succ _)) (by omega)).use (fun _ m => m) ?_⟩
  rintro _ H1 ⟨⟨f, l, w, rfl, fc, hl⟩, s1, g1⟩
  obtain ⟨aw, rfl⟩ := fc.len
  have b2 := agr_get g1 hget_lit0 (by omega)
  have L1 : h.length + 2 ≤ H1.length := by have := g1.1; simpa using this
  try simp only [go_sem, Nat.reduceBEq, Nat.reduceAdd, Nat.reduceMul, Nat.reduceSub, Nat.reduceLeDiff, Nat.le_refl, implies_true, Nat.reduceLT, reduceIte, decide_true, decide_false, true_and, and_true, reduceCtorEq, Nat.mul_one, Int.reduceToNat, Int.reduceLE, Int.reduceLT, Int.reduceAdd, Int.reduceSub, Int.reduceMul, Int.cast_ofNat_Int, cast_zero_int, cast_one_int, Nat.reducePow, Nat.reduceEqDiff, Nat.reduceMod, Nat.zero_add, Nat.sub_zero, Nat.add_zero, own_ge (show h.length ≤ H1.length by omega)]
  refine ⟨by kernel_rfl, (d_day26 f aw l.length (s1.app _) (Or.inl (Nat.le_succ _)) (by omega) (by omega)).use (fun _ m => m) ?_⟩
  rintro _ H2 ⟨⟨d, rfl⟩, s2, g2⟩
  have k0 := agr_get g2 hget_new (by omega)
  have b3 := agr_get g2 (self_get b2 _) (by omega)
  have L2 : H1.length + 1 ≤ H2.length := by have := g2.1; simpa using this
  try simp only [go_sem, Nat.reduceBEq, Nat.reduceAdd, Nat.reduceMul, Nat.reduceSub, Nat.reduceLeDiff, Nat.le_refl, implies_true, Nat.reduceLT, reduceIte, decide_true, decide_false, true_and, and_true, reduceCtorEq, Nat.mul_one, Int.reduceToNat, Int.reduceLE, Int.reduceLT, Int.reduceAdd, Int.reduceSub, Int.reduceMul, Int.cast_ofNat_Int, cast_zero_int, cast_one_int, Nat.reducePow, Nat.reduceEqDiff, Nat.reduceMod, Nat.zero_add, Nat.sub_zero, Nat.add_zero, k0, L2, b3, own_ge (Nat.le_refl h.length), set_get b3]
  have g := g1.trans (Agr.app.trans g2)
  exact ⟨⟨f, l, _, d, rfl, ⟨_, rfl, fin_fi ((fc.agr (Agr.app.trans g2) (by simp)).wide (Nat.le_refl _) (by omega)) (by simp) _⟩, hl⟩, fin_pre g _⟩

theorem c_DrawCutArchive (b : Option Addr) (n : Nat) (hcode : CodeOk h b n) :
    vCall [] Try.prog M 35 [.slice b n 0] h (fun r h' => (∃ (f : Int) (l : List Int) (w : Value) (d y : Int), r = .tuple #[w, .int .i64 d, .int .i64 y] ∧ FA h.length h'.length h' w f l ∧ l.length ≤ 100) ∧ h <+: h') := by
  refine body_ofR ([(4,[0,5,1007])]) mo Try.func35 rfl (by kernel_rfl) (Nat.le_of_ble_eq_true (by kernel_rfl)) rfl ?_
  simp only [go_sem, Nat.reduceBEq, Nat.reduceAdd, Nat.reduceMul, Nat.reduceSub, Nat.reduceLeDiff, Nat.le_refl, implies_true, Nat.reduceLT, reduceIte, decide_true, decide_false, true_and, and_true, reduceCtorEq, Nat.mul_one, Int.reduceToNat, Int.reduceLE, Int.reduceLT, Int.reduceAdd, Int.reduceSub, Int.reduceMul, Int.cast_ofNat_Int, cast_zero_int, cast_one_int, Nat.reducePow, Nat.reduceEqDiff, Nat.reduceMod, Nat.zero_add, Nat.sub_zero, Nat.add_zero]
  have s0 := St.start (z := ⟨[.int .i64 0, .slice none 0 0], 2, .rw⟩) hcode
  refine ⟨by kernel_rfl, (d_archive s0 (Or.inl (Nat.le_succ _)) (by omega)).use (fun _ m => m) ?_⟩
  rintro _ H1 ⟨⟨f, l, w, rfl, fc, hl⟩, s1, g1⟩
  obtain ⟨aw, rfl⟩ := fc.len
  have b2 := agr_get g1 hget_lit0 (by omega)
  have L1 : h.length + 2 ≤ H1.length := by have := g1.1; simpa using this
  try simp only [go_sem, Nat.reduceBEq, Nat.reduceAdd, Nat.reduceMul, Nat.reduceSub, Nat.reduceLeDiff, Nat.le_refl, implies_true, Nat.reduceLT, reduceIte, decide_true, decide_false, true_and, and_true, reduceCtorEq, Nat.mul_one, Int.reduceToNat, Int.reduceLE, Int.reduceLT, Int.reduceAdd, Int.reduceSub, Int.reduceMul, Int.cast_ofNat_Int, cast_zero_int, cast_one_int, Nat.reducePow, Nat.reduceEqDiff, Nat.reduceMod, Nat.zero_add, Nat.sub_zero, Nat.add_zero, own_ge (show h.length ≤ H1.length by omega)]
  refine ⟨by kernel_rfl, (d_day26 f aw l.length (s1.app _) (Or.inl (Nat.le_succ _)) (by omega) (by omega)).use (fun _ m => m) ?_⟩
  rintro _ H2 ⟨⟨d, rfl⟩, s2, g2⟩
  have k0 := agr_get g2 hget_new (by omega)
  have b3 := agr_get g2 (self_get b2 _) (by omega)
  have L2 : H1.length + 1 ≤ H2.length := by have := g2.1; simpa using this
  try simp only [go_sem, Nat.reduceBEq, Nat.reduceAdd, Nat.reduceMul, Nat.reduceSub, Nat.reduceLeDiff, Nat.le_refl, implies_true, Nat.reduceLT, reduceIte, decide_true, decide_false, true_and, and_true, reduceCtorEq, Nat.mul_one, Int.reduceToNat, Int.reduceLE, Int.reduceLT, Int.reduceAdd, Int.reduceSub, Int.reduceMul, Int.cast_ofNat_Int, cast_zero_int, cast_one_int, Nat.reducePow, Nat.reduceEqDiff, Nat.reduceMod, Nat.zero_add, Nat.sub_zero, Nat.add_zero, k0, self_get k0, L2]
  refine ⟨by kernel_rfl, (d_amongL _ _ s2 (Or.inl (Nat.le_succ _)) rfl (by simp) (by omega) (by omega) (by omega)).use (fun _ m => m) ?_⟩
  rintro _ H3 ⟨⟨y, rfl⟩, s3, g3, l3⟩
  have k2 := agr_get g3 k0 (by omega)
  have b4 := agr_get g3 b3 (by omega)
  try simp only [go_sem, Nat.reduceBEq, Nat.reduceAdd, Nat.reduceMul, Nat.reduceSub, Nat.reduceLeDiff, Nat.le_refl, implies_true, Nat.reduceLT, reduceIte, decide_true, decide_false, true_and, and_true, reduceCtorEq, Nat.mul_one, Int.reduceToNat, Int.reduceLE, Int.reduceLT, Int.reduceAdd, Int.reduceSub, Int.reduceMul, Int.cast_ofNat_Int, cast_zero_int, cast_one_int, Nat.reducePow, Nat.reduceEqDiff, Nat.reduceMod, Nat.zero_add, Nat.sub_zero, Nat.add_zero, k0, self_get k0, k2, l3, b4, own_ge (Nat.le_refl h.length), set_get b4]
  have g := g1.trans (Agr.app.trans (g2.trans g3))
  exact ⟨⟨f, l, _, d, _, rfl, ⟨_, rfl, fin_fi ((fc.agr (Agr.app.trans (g2.trans g3)) (by simp)).wide (Nat.le_refl _) (by omega)) (by simp) _⟩, hl⟩, fin_pre g _⟩

theorem c_DrawJoinArchives (b : Option Addr) (n : Nat) (hcode : CodeOk h b n) :
    vCall [] Try.prog M 37 [.slice b n 0] h (fun r h' => (∃ (f : Int) (l : List Int) (w : Value) (f' : Int) (l' : List Int) (w' : Value), r = .tuple #[w, w'] ∧ FA h.length h'.length h' w f l ∧ l.length ≤ 100 ∧ FA h.length h'.length h' w' f' l' ∧ l'.length ≤ 100) ∧ h <+: h') := by
  refine body_ofR ([(5,[1,1003])]) mo Try.func37 rfl (by kernel_rfl) (Nat.le_of_ble_eq_true (by kernel_rfl)) rfl ?_
  simp only [go_sem, Nat.reduceBEq, Nat.reduceAdd, Nat.reduceMul, Nat.reduceSub, Nat.reduceLeDiff, Nat.le_refl, implies_true, Nat.reduceLT, reduceIte, decide_true, decide_false, true_and, and_true, reduceCtorEq, Nat.mul_one, Int.reduceToNat, Int.reduceLE, Int.reduceLT, Int.reduceAdd, Int.reduceSub, Int.reduceMul, Int.cast_ofNat_Int, cast_zero_int, cast_one_int, Nat.reducePow, Nat.reduceEqDiff, Nat.reduceMod, Nat.zero_add, Nat.sub_zero, Nat.add_zero]
  have s0 : St (h ++ [(⟨[.int .i64 0, .slice none 0 0], 2, .rw⟩ : Blk), ⟨[.int .i64 0, .slice none 0 0], 2, .rw⟩, ⟨[.slice b n 0, .int .i64 0, .int .u64 0], 3, .rw⟩]) (h.length + 2) n b 0 :=
    ⟨⟨0, 0, by simp [hget, curB], by omega, by omega⟩, hcode.app⟩
  refine ⟨by kernel_rfl, (d_archive s0 (Or.inl (by omega)) (by omega)).use (fun _ m => m) ?_⟩
  rintro _ H1 ⟨⟨f, l, w, rfl, fc, hl⟩, s1, g1⟩
  obtain ⟨aw, rfl⟩ := fc.len
  refine ⟨by kernel_rfl, (d_archive s1 (Or.inl (by omega)) (by omega)).use (fun _ m => m) ?_⟩
  rintro _ H2 ⟨⟨f', l', w', rfl, fc', hl'⟩, s2, g2⟩
  obtain ⟨aw', rfl⟩ := fc'.len
  have b0 := agr_get g2 (agr_get g1 (show hget (h ++ [(⟨[.int .i64 0, .slice none 0 0], 2, .rw⟩ : Blk), ⟨[.int .i64 0, .slice none 0 0], 2, .rw⟩, ⟨[.slice b n 0, .int .i64 0, .int .u64 0], 3, .rw⟩]) h.length = some ⟨[.int .i64 0, .slice none 0 0], 2, .rw⟩ by simp [hget]) (by omega)) (by omega)
  have b1 := agr_get g2 (agr_get g1 (show hget (h ++ [(⟨[.int .i64 0, .slice none 0 0], 2, .rw⟩ : Blk), ⟨[.int .i64 0, .slice none 0 0], 2, .rw⟩, ⟨[.slice b n 0, .int .i64 0, .int .u64 0], 3, .rw⟩]) (h.length + 1) = some ⟨[.int .i64 0, .slice none 0 0], 2, .rw⟩ by simp [hget]) (by omega)) (by omega)
  have L1 : h.length + 3 ≤ H1.length := by have := g1.1; simpa using this
  have L2 : H1.length ≤ H2.length := g2.1
  have fc2 := fc.agr g2 (by simp)
  try simp only [go_sem, Nat.reduceBEq, Nat.reduceAdd, Nat.reduceMul, Nat.reduceSub, Nat.reduceLeDiff, Nat.le_refl, implies_true, Nat.reduceLT, reduceIte, decide_true, decide_false, true_and, and_true, reduceCtorEq, Nat.mul_one, Int.reduceToNat, Int.reduceLE, Int.reduceLT, Int.reduceAdd, Int.reduceSub, Int.reduceMul, Int.cast_ofNat_Int, cast_zero_int, cast_one_int, Nat.reducePow, Nat.reduceEqDiff, Nat.reduceMod, Nat.zero_add, Nat.sub_zero, Nat.add_zero, own_ge (show h.length ≤ H2.length by omega), own_ge (show h.length ≤ H2.length + 1 by omega)]
  refine ⟨by kernel_rfl, (d_one _ (s2.app _) (Or.inl (by omega)) (by omega)).use (fun _ m => m) ?_⟩
  rintro _ H3 ⟨⟨g, rfl⟩, s3, g3⟩
  have k0 := agr_get g3 hget_lit0 (by omega)
  have k1 := agr_get g3 hget_lit1 (by omega)
  have b2 := agr_get g3 (self_get b0 _) (by omega)
  have b3 := agr_get g3 (self_get b1 _) (by omega)
  have L3 : H2.length + 2 ≤ H3.length := by have := g3.1; simpa using this
  have o0 := own_ge (M := M) (Nat.le_refl h.length)
  have o1 := own_ge (M := M) (show h.length ≤ h.length + 1 by omega)
  have fin : ∀ (H4 : Heap) (y : Int), Agr (H2.length + 1) (H2.length + 1 + 1) H3 H4 → 
      (∃ (f0 : Int) (l0 : List Int) (v : Value) (f1 : Int) (l1 : List Int) (v' : Value), Value.tuple #[.agg #[.int .i64 f, .slice aw l.length 0], .agg #[.int .i64 y, .slice aw' l'.length 0]] = .tuple #[v, v'] ∧
        FA h.length ((H4.set h.length ⟨[.int .i64 f, .slice aw l.length 0], 2, .rw⟩).set (h.length + 1) ⟨[.int .i64 y, .slice aw' l'.length 0], 2, .rw⟩).length ((H4.set h.length ⟨[.int .i64 f, .slice aw l.length 0], 2, .rw⟩).set (h.length + 1) ⟨[.int .i64 y, .slice aw' l'.length 0], 2, .rw⟩) v f0 l0 ∧ l0.length ≤ 100 ∧
        FA h.length ((H4.set h.length ⟨[.int .i64 f, .slice aw l.length 0], 2, .rw⟩).set (h.length + 1) ⟨[.int .i64 y, .slice aw' l'.length 0], 2, .rw⟩).length ((H4.set h.length ⟨[.int .i64 f, .slice aw l.length 0], 2, .rw⟩).set (h.length + 1) ⟨[.int .i64 y, .slice aw' l'.length 0], 2, .rw⟩) v' f1 l1 ∧ l1.length ≤ 100) ∧
      h <+: (H4.set h.length ⟨[.int .i64 f, .slice aw l.length 0], 2, .rw⟩).set (h.length + 1) ⟨[.int .i64 y, .slice aw' l'.length 0], 2, .rw⟩ := fun H4 y g4 => by
    have l4 := g4.1
    have ga : Agr h.length (h.length + 2) H4 ((H4.set h.length ⟨[.int .i64 f, .slice aw l.length 0], 2, .rw⟩).set (h.length + 1) ⟨[.int .i64 y, .slice aw' l'.length 0], 2, .rw⟩) := (Agr.set (Nat.le_refl _) (by omega)).trans (Agr.set (by omega) (by omega))
    have fa := (((fc2.wide (Nat.le_refl _) L2).agr (Agr.app.trans g3) (by simp)).agr g4 (by omega)).agr ga (by simp)
    have fb := (((fc'.agr (Agr.app.trans g3) (by omega))).agr g4 (by omega)).agr ga (by omega)
    have lz := ga.1
    refine ⟨⟨f, l, _, y, l', _, rfl, ⟨_, rfl, FI.wide fa.fi (by simp) (by omega)⟩, hl, ⟨_, rfl, FI.wide fb.fi (by omega) (by omega)⟩, hl'⟩, pre_of (by simp; omega) fun i hi => ?_⟩
    rw [ga.2 i (by omega) (by omega), g4.2 i (by omega) (by omega), g3.2 i (by simp; omega) (by omega), hget_prefix (List.prefix_append _ _) (show i < H2.length by omega), g2.2 i (by omega) (by omega), g1.2 i (by simp; omega) (by omega)]
    exact hget_prefix (List.prefix_append _ _) hi
  cases g with
  | true =>
    have bs : hget (H3.set h.length ⟨[.int .i64 f, .slice aw l.length 0], 2, .rw⟩) (h.length + 1) = _ := (hget_set_ne (by omega)).trans b3
    have bk : hget (H3.set h.length ⟨[.int .i64 f, .slice aw l.length 0], 2, .rw⟩) (H2.length + 1) = _ := (hget_set_ne (by omega)).trans k1
    have br : hget ((H3.set h.length ⟨[.int .i64 f, .slice aw l.length 0], 2, .rw⟩).set (h.length + 1) ⟨[.int .i64 f', .slice aw' l'.length 0], 2, .rw⟩) h.length = some ⟨[.int .i64 f, .slice aw l.length 0], 2, .rw⟩ := (hget_set_ne (by omega)).trans (set_get b2 _)
    try simp only [go_sem, Nat.reduceBEq, Nat.reduceAdd, Nat.reduceMul, Nat.reduceSub, Nat.reduceLeDiff, Nat.le_refl, implies_true, Nat.reduceLT, reduceIte, decide_true, decide_false, true_and, and_true, reduceCtorEq, Nat.mul_one, Int.reduceToNat, Int.reduceLE, Int.reduceLT, Int.reduceAdd, Int.reduceSub, Int.reduceMul, Int.cast_ofNat_Int, cast_zero_int, cast_one_int, Nat.reducePow, Nat.reduceEqDiff, Nat.reduceMod, Nat.zero_add, Nat.sub_zero, Nat.add_zero, k0, k1, b2, b3, o0, o1, bs, bk, br, set_get bs]
    exact fin _ _ Agr.refl
  | false =>
    obtain ⟨y, hy⟩ : ∃ y, IntKind.i64.wrap (f + (l.length : Int)) = y := ⟨_, rfl⟩
    try simp only [go_sem, Nat.reduceBEq, Nat.reduceAdd, Nat.reduceMul, Nat.reduceSub, Nat.reduceLeDiff, Nat.le_refl, implies_true, Nat.reduceLT, reduceIte, decide_true, decide_false, true_and, and_true, reduceCtorEq, Nat.mul_one, Int.reduceToNat, Int.reduceLE, Int.reduceLT, Int.reduceAdd, Int.reduceSub, Int.reduceMul, Int.cast_ofNat_Int, cast_zero_int, cast_one_int, Nat.reducePow, Nat.reduceEqDiff, Nat.reduceMod, Nat.zero_add, Nat.sub_zero, Nat.add_zero, k0, k1, hy, own_ge (show h.length ≤ H2.length + 1 by omega)]
    obtain ⟨H4, hH⟩ : ∃ H4, H3.set (H2.length + 1) ⟨[.int .i64 y, .slice aw' l'.length 0], 2, .rw⟩ = H4 := ⟨_, rfl⟩
    have g4 : Agr (H2.length + 1) (H2.length + 1 + 1) H3 H4 := hH ▸ Agr.set (Nat.le_refl _) (Nat.lt_succ_self _)
    have k0' := agr_get g4 k0 (by omega)
    have k1' : hget H4 (H2.length + 1) = some ⟨[.int .i64 y, .slice aw' l'.length 0], 2, .rw⟩ := by rw [← hH]; exact set_get k1 _
    have b2' := agr_get g4 b2 (by omega)
    have b3' := agr_get g4 b3 (by omega)
    have bs : hget (H4.set h.length ⟨[.int .i64 f, .slice aw l.length 0], 2, .rw⟩) (h.length + 1) = _ := (hget_set_ne (by omega)).trans b3'
    have bk : hget (H4.set h.length ⟨[.int .i64 f, .slice aw l.length 0], 2, .rw⟩) (H2.length + 1) = _ := (hget_set_ne (by omega)).trans k1'
    have br : hget ((H4.set h.length ⟨[.int .i64 f, .slice aw l.length 0], 2, .rw⟩).set (h.length + 1) ⟨[.int .i64 y, .slice aw' l'.length 0], 2, .rw⟩) h.length = some ⟨[.int .i64 f, .slice aw l.length 0], 2, .rw⟩ := (hget_set_ne (by omega)).trans (set_get b2' _)
    try simp only [go_sem, Nat.reduceBEq, Nat.reduceAdd, Nat.reduceMul, Nat.reduceSub, Nat.reduceLeDiff, Nat.le_refl, implies_true, Nat.reduceLT, reduceIte, decide_true, decide_false, true_and, and_true, reduceCtorEq, Nat.mul_one, Int.reduceToNat, Int.reduceLE, Int.reduceLT, Int.reduceAdd, Int.reduceSub, Int.reduceMul, Int.cast_ofNat_Int, cast_zero_int, cast_one_int, Nat.reducePow, Nat.reduceEqDiff, Nat.reduceMod, Nat.zero_add, Nat.sub_zero, Nat.add_zero, hH, k0', k1', b2', b3', o0, o1, bs, bk, br, set_get bs]
    exact fin _ _ g4
end
end Go.Proofs.Ytjgekhahklidcaa
