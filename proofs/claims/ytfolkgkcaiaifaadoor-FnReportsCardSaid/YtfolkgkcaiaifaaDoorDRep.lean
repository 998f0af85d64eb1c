
/- What the law about reports draws. No condition. -/
import Derived.Test.YtfolkgkcaiaifaaDoorDSup
import Derived.Test.YtfolkgkcaiaifaaDoorSpoilt
import Derived.Test.YtfolkgkcaiaifaaDoorReport
import Derived.Test.YtfolkgkcaiaifaaDoorNodes
import Derived.Test.YtfolkgkcaiaifaaDoorPNodes
import Derived.Test.YtfolkgkcaiaifaaDoorH3
namespace Go.Proofs.YtfolkgkcaiaifaaDoor
open Go.HH Go.Proofs
set_option linter.unusedSimpArgs false
set_option linter.unusedVariables false

theorem supTV_size (a b c : Int) : ∃ s ok, supTV a b c = .tuple #[.string s, .bool ok] ∧ s.size ≤ 100 := by
  unfold supTV
  split
  · rename_i g
    obtain ⟨g1, g2, g3, g4⟩ := g
    refine ⟨_, _, rfl, Nat.le_trans (supS_size (a := a.toNat) (b := b.toNat) (c := c.toNat) (by omega) (by omega) (by omega)) (by omega)⟩
  · exact ⟨_, _, rfl, by decide⟩
theorem repV_size (l : List Sup) : ∃ s ok, repV l = .tuple #[.string s, .bool ok] ∧ s.size ≤ 1000 := by
  unfold repV
  split
  · rename_i g
    refine ⟨_, _, rfl, ?_⟩
    rw [reportS]
    split
    · decide
    · have hz := joinB_size (sep := sp1) (k := 80) (xs := l.map supB) (fun x hx => by
        obtain ⟨y, hy, rfl⟩ := List.mem_map.1 hx
        obtain ⟨i, hi, rfl⟩ := List.getElem_of_mem hy
        exact supB_size (supGood_at g hi))
      have hl := supGood_len g
      have e1 : sp1.size = 1 := rfl
      rw [List.length_map, e1] at hz
      have := Nat.mul_le_mul_right (80 + 1) hl
      omega
  · exact ⟨_, _, rfl, by decide⟩
theorem nodeV_size (l : List Int) : ∃ s ok, nodeV l = .tuple #[.string s, .bool ok] ∧ s.size ≤ 100 := by
  unfold nodeV
  split
  · rename_i g
    have := (nodes_digs g).2
    exact ⟨_, _, rfl, by omega⟩
  · exact ⟨_, _, rfl, by decide⟩
section
variable {h : Heap} {M : Nat → Prop}
set_option maxRecDepth 20000 in
theorem d_nodes25 {id n B : Nat} {a : Option Addr} (s : St h id n a B) (hM : M id) (hB : B ≤ 90000) :
    vCall [] Tryd.prog M 53 [.pointer (some ⟨id, 0, none⟩)] h (fun r H' => (∃ (l : List Int) (sid : Nat), r = .slice (some ⟨sid, 0, none⟩) l.length 0 ∧ Wst h H' id n a (B + 40) sid 1 (l.map iv) ∧ l.length ≤ 9)) := by
  have hid := s.lt
  have hown : own h.length M id := Or.inr hM
  refine body_of mo Tryd.func53 rfl (by kernel_rfl) (Nat.le_of_ble_eq_true (by kernel_rfl)) rfl ?_
  simp only [go_sem, Nat.reduceBEq, Nat.reduceAdd, Nat.reduceMul, Nat.reduceSub, Nat.reduceLeDiff, Nat.le_refl, implies_true, Nat.reduceLT, reduceIte, decide_true, decide_false, true_and, and_true, reduceCtorEq, Nat.mul_one, Int.reduceToNat, Int.reduceLE, Int.reduceLT, Int.reduceAdd, Int.reduceSub, Int.reduceMul, Int.cast_ofNat_Int, cast_zero_int, cast_one_int, Nat.reducePow, Nat.reduceEqDiff, Nat.reduceMod, Nat.zero_add, Nat.sub_zero, Nat.add_zero]
  have ss : Wst h (h ++ [⟨[], 1, .rw⟩]) id n a B h.length 1 (([] : List Int).map iv) := ⟨s.app _, Agr.app, hget_new, by omega⟩
  refine vLoop.count mo 8 (fun i e H => ∃ (l : List Int) (sid : Nat), e 0 = .pointer (some ⟨id, 0, none⟩) ∧ e 3 = .slice (some ⟨sid, 0, none⟩) l.length 0 ∧ e 4 = .int .i64 (i + 1 : Nat) ∧
    Wst h H id n a (B + 2 * i) sid 1 (l.map iv) ∧ l.length ≤ i) ?_ ?_
  · try simp only [go_sem, Nat.reduceBEq, Nat.reduceAdd, Nat.reduceMul, Nat.reduceSub, Nat.reduceLeDiff, Nat.le_refl, implies_true, Nat.reduceLT, reduceIte, decide_true, decide_false, true_and, and_true, reduceCtorEq, Nat.mul_one, Int.reduceToNat, Int.reduceLE, Int.reduceLT, Int.reduceAdd, Int.reduceSub, Int.reduceMul, Int.cast_ofNat_Int, cast_zero_int, cast_one_int, Nat.reducePow, Nat.reduceEqDiff, Nat.reduceMod, Nat.zero_add, Nat.sub_zero, Nat.add_zero]
    exact ⟨[], h.length, rfl, ss.more (by omega), by simp⟩
  · rintro i e H hi ⟨l, sid, e0, e3, e4, ss, hl⟩
    have lm : (l.map iv).length = l.length := by rw [List.length_map]
    by_cases h8 : i < 8
    · have hz : ((i + 1 : Nat) : Int) ≤ 8 := by omega
      try simp only [go_sem, Nat.reduceBEq, Nat.reduceAdd, Nat.reduceMul, Nat.reduceSub, Nat.reduceLeDiff, Nat.le_refl, implies_true, Nat.reduceLT, reduceIte, decide_true, decide_false, true_and, and_true, reduceCtorEq, Nat.mul_one, Int.reduceToNat, Int.reduceLE, Int.reduceLT, Int.reduceAdd, Int.reduceSub, Int.reduceMul, Int.cast_ofNat_Int, cast_zero_int, cast_one_int, Nat.reducePow, Nat.reduceEqDiff, Nat.reduceMod, Nat.zero_add, Nat.sub_zero, Nat.add_zero, e0, e3, e4, hz]
      refine ⟨by kernel_rfl, (d_one _ ss.st hown (by omega)).use (fun _ m => m) ?_⟩
      rintro _ H2 ⟨⟨gb, rfl⟩, s2, g2⟩
      have ss2 := ss.step s2 g2
      have hq2 := ss2.s
      cases gb
      · try simp only [go_sem, Nat.reduceBEq, Nat.reduceAdd, Nat.reduceMul, Nat.reduceSub, Nat.reduceLeDiff, Nat.le_refl, implies_true, Nat.reduceLT, reduceIte, decide_true, decide_false, true_and, and_true, reduceCtorEq, Nat.mul_one, Int.reduceToNat, Int.reduceLE, Int.reduceLT, Int.reduceAdd, Int.reduceSub, Int.reduceMul, Int.cast_ofNat_Int, cast_zero_int, cast_one_int, Nat.reducePow, Nat.reduceEqDiff, Nat.reduceMod, Nat.zero_add, Nat.sub_zero, Nat.add_zero, e0, e3, e4, hz]
        exact ⟨h8, l, sid, rfl, by rw [wrap64 (by omega)]; rfl, ss2.more (by omega), by omega⟩
      · have ssa := ss2.app (new := [.int .i64 ((i + 1 : Nat) : Int)])
        try simp only [go_sem, Nat.reduceBEq, Nat.reduceAdd, Nat.reduceMul, Nat.reduceSub, Nat.reduceLeDiff, Nat.le_refl, implies_true, Nat.reduceLT, reduceIte, decide_true, decide_false, true_and, and_true, reduceCtorEq, Nat.mul_one, Int.reduceToNat, Int.reduceLE, Int.reduceLT, Int.reduceAdd, Int.reduceSub, Int.reduceMul, Int.cast_ofNat_Int, cast_zero_int, cast_one_int, Nat.reducePow, Nat.reduceEqDiff, Nat.reduceMod, Nat.zero_add, Nat.sub_zero, Nat.add_zero, e0, e3, e4, hz, hq2, self_get hq2, lm, own_ge ss2.low.1]
        refine ⟨by omega, by omega, h8, l ++ [((i + 1 : Nat) : Int)], H2.length + 1, by simp, by rw [wrap64 (by omega)]; rfl, ?_, by simp; omega⟩
        rw [List.map_append]
        exact ssa.more (by omega)
    · obtain rfl : i = 8 := by omega
      try simp only [go_sem, Nat.reduceBEq, Nat.reduceAdd, Nat.reduceMul, Nat.reduceSub, Nat.reduceLeDiff, Nat.le_refl, implies_true, Nat.reduceLT, reduceIte, decide_true, decide_false, true_and, and_true, reduceCtorEq, Nat.mul_one, Int.reduceToNat, Int.reduceLE, Int.reduceLT, Int.reduceAdd, Int.reduceSub, Int.reduceMul, Int.cast_ofNat_Int, cast_zero_int, cast_one_int, Nat.reducePow, Nat.reduceEqDiff, Nat.reduceMod, Nat.zero_add, Nat.sub_zero, Nat.add_zero, e0, e3, e4]
      refine ⟨by kernel_rfl, (d_one _ ss.st hown (by omega)).use (fun _ m => m) ?_⟩
      rintro _ H2 ⟨⟨gb, rfl⟩, s2, g2⟩
      have ss2 := ss.step s2 g2
      cases gb
      · try simp only [go_sem, Nat.reduceBEq, Nat.reduceAdd, Nat.reduceMul, Nat.reduceSub, Nat.reduceLeDiff, Nat.le_refl, implies_true, Nat.reduceLT, reduceIte, decide_true, decide_false, true_and, and_true, reduceCtorEq, Nat.mul_one, Int.reduceToNat, Int.reduceLE, Int.reduceLT, Int.reduceAdd, Int.reduceSub, Int.reduceMul, Int.cast_ofNat_Int, cast_zero_int, cast_one_int, Nat.reducePow, Nat.reduceEqDiff, Nat.reduceMod, Nat.zero_add, Nat.sub_zero, Nat.add_zero, e0, e3, e4]
        exact ⟨l, sid, rfl, ss2.more (by omega), by omega⟩
      · try simp only [go_sem, Nat.reduceBEq, Nat.reduceAdd, Nat.reduceMul, Nat.reduceSub, Nat.reduceLeDiff, Nat.le_refl, implies_true, Nat.reduceLT, reduceIte, decide_true, decide_false, true_and, and_true, reduceCtorEq, Nat.mul_one, Int.reduceToNat, Int.reduceLE, Int.reduceLT, Int.reduceAdd, Int.reduceSub, Int.reduceMul, Int.cast_ofNat_Int, cast_zero_int, cast_one_int, Nat.reducePow, Nat.reduceEqDiff, Nat.reduceMod, Nat.zero_add, Nat.sub_zero, Nat.add_zero, e0, e3, e4]
        refine ⟨by kernel_rfl, (d_amongL _ 4 ss2.st hown rfl (by decide) (by omega) (by omega) (by omega)).use (fun _ m => m) ?_⟩
        rintro _ H3 ⟨⟨x, rfl⟩, s3, g3, l3⟩
        have ss3 := ss2.step s3 g3
        have hq3 := ss3.s
        have ssa := ss3.app (new := [.int .i64 x])
        try simp only [go_sem, Nat.reduceBEq, Nat.reduceAdd, Nat.reduceMul, Nat.reduceSub, Nat.reduceLeDiff, Nat.le_refl, implies_true, Nat.reduceLT, reduceIte, decide_true, decide_false, true_and, and_true, reduceCtorEq, Nat.mul_one, Int.reduceToNat, Int.reduceLE, Int.reduceLT, Int.reduceAdd, Int.reduceSub, Int.reduceMul, Int.cast_ofNat_Int, cast_zero_int, cast_one_int, Nat.reducePow, Nat.reduceEqDiff, Nat.reduceMod, Nat.zero_add, Nat.sub_zero, Nat.add_zero, e0, e3, e4, hq3, self_get hq3, lm, own_ge ss3.low.1]
        refine ⟨by omega, by omega, l ++ [x], H3.length + 1, by simp, ?_, by simp; omega⟩
        rw [List.map_append]
        exact ssa.more (by omega)
set_option maxRecDepth 20000 in
theorem c_DrawParseSupply (b : Option Addr) (n : Nat) (hcode : CodeOk h b n) :
    vCall [] Tryd.prog M 16 [.slice b n 0] h (fun r h' => (∃ s : ByteArray, r = .string s ∧ s.size ≤ 2000) ∧ h <+: h') := by
  have hown : own h.length M h.length := Or.inl (Nat.le_refl _)
  refine body_of mo Tryd.func16 rfl (by kernel_rfl) (Nat.le_of_ble_eq_true (by kernel_rfl)) rfl ?_
  simp only [go_sem, Nat.reduceBEq, Nat.reduceAdd, Nat.reduceMul, Nat.reduceSub, Nat.reduceLeDiff, Nat.le_refl, implies_true, Nat.reduceLT, reduceIte, decide_true, decide_false, true_and, and_true, reduceCtorEq, Nat.mul_one, Int.reduceToNat, Int.reduceLE, Int.reduceLT, Int.reduceAdd, Int.reduceSub, Int.reduceMul, Int.cast_ofNat_Int, cast_zero_int, cast_one_int, Nat.reducePow, Nat.reduceEqDiff, Nat.reduceMod, Nat.zero_add, Nat.sub_zero, Nat.add_zero]
  refine ⟨by kernel_rfl, (d_pick _ (St.start0W hcode) hown (by omega)).use (fun _ m => m) ?_⟩
  rintro _ H1 ⟨⟨m, rfl, m0, m1⟩, s1, g1⟩
  have w1 : IntKind.i64.wrap (1 + m) = 1 + m := wrap64 (by omega)
  try simp only [go_sem, Nat.reduceBEq, Nat.reduceAdd, Nat.reduceMul, Nat.reduceSub, Nat.reduceLeDiff, Nat.le_refl, implies_true, Nat.reduceLT, reduceIte, decide_true, decide_false, true_and, and_true, reduceCtorEq, Nat.mul_one, Int.reduceToNat, Int.reduceLE, Int.reduceLT, Int.reduceAdd, Int.reduceSub, Int.reduceMul, Int.cast_ofNat_Int, cast_zero_int, cast_one_int, Nat.reducePow, Nat.reduceEqDiff, Nat.reduceMod, Nat.zero_add, Nat.sub_zero, Nat.add_zero, w1]
  refine ⟨by kernel_rfl, (d_supply _ s1 hown (by omega)).use (fun _ m => m) ?_⟩
  rintro _ H2 ⟨⟨x, y, z, rfl⟩, s1b, g2⟩
  try simp only [go_sem, Nat.reduceBEq, Nat.reduceAdd, Nat.reduceMul, Nat.reduceSub, Nat.reduceLeDiff, Nat.le_refl, implies_true, Nat.reduceLT, reduceIte, decide_true, decide_false, true_and, and_true, reduceCtorEq, Nat.mul_one, Int.reduceToNat, Int.reduceLE, Int.reduceLT, Int.reduceAdd, Int.reduceSub, Int.reduceMul, Int.cast_ofNat_Int, cast_zero_int, cast_one_int, Nat.reducePow, Nat.reduceEqDiff, Nat.reduceMod, Nat.zero_add, Nat.sub_zero, Nat.add_zero]
  refine ⟨by kernel_rfl, (c_sSupplyText x y z).use (fun _ m => m) ?_⟩
  rintro _ _ ⟨rfl, ⟨t, rfl⟩⟩
  obtain ⟨s, ok, hs, zs⟩ := supTV_size x y z
  have s2 := s1b.app t
  have gZ := (g1.trans g2).trans (Agr.app (t := t))
  rw [hs]
  try simp only [go_sem, Nat.reduceBEq, Nat.reduceAdd, Nat.reduceMul, Nat.reduceSub, Nat.reduceLeDiff, Nat.le_refl, implies_true, Nat.reduceLT, reduceIte, decide_true, decide_false, true_and, and_true, reduceCtorEq, Nat.mul_one, Int.reduceToNat, Int.reduceLE, Int.reduceLT, Int.reduceAdd, Int.reduceSub, Int.reduceMul, Int.cast_ofNat_Int, cast_zero_int, cast_one_int, Nat.reducePow, Nat.reduceEqDiff, Nat.reduceMod, Nat.zero_add, Nat.sub_zero, Nat.add_zero]
  refine ⟨by kernel_rfl, (d_one _ s2 hown (by omega)).use (fun _ m => m) ?_⟩
  rintro _ H3 ⟨⟨gb, rfl⟩, s3, g3⟩
  have gA := gZ.trans g3
  cases gb
  · try simp only [go_sem, Nat.reduceBEq, Nat.reduceAdd, Nat.reduceMul, Nat.reduceSub, Nat.reduceLeDiff, Nat.le_refl, implies_true, Nat.reduceLT, reduceIte, decide_true, decide_false, true_and, and_true, reduceCtorEq, Nat.mul_one, Int.reduceToNat, Int.reduceLE, Int.reduceLT, Int.reduceAdd, Int.reduceSub, Int.reduceMul, Int.cast_ofNat_Int, cast_zero_int, cast_one_int, Nat.reducePow, Nat.reduceEqDiff, Nat.reduceMod, Nat.zero_add, Nat.sub_zero, Nat.add_zero]
    exact ⟨⟨s, rfl, by omega⟩, agr_preW (List.prefix_append _ _) gA (Nat.le_refl _)⟩
  · try simp only [go_sem, Nat.reduceBEq, Nat.reduceAdd, Nat.reduceMul, Nat.reduceSub, Nat.reduceLeDiff, Nat.le_refl, implies_true, Nat.reduceLT, reduceIte, decide_true, decide_false, true_and, and_true, reduceCtorEq, Nat.mul_one, Int.reduceToNat, Int.reduceLE, Int.reduceLT, Int.reduceAdd, Int.reduceSub, Int.reduceMul, Int.cast_ofNat_Int, cast_zero_int, cast_one_int, Nat.reducePow, Nat.reduceEqDiff, Nat.reduceMod, Nat.zero_add, Nat.sub_zero, Nat.add_zero]
    refine ⟨by kernel_rfl, (d_spoilt s ⟨#[48, 46, 32, 49, 78, 97]⟩ s3 hown (by omega) (by decide) (by omega)).use (fun _ m => m) ?_⟩
    rintro _ H4 ⟨⟨s', rfl, hs'⟩, s4, g4⟩
    try simp only [go_sem, Nat.reduceBEq, Nat.reduceAdd, Nat.reduceMul, Nat.reduceSub, Nat.reduceLeDiff, Nat.le_refl, implies_true, Nat.reduceLT, reduceIte, decide_true, decide_false, true_and, and_true, reduceCtorEq, Nat.mul_one, Int.reduceToNat, Int.reduceLE, Int.reduceLT, Int.reduceAdd, Int.reduceSub, Int.reduceMul, Int.cast_ofNat_Int, cast_zero_int, cast_one_int, Nat.reducePow, Nat.reduceEqDiff, Nat.reduceMod, Nat.zero_add, Nat.sub_zero, Nat.add_zero]
    exact ⟨⟨s', rfl, by omega⟩, agr_preW (List.prefix_append _ _) (gA.trans g4) (Nat.le_refl _)⟩
set_option maxRecDepth 20000 in
theorem c_DrawParseReport (b : Option Addr) (n : Nat) (hcode : CodeOk h b n) :
    vCall [] Tryd.prog M 22 [.slice b n 0] h (fun r h' => (∃ s : ByteArray, r = .string s ∧ s.size ≤ 2000) ∧ h <+: h') := by
  have hown : own h.length M h.length := Or.inl (Nat.le_refl _)
  refine body_of mo Tryd.func22 rfl (by kernel_rfl) (Nat.le_of_ble_eq_true (by kernel_rfl)) rfl ?_
  simp only [go_sem, Nat.reduceBEq, Nat.reduceAdd, Nat.reduceMul, Nat.reduceSub, Nat.reduceLeDiff, Nat.le_refl, implies_true, Nat.reduceLT, reduceIte, decide_true, decide_false, true_and, and_true, reduceCtorEq, Nat.mul_one, Int.reduceToNat, Int.reduceLE, Int.reduceLT, Int.reduceAdd, Int.reduceSub, Int.reduceMul, Int.cast_ofNat_Int, cast_zero_int, cast_one_int, Nat.reducePow, Nat.reduceEqDiff, Nat.reduceMod, Nat.zero_add, Nat.sub_zero, Nat.add_zero]
  refine ⟨by kernel_rfl, (d_supplies (St.start0W hcode) (Or.inl (Nat.le_refl _)) (by omega)).use (fun _ m => m) ?_⟩
  rintro _ H1 ⟨l, sid, rfl, ss, hl⟩
  try simp only [go_sem, Nat.reduceBEq, Nat.reduceAdd, Nat.reduceMul, Nat.reduceSub, Nat.reduceLeDiff, Nat.le_refl, implies_true, Nat.reduceLT, reduceIte, decide_true, decide_false, true_and, and_true, reduceCtorEq, Nat.mul_one, Int.reduceToNat, Int.reduceLE, Int.reduceLT, Int.reduceAdd, Int.reduceSub, Int.reduceMul, Int.cast_ofNat_Int, cast_zero_int, cast_one_int, Nat.reducePow, Nat.reduceEqDiff, Nat.reduceMod, Nat.zero_add, Nat.sub_zero, Nat.add_zero]
  refine ⟨by kernel_rfl, (c_sReportText _ l (ss.rows (k := 0) (Nat.zero_le _)).sl (by omega)).use (fun _ m => m) ?_⟩
  rintro _ _ ⟨rfl, ⟨t, rfl⟩⟩
  obtain ⟨s, ok, hs, zs⟩ := repV_size l
  have s2 := ss.st.app t
  have gZ := ss.out.trans (Agr.app (t := t))
  rw [hs]
  try simp only [go_sem, Nat.reduceBEq, Nat.reduceAdd, Nat.reduceMul, Nat.reduceSub, Nat.reduceLeDiff, Nat.le_refl, implies_true, Nat.reduceLT, reduceIte, decide_true, decide_false, true_and, and_true, reduceCtorEq, Nat.mul_one, Int.reduceToNat, Int.reduceLE, Int.reduceLT, Int.reduceAdd, Int.reduceSub, Int.reduceMul, Int.cast_ofNat_Int, cast_zero_int, cast_one_int, Nat.reducePow, Nat.reduceEqDiff, Nat.reduceMod, Nat.zero_add, Nat.sub_zero, Nat.add_zero]
  refine ⟨by kernel_rfl, (d_one _ s2 hown (by omega)).use (fun _ m => m) ?_⟩
  rintro _ H3 ⟨⟨gb, rfl⟩, s3, g3⟩
  have gA := gZ.trans g3
  cases gb
  · try simp only [go_sem, Nat.reduceBEq, Nat.reduceAdd, Nat.reduceMul, Nat.reduceSub, Nat.reduceLeDiff, Nat.le_refl, implies_true, Nat.reduceLT, reduceIte, decide_true, decide_false, true_and, and_true, reduceCtorEq, Nat.mul_one, Int.reduceToNat, Int.reduceLE, Int.reduceLT, Int.reduceAdd, Int.reduceSub, Int.reduceMul, Int.cast_ofNat_Int, cast_zero_int, cast_one_int, Nat.reducePow, Nat.reduceEqDiff, Nat.reduceMod, Nat.zero_add, Nat.sub_zero, Nat.add_zero]
    exact ⟨⟨s, rfl, by omega⟩, agr_preW (List.prefix_append _ _) gA (Nat.le_refl _)⟩
  · try simp only [go_sem, Nat.reduceBEq, Nat.reduceAdd, Nat.reduceMul, Nat.reduceSub, Nat.reduceLeDiff, Nat.le_refl, implies_true, Nat.reduceLT, reduceIte, decide_true, decide_false, true_and, and_true, reduceCtorEq, Nat.mul_one, Int.reduceToNat, Int.reduceLE, Int.reduceLT, Int.reduceAdd, Int.reduceSub, Int.reduceMul, Int.cast_ofNat_Int, cast_zero_int, cast_one_int, Nat.reducePow, Nat.reduceEqDiff, Nat.reduceMod, Nat.zero_add, Nat.sub_zero, Nat.add_zero]
    refine ⟨by kernel_rfl, (d_spoilt s ⟨#[48, 46, 32, 49, 78]⟩ s3 hown (by omega) (by decide) (by omega)).use (fun _ m => m) ?_⟩
    rintro _ H4 ⟨⟨s', rfl, hs'⟩, s4, g4⟩
    try simp only [go_sem, Nat.reduceBEq, Nat.reduceAdd, Nat.reduceMul, Nat.reduceSub, Nat.reduceLeDiff, Nat.le_refl, implies_true, Nat.reduceLT, reduceIte, decide_true, decide_false, true_and, and_true, reduceCtorEq, Nat.mul_one, Int.reduceToNat, Int.reduceLE, Int.reduceLT, Int.reduceAdd, Int.reduceSub, Int.reduceMul, Int.cast_ofNat_Int, cast_zero_int, cast_one_int, Nat.reducePow, Nat.reduceEqDiff, Nat.reduceMod, Nat.zero_add, Nat.sub_zero, Nat.add_zero]
    exact ⟨⟨s', rfl, by omega⟩, agr_preW (List.prefix_append _ _) (gA.trans g4) (Nat.le_refl _)⟩
set_option maxRecDepth 20000 in
theorem c_DrawParseNodeList (b : Option Addr) (n : Nat) (hcode : CodeOk h b n) :
    vCall [] Tryd.prog M 28 [.slice b n 0] h (fun r h' => (∃ s : ByteArray, r = .string s ∧ s.size ≤ 2000) ∧ h <+: h') := by
  have hown : own h.length M h.length := Or.inl (Nat.le_refl _)
  refine body_of mo Tryd.func28 rfl (by kernel_rfl) (Nat.le_of_ble_eq_true (by kernel_rfl)) rfl ?_
  simp only [go_sem, Nat.reduceBEq, Nat.reduceAdd, Nat.reduceMul, Nat.reduceSub, Nat.reduceLeDiff, Nat.le_refl, implies_true, Nat.reduceLT, reduceIte, decide_true, decide_false, true_and, and_true, reduceCtorEq, Nat.mul_one, Int.reduceToNat, Int.reduceLE, Int.reduceLT, Int.reduceAdd, Int.reduceSub, Int.reduceMul, Int.cast_ofNat_Int, cast_zero_int, cast_one_int, Nat.reducePow, Nat.reduceEqDiff, Nat.reduceMod, Nat.zero_add, Nat.sub_zero, Nat.add_zero]
  refine ⟨by kernel_rfl, (d_nodes25 (St.start0W hcode) (Or.inl (Nat.le_refl _)) (by omega)).use (fun _ m => m) ?_⟩
  rintro _ H1 ⟨l, sid, rfl, ss, hl⟩
  try simp only [go_sem, Nat.reduceBEq, Nat.reduceAdd, Nat.reduceMul, Nat.reduceSub, Nat.reduceLeDiff, Nat.le_refl, implies_true, Nat.reduceLT, reduceIte, decide_true, decide_false, true_and, and_true, reduceCtorEq, Nat.mul_one, Int.reduceToNat, Int.reduceLE, Int.reduceLT, Int.reduceAdd, Int.reduceSub, Int.reduceMul, Int.cast_ofNat_Int, cast_zero_int, cast_one_int, Nat.reducePow, Nat.reduceEqDiff, Nat.reduceMod, Nat.zero_add, Nat.sub_zero, Nat.add_zero]
  refine ⟨by kernel_rfl, (c_sNodeList _ l (FI.si (FI.at (n := 0) (m := H1.length) (Nat.zero_le _) (hget_lt ss.s) ss.s) (Nat.le_refl _)) (by omega)).use (fun _ m => m) ?_⟩
  rintro _ _ ⟨rfl, ⟨t, rfl⟩⟩
  obtain ⟨s, ok, hs, zs⟩ := nodeV_size l
  have s2 := ss.st.app t
  have gZ := ss.out.trans (Agr.app (t := t))
  rw [hs]
  try simp only [go_sem, Nat.reduceBEq, Nat.reduceAdd, Nat.reduceMul, Nat.reduceSub, Nat.reduceLeDiff, Nat.le_refl, implies_true, Nat.reduceLT, reduceIte, decide_true, decide_false, true_and, and_true, reduceCtorEq, Nat.mul_one, Int.reduceToNat, Int.reduceLE, Int.reduceLT, Int.reduceAdd, Int.reduceSub, Int.reduceMul, Int.cast_ofNat_Int, cast_zero_int, cast_one_int, Nat.reducePow, Nat.reduceEqDiff, Nat.reduceMod, Nat.zero_add, Nat.sub_zero, Nat.add_zero]
  refine ⟨by kernel_rfl, (d_one _ s2 hown (by omega)).use (fun _ m => m) ?_⟩
  rintro _ H3 ⟨⟨gb, rfl⟩, s3, g3⟩
  have gA := gZ.trans g3
  cases gb
  · try simp only [go_sem, Nat.reduceBEq, Nat.reduceAdd, Nat.reduceMul, Nat.reduceSub, Nat.reduceLeDiff, Nat.le_refl, implies_true, Nat.reduceLT, reduceIte, decide_true, decide_false, true_and, and_true, reduceCtorEq, Nat.mul_one, Int.reduceToNat, Int.reduceLE, Int.reduceLT, Int.reduceAdd, Int.reduceSub, Int.reduceMul, Int.cast_ofNat_Int, cast_zero_int, cast_one_int, Nat.reducePow, Nat.reduceEqDiff, Nat.reduceMod, Nat.zero_add, Nat.sub_zero, Nat.add_zero]
    exact ⟨⟨s, rfl, by omega⟩, agr_preW (List.prefix_append _ _) gA (Nat.le_refl _)⟩
  · try simp only [go_sem, Nat.reduceBEq, Nat.reduceAdd, Nat.reduceMul, Nat.reduceSub, Nat.reduceLeDiff, Nat.le_refl, implies_true, Nat.reduceLT, reduceIte, decide_true, decide_false, true_and, and_true, reduceCtorEq, Nat.mul_one, Int.reduceToNat, Int.reduceLE, Int.reduceLT, Int.reduceAdd, Int.reduceSub, Int.reduceMul, Int.cast_ofNat_Int, cast_zero_int, cast_one_int, Nat.reducePow, Nat.reduceEqDiff, Nat.reduceMod, Nat.zero_add, Nat.sub_zero, Nat.add_zero]
    refine ⟨by kernel_rfl, (d_spoilt s ⟨#[49, 57, 32, 44, 97, 110]⟩ s3 hown (by omega) (by decide) (by omega)).use (fun _ m => m) ?_⟩
    rintro _ H4 ⟨⟨s', rfl, hs'⟩, s4, g4⟩
    try simp only [go_sem, Nat.reduceBEq, Nat.reduceAdd, Nat.reduceMul, Nat.reduceSub, Nat.reduceLeDiff, Nat.le_refl, implies_true, Nat.reduceLT, reduceIte, decide_true, decide_false, true_and, and_true, reduceCtorEq, Nat.mul_one, Int.reduceToNat, Int.reduceLE, Int.reduceLT, Int.reduceAdd, Int.reduceSub, Int.reduceMul, Int.cast_ofNat_Int, cast_zero_int, cast_one_int, Nat.reducePow, Nat.reduceEqDiff, Nat.reduceMod, Nat.zero_add, Nat.sub_zero, Nat.add_zero]
    exact ⟨⟨s', rfl, by omega⟩, agr_preW (List.prefix_append _ _) (gA.trans g4) (Nat.le_refl _)⟩
set_option maxRecDepth 20000 in
theorem c_DrawNodeList (b : Option Addr) (n : Nat) (hcode : CodeOk h b n) :
    vCall [] Tryd.prog M 23 [.slice b n 0] h (fun r h' => (∃ l : List Int, FI h.length h'.length h' r l ∧ l.length ≤ 9) ∧ h <+: h') := by
  refine body_of mo Tryd.func23 rfl (by kernel_rfl) (Nat.le_of_ble_eq_true (by kernel_rfl)) rfl ?_
  simp only [go_sem, Nat.reduceBEq, Nat.reduceAdd, Nat.reduceMul, Nat.reduceSub, Nat.reduceLeDiff, Nat.le_refl, implies_true, Nat.reduceLT, reduceIte, decide_true, decide_false, true_and, and_true, reduceCtorEq, Nat.mul_one, Int.reduceToNat, Int.reduceLE, Int.reduceLT, Int.reduceAdd, Int.reduceSub, Int.reduceMul, Int.cast_ofNat_Int, cast_zero_int, cast_one_int, Nat.reducePow, Nat.reduceEqDiff, Nat.reduceMod, Nat.zero_add, Nat.sub_zero, Nat.add_zero]
  refine ⟨by kernel_rfl, (d_nodes25 (St.start0W hcode) (Or.inl (Nat.le_refl _)) (by omega)).use (fun _ m => m) ?_⟩
  rintro _ H1 ⟨l, sid, rfl, ss, hl⟩
  try simp only [go_sem, Nat.reduceBEq, Nat.reduceAdd, Nat.reduceMul, Nat.reduceSub, Nat.reduceLeDiff, Nat.le_refl, implies_true, Nat.reduceLT, reduceIte, decide_true, decide_false, true_and, and_true, reduceCtorEq, Nat.mul_one, Int.reduceToNat, Int.reduceLE, Int.reduceLT, Int.reduceAdd, Int.reduceSub, Int.reduceMul, Int.cast_ofNat_Int, cast_zero_int, cast_one_int, Nat.reducePow, Nat.reduceEqDiff, Nat.reduceMod, Nat.zero_add, Nat.sub_zero, Nat.add_zero]
  exact ⟨⟨l, FI.at (by have := ss.low.1; simp at this; omega) (hget_lt ss.s) ss.s, hl⟩, agr_preW (List.prefix_append _ _) ss.out (Nat.le_refl _)⟩
set_option maxRecDepth 20000 in
theorem c_DrawIsValidSupply (b : Option Addr) (n : Nat) (hcode : CodeOk h b n) :
    vCall [] Tryd.prog M 38 [.slice b n 0] h (fun r h' => (∃ x y z : Int, r = .agg #[.int .i64 x, .int .i64 y, .int .i64 z]) ∧ h <+: h') := by
  have hown : own h.length M (h.length + 1) := Or.inl (Nat.le_succ _)
  refine body_of mo Tryd.func38 rfl (by kernel_rfl) (Nat.le_of_ble_eq_true (by kernel_rfl)) rfl ?_
  simp only [go_sem, Nat.reduceBEq, Nat.reduceAdd, Nat.reduceMul, Nat.reduceSub, Nat.reduceLeDiff, Nat.le_refl, implies_true, Nat.reduceLT, reduceIte, decide_true, decide_false, true_and, and_true, reduceCtorEq, Nat.mul_one, Int.reduceToNat, Int.reduceLE, Int.reduceLT, Int.reduceAdd, Int.reduceSub, Int.reduceMul, Int.cast_ofNat_Int, cast_zero_int, cast_one_int, Nat.reducePow, Nat.reduceEqDiff, Nat.reduceMod, Nat.zero_add, Nat.sub_zero, Nat.add_zero]
  have st : St (h ++ [supZ, ⟨[.slice b n 0, .int .i64 0, .int .u64 0], 3, .rw⟩]) (h.length + 1) n b 0 := ⟨⟨0, 0, hget_lit1, by omega, by omega⟩, hcode.app⟩
  refine ⟨by kernel_rfl, (d_pick _ st hown (by omega)).use (fun _ m => m) ?_⟩
  rintro _ H1 ⟨⟨m, rfl, m0, m1⟩, s1, g1⟩
  have z1 : hget H1 h.length = some supZ := agr_get g1 hget_lit0 (by omega)
  have L1 := g1.1
  simp only [List.length_append, List.length_cons, List.length_nil] at L1
  have w1 : IntKind.i64.wrap (1 + m) = 1 + m := wrap64 (by omega)
  try simp only [go_sem, Nat.reduceBEq, Nat.reduceAdd, Nat.reduceMul, Nat.reduceSub, Nat.reduceLeDiff, Nat.le_refl, implies_true, Nat.reduceLT, reduceIte, decide_true, decide_false, true_and, and_true, reduceCtorEq, Nat.mul_one, Int.reduceToNat, Int.reduceLE, Int.reduceLT, Int.reduceAdd, Int.reduceSub, Int.reduceMul, Int.cast_ofNat_Int, cast_zero_int, cast_one_int, Nat.reducePow, Nat.reduceEqDiff, Nat.reduceMod, Nat.zero_add, Nat.sub_zero, Nat.add_zero, w1]
  refine ⟨by kernel_rfl, (d_supply _ s1 hown (by omega)).use (fun _ m => m) ?_⟩
  rintro _ H2 ⟨⟨x, y, z, rfl⟩, s2, g2⟩
  have z2 := agr_get g2 z1 (by omega)
  simp only [go_sem, Nat.reduceBEq, Nat.reduceAdd, Nat.reduceMul, Nat.reduceSub, Nat.reduceLeDiff, Nat.le_refl, implies_true, Nat.reduceLT, reduceIte, decide_true, decide_false, true_and, and_true, reduceCtorEq, Nat.mul_one, Int.reduceToNat, Int.reduceLE, Int.reduceLT, Int.reduceAdd, Int.reduceSub, Int.reduceMul, Int.cast_ofNat_Int, cast_zero_int, cast_one_int, Nat.reducePow, Nat.reduceEqDiff, Nat.reduceMod, Nat.zero_add, Nat.sub_zero, Nat.add_zero, z2, supZ, own_ge (Nat.le_refl h.length), set_get z2]
  exact ⟨⟨x, y, z, rfl⟩, pre_setW (agr_preW (List.prefix_append _ _) (g1.trans g2) (by omega)) (Nat.le_refl _)⟩
theorem c_DrawSupplyText (b : Option Addr) (n : Nat) (hcode : CodeOk h b n) :
    vCall [] Tryd.prog M 11 [.slice b n 0] h (fun r h' => (∃ x y z : Int, r = .agg #[.int .i64 x, .int .i64 y, .int .i64 z]) ∧ h <+: h') := by
  refine body_of mo Tryd.func11 rfl (by kernel_rfl) (Nat.le_of_ble_eq_true (by kernel_rfl)) rfl ?_
  simp only [go_sem, Nat.reduceBEq, Nat.reduceAdd, Nat.reduceMul, Nat.reduceSub, Nat.reduceLeDiff, Nat.le_refl, implies_true, Nat.reduceLT, reduceIte, decide_true, decide_false, true_and, and_true, reduceCtorEq, Nat.mul_one, Int.reduceToNat, Int.reduceLE, Int.reduceLT, Int.reduceAdd, Int.reduceSub, Int.reduceMul, Int.cast_ofNat_Int, cast_zero_int, cast_one_int, Nat.reducePow, Nat.reduceEqDiff, Nat.reduceMod, Nat.zero_add, Nat.sub_zero, Nat.add_zero]
  refine ⟨by kernel_rfl, (c_DrawIsValidSupply b n (hcode.mono (by simp))).use (fun _ m => m) ?_⟩
  rintro _ H2 ⟨⟨x, y, z, rfl⟩, hp⟩
  have z2 : hget H2 h.length = some supZ := by rw [hget_prefix hp (by simp)]; exact hget_new
  simp only [go_sem, Nat.reduceBEq, Nat.reduceAdd, Nat.reduceMul, Nat.reduceSub, Nat.reduceLeDiff, Nat.le_refl, implies_true, Nat.reduceLT, reduceIte, decide_true, decide_false, true_and, and_true, reduceCtorEq, Nat.mul_one, Int.reduceToNat, Int.reduceLE, Int.reduceLT, Int.reduceAdd, Int.reduceSub, Int.reduceMul, Int.cast_ofNat_Int, cast_zero_int, cast_one_int, Nat.reducePow, Nat.reduceEqDiff, Nat.reduceMod, Nat.zero_add, Nat.sub_zero, Nat.add_zero, z2, supZ, own_ge (Nat.le_refl h.length), set_get z2]
  exact ⟨⟨x, y, z, rfl⟩, pre_setW ((List.prefix_append _ _).trans hp) (Nat.le_refl _)⟩
end
end Go.Proofs.YtfolkgkcaiaifaaDoor
