
/- Draws of archives: the values, and nothing else is changed. No condition. -/
import Derived.Test.YtjgekhahklidcaaDraw
import Derived.Test.YtjgekhahklidcaaArchive
namespace Go.Proofs.Ytjgekhahklidcaa
open Go.HH
set_option linter.unusedSimpArgs false
set_option linter.unusedVariables false

section
variable {h : Heap} {M : Nat → Prop}
set_option maxRecDepth 8000 in
theorem d_archive {id n B : Nat} {a : Option Addr} (s : St h id n a B) (hM : M id) (hB : B ≤ 100000) :
    vCall [] Try.prog M 74 [.pointer (some ⟨id, 0, none⟩)] h (fun r H' => (∃ (f : Int) (l : List Int) (w : Value), r = .agg #[.int .i64 f, w] ∧ FC h.length H'.length 1 l.length H' w (l.map iv) ∧ l.length ≤ 100) ∧ St H' id n a (B + 200) ∧ Agr id (id + 1) h H') := by
  have hid := s.lt
  have hown : own h.length M id := Or.inr hM
  refine body_ofR ([(14,[1,4,1006,1008]),(17,[1,4])]) mo Try.func74 rfl (by kernel_rfl) (Nat.le_of_ble_eq_true (by kernel_rfl)) rfl ?_
  try simp only [go_sem, Nat.reduceBEq, Nat.reduceAdd, Nat.reduceMul, Nat.reduceSub, Nat.reduceLeDiff, Nat.le_refl, implies_true, Nat.reduceLT, reduceIte, decide_true, decide_false, true_and, and_true, reduceCtorEq, Nat.mul_one, Int.reduceToNat, Int.reduceLE, Int.reduceLT, Int.reduceAdd, Int.reduceSub, Int.reduceMul, Int.cast_ofNat_Int, cast_zero_int, cast_one_int, Nat.reducePow, Nat.reduceEqDiff, Nat.reduceMod, Nat.zero_add, Nat.sub_zero, Nat.add_zero]
  refine ⟨by kernel_rfl, (d_among _ _ _ (s.app _) hown hget_lit1 rfl rfl (by simp) (by omega) (by omega) (by omega) (by omega)).use (fun _ m => m) ?_⟩
  rintro _ H1 ⟨⟨f, rfl⟩, s1, g1⟩
  have L1 : h.length ≤ H1.length := by have := g1.1; simp only [List.length_append] at this; omega
  have L2 : h.length + 2 ≤ H1.length := by have := g1.1; simpa using this
  try simp only [go_sem, Nat.reduceBEq, Nat.reduceAdd, Nat.reduceMul, Nat.reduceSub, Nat.reduceLeDiff, Nat.le_refl, implies_true, Nat.reduceLT, reduceIte, decide_true, decide_false, true_and, and_true, reduceCtorEq, Nat.mul_one, Int.reduceToNat, Int.reduceLE, Int.reduceLT, Int.reduceAdd, Int.reduceSub, Int.reduceMul, Int.cast_ofNat_Int, cast_zero_int, cast_one_int, Nat.reducePow, Nat.reduceEqDiff, Nat.reduceMod, Nat.zero_add, Nat.sub_zero, Nat.add_zero, own_base0 L1]
  have bs0 : Bst h (H1 ++ [⟨[.int .i64 f, .slice none 0 0], 2, .rw⟩]) id n a (B + 2) h.length H1.length ⟨[.int .i64 0, .slice none 0 0], 2, .rw⟩ (.int .i64 f) (.slice none 0 0) 1 0 [] :=
    ⟨s1.app _, (Agr.app.trans g1).trans Agr.app, self_get (agr_get g1 hget_lit0 (by omega)) _, hget_new, .nil, by omega⟩
  refine ⟨by kernel_rfl, (d_pick _ bs0.st hown (by omega)).use (fun _ m => m) ?_⟩
  rintro _ H2 ⟨⟨m, rfl, m0, m1⟩, s2, g2⟩
  have bs := bs0.step s2 g2
  have hm : m ≤ 9 := by omega
  try simp only [go_sem, Nat.reduceBEq, Nat.reduceAdd, Nat.reduceMul, Nat.reduceSub, Nat.reduceLeDiff, Nat.le_refl, implies_true, Nat.reduceLT, reduceIte, decide_true, decide_false, true_and, and_true, reduceCtorEq, Nat.mul_one, Int.reduceToNat, Int.reduceLE, Int.reduceLT, Int.reduceAdd, Int.reduceSub, Int.reduceMul, Int.cast_ofNat_Int, cast_zero_int, cast_one_int, Nat.reducePow, Nat.reduceEqDiff, Nat.reduceMod, Nat.zero_add, Nat.sub_zero, Nat.add_zero]
  refine vLoopR.count mo m.toNat (fun i e H => ∃ (v : Value) (l : List Int), e 0 = .pointer (some ⟨id, 0, none⟩) ∧ e 2 = .pointer (some ⟨h.length, 0, none⟩) ∧ e 3 = .pointer (some ⟨H1.length, 0, none⟩) ∧ e 4 = .int .i64 (m - i) ∧
    Bst h H id n a (B + 4 + 4 * i) h.length H1.length ⟨[.int .i64 0, .slice none 0 0], 2, .rw⟩ (.int .i64 f) v 1 l.length (l.map iv) ∧ l.length ≤ 4 * i) ?_ ?_
  · try simp only [go_sem, Nat.reduceBEq, Nat.reduceAdd, Nat.reduceMul, Nat.reduceSub, Nat.reduceLeDiff, Nat.le_refl, implies_true, Nat.reduceLT, reduceIte, decide_true, decide_false, true_and, and_true, reduceCtorEq, Nat.mul_one, Int.reduceToNat, Int.reduceLE, Int.reduceLT, Int.reduceAdd, Int.reduceSub, Int.reduceMul, Int.cast_ofNat_Int, cast_zero_int, cast_one_int, Nat.reducePow, Nat.reduceEqDiff, Nat.reduceMod, Nat.zero_add, Nat.sub_zero, Nat.add_zero]
    refine ⟨.slice none 0 0, [], ?_, ?_, ?_⟩
    · simp
    · simpa using bs
    · simp
  · rintro i e H hi ⟨v, l, e0, e2, e3, e4, bs, hl⟩
    try simp only [go_sem, Nat.reduceBEq, Nat.reduceAdd, Nat.reduceMul, Nat.reduceSub, Nat.reduceLeDiff, Nat.le_refl, implies_true, Nat.reduceLT, reduceIte, decide_true, decide_false, true_and, and_true, reduceCtorEq, Nat.mul_one, Int.reduceToNat, Int.reduceLE, Int.reduceLT, Int.reduceAdd, Int.reduceSub, Int.reduceMul, Int.cast_ofNat_Int, cast_zero_int, cast_one_int, Nat.reducePow, Nat.reduceEqDiff, Nat.reduceMod, Nat.zero_add, Nat.sub_zero, Nat.add_zero, e0, e2, e3, e4]
    refine .intro (fun h1 => ?_) (fun h1 => ?_)
    · have hlt : (i : Int) < m := by have := h1; simp at this; omega
      try simp only [go_sem, Nat.reduceBEq, Nat.reduceAdd, Nat.reduceMul, Nat.reduceSub, Nat.reduceLeDiff, Nat.le_refl, implies_true, Nat.reduceLT, reduceIte, decide_true, decide_false, true_and, and_true, reduceCtorEq, Nat.mul_one, Int.reduceToNat, Int.reduceLE, Int.reduceLT, Int.reduceAdd, Int.reduceSub, Int.reduceMul, Int.cast_ofNat_Int, cast_zero_int, cast_one_int, Nat.reducePow, Nat.reduceEqDiff, Nat.reduceMod, Nat.zero_add, Nat.sub_zero, Nat.add_zero, e0, e2, e3, e4]
      refine ⟨by kernel_rfl, (d_amongL _ _ bs.st hown rfl (by simp) (by omega) (by omega) (by omega)).use (fun _ m => m) ?_⟩
      rintro _ H3 ⟨⟨x, rfl⟩, s3, g3, l3⟩
      have bs3 := bs.step s3 g3
      try simp only [go_sem, Nat.reduceBEq, Nat.reduceAdd, Nat.reduceMul, Nat.reduceSub, Nat.reduceLeDiff, Nat.le_refl, implies_true, Nat.reduceLT, reduceIte, decide_true, decide_false, true_and, and_true, reduceCtorEq, Nat.mul_one, Int.reduceToNat, Int.reduceLE, Int.reduceLT, Int.reduceAdd, Int.reduceSub, Int.reduceMul, Int.cast_ofNat_Int, cast_zero_int, cast_one_int, Nat.reducePow, Nat.reduceEqDiff, Nat.reduceMod, Nat.zero_add, Nat.sub_zero, Nat.add_zero, e0, e2, e3, e4]
      refine ⟨by kernel_rfl, (d_pick _ bs3.st hown (by omega)).use (fun _ m => m) ?_⟩
      rintro _ H4 ⟨⟨y, rfl, y0, y1⟩, s4, g4⟩
      have bs4 := bs3.step s4 g4
      have e6 : IntKind.i64.wrap (1 + y) = 1 + y := wrap64 (by omega)
      try simp only [go_sem, Nat.reduceBEq, Nat.reduceAdd, Nat.reduceMul, Nat.reduceSub, Nat.reduceLeDiff, Nat.le_refl, implies_true, Nat.reduceLT, reduceIte, decide_true, decide_false, true_and, and_true, reduceCtorEq, Nat.mul_one, Int.reduceToNat, Int.reduceLE, Int.reduceLT, Int.reduceAdd, Int.reduceSub, Int.reduceMul, Int.cast_ofNat_Int, cast_zero_int, cast_one_int, Nat.reducePow, Nat.reduceEqDiff, Nat.reduceMod, Nat.zero_add, Nat.sub_zero, Nat.add_zero, e0, e2, e3, e4, e6]
      refine vLoopR.count mo (1 + y).toNat (fun j e H => ∃ (v : Value) (l : List Int), e 0 = .pointer (some ⟨id, 0, none⟩) ∧ e 2 = .pointer (some ⟨h.length, 0, none⟩) ∧ e 3 = .pointer (some ⟨H1.length, 0, none⟩) ∧ e 4 = .int .i64 (m - i) ∧ e 5 = .int .i64 x ∧ e 6 = .int .i64 (1 + y - j) ∧
        Bst h H id n a (B + 4 + 4 * i + 2 + 2) h.length H1.length ⟨[.int .i64 0, .slice none 0 0], 2, .rw⟩ (.int .i64 f) v 1 l.length (l.map iv) ∧ l.length ≤ 4 * i + j) ?_ ?_
      · try simp only [go_sem, Nat.reduceBEq, Nat.reduceAdd, Nat.reduceMul, Nat.reduceSub, Nat.reduceLeDiff, Nat.le_refl, implies_true, Nat.reduceLT, reduceIte, decide_true, decide_false, true_and, and_true, reduceCtorEq, Nat.mul_one, Int.reduceToNat, Int.reduceLE, Int.reduceLT, Int.reduceAdd, Int.reduceSub, Int.reduceMul, Int.cast_ofNat_Int, cast_zero_int, cast_one_int, Nat.reducePow, Nat.reduceEqDiff, Nat.reduceMod, Nat.zero_add, Nat.sub_zero, Nat.add_zero, e0, e2, e3, e4]
        exact ⟨_, l, by simp, bs4, by omega⟩
      · rintro j e H hj ⟨v, l, e0, e2, e3, e4, e5, e6, bs, hl⟩
        try simp only [go_sem, Nat.reduceBEq, Nat.reduceAdd, Nat.reduceMul, Nat.reduceSub, Nat.reduceLeDiff, Nat.le_refl, implies_true, Nat.reduceLT, reduceIte, decide_true, decide_false, true_and, and_true, reduceCtorEq, Nat.mul_one, Int.reduceToNat, Int.reduceLE, Int.reduceLT, Int.reduceAdd, Int.reduceSub, Int.reduceMul, Int.cast_ofNat_Int, cast_zero_int, cast_one_int, Nat.reducePow, Nat.reduceEqDiff, Nat.reduceMod, Nat.zero_add, Nat.sub_zero, Nat.add_zero, e0, e2, e3, e4, e5, e6]
        refine .intro (fun h1 => ?_) (fun h1 => ?_)
        · have hlt2 : (j : Int) < 1 + y := by have := h1; simp at this; omega
          have L3 : h.length ≤ H.length := bs.out.1
          rcases bs.s with ⟨rfl, n1, n2⟩ | ⟨sid, rfl, q1, q2, q3, q4⟩
          · try simp only [go_sem, Nat.reduceBEq, Nat.reduceAdd, Nat.reduceMul, Nat.reduceSub, Nat.reduceLeDiff, Nat.le_refl, implies_true, Nat.reduceLT, reduceIte, decide_true, decide_false, true_and, and_true, reduceCtorEq, Nat.mul_one, Int.reduceToNat, Int.reduceLE, Int.reduceLT, Int.reduceAdd, Int.reduceSub, Int.reduceMul, Int.cast_ofNat_Int, cast_zero_int, cast_one_int, Nat.reducePow, Nat.reduceEqDiff, Nat.reduceMod, Nat.zero_add, Nat.sub_zero, Nat.add_zero, e0, e2, e3, e4, e5, e6, bs.b, self_get bs.b, own_base0 L1]
            obtain rfl : l = [] := by simpa using n2
            refine ⟨by omega, .slice (some ⟨H.length + 1, 0, none⟩) 1 0, [x], by rw [wrap64 (by omega)]; congr 1; omega, ?_, by simp; omega⟩
            exact bs.app0 rfl
          · have o1 : own h.length M sid = True := own_ge (by omega)
            try simp only [go_sem, Nat.reduceBEq, Nat.reduceAdd, Nat.reduceMul, Nat.reduceSub, Nat.reduceLeDiff, Nat.le_refl, implies_true, Nat.reduceLT, reduceIte, decide_true, decide_false, true_and, and_true, reduceCtorEq, Nat.mul_one, Int.reduceToNat, Int.reduceLE, Int.reduceLT, Int.reduceAdd, Int.reduceSub, Int.reduceMul, Int.cast_ofNat_Int, cast_zero_int, cast_one_int, Nat.reducePow, Nat.reduceEqDiff, Nat.reduceMod, Nat.zero_add, Nat.sub_zero, Nat.add_zero, e0, e2, e3, e4, e5, e6, bs.b, self_get bs.b, own_base0 L1, self_get q3, o1, kill_get bs.b (show sid ≠ H1.length by omega), List.length_map]
            refine ⟨by omega, by omega, ?_⟩
            refine ⟨by omega, .slice (some ⟨H.length + 1, 0, none⟩) (l.length + 1) 0, l ++ [x], by rw [wrap64 (by omega)]; congr 1; omega, ?_, by simp; omega⟩
            rw [snoc_len, snoc_iv]; exact bs.app1 rfl
        · have hj2 : ¬ ((j : Int) < 1 + y) := by have := h1; simp at this; omega
          try simp only [go_sem, Nat.reduceBEq, Nat.reduceAdd, Nat.reduceMul, Nat.reduceSub, Nat.reduceLeDiff, Nat.le_refl, implies_true, Nat.reduceLT, reduceIte, decide_true, decide_false, true_and, and_true, reduceCtorEq, Nat.mul_one, Int.reduceToNat, Int.reduceLE, Int.reduceLT, Int.reduceAdd, Int.reduceSub, Int.reduceMul, Int.cast_ofNat_Int, cast_zero_int, cast_one_int, Nat.reducePow, Nat.reduceEqDiff, Nat.reduceMod, Nat.zero_add, Nat.sub_zero, Nat.add_zero, e0, e2, e3, e4, e5, e6]
          exact ⟨by omega, v, l, by rw [wrap64 (by omega)]; congr 1; omega, bs.step (bs.st.more (by omega)) Agr.refl, by omega⟩
    · have hm2 : ¬ ((i : Int) < m) := by have := h1; simp at this; omega
      try simp only [go_sem, Nat.reduceBEq, Nat.reduceAdd, Nat.reduceMul, Nat.reduceSub, Nat.reduceLeDiff, Nat.le_refl, implies_true, Nat.reduceLT, reduceIte, decide_true, decide_false, true_and, and_true, reduceCtorEq, Nat.mul_one, Int.reduceToNat, Int.reduceLE, Int.reduceLT, Int.reduceAdd, Int.reduceSub, Int.reduceMul, Int.cast_ofNat_Int, cast_zero_int, cast_one_int, Nat.reducePow, Nat.reduceEqDiff, Nat.reduceMod, Nat.zero_add, Nat.sub_zero, Nat.add_zero, e0, e2, e3, e4]
      refine ⟨by kernel_rfl, (d_pick _ bs.st hown (by omega)).use (fun _ m => m) ?_⟩
      rintro _ H3 ⟨⟨c, rfl, c0, c1⟩, s3, g3⟩
      have bs3 := bs.step s3 g3
      have fin : ∀ (H' : Heap) (f' : Int) (l' : List Int) (w : Value), Bst h H' id n a (B + 200) h.length H1.length ⟨[.int .i64 0, .slice none 0 0], 2, .rw⟩ (.int .i64 f') w 1 l'.length (l'.map iv) → l'.length ≤ 100 →
          (∃ (f : Int) (l : List Int) (w2 : Value), Value.agg #[.int .i64 f', w] = .agg #[.int .i64 f, w2] ∧ FC h.length (H'.set h.length ⟨[.int .i64 f', w], 2, .rw⟩).length 1 l.length (H'.set h.length ⟨[.int .i64 f', w], 2, .rw⟩) w2 (l.map iv) ∧ l.length ≤ 100) ∧
            St (H'.set h.length ⟨[.int .i64 f', w], 2, .rw⟩) id n a (B + 200) ∧ Agr id (id + 1) h (H'.set h.length ⟨[.int .i64 f', w], 2, .rw⟩) := fun H' f' l' w bs hl => by
        obtain ⟨d1, d2, d3, _⟩ := bs.done rfl ⟨[.int .i64 f', w], 2, .rw⟩
        exact ⟨⟨f', l', w, rfl, d3.wide (by omega) (Nat.le_refl _), hl⟩, d1, d2⟩
      by_cases hc0 : c = 0
      · try simp only [go_sem, Nat.reduceBEq, Nat.reduceAdd, Nat.reduceMul, Nat.reduceSub, Nat.reduceLeDiff, Nat.le_refl, implies_true, Nat.reduceLT, reduceIte, decide_true, decide_false, true_and, and_true, reduceCtorEq, Nat.mul_one, Int.reduceToNat, Int.reduceLE, Int.reduceLT, Int.reduceAdd, Int.reduceSub, Int.reduceMul, Int.cast_ofNat_Int, cast_zero_int, cast_one_int, Nat.reducePow, Nat.reduceEqDiff, Nat.reduceMod, Nat.zero_add, Nat.sub_zero, Nat.add_zero, e0, e2, e3, e4, show (c == 0) = true by simpa using hc0]
        refine ⟨by kernel_rfl, (d_amongL _ _ bs3.st hown rfl (by simp) (by omega) (by omega) (by omega)).use (fun _ m => m) ?_⟩
        rintro _ H4 ⟨⟨x, rfl⟩, s4, g4, l4⟩
        have bs5 := bs3.step s4 g4
        have bs4 := bs5.setx (.int .i64 x)
        try simp only [go_sem, Nat.reduceBEq, Nat.reduceAdd, Nat.reduceMul, Nat.reduceSub, Nat.reduceLeDiff, Nat.le_refl, implies_true, Nat.reduceLT, reduceIte, decide_true, decide_false, true_and, and_true, reduceCtorEq, Nat.mul_one, Int.reduceToNat, Int.reduceLE, Int.reduceLT, Int.reduceAdd, Int.reduceSub, Int.reduceMul, Int.cast_ofNat_Int, cast_zero_int, cast_one_int, Nat.reducePow, Nat.reduceEqDiff, Nat.reduceMod, Nat.zero_add, Nat.sub_zero, Nat.add_zero, e0, e2, e3, e4, bs5.b, bs4.b, bs4.r, bs4.s.one, set_get bs4.r, own_base0 L1, own_ge (Nat.le_refl h.length)]
        exact fin _ _ _ _ (bs4.step (bs4.st.more (by omega)) Agr.refl) (by omega)
      · by_cases hc1 : c = 1
        · try simp only [go_sem, Nat.reduceBEq, Nat.reduceAdd, Nat.reduceMul, Nat.reduceSub, Nat.reduceLeDiff, Nat.le_refl, implies_true, Nat.reduceLT, reduceIte, decide_true, decide_false, true_and, and_true, reduceCtorEq, Nat.mul_one, Int.reduceToNat, Int.reduceLE, Int.reduceLT, Int.reduceAdd, Int.reduceSub, Int.reduceMul, Int.cast_ofNat_Int, cast_zero_int, cast_one_int, Nat.reducePow, Nat.reduceEqDiff, Nat.reduceMod, Nat.zero_add, Nat.sub_zero, Nat.add_zero, e0, e2, e3, e4, show (c == 0) = false by simpa using hc0, show (c == 1) = true by simpa using hc1, bs3.b, self_get bs3.b]
          refine ⟨by kernel_rfl, (d_amongL _ _ bs3.st hown rfl (by simp) (by omega) (by omega) (by omega)).use (fun _ m => m) ?_⟩
          rintro _ H4 ⟨⟨x, rfl⟩, s4, g4, l4⟩
          have bs5 := bs3.step s4 g4
          have l5 : H3.length ≤ H4.length := by omega
          rcases bs5.s with ⟨rfl, n1, n2⟩ | ⟨sid, rfl, q1, q2, q3, q4⟩
          · obtain rfl : l = [] := by simpa using n2
            have bz := bs5.app0 (new := [.int .i64 x]) rfl
            try simp only [go_sem, Nat.reduceBEq, Nat.reduceAdd, Nat.reduceMul, Nat.reduceSub, Nat.reduceLeDiff, Nat.le_refl, implies_true, Nat.reduceLT, reduceIte, decide_true, decide_false, true_and, and_true, reduceCtorEq, Nat.mul_one, Int.reduceToNat, Int.reduceLE, Int.reduceLT, Int.reduceAdd, Int.reduceSub, Int.reduceMul, Int.cast_ofNat_Int, cast_zero_int, cast_one_int, Nat.reducePow, Nat.reduceEqDiff, Nat.reduceMod, Nat.zero_add, Nat.sub_zero, Nat.add_zero, e0, e2, e3, e4, bs3.b, bs5.b, self_get bs3.b, self_get bs5.b, l4, l5, bz.b, bz.r, set_get bz.r, bz.s.one, own_base0 L1, own_ge (Nat.le_refl h.length)]
            exact fin _ _ [x] _ (bz.step (bz.st.more (by omega)) Agr.refl) (by simp)
          · have o1 : own h.length M sid = True := own_ge (by omega)
            have bz := bs5.app1 (new := [.int .i64 x]) rfl
            try simp only [go_sem, Nat.reduceBEq, Nat.reduceAdd, Nat.reduceMul, Nat.reduceSub, Nat.reduceLeDiff, Nat.le_refl, implies_true, Nat.reduceLT, reduceIte, decide_true, decide_false, true_and, and_true, reduceCtorEq, Nat.mul_one, Int.reduceToNat, Int.reduceLE, Int.reduceLT, Int.reduceAdd, Int.reduceSub, Int.reduceMul, Int.cast_ofNat_Int, cast_zero_int, cast_one_int, Nat.reducePow, Nat.reduceEqDiff, Nat.reduceMod, Nat.zero_add, Nat.sub_zero, Nat.add_zero, e0, e2, e3, e4, bs3.b, bs5.b, self_get bs3.b, self_get bs5.b, self_get q3, o1, kill_get bs5.b (show sid ≠ H1.length by omega), List.length_map, l4, l5, bz.b, bz.r, set_get bz.r, bz.s.one, own_base0 L1, own_ge (Nat.le_refl h.length)]
            refine ⟨by omega, by omega, ?_⟩
            exact fin _ _ (l ++ [x]) _ (by rw [snoc_len, snoc_iv]; exact bz.step (bz.st.more (by omega)) Agr.refl) (by simp; omega)
        · by_cases hc2 : c = 2
          · have bs4 := bs3.setx (.int .i64 0)
            try simp only [go_sem, Nat.reduceBEq, Nat.reduceAdd, Nat.reduceMul, Nat.reduceSub, Nat.reduceLeDiff, Nat.le_refl, implies_true, Nat.reduceLT, reduceIte, decide_true, decide_false, true_and, and_true, reduceCtorEq, Nat.mul_one, Int.reduceToNat, Int.reduceLE, Int.reduceLT, Int.reduceAdd, Int.reduceSub, Int.reduceMul, Int.cast_ofNat_Int, cast_zero_int, cast_one_int, Nat.reducePow, Nat.reduceEqDiff, Nat.reduceMod, Nat.zero_add, Nat.sub_zero, Nat.add_zero, e0, e2, e3, e4, show (c == 0) = false by simpa using hc0, show (c == 1) = false by simpa using hc1, show (c == 2) = true by simpa using hc2, bs3.b, bs4.b, own_base0 L1, own_ge (Nat.le_refl h.length)]
            refine vLoopR.count mo 32 (fun i e H => ∃ (v : Value) (l : List Int), e 0 = .pointer (some ⟨id, 0, none⟩) ∧ e 2 = .pointer (some ⟨h.length, 0, none⟩) ∧ e 3 = .pointer (some ⟨H1.length, 0, none⟩) ∧
              Bst h H id n a (B + 60 + 2 * i) h.length H1.length ⟨[.int .i64 0, .slice none 0 0], 2, .rw⟩ (.int .i64 0) v 1 l.length (l.map iv) ∧ i ≤ l.length ∧ l.length ≤ 40) ?_ ?_
            · try simp only [go_sem, Nat.reduceBEq, Nat.reduceAdd, Nat.reduceMul, Nat.reduceSub, Nat.reduceLeDiff, Nat.le_refl, implies_true, Nat.reduceLT, reduceIte, decide_true, decide_false, true_and, and_true, reduceCtorEq, Nat.mul_one, Int.reduceToNat, Int.reduceLE, Int.reduceLT, Int.reduceAdd, Int.reduceSub, Int.reduceMul, Int.cast_ofNat_Int, cast_zero_int, cast_one_int, Nat.reducePow, Nat.reduceEqDiff, Nat.reduceMod, Nat.zero_add, Nat.sub_zero, Nat.add_zero, e0, e2, e3, e4]
              exact ⟨v, l, bs4.step (bs4.st.more (by omega)) Agr.refl, by omega, by omega⟩
            · rintro i e H hi ⟨v, l, e0, e2, e3, bs, hl, hl2⟩
              obtain ⟨av, rfl⟩ := bs.s.len
              try simp only [go_sem, Nat.reduceBEq, Nat.reduceAdd, Nat.reduceMul, Nat.reduceSub, Nat.reduceLeDiff, Nat.le_refl, implies_true, Nat.reduceLT, reduceIte, decide_true, decide_false, true_and, and_true, reduceCtorEq, Nat.mul_one, Int.reduceToNat, Int.reduceLE, Int.reduceLT, Int.reduceAdd, Int.reduceSub, Int.reduceMul, Int.cast_ofNat_Int, cast_zero_int, cast_one_int, Nat.reducePow, Nat.reduceEqDiff, Nat.reduceMod, Nat.zero_add, Nat.sub_zero, Nat.add_zero, e0, e2, e3, bs.b]
              refine ⟨by kernel_rfl, (d_pick _ bs.st hown (by omega)).use (fun _ m => m) ?_⟩
              rintro _ H5 ⟨⟨y, rfl, y0, y1⟩, s5, g5⟩
              have bs5 := bs.step s5 g5
              have l5 := g5.1
              have e6 : IntKind.i64.wrap (30 + y) = 30 + y := wrap64 (by omega)
              try simp only [go_sem, Nat.reduceBEq, Nat.reduceAdd, Nat.reduceMul, Nat.reduceSub, Nat.reduceLeDiff, Nat.le_refl, implies_true, Nat.reduceLT, reduceIte, decide_true, decide_false, true_and, and_true, reduceCtorEq, Nat.mul_one, Int.reduceToNat, Int.reduceLE, Int.reduceLT, Int.reduceAdd, Int.reduceSub, Int.reduceMul, Int.cast_ofNat_Int, cast_zero_int, cast_one_int, Nat.reducePow, Nat.reduceEqDiff, Nat.reduceMod, Nat.zero_add, Nat.sub_zero, Nat.add_zero, e0, e2, e3, bs.b, bs5.b, l5, e6]
              refine .intro (fun h1 => ?_) (fun h1 => ?_)
              · have hlt : (l.length : Int) < 30 + y := by have := h1; simp at this; omega
                rcases bs5.s with ⟨ev, n1, n2⟩ | ⟨sid, ev, q1, q2, q3, q4⟩
                · obtain rfl : l = [] := by simpa using n2
                  obtain rfl : av = none := by simpa using ev
                  have bz := bs5.app0 (new := [.int .i64 1]) rfl
                  try simp only [go_sem, Nat.reduceBEq, Nat.reduceAdd, Nat.reduceMul, Nat.reduceSub, Nat.reduceLeDiff, Nat.le_refl, implies_true, Nat.reduceLT, reduceIte, decide_true, decide_false, true_and, and_true, reduceCtorEq, Nat.mul_one, Int.reduceToNat, Int.reduceLE, Int.reduceLT, Int.reduceAdd, Int.reduceSub, Int.reduceMul, Int.cast_ofNat_Int, cast_zero_int, cast_one_int, Nat.reducePow, Nat.reduceEqDiff, Nat.reduceMod, Nat.zero_add, Nat.sub_zero, Nat.add_zero, e0, e2, e3, bs5.b, self_get bs5.b, own_base0 L1]
                  refine ⟨by simp at hl; omega, .slice (some ⟨H5.length + 1, 0, none⟩) 1 0, [1], ?_, by simp at hl ⊢; omega, by simp⟩
                  exact bz.step (bz.st.more (by omega)) Agr.refl
                · obtain rfl : av = some ⟨sid, 0, none⟩ := by simpa using ev
                  have o1 : own h.length M sid = True := own_ge (by omega)
                  have bz := bs5.app1 (new := [.int .i64 1]) rfl
                  try simp only [go_sem, Nat.reduceBEq, Nat.reduceAdd, Nat.reduceMul, Nat.reduceSub, Nat.reduceLeDiff, Nat.le_refl, implies_true, Nat.reduceLT, reduceIte, decide_true, decide_false, true_and, and_true, reduceCtorEq, Nat.mul_one, Int.reduceToNat, Int.reduceLE, Int.reduceLT, Int.reduceAdd, Int.reduceSub, Int.reduceMul, Int.cast_ofNat_Int, cast_zero_int, cast_one_int, Nat.reducePow, Nat.reduceEqDiff, Nat.reduceMod, Nat.zero_add, Nat.sub_zero, Nat.add_zero, e0, e2, e3, bs5.b, self_get bs5.b, own_base0 L1, self_get q3, o1, kill_get bs5.b (show sid ≠ H1.length by omega), List.length_map]
                  refine ⟨by omega, by omega, by omega, .slice (some ⟨H5.length + 1, 0, none⟩) (l.length + 1) 0, l ++ [1], ?_, by simp; omega, by simp; omega⟩
                  rw [snoc_len, snoc_iv]; exact bz.step (bz.st.more (by omega)) Agr.refl
              · try simp only [go_sem, Nat.reduceBEq, Nat.reduceAdd, Nat.reduceMul, Nat.reduceSub, Nat.reduceLeDiff, Nat.le_refl, implies_true, Nat.reduceLT, reduceIte, decide_true, decide_false, true_and, and_true, reduceCtorEq, Nat.mul_one, Int.reduceToNat, Int.reduceLE, Int.reduceLT, Int.reduceAdd, Int.reduceSub, Int.reduceMul, Int.cast_ofNat_Int, cast_zero_int, cast_one_int, Nat.reducePow, Nat.reduceEqDiff, Nat.reduceMod, Nat.zero_add, Nat.sub_zero, Nat.add_zero, e0, e2, e3, bs5.b, self_get bs5.b, bs5.r, bs5.s.one, set_get bs5.r, own_base0 L1, own_ge (Nat.le_refl h.length)]
                exact fin _ _ _ _ (bs5.step (bs5.st.more (by omega)) Agr.refl) (by omega)
          · try simp only [go_sem, Nat.reduceBEq, Nat.reduceAdd, Nat.reduceMul, Nat.reduceSub, Nat.reduceLeDiff, Nat.le_refl, implies_true, Nat.reduceLT, reduceIte, decide_true, decide_false, true_and, and_true, reduceCtorEq, Nat.mul_one, Int.reduceToNat, Int.reduceLE, Int.reduceLT, Int.reduceAdd, Int.reduceSub, Int.reduceMul, Int.cast_ofNat_Int, cast_zero_int, cast_one_int, Nat.reducePow, Nat.reduceEqDiff, Nat.reduceMod, Nat.zero_add, Nat.sub_zero, Nat.add_zero, e0, e2, e3, e4, show (c == 0) = false by simpa using hc0, show (c == 1) = false by simpa using hc1, show (c == 2) = false by simpa using hc2, bs3.b, bs3.r, bs3.s.one, set_get bs3.r, own_base0 L1, own_ge (Nat.le_refl h.length)]
            exact fin _ _ _ _ (bs3.step (bs3.st.more (by omega)) Agr.refl) (by omega)
end
end Go.Proofs.Ytjgekhahklidcaa
