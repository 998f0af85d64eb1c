
/- Draws of networks. No condition. -/
import Derived.Test.YtjgekhahklidcaaDraw
import Derived.Test.YtjgekhahklidcaaNet
namespace Go.Proofs.Ytjgekhahklidcaa
open Go.HH
set_option linter.unusedSimpArgs false
set_option linter.unusedVariables false

def flP (l : List Pip) : List Value := (l.map pip).flatten
theorem flP_snoc {l : List Pip} {p : Pip} : flP (l ++ [p]) = flP l ++ pip p := by simp [flP]
theorem flP_len {l : List Pip} : (flP l).length = l.length * 4 := by
  induction l with
  | nil => rfl
  | cons x l ih => simp only [flP, List.map_cons, List.flatten_cons, List.length_append, List.length_cons] at ih ⊢; rw [ih]; simp [pip]; omega
theorem snoc_lenP {l : List Pip} {x : Pip} : (l ++ [x]).length = l.length + 1 := by simp

section
variable {h : Heap} {M : Nat → Prop}
set_option maxRecDepth 8000 in
set_option maxHeartbeats 2000000 in
theorem d_network {id n B : Nat} {a : Option Addr} (s : St h id n a B) (hM : M id) (hB : B ≤ 100000) :
    vCall [] Try.prog M 84 [.pointer (some ⟨id, 0, none⟩)] h (fun r H' => (∃ (N : Int) (l : List Pip) (w : Value), r = .agg #[.int .i64 N, w] ∧ FC h.length H'.length 4 l.length H' w (flP l) ∧ l.length ≤ 20) ∧ St H' id n a (B + 200) ∧ Agr id (id + 1) h H') := by
  have hid := s.lt
  have hown : own h.length M id := Or.inr hM
  refine body_ofR ([(17,[1,6,10,1014,1016])]) mo Try.func84 rfl (by kernel_rfl) (Nat.le_of_ble_eq_true (by kernel_rfl)) rfl ?_
  simp only [go_sem, Nat.reduceBEq, Nat.reduceAdd, Nat.reduceMul, Nat.reduceSub, Nat.reduceLeDiff, Nat.le_refl, implies_true, Nat.reduceLT, reduceIte, decide_true, decide_false, true_and, and_true, reduceCtorEq, Nat.mul_one, Int.reduceToNat, Int.reduceLE, Int.reduceLT, Int.reduceAdd, Int.reduceSub, Int.reduceMul, Int.cast_ofNat_Int, cast_zero_int, cast_one_int, Nat.reducePow, Nat.reduceEqDiff, Nat.reduceMod, Nat.zero_add, Nat.sub_zero, Nat.add_zero]
  refine ⟨by kernel_rfl, (d_pick _ (s.app _) hown (by omega)).use (fun _ m => m) ?_⟩
  rintro _ H1 ⟨⟨m, rfl, m0, m1⟩, s1, g1⟩
  have L1 : h.length ≤ H1.length := by have := g1.1; simp only [List.length_append] at this; omega
  have L2 : h.length + 1 ≤ H1.length := by have := g1.1; simpa using this
  have e1 : IntKind.i64.wrap (1 + m) = 1 + m := wrap64 (by omega)
  simp only [go_sem, Nat.reduceBEq, Nat.reduceAdd, Nat.reduceMul, Nat.reduceSub, Nat.reduceLeDiff, Nat.le_refl, implies_true, Nat.reduceLT, reduceIte, decide_true, decide_false, true_and, and_true, reduceCtorEq, Nat.mul_one, Int.reduceToNat, Int.reduceLE, Int.reduceLT, Int.reduceAdd, Int.reduceSub, Int.reduceMul, Int.cast_ofNat_Int, cast_zero_int, cast_one_int, Nat.reducePow, Nat.reduceEqDiff, Nat.reduceMod, Nat.zero_add, Nat.sub_zero, Nat.add_zero, own_base0 L1, e1]
  have bs : Bst h (H1 ++ [⟨[.int .i64 (1 + m), .slice none 0 0], 2, .rw⟩]) id n a (B + 2) h.length H1.length ⟨[.int .i64 0, .slice none 0 0], 2, .rw⟩ (.int .i64 (1 + m)) (.slice none 0 0) 4 0 [] :=
    ⟨s1.app _, (Agr.app.trans g1).trans Agr.app, self_get (agr_get g1 hget_new (by omega)) _, hget_new, .nil, by omega⟩
  refine vLoopR.count mo 8 (fun i e H => ∃ (v : Value) (l : List Pip) (q : Int), e 0 = .pointer (some ⟨id, 0, none⟩) ∧ e 2 = .pointer (some ⟨h.length, 0, none⟩) ∧ e 3 = .pointer (some ⟨H1.length, 0, none⟩) ∧ e 4 = .int .i64 q ∧ e 5 = .int .i64 (2 + i) ∧
    Bst h H id n a (B + 4 + 10 * i) h.length H1.length ⟨[.int .i64 0, .slice none 0 0], 2, .rw⟩ (.int .i64 (1 + m)) v 4 l.length (flP l) ∧ l.length ≤ i) ?_ ?_
  · simp only [go_sem, Nat.reduceBEq, Nat.reduceAdd, Nat.reduceMul, Nat.reduceSub, Nat.reduceLeDiff, Nat.le_refl, implies_true, Nat.reduceLT, reduceIte, decide_true, decide_false, true_and, and_true, reduceCtorEq, Nat.mul_one, Int.reduceToNat, Int.reduceLE, Int.reduceLT, Int.reduceAdd, Int.reduceSub, Int.reduceMul, Int.cast_ofNat_Int, cast_zero_int, cast_one_int, Nat.reducePow, Nat.reduceEqDiff, Nat.reduceMod, Nat.zero_add, Nat.sub_zero, Nat.add_zero]
    exact ⟨.slice none 0 0, [], 0, rfl, bs.step (bs.st.more (by omega)) Agr.refl, by simp⟩
  · rintro i e H hi ⟨v, l, q, e0, e2, e3, e4, e5, bs, hl⟩
    try simp only [go_sem, Nat.reduceBEq, Nat.reduceAdd, Nat.reduceMul, Nat.reduceSub, Nat.reduceLeDiff, Nat.le_refl, implies_true, Nat.reduceLT, reduceIte, decide_true, decide_false, true_and, and_true, reduceCtorEq, Nat.mul_one, Int.reduceToNat, Int.reduceLE, Int.reduceLT, Int.reduceAdd, Int.reduceSub, Int.reduceMul, Int.cast_ofNat_Int, cast_zero_int, cast_one_int, Nat.reducePow, Nat.reduceEqDiff, Nat.reduceMod, Nat.zero_add, Nat.sub_zero, Nat.add_zero, e0, e2, e3, e4, e5, bs.b]
    refine .intro (fun h1 => ?_) (fun h1 => ?_)
    · have hlt : 2 + (i : Int) ≤ 1 + m := by simpa using h1
      try simp only [go_sem, Nat.reduceBEq, Nat.reduceAdd, Nat.reduceMul, Nat.reduceSub, Nat.reduceLeDiff, Nat.le_refl, implies_true, Nat.reduceLT, reduceIte, decide_true, decide_false, true_and, and_true, reduceCtorEq, Nat.mul_one, Int.reduceToNat, Int.reduceLE, Int.reduceLT, Int.reduceAdd, Int.reduceSub, Int.reduceMul, Int.cast_ofNat_Int, cast_zero_int, cast_one_int, Nat.reducePow, Nat.reduceEqDiff, Nat.reduceMod, Nat.zero_add, Nat.sub_zero, Nat.add_zero, e0, e2, e3, e4, e5, bs.b]
      refine ⟨by kernel_rfl, (d_one _ bs.st hown (by omega)).use (fun _ m => m) ?_⟩
      rintro _ H3 ⟨⟨g, rfl⟩, s3, g3⟩
      have bs3 := bs.step s3 g3
      cases g with
      | true =>
        try simp only [go_sem, Nat.reduceBEq, Nat.reduceAdd, Nat.reduceMul, Nat.reduceSub, Nat.reduceLeDiff, Nat.le_refl, implies_true, Nat.reduceLT, reduceIte, decide_true, decide_false, true_and, and_true, reduceCtorEq, Nat.mul_one, Int.reduceToNat, Int.reduceLE, Int.reduceLT, Int.reduceAdd, Int.reduceSub, Int.reduceMul, Int.cast_ofNat_Int, cast_zero_int, cast_one_int, Nat.reducePow, Nat.reduceEqDiff, Nat.reduceMod, Nat.zero_add, Nat.sub_zero, Nat.add_zero, e0, e2, e3, e4, e5]
        exact ⟨by omega, v, l, q, rfl, by rw [wrap64 (by omega)]; congr 1, bs3.step (bs3.st.more (by omega)) Agr.refl, by omega⟩
      | false =>
        try simp only [go_sem, Nat.reduceBEq, Nat.reduceAdd, Nat.reduceMul, Nat.reduceSub, Nat.reduceLeDiff, Nat.le_refl, implies_true, Nat.reduceLT, reduceIte, decide_true, decide_false, true_and, and_true, reduceCtorEq, Nat.mul_one, Int.reduceToNat, Int.reduceLE, Int.reduceLT, Int.reduceAdd, Int.reduceSub, Int.reduceMul, Int.cast_ofNat_Int, cast_zero_int, cast_one_int, Nat.reducePow, Nat.reduceEqDiff, Nat.reduceMod, Nat.zero_add, Nat.sub_zero, Nat.add_zero, e0, e2, e3, e4, e5]
        refine ⟨by kernel_rfl, (d_pick _ bs3.st hown (by omega)).use (fun _ m => m) ?_⟩
        rintro _ H4 ⟨⟨x, rfl, x0, x1⟩, s4, g4⟩
        have bs4 := bs3.step s4 g4
        try simp only [go_sem, Nat.reduceBEq, Nat.reduceAdd, Nat.reduceMul, Nat.reduceSub, Nat.reduceLeDiff, Nat.le_refl, implies_true, Nat.reduceLT, reduceIte, decide_true, decide_false, true_and, and_true, reduceCtorEq, Nat.mul_one, Int.reduceToNat, Int.reduceLE, Int.reduceLT, Int.reduceAdd, Int.reduceSub, Int.reduceMul, Int.cast_ofNat_Int, cast_zero_int, cast_one_int, Nat.reducePow, Nat.reduceEqDiff, Nat.reduceMod, Nat.zero_add, Nat.sub_zero, Nat.add_zero, e0, e2, e3, e4, e5]
        refine ⟨by kernel_rfl, (d_pick _ bs4.st hown (by omega)).use (fun _ m => m) ?_⟩
        rintro _ H5 ⟨⟨y, rfl, y0, y1⟩, s5, g5⟩
        have bs5 := bs4.step s5 g5
        try simp only [go_sem, Nat.reduceBEq, Nat.reduceAdd, Nat.reduceMul, Nat.reduceSub, Nat.reduceLeDiff, Nat.le_refl, implies_true, Nat.reduceLT, reduceIte, decide_true, decide_false, true_and, and_true, reduceCtorEq, Nat.mul_one, Int.reduceToNat, Int.reduceLE, Int.reduceLT, Int.reduceAdd, Int.reduceSub, Int.reduceMul, Int.cast_ofNat_Int, cast_zero_int, cast_one_int, Nat.reducePow, Nat.reduceEqDiff, Nat.reduceMod, Nat.zero_add, Nat.sub_zero, Nat.add_zero, e0, e2, e3, e4, e5]
        refine ⟨by kernel_rfl, (d_pick _ bs5.st hown (by omega)).use (fun _ m => m) ?_⟩
        rintro _ H6 ⟨⟨z, rfl, z0, z1⟩, s6, g6⟩
        have bs6 := bs5.step s6 g6
        have L6 : h.length ≤ H6.length := bs6.out.1
        obtain ⟨qb, hqb⟩ : ∃ w, IntKind.i64.wrap (1 + y) = w := ⟨_, rfl⟩
        obtain ⟨qc, hqc⟩ : ∃ w, IntKind.i64.wrap (1 + z) = w := ⟨_, rfl⟩
        try simp only [go_sem, Nat.reduceBEq, Nat.reduceAdd, Nat.reduceMul, Nat.reduceSub, Nat.reduceLeDiff, Nat.le_refl, implies_true, Nat.reduceLT, reduceIte, decide_true, decide_false, true_and, and_true, reduceCtorEq, Nat.mul_one, Int.reduceToNat, Int.reduceLE, Int.reduceLT, Int.reduceAdd, Int.reduceSub, Int.reduceMul, Int.cast_ofNat_Int, cast_zero_int, cast_one_int, Nat.reducePow, Nat.reduceEqDiff, Nat.reduceMod, Nat.zero_add, Nat.sub_zero, Nat.add_zero, e0, e2, e3, e4, e5, own_ge L6, hqb, hqc]
        refine ⟨by kernel_rfl, (d_one _ (bs6.st.app _) hown (by omega)).use (fun _ m => m) ?_⟩
        rintro _ H7 ⟨⟨g, rfl⟩, s7, g7⟩
        have k7 := agr_get g7 hget_new (by have := bs6.st.lt; omega)
        have g7' := (Agr.app (t := [_])).trans g7
        cases g with
        | true =>
          have k8 := set_get k7 (⟨[.int .i64 (IntKind.i64.wrap (IntKind.i64.wrap (q + 1) + x)), .int .i64 (2 + (i : Int)), .int .i64 qb, .int .i64 qc], 4, .rw⟩ : Blk)
          have bs7 := bs6.step (s7.set (b := ⟨[.int .i64 (IntKind.i64.wrap (IntKind.i64.wrap (q + 1) + x)), .int .i64 (2 + (i : Int)), .int .i64 qb, .int .i64 qc], 4, .rw⟩) k7 rfl (by omega)) (agr_set_out g7' (Nat.le_refl _))
          obtain ⟨H8, hH8⟩ : ∃ X, List.set H7 (List.length H6) (⟨[.int .i64 (IntKind.i64.wrap (IntKind.i64.wrap (q + 1) + x)), .int .i64 (2 + (i : Int)), .int .i64 qb, .int .i64 qc], 4, .rw⟩ : Blk) = X := ⟨_, rfl⟩
          rw [hH8] at bs7 k8
          try simp only [go_sem, Nat.reduceBEq, Nat.reduceAdd, Nat.reduceMul, Nat.reduceSub, Nat.reduceLeDiff, Nat.le_refl, implies_true, Nat.reduceLT, reduceIte, decide_true, decide_false, true_and, and_true, reduceCtorEq, Nat.mul_one, Int.reduceToNat, Int.reduceLE, Int.reduceLT, Int.reduceAdd, Int.reduceSub, Int.reduceMul, Int.cast_ofNat_Int, cast_zero_int, cast_one_int, Nat.reducePow, Nat.reduceEqDiff, Nat.reduceMod, Nat.zero_add, Nat.sub_zero, Nat.add_zero, e0, e2, e3, e4, e5, k7, own_ge L6, hH8]
          have L8 : h.length ≤ H8.length := bs7.out.1
          rcases bs7.s with ⟨rfl, n1, n2⟩ | ⟨sid, rfl, q1, q2, q3, q4⟩
          · obtain rfl : l = [] := by simpa using n1
            have bz := bs7.app0 (new := pip (IntKind.i64.wrap (IntKind.i64.wrap (q + 1) + x), 2 + (i : Int), qb, qc)) rfl
            try simp only [go_sem, Nat.reduceBEq, Nat.reduceAdd, Nat.reduceMul, Nat.reduceSub, Nat.reduceLeDiff, Nat.le_refl, implies_true, Nat.reduceLT, reduceIte, decide_true, decide_false, true_and, and_true, reduceCtorEq, Nat.mul_one, Int.reduceToNat, Int.reduceLE, Int.reduceLT, Int.reduceAdd, Int.reduceSub, Int.reduceMul, Int.cast_ofNat_Int, cast_zero_int, cast_one_int, Nat.reducePow, Nat.reduceEqDiff, Nat.reduceMod, Nat.zero_add, Nat.sub_zero, Nat.add_zero, e0, e2, e3, e4, e5, bs7.b, self_get bs7.b, own_base0 L1, k8, self_get k8, hH8]
            exact ⟨by omega, .slice (some ⟨H8.length + 1, 0, none⟩) 1 0, [(IntKind.i64.wrap (IntKind.i64.wrap (q + 1) + x), 2 + (i : Int), qb, qc)], _, rfl, by rw [wrap64 (by omega)]; congr 1 <;> omega, bz.step (bz.st.more (by omega)) Agr.refl, by simp⟩
          · have o1 : own h.length M sid = True := own_ge (by omega)
            have bz := bs7.app1 (new := pip (IntKind.i64.wrap (IntKind.i64.wrap (q + 1) + x), 2 + (i : Int), qb, qc)) rfl
            try simp only [go_sem, Nat.reduceBEq, Nat.reduceAdd, Nat.reduceMul, Nat.reduceSub, Nat.reduceLeDiff, Nat.le_refl, implies_true, Nat.reduceLT, reduceIte, decide_true, decide_false, true_and, and_true, reduceCtorEq, Nat.mul_one, Int.reduceToNat, Int.reduceLE, Int.reduceLT, Int.reduceAdd, Int.reduceSub, Int.reduceMul, Int.cast_ofNat_Int, cast_zero_int, cast_one_int, Nat.reducePow, Nat.reduceEqDiff, Nat.reduceMod, Nat.zero_add, Nat.sub_zero, Nat.add_zero, e0, e2, e3, e4, e5, bs7.b, self_get bs7.b, own_base0 L1, self_get q3, o1, kill_get bs7.b (show sid ≠ H1.length by omega), flP_len, k8, self_get k8, hH8]
            refine ⟨by omega, by omega, by omega, .slice (some ⟨H8.length + 1, 0, none⟩) (l.length + 1) 0, l ++ [(IntKind.i64.wrap (IntKind.i64.wrap (q + 1) + x), 2 + (i : Int), qb, qc)], _, rfl, by rw [wrap64 (by omega)]; congr 1 <;> omega, ?_, by simp; omega⟩
            rw [snoc_lenP, flP_snoc]; exact bz.step (bz.st.more (by omega)) Agr.refl
        | false =>
          have bs7 := bs6.step s7 g7'
          have L8 : h.length ≤ H7.length := bs7.out.1
          try simp only [go_sem, Nat.reduceBEq, Nat.reduceAdd, Nat.reduceMul, Nat.reduceSub, Nat.reduceLeDiff, Nat.le_refl, implies_true, Nat.reduceLT, reduceIte, decide_true, decide_false, true_and, and_true, reduceCtorEq, Nat.mul_one, Int.reduceToNat, Int.reduceLE, Int.reduceLT, Int.reduceAdd, Int.reduceSub, Int.reduceMul, Int.cast_ofNat_Int, cast_zero_int, cast_one_int, Nat.reducePow, Nat.reduceEqDiff, Nat.reduceMod, Nat.zero_add, Nat.sub_zero, Nat.add_zero, e0, e2, e3, e4, e5, k7, own_ge L6]
          rcases bs7.s with ⟨rfl, n1, n2⟩ | ⟨sid, rfl, q1, q2, q3, q4⟩
          · obtain rfl : l = [] := by simpa using n1
            have bz := bs7.app0 (new := pip (IntKind.i64.wrap (IntKind.i64.wrap (q + 1) + x), qb, 2 + (i : Int), qc)) rfl
            try simp only [go_sem, Nat.reduceBEq, Nat.reduceAdd, Nat.reduceMul, Nat.reduceSub, Nat.reduceLeDiff, Nat.le_refl, implies_true, Nat.reduceLT, reduceIte, decide_true, decide_false, true_and, and_true, reduceCtorEq, Nat.mul_one, Int.reduceToNat, Int.reduceLE, Int.reduceLT, Int.reduceAdd, Int.reduceSub, Int.reduceMul, Int.cast_ofNat_Int, cast_zero_int, cast_one_int, Nat.reducePow, Nat.reduceEqDiff, Nat.reduceMod, Nat.zero_add, Nat.sub_zero, Nat.add_zero, e0, e2, e3, e4, e5, bs7.b, self_get bs7.b, own_base0 L1, k7, self_get k7]
            exact ⟨by omega, .slice (some ⟨H7.length + 1, 0, none⟩) 1 0, [(IntKind.i64.wrap (IntKind.i64.wrap (q + 1) + x), qb, 2 + (i : Int), qc)], _, rfl, by rw [wrap64 (by omega)]; congr 1 <;> omega, bz.step (bz.st.more (by omega)) Agr.refl, by simp⟩
          · have o1 : own h.length M sid = True := own_ge (by omega)
            have bz := bs7.app1 (new := pip (IntKind.i64.wrap (IntKind.i64.wrap (q + 1) + x), qb, 2 + (i : Int), qc)) rfl
            try simp only [go_sem, Nat.reduceBEq, Nat.reduceAdd, Nat.reduceMul, Nat.reduceSub, Nat.reduceLeDiff, Nat.le_refl, implies_true, Nat.reduceLT, reduceIte, decide_true, decide_false, true_and, and_true, reduceCtorEq, Nat.mul_one, Int.reduceToNat, Int.reduceLE, Int.reduceLT, Int.reduceAdd, Int.reduceSub, Int.reduceMul, Int.cast_ofNat_Int, cast_zero_int, cast_one_int, Nat.reducePow, Nat.reduceEqDiff, Nat.reduceMod, Nat.zero_add, Nat.sub_zero, Nat.add_zero, e0, e2, e3, e4, e5, bs7.b, self_get bs7.b, own_base0 L1, self_get q3, o1, kill_get bs7.b (show sid ≠ H1.length by omega), flP_len, k7, self_get k7]
            refine ⟨by omega, by omega, by omega, .slice (some ⟨H7.length + 1, 0, none⟩) (l.length + 1) 0, l ++ [(IntKind.i64.wrap (IntKind.i64.wrap (q + 1) + x), qb, 2 + (i : Int), qc)], _, rfl, by rw [wrap64 (by omega)]; congr 1 <;> omega, ?_, by simp; omega⟩
            rw [snoc_lenP, flP_snoc]; exact bz.step (bz.st.more (by omega)) Agr.refl
    · try simp only [go_sem, Nat.reduceBEq, Nat.reduceAdd, Nat.reduceMul, Nat.reduceSub, Nat.reduceLeDiff, Nat.le_refl, implies_true, Nat.reduceLT, reduceIte, decide_true, decide_false, true_and, and_true, reduceCtorEq, Nat.mul_one, Int.reduceToNat, Int.reduceLE, Int.reduceLT, Int.reduceAdd, Int.reduceSub, Int.reduceMul, Int.cast_ofNat_Int, cast_zero_int, cast_one_int, Nat.reducePow, Nat.reduceEqDiff, Nat.reduceMod, Nat.zero_add, Nat.sub_zero, Nat.add_zero, e0, e2, e3, e4, e5, bs.b]
      refine ⟨by kernel_rfl, (d_pick _ bs.st hown (by omega)).use (fun _ m => m) ?_⟩
      rintro _ H3 ⟨⟨c, rfl, c0, c1⟩, s3, g3⟩
      have bs3 := bs.step s3 g3
      have hi' : i ≤ 8 := hi
      clear bs
      try simp only [go_sem, Nat.reduceBEq, Nat.reduceAdd, Nat.reduceMul, Nat.reduceSub, Nat.reduceLeDiff, Nat.le_refl, implies_true, Nat.reduceLT, reduceIte, decide_true, decide_false, true_and, and_true, reduceCtorEq, Nat.mul_one, Int.reduceToNat, Int.reduceLE, Int.reduceLT, Int.reduceAdd, Int.reduceSub, Int.reduceMul, Int.cast_ofNat_Int, cast_zero_int, cast_one_int, Nat.reducePow, Nat.reduceEqDiff, Nat.reduceMod, Nat.zero_add, Nat.sub_zero, Nat.add_zero, e0, e2, e3, e4, e5]
      refine vLoopR.count mo c.toNat (fun i e H => ∃ (v : Value) (l : List Pip) (q : Int), e 0 = .pointer (some ⟨id, 0, none⟩) ∧ e 2 = .pointer (some ⟨h.length, 0, none⟩) ∧ e 3 = .pointer (some ⟨H1.length, 0, none⟩) ∧ e 4 = .int .i64 q ∧ e 7 = .int .i64 (c - i) ∧
        Bst h H id n a (B + 100 + 10 * i) h.length H1.length ⟨[.int .i64 0, .slice none 0 0], 2, .rw⟩ (.int .i64 (1 + m)) v 4 l.length (flP l) ∧ l.length ≤ 8 + i) ?_ ?_
      · try simp only [go_sem, Nat.reduceBEq, Nat.reduceAdd, Nat.reduceMul, Nat.reduceSub, Nat.reduceLeDiff, Nat.le_refl, implies_true, Nat.reduceLT, reduceIte, decide_true, decide_false, true_and, and_true, reduceCtorEq, Nat.mul_one, Int.reduceToNat, Int.reduceLE, Int.reduceLT, Int.reduceAdd, Int.reduceSub, Int.reduceMul, Int.cast_ofNat_Int, cast_zero_int, cast_one_int, Nat.reducePow, Nat.reduceEqDiff, Nat.reduceMod, Nat.zero_add, Nat.sub_zero, Nat.add_zero, e0, e2, e3, e4, e5]
        exact ⟨v, l, q, rfl, by simp, bs3.step (bs3.st.more (by omega)) Agr.refl, by omega⟩
      · rintro i e H hi ⟨v, l, q, e0, e2, e3, e4, e7, bs, hl⟩
        obtain ⟨av, rfl⟩ := bs.s.len
        obtain ⟨d1, d2, d3, _⟩ := bs.done rfl ⟨[.int .i64 (1 + m), .slice av l.length 0], 2, .rw⟩
        have d4 := d1.more (show B + 100 + 10 * i ≤ B + 200 by omega)
        have d5 := d3.wide (show h.length ≤ H1.length + 1 by omega) (Nat.le_refl _)
        have hll : l.length ≤ 20 := by omega
        by_cases h1 : 0 < c - (i : Int)
        · by_cases h2 : (1 : Int) < 1 + m
          · by_cases h3 : (l.length : Int) < 10
            · try simp only [go_sem, Nat.reduceBEq, Nat.reduceAdd, Nat.reduceMul, Nat.reduceSub, Nat.reduceLeDiff, Nat.le_refl, implies_true, Nat.reduceLT, reduceIte, decide_true, decide_false, true_and, and_true, reduceCtorEq, Nat.mul_one, Int.reduceToNat, Int.reduceLE, Int.reduceLT, Int.reduceAdd, Int.reduceSub, Int.reduceMul, Int.cast_ofNat_Int, cast_zero_int, cast_one_int, Nat.reducePow, Nat.reduceEqDiff, Nat.reduceMod, Nat.zero_add, Nat.sub_zero, Nat.add_zero, e0, e2, e3, e4, e7, bs.b, h1, h2, h3]
              refine ⟨by kernel_rfl, (d_pick _ bs.st hown (by omega)).use (fun _ m => m) ?_⟩
              rintro _ H4 ⟨⟨x, rfl, x0, x1⟩, s4, g4⟩
              have bs4 := bs.step s4 g4
              try simp only [go_sem, Nat.reduceBEq, Nat.reduceAdd, Nat.reduceMul, Nat.reduceSub, Nat.reduceLeDiff, Nat.le_refl, implies_true, Nat.reduceLT, reduceIte, decide_true, decide_false, true_and, and_true, reduceCtorEq, Nat.mul_one, Int.reduceToNat, Int.reduceLE, Int.reduceLT, Int.reduceAdd, Int.reduceSub, Int.reduceMul, Int.cast_ofNat_Int, cast_zero_int, cast_one_int, Nat.reducePow, Nat.reduceEqDiff, Nat.reduceMod, Nat.zero_add, Nat.sub_zero, Nat.add_zero, e0, e2, e3, e4, e7, bs4.b]
              refine ⟨by kernel_rfl, (d_pick _ bs4.st hown (by omega)).use (fun _ m => m) ?_⟩
              rintro _ H5 ⟨⟨y, rfl, y0, y1⟩, s5, g5⟩
              have bs5 := bs4.step s5 g5
              have w1 : IntKind.i64.wrap (1 + y) = 1 + y := wrap64 (by omega)
              try simp only [go_sem, Nat.reduceBEq, Nat.reduceAdd, Nat.reduceMul, Nat.reduceSub, Nat.reduceLeDiff, Nat.le_refl, implies_true, Nat.reduceLT, reduceIte, decide_true, decide_false, true_and, and_true, reduceCtorEq, Nat.mul_one, Int.reduceToNat, Int.reduceLE, Int.reduceLT, Int.reduceAdd, Int.reduceSub, Int.reduceMul, Int.cast_ofNat_Int, cast_zero_int, cast_one_int, Nat.reducePow, Nat.reduceEqDiff, Nat.reduceMod, Nat.zero_add, Nat.sub_zero, Nat.add_zero, e0, e2, e3, e4, e7, bs5.b, w1, hBin_rem (show 1 + m ≠ 0 by omega)]
              refine ⟨by kernel_rfl, (d_pick _ bs5.st hown (by omega)).use (fun _ m => m) ?_⟩
              rintro _ H6 ⟨⟨z, rfl, z0, z1⟩, s6, g6⟩
              have bs6 := bs5.step s6 g6
              have L6 : H5.length ≤ H6.length := g6.1
              have L7 : h.length ≤ H6.length := bs6.out.1
              obtain ⟨qc, hqc⟩ : ∃ w, IntKind.i64.wrap (1 + z) = w := ⟨_, rfl⟩
              obtain ⟨w, hw⟩ : ∃ w, IntKind.i64.wrap (1 + (1 + y).tmod (1 + m)) = w := ⟨_, rfl⟩
              rcases bs6.s with ⟨ev, n1, n2⟩ | ⟨sid, ev, q1, q2, q3, q4⟩
              · obtain rfl : l = [] := List.length_eq_zero_iff.1 n1
                obtain rfl : av = none := by simpa using ev
                have bz := bs6.app0 (new := pip (IntKind.i64.wrap (IntKind.i64.wrap (q + 1) + x), 1 + y, w, qc)) rfl
                try simp only [go_sem, Nat.reduceBEq, Nat.reduceAdd, Nat.reduceMul, Nat.reduceSub, Nat.reduceLeDiff, Nat.le_refl, implies_true, Nat.reduceLT, reduceIte, decide_true, decide_false, true_and, and_true, reduceCtorEq, Nat.mul_one, Int.reduceToNat, Int.reduceLE, Int.reduceLT, Int.reduceAdd, Int.reduceSub, Int.reduceMul, Int.cast_ofNat_Int, cast_zero_int, cast_one_int, Nat.reducePow, Nat.reduceEqDiff, Nat.reduceMod, Nat.zero_add, Nat.sub_zero, Nat.add_zero, e0, e2, e3, e4, e7, bs6.b, self_get bs6.b, own_base0 L1, L6, hqc, hw]
                exact ⟨by omega, .slice (some ⟨H6.length + 1, 0, none⟩) 1 0, [(IntKind.i64.wrap (IntKind.i64.wrap (q + 1) + x), 1 + y, w, qc)], _, rfl, by rw [wrap64 (by omega)]; congr 1 <;> omega, bz.step (bz.st.more (by omega)) Agr.refl, by simp; omega⟩
              · obtain rfl : av = some ⟨sid, 0, none⟩ := by simpa using ev
                have o1 : own h.length M sid = True := own_ge (by omega)
                have bz := bs6.app1 (new := pip (IntKind.i64.wrap (IntKind.i64.wrap (q + 1) + x), 1 + y, w, qc)) rfl
                try simp only [go_sem, Nat.reduceBEq, Nat.reduceAdd, Nat.reduceMul, Nat.reduceSub, Nat.reduceLeDiff, Nat.le_refl, implies_true, Nat.reduceLT, reduceIte, decide_true, decide_false, true_and, and_true, reduceCtorEq, Nat.mul_one, Int.reduceToNat, Int.reduceLE, Int.reduceLT, Int.reduceAdd, Int.reduceSub, Int.reduceMul, Int.cast_ofNat_Int, cast_zero_int, cast_one_int, Nat.reducePow, Nat.reduceEqDiff, Nat.reduceMod, Nat.zero_add, Nat.sub_zero, Nat.add_zero, e0, e2, e3, e4, e7, bs6.b, self_get bs6.b, own_base0 L1, L6, hqc, hw, self_get q3, o1, kill_get bs6.b (show sid ≠ H1.length by omega), flP_len]
                refine ⟨by omega, by omega, by omega, .slice (some ⟨H6.length + 1, 0, none⟩) (l.length + 1) 0, l ++ [(IntKind.i64.wrap (IntKind.i64.wrap (q + 1) + x), 1 + y, w, qc)], _, rfl, by rw [wrap64 (by omega)]; congr 1 <;> omega, ?_, by simp; omega⟩
                rw [snoc_lenP, flP_snoc]; exact bz.step (bz.st.more (by omega)) Agr.refl
            · try simp only [go_sem, Nat.reduceBEq, Nat.reduceAdd, Nat.reduceMul, Nat.reduceSub, Nat.reduceLeDiff, Nat.le_refl, implies_true, Nat.reduceLT, reduceIte, decide_true, decide_false, true_and, and_true, reduceCtorEq, Nat.mul_one, Int.reduceToNat, Int.reduceLE, Int.reduceLT, Int.reduceAdd, Int.reduceSub, Int.reduceMul, Int.cast_ofNat_Int, cast_zero_int, cast_one_int, Nat.reducePow, Nat.reduceEqDiff, Nat.reduceMod, Nat.zero_add, Nat.sub_zero, Nat.add_zero, e0, e2, e3, e4, e7, bs.b, h1, h2, h3, bs.r, own_ge (Nat.le_refl h.length), set_get bs.r]
              exact ⟨⟨_, l, _, rfl, d5, hll⟩, d4, d2⟩
          · try simp only [go_sem, Nat.reduceBEq, Nat.reduceAdd, Nat.reduceMul, Nat.reduceSub, Nat.reduceLeDiff, Nat.le_refl, implies_true, Nat.reduceLT, reduceIte, decide_true, decide_false, true_and, and_true, reduceCtorEq, Nat.mul_one, Int.reduceToNat, Int.reduceLE, Int.reduceLT, Int.reduceAdd, Int.reduceSub, Int.reduceMul, Int.cast_ofNat_Int, cast_zero_int, cast_one_int, Nat.reducePow, Nat.reduceEqDiff, Nat.reduceMod, Nat.zero_add, Nat.sub_zero, Nat.add_zero, e0, e2, e3, e4, e7, bs.b, h1, h2, bs.r, own_ge (Nat.le_refl h.length), set_get bs.r]
            exact ⟨⟨_, l, _, rfl, d5, hll⟩, d4, d2⟩
        · try simp only [go_sem, Nat.reduceBEq, Nat.reduceAdd, Nat.reduceMul, Nat.reduceSub, Nat.reduceLeDiff, Nat.le_refl, implies_true, Nat.reduceLT, reduceIte, decide_true, decide_false, true_and, and_true, reduceCtorEq, Nat.mul_one, Int.reduceToNat, Int.reduceLE, Int.reduceLT, Int.reduceAdd, Int.reduceSub, Int.reduceMul, Int.cast_ofNat_Int, cast_zero_int, cast_one_int, Nat.reducePow, Nat.reduceEqDiff, Nat.reduceMod, Nat.zero_add, Nat.sub_zero, Nat.add_zero, e0, e2, e3, e4, e7, bs.b, h1, bs.r, own_ge (Nat.le_refl h.length), set_get bs.r]
          exact ⟨⟨_, l, _, rfl, d5, hll⟩, d4, d2⟩
end
end Go.Proofs.Ytjgekhahklidcaa
