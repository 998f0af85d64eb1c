
/- Draws of samples. No condition. -/
import Derived.Test.YtfolkgkcaiaifaaDSup
import Derived.Test.YtfolkgkcaiaifaaSamples
import Derived.Test.YtfolkgkcaiaifaaH3
namespace Go.Proofs.Ytfolkgkcaiaifaa
open Go.HH Go.Proofs
set_option linter.unusedSimpArgs false
set_option linter.unusedVariables false

def flM (l : List Smp) : List Value := (l.map smp).flatten
theorem flM_snoc {l : List Smp} {p : Smp} : flM (l ++ [p]) = flM l ++ smp p := by simp [flM]
theorem flM_len {l : List Smp} : (flM l).length = l.length * 4 := by
  induction l with
  | nil => rfl
  | cons x l ih => simp only [flM, List.map_cons, List.flatten_cons, List.length_append, List.length_cons] at ih ⊢; rw [ih]; simp [smp]; omega
theorem snoc_lenM {l : List Smp} {x : Smp} : (l ++ [x]).length = l.length + 1 := by simp
def smpZ : Blk := ⟨[.int .i64 0, .int .i64 0, .int .i64 0, .int .i64 0], 4, .rw⟩
section
variable {h : Heap} {M : Nat → Prop}
set_option maxRecDepth 20000 in
theorem d_sample {id n B : Nat} {a : Option Addr} (day : Int) (s : St h id n a B) (hM : M id) (hB : B ≤ 100000) :
    vCall [] Try.prog M 51 [.pointer (some ⟨id, 0, none⟩), .int .i64 day] h (fun r H' => (∃ x y z w : Int, r = .agg #[.int .i64 x, .int .i64 y, .int .i64 z, .int .i64 w]) ∧ St H' id n a (B + 12) ∧ Agr id (id + 1) h H') := by
  have hid := s.lt
  have hown : own h.length M id := Or.inr hM
  refine body_of mo Try.func51 rfl (by kernel_rfl) (Nat.le_of_ble_eq_true (by kernel_rfl)) rfl ?_
  simp only [go_sem, Nat.reduceBEq, Nat.reduceAdd, Nat.reduceMul, Nat.reduceSub, Nat.reduceLeDiff, Nat.le_refl, implies_true, Nat.reduceLT, reduceIte, decide_true, decide_false, true_and, and_true, reduceCtorEq, Nat.mul_one, Int.reduceToNat, Int.reduceLE, Int.reduceLT, Int.reduceAdd, Int.reduceSub, Int.reduceMul, Int.cast_ofNat_Int, cast_zero_int, cast_one_int, Nat.reducePow, Nat.reduceEqDiff, Nat.reduceMod, Nat.zero_add, Nat.sub_zero, Nat.add_zero]
  refine ⟨by kernel_rfl, (d_pick _ (s.app _) hown (by omega)).use (fun _ m => m) ?_⟩
  rintro _ H1 ⟨⟨p, rfl, p0, p1⟩, s1, g1⟩
  have z1 := agr_get g1 hget_new (by omega)
  try simp only [go_sem, Nat.reduceBEq, Nat.reduceAdd, Nat.reduceMul, Nat.reduceSub, Nat.reduceLeDiff, Nat.le_refl, implies_true, Nat.reduceLT, reduceIte, decide_true, decide_false, true_and, and_true, reduceCtorEq, Nat.mul_one, Int.reduceToNat, Int.reduceLE, Int.reduceLT, Int.reduceAdd, Int.reduceSub, Int.reduceMul, Int.cast_ofNat_Int, cast_zero_int, cast_one_int, Nat.reducePow, Nat.reduceEqDiff, Nat.reduceMod, Nat.zero_add, Nat.sub_zero, Nat.add_zero]
  refine ⟨by kernel_rfl, (d_pick _ s1 hown (by omega)).use (fun _ m => m) ?_⟩
  rintro _ H2 ⟨⟨q, rfl, q0, q1⟩, s2, g2⟩
  have z2 := agr_get g2 z1 (by omega)
  try simp only [go_sem, Nat.reduceBEq, Nat.reduceAdd, Nat.reduceMul, Nat.reduceSub, Nat.reduceLeDiff, Nat.le_refl, implies_true, Nat.reduceLT, reduceIte, decide_true, decide_false, true_and, and_true, reduceCtorEq, Nat.mul_one, Int.reduceToNat, Int.reduceLE, Int.reduceLT, Int.reduceAdd, Int.reduceSub, Int.reduceMul, Int.cast_ofNat_Int, cast_zero_int, cast_one_int, Nat.reducePow, Nat.reduceEqDiff, Nat.reduceMod, Nat.zero_add, Nat.sub_zero, Nat.add_zero]
  refine ⟨by kernel_rfl, (d_amongL _ 13 s2 hown rfl (by decide) (by omega) (by omega) (by omega)).use (fun _ m => m) ?_⟩
  rintro _ H3 ⟨⟨w0, rfl⟩, s3, g3, l3⟩
  have z3 := agr_get g3 z2 (by omega)
  have L3 := hget_lt z3
  have w1 : IntKind.i64.wrap (1 + p) = 1 + p := wrap64 (by omega)
  have w2 : IntKind.i64.wrap (1 + q) = 1 + q := wrap64 (by omega)
  have bs0 : Vst h (H3 ++ [⟨[.int .i64 day, .int .i64 (1 + p), .int .i64 (1 + q), .int .i64 w0], 4, .rw⟩]) id n a (B + 6) h.length H3.length smpZ [.int .i64 day, .int .i64 (1 + p), .int .i64 (1 + q), .int .i64 w0] 4 :=
    ⟨s3.app _, (((Agr.app.trans g1).trans g2).trans g3).trans Agr.app, self_get z3 _, hget_new, by omega⟩
  have o1 : own h.length M H3.length = True := own_ge (by omega)
  have o2 : own h.length M h.length = True := own_ge (Nat.le_refl _)
  simp only [go_sem, Nat.reduceBEq, Nat.reduceAdd, Nat.reduceMul, Nat.reduceSub, Nat.reduceLeDiff, Nat.le_refl, implies_true, Nat.reduceLT, reduceIte, decide_true, decide_false, true_and, and_true, reduceCtorEq, Nat.mul_one, Int.reduceToNat, Int.reduceLE, Int.reduceLT, Int.reduceAdd, Int.reduceSub, Int.reduceMul, Int.cast_ofNat_Int, cast_zero_int, cast_one_int, Nat.reducePow, Nat.reduceEqDiff, Nat.reduceMod, Nat.zero_add, Nat.sub_zero, Nat.add_zero, w1, w2, own_ge (show h.length ≤ H3.length by omega), hget_set_newW, set_newW, hget_new]
  refine ⟨by kernel_rfl, (d_pick _ bs0.st hown (by omega)).use (fun _ m => m) ?_⟩
  rintro _ H4 ⟨⟨c, rfl, c0, c1⟩, s4, g4⟩
  have bs := bs0.step s4 g4
  have L4 := hget_lt bs.r
  have fin : ∀ (Hx : Heap) (x y z w : Int) (Bx : Nat), Vst h Hx id n a Bx h.length H3.length smpZ [.int .i64 x, .int .i64 y, .int .i64 z, .int .i64 w] 4 → Bx ≤ B + 12 →
      (∃ x' y' z' w' : Int, Value.agg #[.int .i64 x, .int .i64 y, .int .i64 z, .int .i64 w] = .agg #[.int .i64 x', .int .i64 y', .int .i64 z', .int .i64 w']) ∧ St (Hx.set h.length ⟨[.int .i64 x, .int .i64 y, .int .i64 z, .int .i64 w], 4, .rw⟩) id n a (B + 12) ∧ Agr id (id + 1) h (Hx.set h.length ⟨[.int .i64 x, .int .i64 y, .int .i64 z, .int .i64 w], 4, .rw⟩) := fun Hx x y z w Bx q hq => by
    obtain ⟨d1, d2⟩ := q.done rfl ⟨[.int .i64 x, .int .i64 y, .int .i64 z, .int .i64 w], 4, .rw⟩
    exact ⟨⟨x, y, z, w, rfl⟩, d1.more hq, d2⟩
  by_cases q1 : c = 0
  · have e1 : (c == 0) = true := by simpa using q1
    try simp only [go_sem, Nat.reduceBEq, Nat.reduceAdd, Nat.reduceMul, Nat.reduceSub, Nat.reduceLeDiff, Nat.le_refl, implies_true, Nat.reduceLT, reduceIte, decide_true, decide_false, true_and, and_true, reduceCtorEq, Nat.mul_one, Int.reduceToNat, Int.reduceLE, Int.reduceLT, Int.reduceAdd, Int.reduceSub, Int.reduceMul, Int.cast_ofNat_Int, cast_zero_int, cast_one_int, Nat.reducePow, Nat.reduceEqDiff, Nat.reduceMod, Nat.zero_add, Nat.sub_zero, Nat.add_zero, e1]
    refine ⟨by kernel_rfl, (d_amongL _ 3 bs.st hown rfl (by decide) (by omega) (by omega) (by omega)).use (fun _ m => m) ?_⟩
    rintro _ H5 ⟨⟨x, rfl⟩, s5, g5, l5⟩
    have bs4 := bs.step s5 g5
    have bs5 := bs4.put [.int .i64 x, .int .i64 (1 + p), .int .i64 (1 + q), .int .i64 w0]
    simp only [go_sem, Nat.reduceBEq, Nat.reduceAdd, Nat.reduceMul, Nat.reduceSub, Nat.reduceLeDiff, Nat.le_refl, implies_true, Nat.reduceLT, reduceIte, decide_true, decide_false, true_and, and_true, reduceCtorEq, Nat.mul_one, Int.reduceToNat, Int.reduceLE, Int.reduceLT, Int.reduceAdd, Int.reduceSub, Int.reduceMul, Int.cast_ofNat_Int, cast_zero_int, cast_one_int, Nat.reducePow, Nat.reduceEqDiff, Nat.reduceMod, Nat.zero_add, Nat.sub_zero, Nat.add_zero, e1, o1, o2, bs4.b, bs5.b, bs5.r, set_get bs5.r, set_get bs4.b, smpZ]
    exact fin _ _ _ _ _ _ bs5 (by omega)
  · have e1 : (c == 0) = false := by simpa using q1
    by_cases q2 : c = 1
    · have e2 : (c == 1) = true := by simpa using q2
      try simp only [go_sem, Nat.reduceBEq, Nat.reduceAdd, Nat.reduceMul, Nat.reduceSub, Nat.reduceLeDiff, Nat.le_refl, implies_true, Nat.reduceLT, reduceIte, decide_true, decide_false, true_and, and_true, reduceCtorEq, Nat.mul_one, Int.reduceToNat, Int.reduceLE, Int.reduceLT, Int.reduceAdd, Int.reduceSub, Int.reduceMul, Int.cast_ofNat_Int, cast_zero_int, cast_one_int, Nat.reducePow, Nat.reduceEqDiff, Nat.reduceMod, Nat.zero_add, Nat.sub_zero, Nat.add_zero, e1, e2]
      refine ⟨by kernel_rfl, (d_amongL _ 3 bs.st hown rfl (by decide) (by omega) (by omega) (by omega)).use (fun _ m => m) ?_⟩
      rintro _ H5 ⟨⟨x, rfl⟩, s5, g5, l5⟩
      have bs4 := bs.step s5 g5
      have bs5 := bs4.put [.int .i64 day, .int .i64 x, .int .i64 (1 + q), .int .i64 w0]
      simp only [go_sem, Nat.reduceBEq, Nat.reduceAdd, Nat.reduceMul, Nat.reduceSub, Nat.reduceLeDiff, Nat.le_refl, implies_true, Nat.reduceLT, reduceIte, decide_true, decide_false, true_and, and_true, reduceCtorEq, Nat.mul_one, Int.reduceToNat, Int.reduceLE, Int.reduceLT, Int.reduceAdd, Int.reduceSub, Int.reduceMul, Int.cast_ofNat_Int, cast_zero_int, cast_one_int, Nat.reducePow, Nat.reduceEqDiff, Nat.reduceMod, Nat.zero_add, Nat.sub_zero, Nat.add_zero, e1, e2, o1, o2, bs4.b, bs5.b, bs5.r, set_get bs5.r, set_get bs4.b, smpZ]
      exact fin _ _ _ _ _ _ bs5 (by omega)
    · have e2 : (c == 1) = false := by simpa using q2
      by_cases q3 : c = 2
      · have e3 : (c == 2) = true := by simpa using q3
        try simp only [go_sem, Nat.reduceBEq, Nat.reduceAdd, Nat.reduceMul, Nat.reduceSub, Nat.reduceLeDiff, Nat.le_refl, implies_true, Nat.reduceLT, reduceIte, decide_true, decide_false, true_and, and_true, reduceCtorEq, Nat.mul_one, Int.reduceToNat, Int.reduceLE, Int.reduceLT, Int.reduceAdd, Int.reduceSub, Int.reduceMul, Int.cast_ofNat_Int, cast_zero_int, cast_one_int, Nat.reducePow, Nat.reduceEqDiff, Nat.reduceMod, Nat.zero_add, Nat.sub_zero, Nat.add_zero, e1, e2, e3]
        refine ⟨by kernel_rfl, (d_amongL _ 2 bs.st hown rfl (by decide) (by omega) (by omega) (by omega)).use (fun _ m => m) ?_⟩
        rintro _ H5 ⟨⟨x, rfl⟩, s5, g5, l5⟩
        have bs4 := bs.step s5 g5
        have bs5 := bs4.put [.int .i64 day, .int .i64 (1 + p), .int .i64 x, .int .i64 w0]
        simp only [go_sem, Nat.reduceBEq, Nat.reduceAdd, Nat.reduceMul, Nat.reduceSub, Nat.reduceLeDiff, Nat.le_refl, implies_true, Nat.reduceLT, reduceIte, decide_true, decide_false, true_and, and_true, reduceCtorEq, Nat.mul_one, Int.reduceToNat, Int.reduceLE, Int.reduceLT, Int.reduceAdd, Int.reduceSub, Int.reduceMul, Int.cast_ofNat_Int, cast_zero_int, cast_one_int, Nat.reducePow, Nat.reduceEqDiff, Nat.reduceMod, Nat.zero_add, Nat.sub_zero, Nat.add_zero, e1, e2, e3, o1, o2, bs4.b, bs5.b, bs5.r, set_get bs5.r, set_get bs4.b, smpZ]
        exact fin _ _ _ _ _ _ bs5 (by omega)
      · have e3 : (c == 2) = false := by simpa using q3
        by_cases q4 : c = 3
        · have e4 : (c == 3) = true := by simpa using q4
          try simp only [go_sem, Nat.reduceBEq, Nat.reduceAdd, Nat.reduceMul, Nat.reduceSub, Nat.reduceLeDiff, Nat.le_refl, implies_true, Nat.reduceLT, reduceIte, decide_true, decide_false, true_and, and_true, reduceCtorEq, Nat.mul_one, Int.reduceToNat, Int.reduceLE, Int.reduceLT, Int.reduceAdd, Int.reduceSub, Int.reduceMul, Int.cast_ofNat_Int, cast_zero_int, cast_one_int, Nat.reducePow, Nat.reduceEqDiff, Nat.reduceMod, Nat.zero_add, Nat.sub_zero, Nat.add_zero, e1, e2, e3, e4]
          refine ⟨by kernel_rfl, (d_amongL _ 2 bs.st hown rfl (by decide) (by omega) (by omega) (by omega)).use (fun _ m => m) ?_⟩
          rintro _ H5 ⟨⟨x, rfl⟩, s5, g5, l5⟩
          have bs4 := bs.step s5 g5
          have bs5 := bs4.put [.int .i64 day, .int .i64 (1 + p), .int .i64 (1 + q), .int .i64 x]
          simp only [go_sem, Nat.reduceBEq, Nat.reduceAdd, Nat.reduceMul, Nat.reduceSub, Nat.reduceLeDiff, Nat.le_refl, implies_true, Nat.reduceLT, reduceIte, decide_true, decide_false, true_and, and_true, reduceCtorEq, Nat.mul_one, Int.reduceToNat, Int.reduceLE, Int.reduceLT, Int.reduceAdd, Int.reduceSub, Int.reduceMul, Int.cast_ofNat_Int, cast_zero_int, cast_one_int, Nat.reducePow, Nat.reduceEqDiff, Nat.reduceMod, Nat.zero_add, Nat.sub_zero, Nat.add_zero, e1, e2, e3, e4, o1, o2, bs4.b, bs5.b, bs5.r, set_get bs5.r, set_get bs4.b, smpZ]
          exact fin _ _ _ _ _ _ bs5 (by omega)
        · have e4 : (c == 3) = false := by simpa using q4
          try simp only [go_sem, Nat.reduceBEq, Nat.reduceAdd, Nat.reduceMul, Nat.reduceSub, Nat.reduceLeDiff, Nat.le_refl, implies_true, Nat.reduceLT, reduceIte, decide_true, decide_false, true_and, and_true, reduceCtorEq, Nat.mul_one, Int.reduceToNat, Int.reduceLE, Int.reduceLT, Int.reduceAdd, Int.reduceSub, Int.reduceMul, Int.cast_ofNat_Int, cast_zero_int, cast_one_int, Nat.reducePow, Nat.reduceEqDiff, Nat.reduceMod, Nat.zero_add, Nat.sub_zero, Nat.add_zero, e1, e2, e3, e4, o1, o2, bs.b, bs.r, set_get bs.r, smpZ]
          exact fin _ _ _ _ _ _ bs (by omega)

set_option maxRecDepth 20000 in
theorem d_samples {id n B : Nat} {a : Option Addr} (s : St h id n a B) (hM : M id) (hB : B ≤ 90000) :
    vCall [] Try.prog M 31 [.pointer (some ⟨id, 0, none⟩)] h (fun r H' => (∃ (l : List Smp) (sid : Nat), r = .slice (some ⟨sid, 0, none⟩) l.length 0 ∧ Wst h H' id n a (B + 300) sid 4 (flM l) ∧ l.length ≤ 16)) := by
  have hid := s.lt
  have hown : own h.length M id := Or.inr hM
  refine body_of mo Try.func31 rfl (by kernel_rfl) (Nat.le_of_ble_eq_true (by kernel_rfl)) rfl ?_
  simp only [go_sem, Nat.reduceBEq, Nat.reduceAdd, Nat.reduceMul, Nat.reduceSub, Nat.reduceLeDiff, Nat.le_refl, implies_true, Nat.reduceLT, reduceIte, decide_true, decide_false, true_and, and_true, reduceCtorEq, Nat.mul_one, Int.reduceToNat, Int.reduceLE, Int.reduceLT, Int.reduceAdd, Int.reduceSub, Int.reduceMul, Int.cast_ofNat_Int, cast_zero_int, cast_one_int, Nat.reducePow, Nat.reduceEqDiff, Nat.reduceMod, Nat.zero_add, Nat.sub_zero, Nat.add_zero]
  have ss0 : Wst h (h ++ [⟨[], 4, .rw⟩]) id n a B h.length 4 (flM []) := ⟨s.app _, Agr.app, hget_new, by omega⟩
  refine ⟨by kernel_rfl, (d_among (h.length + 1) 3 ⟨[.int .i64 0, .int .i64 10, .int .i64 3640], 1, .rw⟩ (by simpa using ss0.st.app [⟨[.int .i64 0, .int .i64 10, .int .i64 3640], 1, .rw⟩]) hown hget_lit1 rfl rfl (by decide) (by omega) (by omega) (by omega) (by omega)).use (fun _ m => m) ?_⟩
  rintro _ H1 ⟨⟨d0, rfl⟩, s1, g1⟩
  have ss1 := (ss0.step (ss0.st.app [⟨[.int .i64 0, .int .i64 10, .int .i64 3640], 1, .rw⟩]) Agr.app).step s1 (by simpa using g1)
  try simp only [go_sem, Nat.reduceBEq, Nat.reduceAdd, Nat.reduceMul, Nat.reduceSub, Nat.reduceLeDiff, Nat.le_refl, implies_true, Nat.reduceLT, reduceIte, decide_true, decide_false, true_and, and_true, reduceCtorEq, Nat.mul_one, Int.reduceToNat, Int.reduceLE, Int.reduceLT, Int.reduceAdd, Int.reduceSub, Int.reduceMul, Int.cast_ofNat_Int, cast_zero_int, cast_one_int, Nat.reducePow, Nat.reduceEqDiff, Nat.reduceMod, Nat.zero_add, Nat.sub_zero, Nat.add_zero]
  refine ⟨by kernel_rfl, (d_pick _ s1 hown (by omega)).use (fun _ m => m) ?_⟩
  rintro _ H2 ⟨⟨m, rfl, m0, m1⟩, s2, g2⟩
  have ss2 := ss1.step s2 g2
  try simp only [go_sem, Nat.reduceBEq, Nat.reduceAdd, Nat.reduceMul, Nat.reduceSub, Nat.reduceLeDiff, Nat.le_refl, implies_true, Nat.reduceLT, reduceIte, decide_true, decide_false, true_and, and_true, reduceCtorEq, Nat.mul_one, Int.reduceToNat, Int.reduceLE, Int.reduceLT, Int.reduceAdd, Int.reduceSub, Int.reduceMul, Int.cast_ofNat_Int, cast_zero_int, cast_one_int, Nat.reducePow, Nat.reduceEqDiff, Nat.reduceMod, Nat.zero_add, Nat.sub_zero, Nat.add_zero]
  refine vLoop.count mo 8 (fun i e H => ∃ (l : List Smp) (sid : Nat) (dd : Int), e 0 = .pointer (some ⟨id, 0, none⟩) ∧ e 3 = .slice (some ⟨sid, 0, none⟩) l.length 0 ∧ e 4 = .int .i64 dd ∧ e 5 = .int .i64 (m - i) ∧
    Wst h H id n a (B + 4 + 14 * i) sid 4 (flM l) ∧ l.length ≤ i) ?_ ?_
  · try simp only [go_sem, Nat.reduceBEq, Nat.reduceAdd, Nat.reduceMul, Nat.reduceSub, Nat.reduceLeDiff, Nat.le_refl, implies_true, Nat.reduceLT, reduceIte, decide_true, decide_false, true_and, and_true, reduceCtorEq, Nat.mul_one, Int.reduceToNat, Int.reduceLE, Int.reduceLT, Int.reduceAdd, Int.reduceSub, Int.reduceMul, Int.cast_ofNat_Int, cast_zero_int, cast_one_int, Nat.reducePow, Nat.reduceEqDiff, Nat.reduceMod, Nat.zero_add, Nat.sub_zero, Nat.add_zero]
    exact ⟨[], h.length, d0, rfl, rfl, by simp, ss2.more (by omega), by simp⟩
  · rintro i e H hi ⟨l, sid, dd, e0, e3, e4, e5, ss, hl⟩
    have hq := ss.s
    by_cases h8 : (0 : Int) < m - i
    · try simp only [go_sem, Nat.reduceBEq, Nat.reduceAdd, Nat.reduceMul, Nat.reduceSub, Nat.reduceLeDiff, Nat.le_refl, implies_true, Nat.reduceLT, reduceIte, decide_true, decide_false, true_and, and_true, reduceCtorEq, Nat.mul_one, Int.reduceToNat, Int.reduceLE, Int.reduceLT, Int.reduceAdd, Int.reduceSub, Int.reduceMul, Int.cast_ofNat_Int, cast_zero_int, cast_one_int, Nat.reducePow, Nat.reduceEqDiff, Nat.reduceMod, Nat.zero_add, Nat.sub_zero, Nat.add_zero, e0, e3, e4, e5, h8]
      refine ⟨by kernel_rfl, (d_sample _ ss.st hown (by omega)).use (fun _ m => m) ?_⟩
      rintro _ H3 ⟨⟨x, y, z, w, rfl⟩, s3, g3⟩
      have ss3 := ss.step s3 g3
      have hq3 := ss3.s
      have ssa := ss3.app (new := [.int .i64 x, .int .i64 y, .int .i64 z, .int .i64 w])
      try simp only [go_sem, Nat.reduceBEq, Nat.reduceAdd, Nat.reduceMul, Nat.reduceSub, Nat.reduceLeDiff, Nat.le_refl, implies_true, Nat.reduceLT, reduceIte, decide_true, decide_false, true_and, and_true, reduceCtorEq, Nat.mul_one, Int.reduceToNat, Int.reduceLE, Int.reduceLT, Int.reduceAdd, Int.reduceSub, Int.reduceMul, Int.cast_ofNat_Int, cast_zero_int, cast_one_int, Nat.reducePow, Nat.reduceEqDiff, Nat.reduceMod, Nat.zero_add, Nat.sub_zero, Nat.add_zero, e0, e3, e4, e5, h8, hq3, self_get hq3, flM_len, own_ge ss3.low.1]
      refine ⟨by omega, by omega, ?_⟩
      refine ⟨by kernel_rfl, (d_among _ 4 ⟨[.int .i64 0, .int .i64 0, .int .i64 1, .int .i64 7], 1, .rw⟩ (by have := ssa.st.app [(⟨[.int .i64 0, .int .i64 0, .int .i64 1, .int .i64 7], 1, .rw⟩ : Blk)]; rwa [List.append_assoc] at this) hown hget_lit1 rfl rfl (by decide) (by have := ss3.st.lt; simp; omega) (by omega) (by omega) (by omega)).use (fun _ m => m) ?_⟩
      rintro _ H4 ⟨⟨u, rfl⟩, s4, g4⟩
      have ss4 := (ssa.step (ssa.st.app [(⟨[.int .i64 0, .int .i64 0, .int .i64 1, .int .i64 7], 1, .rw⟩ : Blk)]) Agr.app).step s4 (by rw [List.append_assoc]; exact g4)
      try simp only [go_sem, Nat.reduceBEq, Nat.reduceAdd, Nat.reduceMul, Nat.reduceSub, Nat.reduceLeDiff, Nat.le_refl, implies_true, Nat.reduceLT, reduceIte, decide_true, decide_false, true_and, and_true, reduceCtorEq, Nat.mul_one, Int.reduceToNat, Int.reduceLE, Int.reduceLT, Int.reduceAdd, Int.reduceSub, Int.reduceMul, Int.cast_ofNat_Int, cast_zero_int, cast_one_int, Nat.reducePow, Nat.reduceEqDiff, Nat.reduceMod, Nat.zero_add, Nat.sub_zero, Nat.add_zero, e0, e3, e4, e5, h8]
      refine ⟨by kernel_rfl, (c_l1Least _ _).use (fun _ m => m) ?_⟩
      rintro _ _ ⟨⟨dn, rfl⟩, rfl⟩
      try simp only [go_sem, Nat.reduceBEq, Nat.reduceAdd, Nat.reduceMul, Nat.reduceSub, Nat.reduceLeDiff, Nat.le_refl, implies_true, Nat.reduceLT, reduceIte, decide_true, decide_false, true_and, and_true, reduceCtorEq, Nat.mul_one, Int.reduceToNat, Int.reduceLE, Int.reduceLT, Int.reduceAdd, Int.reduceSub, Int.reduceMul, Int.cast_ofNat_Int, cast_zero_int, cast_one_int, Nat.reducePow, Nat.reduceEqDiff, Nat.reduceMod, Nat.zero_add, Nat.sub_zero, Nat.add_zero, e0, e3, e4, e5, h8]
      refine ⟨by omega, l ++ [(x, y, z, w)], H3.length + 1, dn, by rw [snoc_lenM], rfl, by rw [wrap64 (by omega)]; congr 1; omega, ?_, by rw [snoc_lenM]; omega⟩
      rw [flM_snoc]
      exact ss4.more (by omega)
    · try simp only [go_sem, Nat.reduceBEq, Nat.reduceAdd, Nat.reduceMul, Nat.reduceSub, Nat.reduceLeDiff, Nat.le_refl, implies_true, Nat.reduceLT, reduceIte, decide_true, decide_false, true_and, and_true, reduceCtorEq, Nat.mul_one, Int.reduceToNat, Int.reduceLE, Int.reduceLT, Int.reduceAdd, Int.reduceSub, Int.reduceMul, Int.cast_ofNat_Int, cast_zero_int, cast_one_int, Nat.reducePow, Nat.reduceEqDiff, Nat.reduceMod, Nat.zero_add, Nat.sub_zero, Nat.add_zero, e0, e3, e4, e5, h8]
      refine ⟨by kernel_rfl, (d_one _ ss.st hown (by omega)).use (fun _ m => m) ?_⟩
      rintro _ H3 ⟨⟨gb, rfl⟩, s3, g3⟩
      have ss3 := ss.step s3 g3
      cases gb
      · try simp only [go_sem, Nat.reduceBEq, Nat.reduceAdd, Nat.reduceMul, Nat.reduceSub, Nat.reduceLeDiff, Nat.le_refl, implies_true, Nat.reduceLT, reduceIte, decide_true, decide_false, true_and, and_true, reduceCtorEq, Nat.mul_one, Int.reduceToNat, Int.reduceLE, Int.reduceLT, Int.reduceAdd, Int.reduceSub, Int.reduceMul, Int.cast_ofNat_Int, cast_zero_int, cast_one_int, Nat.reducePow, Nat.reduceEqDiff, Nat.reduceMod, Nat.zero_add, Nat.sub_zero, Nat.add_zero, e0, e3, e4, e5, h8]
        exact ⟨l, sid, rfl, ss3.more (by omega), by omega⟩
      · try simp only [go_sem, Nat.reduceBEq, Nat.reduceAdd, Nat.reduceMul, Nat.reduceSub, Nat.reduceLeDiff, Nat.le_refl, implies_true, Nat.reduceLT, reduceIte, decide_true, decide_false, true_and, and_true, reduceCtorEq, Nat.mul_one, Int.reduceToNat, Int.reduceLE, Int.reduceLT, Int.reduceAdd, Int.reduceSub, Int.reduceMul, Int.cast_ofNat_Int, cast_zero_int, cast_one_int, Nat.reducePow, Nat.reduceEqDiff, Nat.reduceMod, Nat.zero_add, Nat.sub_zero, Nat.add_zero, e0, e3, e4, e5, h8]
        refine vLoop.count mo 16 (fun i e H => ∃ (l : List Smp) (sid : Nat), e 0 = .pointer (some ⟨id, 0, none⟩) ∧ e 3 = .slice (some ⟨sid, 0, none⟩) l.length 0 ∧ Wst h H id n a (B + 120 + 2 * i) sid 4 (flM l) ∧ i ≤ l.length ∧ l.length ≤ 16) ?_ ?_
        · try simp only [go_sem, Nat.reduceBEq, Nat.reduceAdd, Nat.reduceMul, Nat.reduceSub, Nat.reduceLeDiff, Nat.le_refl, implies_true, Nat.reduceLT, reduceIte, decide_true, decide_false, true_and, and_true, reduceCtorEq, Nat.mul_one, Int.reduceToNat, Int.reduceLE, Int.reduceLT, Int.reduceAdd, Int.reduceSub, Int.reduceMul, Int.cast_ofNat_Int, cast_zero_int, cast_one_int, Nat.reducePow, Nat.reduceEqDiff, Nat.reduceMod, Nat.zero_add, Nat.sub_zero, Nat.add_zero, e0, e3]
          exact ⟨l, sid, rfl, ss3.more (by omega), by omega, by omega⟩
        · rintro i e H hi2 ⟨l, sid, e0, e3, ss, hl1, hl2⟩
          try simp only [go_sem, Nat.reduceBEq, Nat.reduceAdd, Nat.reduceMul, Nat.reduceSub, Nat.reduceLeDiff, Nat.le_refl, implies_true, Nat.reduceLT, reduceIte, decide_true, decide_false, true_and, and_true, reduceCtorEq, Nat.mul_one, Int.reduceToNat, Int.reduceLE, Int.reduceLT, Int.reduceAdd, Int.reduceSub, Int.reduceMul, Int.cast_ofNat_Int, cast_zero_int, cast_one_int, Nat.reducePow, Nat.reduceEqDiff, Nat.reduceMod, Nat.zero_add, Nat.sub_zero, Nat.add_zero, e0, e3]
          refine ⟨by kernel_rfl, (d_pick _ ss.st hown (by omega)).use (fun _ m => m) ?_⟩
          rintro _ H5 ⟨⟨p, rfl, p0, p1⟩, s5, g5⟩
          have ss5 := ss.step s5 g5
          have hq5 := ss5.s
          have wp : IntKind.i64.wrap (15 + p) = 15 + p := wrap64 (by omega)
          by_cases g9 : (l.length : Int) < 15 + p
          · have ssa := ss5.app (new := [.int .i64 3650, .int .i64 1, .int .i64 2, .int .i64 0])
            try simp only [go_sem, Nat.reduceBEq, Nat.reduceAdd, Nat.reduceMul, Nat.reduceSub, Nat.reduceLeDiff, Nat.le_refl, implies_true, Nat.reduceLT, reduceIte, decide_true, decide_false, true_and, and_true, reduceCtorEq, Nat.mul_one, Int.reduceToNat, Int.reduceLE, Int.reduceLT, Int.reduceAdd, Int.reduceSub, Int.reduceMul, Int.cast_ofNat_Int, cast_zero_int, cast_one_int, Nat.reducePow, Nat.reduceEqDiff, Nat.reduceMod, Nat.zero_add, Nat.sub_zero, Nat.add_zero, e0, e3, wp, g9, hq5, self_get hq5, flM_len, own_ge ss5.low.1]
            refine ⟨by omega, by omega, by omega, l ++ [(3650, 1, 2, 0)], H5.length + 1, by rw [snoc_lenM], ?_, by rw [snoc_lenM]; omega, by rw [snoc_lenM]; omega⟩
            rw [flM_snoc]
            exact ssa.more (by omega)
          · try simp only [go_sem, Nat.reduceBEq, Nat.reduceAdd, Nat.reduceMul, Nat.reduceSub, Nat.reduceLeDiff, Nat.le_refl, implies_true, Nat.reduceLT, reduceIte, decide_true, decide_false, true_and, and_true, reduceCtorEq, Nat.mul_one, Int.reduceToNat, Int.reduceLE, Int.reduceLT, Int.reduceAdd, Int.reduceSub, Int.reduceMul, Int.cast_ofNat_Int, cast_zero_int, cast_one_int, Nat.reducePow, Nat.reduceEqDiff, Nat.reduceMod, Nat.zero_add, Nat.sub_zero, Nat.add_zero, e0, e3, wp, g9]
            exact ⟨l, sid, rfl, ss5.more (by omega), hl2⟩
end
end Go.Proofs.Ytfolkgkcaiaifaa
