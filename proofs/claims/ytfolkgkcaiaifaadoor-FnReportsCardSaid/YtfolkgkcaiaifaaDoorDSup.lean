
/- Draws of supplies. No condition. -/
import Derived.Test.YtfolkgkcaiaifaaDoorWst
import Derived.Test.YtfolkgkcaiaifaaDoorFairShare
import Derived.Test.YtfolkgkcaiaifaaDoorH3
namespace Go.Proofs.YtfolkgkcaiaifaaDoor
open Go.HH Go.Proofs
set_option linter.unusedSimpArgs false
set_option linter.unusedVariables false

def flS (l : List Sup) : List Value := (l.map sup).flatten
theorem flS_snoc {l : List Sup} {p : Sup} : flS (l ++ [p]) = flS l ++ sup p := by simp [flS]
theorem flS_len {l : List Sup} : (flS l).length = l.length * 3 := by
  induction l with
  | nil => rfl
  | cons x l ih => simp only [flS, List.map_cons, List.flatten_cons, List.length_append, List.length_cons] at ih ⊢; rw [ih]; simp [sup]; omega
def supZ : Blk := ⟨[.int .i64 0, .int .i64 0, .int .i64 0], 3, .rw⟩
section
variable {h : Heap} {M : Nat → Prop}
theorem c_l1Least (a b : Int) : vCall [] Tryd.prog M 31 [.int .i64 a, .int .i64 b] h (fun r h' => (∃ m, r = .int .i64 m) ∧ h = h') := by
  refine body_of mo Tryd.func31 rfl (by kernel_rfl) (Nat.le_of_ble_eq_true (by kernel_rfl)) rfl ?_
  by_cases g : a < b
  · simp only [go_sem, Nat.reduceBEq, Nat.reduceAdd, Nat.reduceMul, Nat.reduceSub, Nat.reduceLeDiff, Nat.le_refl, implies_true, Nat.reduceLT, reduceIte, decide_true, decide_false, true_and, and_true, reduceCtorEq, Nat.mul_one, Int.reduceToNat, Int.reduceLE, Int.reduceLT, Int.reduceAdd, Int.reduceSub, Int.reduceMul, Int.cast_ofNat_Int, cast_zero_int, cast_one_int, Nat.reducePow, Nat.reduceEqDiff, Nat.reduceMod, Nat.zero_add, Nat.sub_zero, Nat.add_zero, g]
    exact ⟨_, rfl⟩
  · simp only [go_sem, Nat.reduceBEq, Nat.reduceAdd, Nat.reduceMul, Nat.reduceSub, Nat.reduceLeDiff, Nat.le_refl, implies_true, Nat.reduceLT, reduceIte, decide_true, decide_false, true_and, and_true, reduceCtorEq, Nat.mul_one, Int.reduceToNat, Int.reduceLE, Int.reduceLT, Int.reduceAdd, Int.reduceSub, Int.reduceMul, Int.cast_ofNat_Int, cast_zero_int, cast_one_int, Nat.reducePow, Nat.reduceEqDiff, Nat.reduceMod, Nat.zero_add, Nat.sub_zero, Nat.add_zero, g]
    exact ⟨_, rfl⟩
set_option maxRecDepth 20000 in
theorem d_supply {id n B : Nat} {a : Option Addr} (node : Int) (s : St h id n a B) (hM : M id) (hB : B ≤ 100000) :
    vCall [] Tryd.prog M 46 [.pointer (some ⟨id, 0, none⟩), .int .i64 node] h (fun r H' => (∃ x y z : Int, r = .agg #[.int .i64 x, .int .i64 y, .int .i64 z]) ∧ St H' id n a (B + 10) ∧ Agr id (id + 1) h H') := by
  have hid := s.lt
  have hown : own h.length M id := Or.inr hM
  refine body_ofR ([(2,[10,1012])]) mo Tryd.func46 rfl (by kernel_rfl) (Nat.le_of_ble_eq_true (by kernel_rfl)) rfl ?_
  simp only [go_sem, Nat.reduceBEq, Nat.reduceAdd, Nat.reduceMul, Nat.reduceSub, Nat.reduceLeDiff, Nat.le_refl, implies_true, Nat.reduceLT, reduceIte, decide_true, decide_false, true_and, and_true, reduceCtorEq, Nat.mul_one, Int.reduceToNat, Int.reduceLE, Int.reduceLT, Int.reduceAdd, Int.reduceSub, Int.reduceMul, Int.cast_ofNat_Int, cast_zero_int, cast_one_int, Nat.reducePow, Nat.reduceEqDiff, Nat.reduceMod, Nat.zero_add, Nat.sub_zero, Nat.add_zero]
  refine ⟨by kernel_rfl, (d_among _ _ _ (s.app _) hown hget_lit1 rfl rfl (by decide) (by omega) (by omega) (by omega) (by omega)).use (fun _ m => m) ?_⟩
  rintro _ H1 ⟨⟨w0, rfl⟩, s1, g1⟩
  have z1 := agr_get g1 hget_lit0 (by omega)
  have L1 := g1.1
  simp only [List.length_append, List.length_cons, List.length_nil] at L1
  have bs0 : Vst h (H1 ++ [⟨[.int .i64 node, .int .i64 0, .int .i64 w0], 3, .rw⟩]) id n a (B + 2) h.length H1.length supZ [.int .i64 node, .int .i64 0, .int .i64 w0] 3 :=
    ⟨s1.app _, Agr.app.trans (g1.trans Agr.app), self_get z1 _, hget_new, by omega⟩
  have o1 : own h.length M H1.length = True := own_ge (by omega)
  have o2 : own h.length M h.length = True := own_ge (Nat.le_refl _)
  simp only [go_sem, Nat.reduceBEq, Nat.reduceAdd, Nat.reduceMul, Nat.reduceSub, Nat.reduceLeDiff, Nat.le_refl, implies_true, Nat.reduceLT, reduceIte, decide_true, decide_false, true_and, and_true, reduceCtorEq, Nat.mul_one, Int.reduceToNat, Int.reduceLE, Int.reduceLT, Int.reduceAdd, Int.reduceSub, Int.reduceMul, Int.cast_ofNat_Int, cast_zero_int, cast_one_int, Nat.reducePow, Nat.reduceEqDiff, Nat.reduceMod, Nat.zero_add, Nat.sub_zero, Nat.add_zero, own_ge (show h.length ≤ H1.length by omega), hget_set_newW, set_newW, hget_new, hBin_quo (show (2 : Int) ≠ 0 by omega)]
  refine ⟨by kernel_rfl, (c_l1Least _ _).use (fun _ m => m) ?_⟩
  rintro _ _ ⟨⟨w1, rfl⟩, rfl⟩
  try simp only [go_sem, Nat.reduceBEq, Nat.reduceAdd, Nat.reduceMul, Nat.reduceSub, Nat.reduceLeDiff, Nat.le_refl, implies_true, Nat.reduceLT, reduceIte, decide_true, decide_false, true_and, and_true, reduceCtorEq, Nat.mul_one, Int.reduceToNat, Int.reduceLE, Int.reduceLT, Int.reduceAdd, Int.reduceSub, Int.reduceMul, Int.cast_ofNat_Int, cast_zero_int, cast_one_int, Nat.reducePow, Nat.reduceEqDiff, Nat.reduceMod, Nat.zero_add, Nat.sub_zero, Nat.add_zero, own_ge (show h.length ≤ H1.length by omega), hget_set_newW, set_newW, hget_new, hBin_quo (show (2 : Int) ≠ 0 by omega)]
  refine ⟨by kernel_rfl, (d_among (H1.length + 1) 4 ⟨[.int .i64 0, .int .i64 w0, .int .i64 (IntKind.i64.wrap (w0.tdiv 2)), .int .i64 w1], 1, .rw⟩ (by simpa using (bs0.grow [⟨[.int .i64 0, .int .i64 w0, .int .i64 (IntKind.i64.wrap (w0.tdiv 2)), .int .i64 w1], 1, .rw⟩]).st) hown hget_lit1 rfl rfl (by simp) (by omega) (by omega) (by omega) (by omega)).use (fun _ m => m) ?_⟩
  rintro _ H2 ⟨⟨w2, rfl⟩, s2, g2⟩
  have bs1 := (bs0.grow [_]).step s2 (by simpa using g2)
  have bs2 := bs1.put [.int .i64 node, .int .i64 w2, .int .i64 w0]
  simp only [go_sem, Nat.reduceBEq, Nat.reduceAdd, Nat.reduceMul, Nat.reduceSub, Nat.reduceLeDiff, Nat.le_refl, implies_true, Nat.reduceLT, reduceIte, decide_true, decide_false, true_and, and_true, reduceCtorEq, Nat.mul_one, Int.reduceToNat, Int.reduceLE, Int.reduceLT, Int.reduceAdd, Int.reduceSub, Int.reduceMul, Int.cast_ofNat_Int, cast_zero_int, cast_one_int, Nat.reducePow, Nat.reduceEqDiff, Nat.reduceMod, Nat.zero_add, Nat.sub_zero, Nat.add_zero, o1, o2, bs1.b]
  refine ⟨by have := g2.1; simpa using this, ?_⟩
  refine ⟨by kernel_rfl, (d_pick _ bs2.st hown (by omega)).use (fun _ m => m) ?_⟩
  rintro _ H3 ⟨⟨c, rfl, c0, c1⟩, s3, g3⟩
  have bs3 := bs2.step s3 g3
  have fin : ∀ (Hx : Heap) (x y z : Int) (Bx : Nat), Vst h Hx id n a Bx h.length H1.length supZ [.int .i64 x, .int .i64 y, .int .i64 z] 3 → Bx ≤ B + 10 →
      (∃ x' y' z' : Int, Value.agg #[.int .i64 x, .int .i64 y, .int .i64 z] = .agg #[.int .i64 x', .int .i64 y', .int .i64 z']) ∧ St (Hx.set h.length ⟨[.int .i64 x, .int .i64 y, .int .i64 z], 3, .rw⟩) id n a (B + 10) ∧ Agr id (id + 1) h (Hx.set h.length ⟨[.int .i64 x, .int .i64 y, .int .i64 z], 3, .rw⟩) := fun Hx x y z Bx q hq => by
    obtain ⟨d1, d2⟩ := q.done rfl ⟨[.int .i64 x, .int .i64 y, .int .i64 z], 3, .rw⟩
    exact ⟨⟨x, y, z, rfl⟩, d1.more hq, d2⟩
  have L3 := hget_lt bs3.r
  by_cases q1 : c = 0
  · have e1 : (c == 0) = true := by simpa using q1
    try simp only [go_sem, Nat.reduceBEq, Nat.reduceAdd, Nat.reduceMul, Nat.reduceSub, Nat.reduceLeDiff, Nat.le_refl, implies_true, Nat.reduceLT, reduceIte, decide_true, decide_false, true_and, and_true, reduceCtorEq, Nat.mul_one, Int.reduceToNat, Int.reduceLE, Int.reduceLT, Int.reduceAdd, Int.reduceSub, Int.reduceMul, Int.cast_ofNat_Int, cast_zero_int, cast_one_int, Nat.reducePow, Nat.reduceEqDiff, Nat.reduceMod, Nat.zero_add, Nat.sub_zero, Nat.add_zero, e1]
    refine ⟨by kernel_rfl, (d_amongL _ _ bs3.st hown (by decide) (by decide) (by omega) (by omega) (by omega)).use (fun _ m => m) ?_⟩
    rintro _ H4 ⟨⟨x, rfl⟩, s4, g4, l4⟩
    have bs4 := bs3.step s4 g4
    have bs5 := bs4.put [.int .i64 x, .int .i64 w2, .int .i64 w0]
    simp only [go_sem, Nat.reduceBEq, Nat.reduceAdd, Nat.reduceMul, Nat.reduceSub, Nat.reduceLeDiff, Nat.le_refl, implies_true, Nat.reduceLT, reduceIte, decide_true, decide_false, true_and, and_true, reduceCtorEq, Nat.mul_one, Int.reduceToNat, Int.reduceLE, Int.reduceLT, Int.reduceAdd, Int.reduceSub, Int.reduceMul, Int.cast_ofNat_Int, cast_zero_int, cast_one_int, Nat.reducePow, Nat.reduceEqDiff, Nat.reduceMod, Nat.zero_add, Nat.sub_zero, Nat.add_zero, e1, o1, o2, bs4.b, bs5.b, bs5.r, set_get bs5.r, set_get bs4.b, supZ]
    exact fin _ _ _ _ _ bs5 (by omega)
  · have e1 : (c == 0) = false := by simpa using q1
    by_cases q2 : c = 1
    · have e2 : (c == 1) = true := by simpa using q2
      try simp only [go_sem, Nat.reduceBEq, Nat.reduceAdd, Nat.reduceMul, Nat.reduceSub, Nat.reduceLeDiff, Nat.le_refl, implies_true, Nat.reduceLT, reduceIte, decide_true, decide_false, true_and, and_true, reduceCtorEq, Nat.mul_one, Int.reduceToNat, Int.reduceLE, Int.reduceLT, Int.reduceAdd, Int.reduceSub, Int.reduceMul, Int.cast_ofNat_Int, cast_zero_int, cast_one_int, Nat.reducePow, Nat.reduceEqDiff, Nat.reduceMod, Nat.zero_add, Nat.sub_zero, Nat.add_zero, e1, e2, bs3.b]
      refine ⟨by kernel_rfl, (d_amongL [.int .i64 (-1), .int .i64 (IntKind.i64.wrap (w0 + 1))] 2 bs3.st hown rfl (Nat.le_refl 2) (by omega) (by omega) (by omega)).use (fun _ m => m) ?_⟩
      rintro _ H4 ⟨⟨x, rfl⟩, s4, g4, l4⟩
      have bs4 := bs3.step s4 g4
      have bs5 := bs4.put [.int .i64 node, .int .i64 x, .int .i64 w0]
      simp only [go_sem, Nat.reduceBEq, Nat.reduceAdd, Nat.reduceMul, Nat.reduceSub, Nat.reduceLeDiff, Nat.le_refl, implies_true, Nat.reduceLT, reduceIte, decide_true, decide_false, true_and, and_true, reduceCtorEq, Nat.mul_one, Int.reduceToNat, Int.reduceLE, Int.reduceLT, Int.reduceAdd, Int.reduceSub, Int.reduceMul, Int.cast_ofNat_Int, cast_zero_int, cast_one_int, Nat.reducePow, Nat.reduceEqDiff, Nat.reduceMod, Nat.zero_add, Nat.sub_zero, Nat.add_zero, e1, e2, o1, o2, bs4.b, bs5.b, bs5.r, set_get bs5.r, set_get bs4.b, supZ]
      exact fin _ _ _ _ _ bs5 (by omega)
    · have e2 : (c == 1) = false := by simpa using q2
      by_cases q3 : c = 2
      · have e3 : (c == 2) = true := by simpa using q3
        have bs5 := bs3.put [.int .i64 node, .int .i64 w2, .int .i64 1001]
        try simp only [go_sem, Nat.reduceBEq, Nat.reduceAdd, Nat.reduceMul, Nat.reduceSub, Nat.reduceLeDiff, Nat.le_refl, implies_true, Nat.reduceLT, reduceIte, decide_true, decide_false, true_and, and_true, reduceCtorEq, Nat.mul_one, Int.reduceToNat, Int.reduceLE, Int.reduceLT, Int.reduceAdd, Int.reduceSub, Int.reduceMul, Int.cast_ofNat_Int, cast_zero_int, cast_one_int, Nat.reducePow, Nat.reduceEqDiff, Nat.reduceMod, Nat.zero_add, Nat.sub_zero, Nat.add_zero, e1, e2, e3, o1, o2, bs3.b, bs5.b, bs5.r, set_get bs5.r, set_get bs3.b, supZ]
        exact fin _ _ _ _ _ bs5 (by omega)
      · have e3 : (c == 2) = false := by simpa using q3
        try simp only [go_sem, Nat.reduceBEq, Nat.reduceAdd, Nat.reduceMul, Nat.reduceSub, Nat.reduceLeDiff, Nat.le_refl, implies_true, Nat.reduceLT, reduceIte, decide_true, decide_false, true_and, and_true, reduceCtorEq, Nat.mul_one, Int.reduceToNat, Int.reduceLE, Int.reduceLT, Int.reduceAdd, Int.reduceSub, Int.reduceMul, Int.cast_ofNat_Int, cast_zero_int, cast_one_int, Nat.reducePow, Nat.reduceEqDiff, Nat.reduceMod, Nat.zero_add, Nat.sub_zero, Nat.add_zero, e1, e2, e3, o1, o2, bs3.b, bs3.r, set_get bs3.r, supZ]
        exact fin _ _ _ _ _ bs3 (by omega)

theorem flS_row : ∀ {l : List Sup} {i : Nat} (hi : i < l.length), ((flS l).drop (i * 3)).take 3 = [.int .i64 l[i].1, .int .i64 l[i].2.1, .int .i64 l[i].2.2]
  | x :: l, 0, _ => rfl
  | x :: l, i + 1, hi => by
    have ih := flS_row (l := l) (i := i) (by simpa using hi)
    rw [Nat.add_mul]
    simpa [flS, sup] using ih
theorem flS_set0 : ∀ {l : List Sup} (hi : 0 < l.length) (x : Sup), setRange (flS l) 0 [.int .i64 x.1, .int .i64 x.2.1, .int .i64 x.2.2] = flS (l.set 0 x)
  | y :: l, _, x => by simp [flS, sup, setRange]
theorem snoc_lenS {l : List Sup} {x : Sup} : (l ++ [x]).length = l.length + 1 := by simp
set_option maxRecDepth 20000 in
theorem d_supplies {id n B : Nat} {a : Option Addr} (s : St h id n a B) (hM : M id) (hB : B ≤ 90000) :
    vCall [] Tryd.prog M 52 [.pointer (some ⟨id, 0, none⟩)] h (fun r H' => (∃ (l : List Sup) (sid : Nat), r = .slice (some ⟨sid, 0, none⟩) l.length 0 ∧ Wst h H' id n a (B + 200) sid 3 (flS l) ∧ l.length ≤ 8)) := by
  have hid := s.lt
  have hown : own h.length M id := Or.inr hM
  refine body_of mo Tryd.func52 rfl (by kernel_rfl) (Nat.le_of_ble_eq_true (by kernel_rfl)) rfl ?_
  simp only [go_sem, Nat.reduceBEq, Nat.reduceAdd, Nat.reduceMul, Nat.reduceSub, Nat.reduceLeDiff, Nat.le_refl, implies_true, Nat.reduceLT, reduceIte, decide_true, decide_false, true_and, and_true, reduceCtorEq, Nat.mul_one, Int.reduceToNat, Int.reduceLE, Int.reduceLT, Int.reduceAdd, Int.reduceSub, Int.reduceMul, Int.cast_ofNat_Int, cast_zero_int, cast_one_int, Nat.reducePow, Nat.reduceEqDiff, Nat.reduceMod, Nat.zero_add, Nat.sub_zero, Nat.add_zero]
  have ss : Wst h (h ++ [⟨[], 3, .rw⟩]) id n a B h.length 3 (flS []) := ⟨s.app _, Agr.app, hget_new, by omega⟩
  refine vLoop.count mo 8 (fun i e H => ∃ (l : List Sup) (sid : Nat), e 0 = .pointer (some ⟨id, 0, none⟩) ∧ e 3 = .slice (some ⟨sid, 0, none⟩) l.length 0 ∧ e 4 = .int .i64 (i + 1 : Nat) ∧
    Wst h H id n a (B + 12 * i) sid 3 (flS l) ∧ l.length ≤ i) ?_ ?_
  · try simp only [go_sem, Nat.reduceBEq, Nat.reduceAdd, Nat.reduceMul, Nat.reduceSub, Nat.reduceLeDiff, Nat.le_refl, implies_true, Nat.reduceLT, reduceIte, decide_true, decide_false, true_and, and_true, reduceCtorEq, Nat.mul_one, Int.reduceToNat, Int.reduceLE, Int.reduceLT, Int.reduceAdd, Int.reduceSub, Int.reduceMul, Int.cast_ofNat_Int, cast_zero_int, cast_one_int, Nat.reducePow, Nat.reduceEqDiff, Nat.reduceMod, Nat.zero_add, Nat.sub_zero, Nat.add_zero]
    exact ⟨[], h.length, rfl, ss.more (by omega), by simp⟩
  · rintro i e H hi ⟨l, sid, e0, e3, e4, ss, hl⟩
    have hq := ss.s
    by_cases h8 : i < 8
    · have hz : ((i + 1 : Nat) : Int) ≤ 8 := by omega
      try simp only [go_sem, Nat.reduceBEq, Nat.reduceAdd, Nat.reduceMul, Nat.reduceSub, Nat.reduceLeDiff, Nat.le_refl, implies_true, Nat.reduceLT, reduceIte, decide_true, decide_false, true_and, and_true, reduceCtorEq, Nat.mul_one, Int.reduceToNat, Int.reduceLE, Int.reduceLT, Int.reduceAdd, Int.reduceSub, Int.reduceMul, Int.cast_ofNat_Int, cast_zero_int, cast_one_int, Nat.reducePow, Nat.reduceEqDiff, Nat.reduceMod, Nat.zero_add, Nat.sub_zero, Nat.add_zero, e0, e3, e4, hz]
      refine ⟨by kernel_rfl, (d_one _ ss.st hown (by omega)).use (fun _ m => m) ?_⟩
      rintro _ H2 ⟨⟨gb, rfl⟩, s2, g2⟩
      have ss2 := ss.step s2 g2
      cases gb
      · try simp only [go_sem, Nat.reduceBEq, Nat.reduceAdd, Nat.reduceMul, Nat.reduceSub, Nat.reduceLeDiff, Nat.le_refl, implies_true, Nat.reduceLT, reduceIte, decide_true, decide_false, true_and, and_true, reduceCtorEq, Nat.mul_one, Int.reduceToNat, Int.reduceLE, Int.reduceLT, Int.reduceAdd, Int.reduceSub, Int.reduceMul, Int.cast_ofNat_Int, cast_zero_int, cast_one_int, Nat.reducePow, Nat.reduceEqDiff, Nat.reduceMod, Nat.zero_add, Nat.sub_zero, Nat.add_zero, e0, e3, e4, hz]
        exact ⟨h8, l, sid, rfl, by rw [wrap64 (by omega)]; rfl, ss2.more (by omega), by omega⟩
      · try simp only [go_sem, Nat.reduceBEq, Nat.reduceAdd, Nat.reduceMul, Nat.reduceSub, Nat.reduceLeDiff, Nat.le_refl, implies_true, Nat.reduceLT, reduceIte, decide_true, decide_false, true_and, and_true, reduceCtorEq, Nat.mul_one, Int.reduceToNat, Int.reduceLE, Int.reduceLT, Int.reduceAdd, Int.reduceSub, Int.reduceMul, Int.cast_ofNat_Int, cast_zero_int, cast_one_int, Nat.reducePow, Nat.reduceEqDiff, Nat.reduceMod, Nat.zero_add, Nat.sub_zero, Nat.add_zero, e0, e3, e4, hz]
        refine ⟨by kernel_rfl, (d_supply _ ss2.st hown (by omega)).use (fun _ m => m) ?_⟩
        rintro _ H3 ⟨⟨x, y, z, rfl⟩, s3, g3⟩
        have ss3 := ss2.step s3 g3
        have hq3 := ss3.s
        have ssa := ss3.app (new := [.int .i64 x, .int .i64 y, .int .i64 z])
        try simp only [go_sem, Nat.reduceBEq, Nat.reduceAdd, Nat.reduceMul, Nat.reduceSub, Nat.reduceLeDiff, Nat.le_refl, implies_true, Nat.reduceLT, reduceIte, decide_true, decide_false, true_and, and_true, reduceCtorEq, Nat.mul_one, Int.reduceToNat, Int.reduceLE, Int.reduceLT, Int.reduceAdd, Int.reduceSub, Int.reduceMul, Int.cast_ofNat_Int, cast_zero_int, cast_one_int, Nat.reducePow, Nat.reduceEqDiff, Nat.reduceMod, Nat.zero_add, Nat.sub_zero, Nat.add_zero, e0, e3, e4, hz, hq3, self_get hq3, flS_len, own_ge ss3.low.1]
        refine ⟨by omega, by omega, h8, l ++ [(x, y, z)], H3.length + 1, by rw [snoc_lenS], by rw [wrap64 (by omega)]; rfl, ?_, by rw [snoc_lenS]; omega⟩
        rw [flS_snoc]
        exact ssa.more (by omega)
    · obtain rfl : i = 8 := by omega
      have fin : ∀ (H' : Heap) (B' : Nat), Wst h H' id n a B' sid 3 (flS l) → B' ≤ B + 200 → (∃ (l' : List Sup) (sid' : Nat), Value.slice (some ⟨sid, 0, none⟩) l.length 0 = .slice (some ⟨sid', 0, none⟩) l'.length 0 ∧ Wst h H' id n a (B + 200) sid' 3 (flS l') ∧ l'.length ≤ 8) := fun H' B' ss hB' =>
        ⟨l, sid, rfl, ss.more hB', hl⟩
      by_cases g : 1 < l.length
      · have gz : (1 : Int) < l.length := by omega
        try simp only [go_sem, Nat.reduceBEq, Nat.reduceAdd, Nat.reduceMul, Nat.reduceSub, Nat.reduceLeDiff, Nat.le_refl, implies_true, Nat.reduceLT, reduceIte, decide_true, decide_false, true_and, and_true, reduceCtorEq, Nat.mul_one, Int.reduceToNat, Int.reduceLE, Int.reduceLT, Int.reduceAdd, Int.reduceSub, Int.reduceMul, Int.cast_ofNat_Int, cast_zero_int, cast_one_int, Nat.reducePow, Nat.reduceEqDiff, Nat.reduceMod, Nat.zero_add, Nat.sub_zero, Nat.add_zero, e0, e3, e4, gz]
        refine ⟨by kernel_rfl, (d_one _ ss.st hown (by omega)).use (fun _ m => m) ?_⟩
        rintro _ H2 ⟨⟨gb, rfl⟩, s2, g2⟩
        have ss2 := ss.step s2 g2
        have hq2 := ss2.s
        cases gb
        · try simp only [go_sem, Nat.reduceBEq, Nat.reduceAdd, Nat.reduceMul, Nat.reduceSub, Nat.reduceLeDiff, Nat.le_refl, implies_true, Nat.reduceLT, reduceIte, decide_true, decide_false, true_and, and_true, reduceCtorEq, Nat.mul_one, Int.reduceToNat, Int.reduceLE, Int.reduceLT, Int.reduceAdd, Int.reduceSub, Int.reduceMul, Int.cast_ofNat_Int, cast_zero_int, cast_one_int, Nat.reducePow, Nat.reduceEqDiff, Nat.reduceMod, Nat.zero_add, Nat.sub_zero, Nat.add_zero, e0, e3, e4, gz]
          exact fin _ _ ss2 (by omega)
        · have r1 := flS_row (l := l) (i := 1) (by omega)
          try simp only [go_sem, Nat.reduceBEq, Nat.reduceAdd, Nat.reduceMul, Nat.reduceSub, Nat.reduceLeDiff, Nat.le_refl, implies_true, Nat.reduceLT, reduceIte, decide_true, decide_false, true_and, and_true, reduceCtorEq, Nat.mul_one, Int.reduceToNat, Int.reduceLE, Int.reduceLT, Int.reduceAdd, Int.reduceSub, Int.reduceMul, Int.cast_ofNat_Int, cast_zero_int, cast_one_int, Nat.reducePow, Nat.reduceEqDiff, Nat.reduceMod, Nat.zero_add, Nat.sub_zero, Nat.add_zero, e0, e3, e4, gz, hq2, r1, flS_len, own_ge ss2.low.1, show 3 + 3 ≤ l.length * 3 by omega, show 3 ≤ l.length * 3 by omega, show (0 : Int) < l.length by omega]
          exact ⟨l.set 0 l[1], sid, by rw [List.length_set], by rw [← flS_set0 (by omega)]; exact (ss2.put _).more (by omega), by simpa using hl⟩
      · try simp only [go_sem, Nat.reduceBEq, Nat.reduceAdd, Nat.reduceMul, Nat.reduceSub, Nat.reduceLeDiff, Nat.le_refl, implies_true, Nat.reduceLT, reduceIte, decide_true, decide_false, true_and, and_true, reduceCtorEq, Nat.mul_one, Int.reduceToNat, Int.reduceLE, Int.reduceLT, Int.reduceAdd, Int.reduceSub, Int.reduceMul, Int.cast_ofNat_Int, cast_zero_int, cast_one_int, Nat.reducePow, Nat.reduceEqDiff, Nat.reduceMod, Nat.zero_add, Nat.sub_zero, Nat.add_zero, e0, e3, e4, show ¬ (1 : Int) < l.length by omega]
        exact fin _ _ ss (by omega)

theorem St.start0W {h : Heap} {b : Option Addr} {n : Nat} (hcode : CodeOk h b n) : St (h ++ [⟨[.slice b n 0, .int .i64 0, .int .u64 0], 3, .rw⟩]) h.length n b 0 :=
  ⟨⟨0, 0, by simp [hget, curB], by omega, by omega⟩, hcode.app⟩
/-- What a draw of a list leaves. -/
theorem Wst.rows {h H : Heap} {id n B sid k : Nat} {a : Option Addr} {l : List Sup} (s : Wst h H id n a B sid 3 (flS l)) (h0 : k ≤ h.length) : FR k H.length 3 H (.slice (some ⟨sid, 0, none⟩) l.length 0) (l.map sup) :=
  ⟨sid, by rw [List.length_map], Nat.le_trans h0 s.low.1, hget_lt s.s, s.s, fun r hr => by obtain ⟨x, _, rfl⟩ := List.mem_map.1 hr; rfl⟩
set_option maxRecDepth 20000 in
theorem c_DrawReportText (b : Option Addr) (n : Nat) (hcode : CodeOk h b n) :
    vCall [] Tryd.prog M 18 [.slice b n 0] h (fun r h' => (∃ l : List Sup, FR h.length h'.length 3 h' r (l.map sup) ∧ l.length ≤ 8) ∧ h <+: h') := by
  refine body_of mo Tryd.func18 rfl (by kernel_rfl) (Nat.le_of_ble_eq_true (by kernel_rfl)) rfl ?_
  simp only [go_sem, Nat.reduceBEq, Nat.reduceAdd, Nat.reduceMul, Nat.reduceSub, Nat.reduceLeDiff, Nat.le_refl, implies_true, Nat.reduceLT, reduceIte, decide_true, decide_false, true_and, and_true, reduceCtorEq, Nat.mul_one, Int.reduceToNat, Int.reduceLE, Int.reduceLT, Int.reduceAdd, Int.reduceSub, Int.reduceMul, Int.cast_ofNat_Int, cast_zero_int, cast_one_int, Nat.reducePow, Nat.reduceEqDiff, Nat.reduceMod, Nat.zero_add, Nat.sub_zero, Nat.add_zero]
  refine ⟨by kernel_rfl, (d_supplies (St.start0W hcode) (Or.inl (Nat.le_refl _)) (by omega)).use (fun _ m => m) ?_⟩
  rintro _ H1 ⟨l, sid, rfl, ss, hl⟩
  try simp only [go_sem, Nat.reduceBEq, Nat.reduceAdd, Nat.reduceMul, Nat.reduceSub, Nat.reduceLeDiff, Nat.le_refl, implies_true, Nat.reduceLT, reduceIte, decide_true, decide_false, true_and, and_true, reduceCtorEq, Nat.mul_one, Int.reduceToNat, Int.reduceLE, Int.reduceLT, Int.reduceAdd, Int.reduceSub, Int.reduceMul, Int.cast_ofNat_Int, cast_zero_int, cast_one_int, Nat.reducePow, Nat.reduceEqDiff, Nat.reduceMod, Nat.zero_add, Nat.sub_zero, Nat.add_zero]
  exact ⟨⟨l, ss.rows (by simp), hl⟩, agr_preW (List.prefix_append _ _) ss.out (Nat.le_refl _)⟩
set_option maxRecDepth 20000 in
end
end Go.Proofs.YtfolkgkcaiaifaaDoor
