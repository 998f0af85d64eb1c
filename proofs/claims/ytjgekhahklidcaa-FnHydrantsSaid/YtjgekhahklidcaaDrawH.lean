
/- Draws of hydrants. No condition. -/
import Derived.Test.YtjgekhahklidcaaDrawM
namespace Go.Proofs.Ytjgekhahklidcaa
open Go.HH
set_option linter.unusedSimpArgs false
set_option linter.unusedVariables false

def flH (l : List (Int × Int)) : List Value := (l.map hyd).flatten
theorem flH_snoc {l : List (Int × Int)} {p : Int × Int} : flH (l ++ [p]) = flH l ++ hyd p := by simp [flH]
theorem flH_len {l : List (Int × Int)} : (flH l).length = l.length * 2 := by
  induction l with
  | nil => rfl
  | cons x l ih => simp only [flH, List.map_cons, List.flatten_cons, List.length_append, List.length_cons] at ih ⊢; rw [ih]; simp [hyd]; omega
theorem snoc_lenH {l : List (Int × Int)} {x : Int × Int} : (l ++ [x]).length = l.length + 1 := by simp

theorem flH_row : ∀ {l : List (Int × Int)} {i : Nat} (hi : i < l.length), ((flH l).drop (i * 2)).take 2 = [.int .i64 l[i].1, .int .i64 l[i].2]
  | x :: l, 0, _ => rfl
  | x :: l, i + 1, hi => by
    have ih := flH_row (l := l) (i := i) (by simpa using hi)
    rw [Nat.add_mul]
    simpa [flH, hyd] using ih
theorem flH_set : ∀ {l : List (Int × Int)} {i : Nat} (hi : i < l.length) (a b : Int), setRange (flH l) (i * 2) [.int .i64 a, .int .i64 b] = flH (l.set i (a, b))
  | x :: l, 0, _, a, b => by simp [flH, hyd, setRange]
  | x :: l, i + 1, hi, a, b => by
    have ih := flH_set (l := l) (i := i) (by simpa using hi) a b
    rw [Nat.add_mul]
    simp only [flH, hyd, setRange, List.map_cons, List.flatten_cons, List.set_cons_succ, List.length_cons, List.length_nil] at ih ⊢
    rw [← ih]
    simp
/-- An own slice that grows, in a register, beside a cursor. -/
structure Sst (h H : Heap) (id n : Nat) (a : Option Addr) (B sid sz : Nat) (cs : List Value) : Prop where
  st : St H id n a B
  out : Agr id (id + 1) h H
  s : hget H sid = some ⟨cs, sz, .rw⟩
  low : h.length ≤ sid ∧ id < h.length
section
variable {h H H' : Heap} {id n B B' sid sz : Nat} {a : Option Addr} {cs : List Value}
theorem Sst.step (s : Sst h H id n a B sid sz cs) (s' : St H' id n a B') (g : Agr id (id + 1) H H') : Sst h H' id n a B' sid sz cs := by
  have h1 := s.low
  exact ⟨s', s.out.trans g, agr_get g s.s (by omega), h1⟩
theorem Sst.more (s : Sst h H id n a B sid sz cs) (h1 : B ≤ B') : Sst h H id n a B' sid sz cs := ⟨s.st.more h1, s.out, s.s, s.low⟩
theorem Sst.other (s : Sst h H id n a B sid sz cs) {j : Nat} {c : Blk} (hj : hget H j = some c) (hrw : c.st = .rw) (hne : h.length ≤ j ∧ sid ≠ j) (b : Blk) : Sst h (H.set j b) id n a B sid sz cs := by
  have h1 := s.low
  exact ⟨s.st.set hj hrw (by omega), ⟨by simpa using s.out.1, fun i e1 e2 => by rw [hget_set_ne (by omega)]; exact s.out.2 i e1 e2⟩, by rw [hget_set_ne (by omega)]; exact s.s, h1⟩
theorem Sst.put (s : Sst h H id n a B sid sz cs) (c : List Value) : Sst h (H.set sid ⟨c, sz, .rw⟩) id n a B sid sz c := by
  have h1 := s.low
  exact ⟨s.st.set s.s rfl (by omega), ⟨by simpa using s.out.1, fun i e1 e2 => by rw [hget_set_ne (by omega)]; exact s.out.2 i e1 e2⟩, hget_set_same (hget_lt s.s), h1⟩
theorem Sst.app {new : List Value} (s : Sst h H id n a B sid sz cs) : Sst h ((H ++ [(⟨new, sz, .rw⟩ : Blk)]).set sid (⟨cs, sz, .dead⟩ : Blk) ++ [(⟨cs ++ new, sz, .rw⟩ : Blk)]) id n a B (H.length + 1) sz (cs ++ new) := by
  have h1 := s.low
  have h0 := s.out.1
  have h2 := hget_lt s.s
  have s2 : St ((H ++ [(⟨new, sz, .rw⟩ : Blk)]).set sid (⟨cs, sz, .dead⟩ : Blk)) id n a B := (s.st.app _).set (self_get s.s _) rfl (by omega)
  have s3 := s2.app [(⟨cs ++ new, sz, .rw⟩ : Blk)]
  refine ⟨s3, ⟨by simp; omega, fun i e1 e2 => ?_⟩, ?_, by omega⟩
  · have e5 := s.out.2 i e1 e2
    have e6 : i < H.length := by omega
    rw [← e5]
    have e7 : hget H i = some H[i] := by unfold hget; exact List.getElem?_eq_getElem e6
    rw [e7]
    exact self_get (by rw [hget_set_ne (by omega)]; exact self_get e7 _) _
  · have e5 : ((H ++ [(⟨new, sz, .rw⟩ : Blk)]).set sid (⟨cs, sz, .dead⟩ : Blk)).length = H.length + 1 := by simp
    rw [← e5]
    exact hget_new
end

section
variable {h : Heap} {M : Nat → Prop}
theorem d_reach {id n B : Nat} {a : Option Addr} (s : St h id n a B) (hM : M id) (hB : B ≤ 100000) :
    vCall [] Try.prog M 87 [.pointer (some ⟨id, 0, none⟩)] h (fun r H' => (∃ m, r = .int .i64 m) ∧ St H' id n a (B + 4) ∧ Agr id (id + 1) h H') := by
  have hid := s.lt
  have hown : own h.length M id := Or.inr hM
  refine body_of mo Try.func87 rfl (by kernel_rfl) (Nat.le_of_ble_eq_true (by kernel_rfl)) rfl ?_
  simp only [go_sem, Nat.reduceBEq, Nat.reduceAdd, Nat.reduceMul, Nat.reduceSub, Nat.reduceLeDiff, Nat.le_refl, implies_true, Nat.reduceLT, reduceIte, decide_true, decide_false, true_and, and_true, reduceCtorEq, Nat.mul_one, Int.reduceToNat, Int.reduceLE, Int.reduceLT, Int.reduceAdd, Int.reduceSub, Int.reduceMul, Int.cast_ofNat_Int, cast_zero_int, cast_one_int, Nat.reducePow, Nat.reduceEqDiff, Nat.reduceMod, Nat.zero_add, Nat.sub_zero, Nat.add_zero]
  refine ⟨by kernel_rfl, (d_pick _ (s.app _) hown (by omega)).use (fun _ m => m) ?_⟩
  rintro _ H1 ⟨⟨m, rfl, m0, m1⟩, s1, g1⟩
  obtain ⟨q, e1, q1, q2⟩ := cutLen 4 (by omega) m0 m1
  simp only [Int.reduceToNat] at q1 q2
  have k0 := agr_get g1 hget_new (by omega)
  simp only [go_sem, Nat.reduceBEq, Nat.reduceAdd, Nat.reduceMul, Nat.reduceSub, Nat.reduceLeDiff, Nat.le_refl, implies_true, Nat.reduceLT, reduceIte, decide_true, decide_false, true_and, and_true, reduceCtorEq, Nat.mul_one, Int.reduceToNat, Int.reduceLE, Int.reduceLT, Int.reduceAdd, Int.reduceSub, Int.reduceMul, Int.cast_ofNat_Int, cast_zero_int, cast_one_int, Nat.reducePow, Nat.reduceEqDiff, Nat.reduceMod, Nat.zero_add, Nat.sub_zero, Nat.add_zero, hBin_quo (show (11 : Int) ≠ 0 by omega), e1, k0]
  refine ⟨by omega, by omega, ?_⟩
  refine ⟨by kernel_rfl, (d_among _ q _ s1 hown k0 rfl rfl (by simp; omega) (by omega) (by omega) (by omega) (by omega)).use (fun _ m => m) ?_⟩
  rintro _ H2 ⟨⟨x, rfl⟩, s2, g2⟩
  try simp only [go_sem, Nat.reduceBEq, Nat.reduceAdd, Nat.reduceMul, Nat.reduceSub, Nat.reduceLeDiff, Nat.le_refl, implies_true, Nat.reduceLT, reduceIte, decide_true, decide_false, true_and, and_true, reduceCtorEq, Nat.mul_one, Int.reduceToNat, Int.reduceLE, Int.reduceLT, Int.reduceAdd, Int.reduceSub, Int.reduceMul, Int.cast_ofNat_Int, cast_zero_int, cast_one_int, Nat.reducePow, Nat.reduceEqDiff, Nat.reduceMod, Nat.zero_add, Nat.sub_zero, Nat.add_zero]
  exact ⟨⟨x, rfl⟩, s2, Agr.app.trans (g1.trans g2)⟩

set_option maxRecDepth 8000 in
set_option maxHeartbeats 4000000 in
theorem d_hydrants {id n B : Nat} {a : Option Addr} (nodes : Int) (s : St h id n a B) (hM : M id) (hB : B ≤ 100000) :
    vCall [] Try.prog M 86 [.pointer (some ⟨id, 0, none⟩), .int .i64 nodes] h (fun r H' => (∃ (l : List (Int × Int)) (sid : Nat), r = .slice (some ⟨sid, 0, none⟩) l.length 0 ∧ Sst h H' id n a (B + 200) sid 2 (flH l) ∧ l.length ≤ 40)) := by
  have hid := s.lt
  have hown : own h.length M id := Or.inr hM
  refine body_of mo Try.func86 rfl (by kernel_rfl) (Nat.le_of_ble_eq_true (by kernel_rfl)) rfl ?_
  simp only [go_sem, Nat.reduceBEq, Nat.reduceAdd, Nat.reduceMul, Nat.reduceSub, Nat.reduceLeDiff, Nat.le_refl, implies_true, Nat.reduceLT, reduceIte, decide_true, decide_false, true_and, and_true, reduceCtorEq, Nat.mul_one, Int.reduceToNat, Int.reduceLE, Int.reduceLT, Int.reduceAdd, Int.reduceSub, Int.reduceMul, Int.cast_ofNat_Int, cast_zero_int, cast_one_int, Nat.reducePow, Nat.reduceEqDiff, Nat.reduceMod, Nat.zero_add, Nat.sub_zero, Nat.add_zero]
  have ss : Sst h (h ++ [⟨[], 2, .rw⟩]) id n a B h.length 2 (flH []) := ⟨s.app _, Agr.app, hget_new, by omega⟩
  refine ⟨by kernel_rfl, (d_pick _ ss.st hown (by omega)).use (fun _ m => m) ?_⟩
  rintro _ H1 ⟨⟨m, rfl, m0, m1⟩, s1, g1⟩
  have ss1 := ss.step s1 g1
  try simp only [go_sem, Nat.reduceBEq, Nat.reduceAdd, Nat.reduceMul, Nat.reduceSub, Nat.reduceLeDiff, Nat.le_refl, implies_true, Nat.reduceLT, reduceIte, decide_true, decide_false, true_and, and_true, reduceCtorEq, Nat.mul_one, Int.reduceToNat, Int.reduceLE, Int.reduceLT, Int.reduceAdd, Int.reduceSub, Int.reduceMul, Int.cast_ofNat_Int, cast_zero_int, cast_one_int, Nat.reducePow, Nat.reduceEqDiff, Nat.reduceMod, Nat.zero_add, Nat.sub_zero, Nat.add_zero]
  refine vLoop.count mo 6 (fun i e H => ∃ (l : List (Int × Int)) (sid : Nat) (nd : Int), e 0 = .pointer (some ⟨id, 0, none⟩) ∧ e 1 = .int .i64 nodes ∧ e 5 = .slice (some ⟨sid, 0, none⟩) l.length 0 ∧ e 6 = .int .i64 nd ∧ e 7 = .int .i64 (m - i) ∧
    Sst h H id n a (B + 2 + 10 * i) sid 2 (flH l) ∧ l.length ≤ i ∧ (i : Int) ≤ m) ?_ ?_
  · try simp only [go_sem, Nat.reduceBEq, Nat.reduceAdd, Nat.reduceMul, Nat.reduceSub, Nat.reduceLeDiff, Nat.le_refl, implies_true, Nat.reduceLT, reduceIte, decide_true, decide_false, true_and, and_true, reduceCtorEq, Nat.mul_one, Int.reduceToNat, Int.reduceLE, Int.reduceLT, Int.reduceAdd, Int.reduceSub, Int.reduceMul, Int.cast_ofNat_Int, cast_zero_int, cast_one_int, Nat.reducePow, Nat.reduceEqDiff, Nat.reduceMod, Nat.zero_add, Nat.sub_zero, Nat.add_zero]
    exact ⟨[], h.length, 1, rfl, rfl, by simp, ss1, by simp, m0⟩
  · rintro i e H hi ⟨l, sid, nd, e0, e1, e5, e6, e7, ss, hl, him⟩
    have hq := ss.s
    by_cases h1 : 0 < m - (i : Int)
    · try simp only [go_sem, Nat.reduceBEq, Nat.reduceAdd, Nat.reduceMul, Nat.reduceSub, Nat.reduceLeDiff, Nat.le_refl, implies_true, Nat.reduceLT, reduceIte, decide_true, decide_false, true_and, and_true, reduceCtorEq, Nat.mul_one, Int.reduceToNat, Int.reduceLE, Int.reduceLT, Int.reduceAdd, Int.reduceSub, Int.reduceMul, Int.cast_ofNat_Int, cast_zero_int, cast_one_int, Nat.reducePow, Nat.reduceEqDiff, Nat.reduceMod, Nat.zero_add, Nat.sub_zero, Nat.add_zero, e0, e1, e5, e6, e7, h1]
      refine ⟨by kernel_rfl, (c_l1Most _ _).use (fun _ m => m) ?_⟩
      rintro _ _ ⟨rfl, rfl⟩
      by_cases h2 : nd ≤ (if 1 < nodes then nodes else 1)
      · try simp only [go_sem, Nat.reduceBEq, Nat.reduceAdd, Nat.reduceMul, Nat.reduceSub, Nat.reduceLeDiff, Nat.le_refl, implies_true, Nat.reduceLT, reduceIte, decide_true, decide_false, true_and, and_true, reduceCtorEq, Nat.mul_one, Int.reduceToNat, Int.reduceLE, Int.reduceLT, Int.reduceAdd, Int.reduceSub, Int.reduceMul, Int.cast_ofNat_Int, cast_zero_int, cast_one_int, Nat.reducePow, Nat.reduceEqDiff, Nat.reduceMod, Nat.zero_add, Nat.sub_zero, Nat.add_zero, e0, e1, e5, e6, e7, h1, h2]
        refine ⟨by kernel_rfl, (d_amongL _ _ ss.st hown rfl (by simp) (by omega) (by omega) (by omega)).use (fun _ m => m) ?_⟩
        rintro _ H5 ⟨⟨x, rfl⟩, s5, g5, l5⟩
        have ss5 := ss.step s5 g5
        have hq5 := ss5.s
        have ssa := ss5.app (new := [.int .i64 nd, .int .i64 x])
        try simp only [go_sem, Nat.reduceBEq, Nat.reduceAdd, Nat.reduceMul, Nat.reduceSub, Nat.reduceLeDiff, Nat.le_refl, implies_true, Nat.reduceLT, reduceIte, decide_true, decide_false, true_and, and_true, reduceCtorEq, Nat.mul_one, Int.reduceToNat, Int.reduceLE, Int.reduceLT, Int.reduceAdd, Int.reduceSub, Int.reduceMul, Int.cast_ofNat_Int, cast_zero_int, cast_one_int, Nat.reducePow, Nat.reduceEqDiff, Nat.reduceMod, Nat.zero_add, Nat.sub_zero, Nat.add_zero, e0, e1, e5, e6, e7, hq5, self_get hq5, flH_len, own_ge ss5.low.1]
        refine ⟨by omega, by omega, ?_⟩
        refine ⟨by kernel_rfl, (d_pick _ ssa.st hown (by omega)).use (fun _ m => m) ?_⟩
        rintro _ H6 ⟨⟨y, rfl, y0, y1⟩, s6, g6⟩
        have ssb := ssa.step s6 g6
        try simp only [go_sem, Nat.reduceBEq, Nat.reduceAdd, Nat.reduceMul, Nat.reduceSub, Nat.reduceLeDiff, Nat.le_refl, implies_true, Nat.reduceLT, reduceIte, decide_true, decide_false, true_and, and_true, reduceCtorEq, Nat.mul_one, Int.reduceToNat, Int.reduceLE, Int.reduceLT, Int.reduceAdd, Int.reduceSub, Int.reduceMul, Int.cast_ofNat_Int, cast_zero_int, cast_one_int, Nat.reducePow, Nat.reduceEqDiff, Nat.reduceMod, Nat.zero_add, Nat.sub_zero, Nat.add_zero, e0, e1, e5, e6, e7]
        refine ⟨by omega, l ++ [(nd, x)], H5.length + 1, _, by rw [snoc_lenH], rfl, by rw [wrap64 (by omega)]; congr 1 <;> omega, ?_, by simp; omega, by omega⟩
        rw [flH_snoc]
        exact ssb.more (by omega)
      · try simp only [go_sem, Nat.reduceBEq, Nat.reduceAdd, Nat.reduceMul, Nat.reduceSub, Nat.reduceLeDiff, Nat.le_refl, implies_true, Nat.reduceLT, reduceIte, decide_true, decide_false, true_and, and_true, reduceCtorEq, Nat.mul_one, Int.reduceToNat, Int.reduceLE, Int.reduceLT, Int.reduceAdd, Int.reduceSub, Int.reduceMul, Int.cast_ofNat_Int, cast_zero_int, cast_one_int, Nat.reducePow, Nat.reduceEqDiff, Nat.reduceMod, Nat.zero_add, Nat.sub_zero, Nat.add_zero, e0, e1, e5, e6, e7, h1, h2]
        have L3 : h.length ≤ H.length := ss.out.1
        by_cases hl0 : l.length = 0
        · try simp only [go_sem, Nat.reduceBEq, Nat.reduceAdd, Nat.reduceMul, Nat.reduceSub, Nat.reduceLeDiff, Nat.le_refl, implies_true, Nat.reduceLT, reduceIte, decide_true, decide_false, true_and, and_true, reduceCtorEq, Nat.mul_one, Int.reduceToNat, Int.reduceLE, Int.reduceLT, Int.reduceAdd, Int.reduceSub, Int.reduceMul, Int.cast_ofNat_Int, cast_zero_int, cast_one_int, Nat.reducePow, Nat.reduceEqDiff, Nat.reduceMod, Nat.zero_add, Nat.sub_zero, Nat.add_zero, e0, e5, show ((l.length : Int) == 0) = true by simpa using hl0]
          exact ⟨l, sid, rfl, ss.more (by omega), by omega⟩
        · try simp only [go_sem, Nat.reduceBEq, Nat.reduceAdd, Nat.reduceMul, Nat.reduceSub, Nat.reduceLeDiff, Nat.le_refl, implies_true, Nat.reduceLT, reduceIte, decide_true, decide_false, true_and, and_true, reduceCtorEq, Nat.mul_one, Int.reduceToNat, Int.reduceLE, Int.reduceLT, Int.reduceAdd, Int.reduceSub, Int.reduceMul, Int.cast_ofNat_Int, cast_zero_int, cast_one_int, Nat.reducePow, Nat.reduceEqDiff, Nat.reduceMod, Nat.zero_add, Nat.sub_zero, Nat.add_zero, e0, e5, show ((l.length : Int) == 0) = false by simpa using hl0]
          refine ⟨by kernel_rfl, (d_pick _ ss.st hown (by omega)).use (fun _ m => m) ?_⟩
          rintro _ H3 ⟨⟨k, rfl, k0, k1⟩, s3, g3⟩
          have ss3 := ss.step s3 g3
          have hq3 := ss3.s
          have L4 : h.length ≤ H3.length := ss3.out.1
          have hkl : k.toNat < l.length := by omega
          have hkz : k < l.length := by omega
          try simp only [go_sem, Nat.reduceBEq, Nat.reduceAdd, Nat.reduceMul, Nat.reduceSub, Nat.reduceLeDiff, Nat.le_refl, implies_true, Nat.reduceLT, reduceIte, decide_true, decide_false, true_and, and_true, reduceCtorEq, Nat.mul_one, Int.reduceToNat, Int.reduceLE, Int.reduceLT, Int.reduceAdd, Int.reduceSub, Int.reduceMul, Int.cast_ofNat_Int, cast_zero_int, cast_one_int, Nat.reducePow, Nat.reduceEqDiff, Nat.reduceMod, Nat.zero_add, Nat.sub_zero, Nat.add_zero, e0, e5, hq3, flH_row hkl, flH_len, k0, hkz, own_ge L4, show k.toNat * 2 + 2 ≤ l.length * 2 by omega]
          refine ⟨by kernel_rfl, (d_pick _ (ss3.st.app _) hown (by omega)).use (fun _ m => m) ?_⟩
          rintro _ H4 ⟨⟨c, rfl, c0, c1⟩, s4, g4⟩
          have ss4 := ss3.step s4 ((Agr.app (t := [_])).trans g4)
          have k9 := agr_get g4 hget_new (by have := ss3.st.lt; omega)
          have nsid : sid ≠ H3.length := by have := hget_lt hq3; omega
          have fin : ∀ (H' : Heap) (l' : List (Int × Int)) (sid' : Nat) (a' b' : Int), Sst h H' id n a (B + 200) sid' 2 (flH l') → k.toNat < l'.length → l'.length ≤ 40 →
              (∃ (l : List (Int × Int)) (sid : Nat), Value.slice (some ⟨sid', 0, none⟩) l'.length 0 = .slice (some ⟨sid, 0, none⟩) l.length 0 ∧ Sst h (H'.set sid' ⟨setRange (flH l') (k.toNat * 2) [.int .i64 a', .int .i64 b'], 2, .rw⟩) id n a (B + 200) sid 2 (flH l) ∧ l.length ≤ 40) := fun H' l' sid' a' b' ss hk' hl' => by
            refine ⟨l'.set k.toNat (a', b'), sid', by rw [List.length_set], ?_, by simpa using hl'⟩
            rw [flH_set hk']
            exact ss.put _
          try simp only [go_sem, Nat.reduceBEq, Nat.reduceAdd, Nat.reduceMul, Nat.reduceSub, Nat.reduceLeDiff, Nat.le_refl, implies_true, Nat.reduceLT, reduceIte, decide_true, decide_false, true_and, and_true, reduceCtorEq, Nat.mul_one, Int.reduceToNat, Int.reduceLE, Int.reduceLT, Int.reduceAdd, Int.reduceSub, Int.reduceMul, Int.cast_ofNat_Int, cast_zero_int, cast_one_int, Nat.reducePow, Nat.reduceEqDiff, Nat.reduceMod, Nat.zero_add, Nat.sub_zero, Nat.add_zero, e0, e5]
          by_cases hc0 : c = 0
          · try simp only [go_sem, Nat.reduceBEq, Nat.reduceAdd, Nat.reduceMul, Nat.reduceSub, Nat.reduceLeDiff, Nat.le_refl, implies_true, Nat.reduceLT, reduceIte, decide_true, decide_false, true_and, and_true, reduceCtorEq, Nat.mul_one, Int.reduceToNat, Int.reduceLE, Int.reduceLT, Int.reduceAdd, Int.reduceSub, Int.reduceMul, Int.cast_ofNat_Int, cast_zero_int, cast_one_int, Nat.reducePow, Nat.reduceEqDiff, Nat.reduceMod, Nat.zero_add, Nat.sub_zero, Nat.add_zero, e0, e5, show (c == 0) = true by simpa using hc0]
            refine ⟨by kernel_rfl, (d_amongL _ _ ss4.st hown rfl (by simp) (by omega) (by omega) (by omega)).use (fun _ m => m) ?_⟩
            rintro _ H5 ⟨⟨x, rfl⟩, s5, g5, l5⟩
            have ss5 := ss4.step s5 g5
            have k5 := agr_get g5 k9 (by omega)
            have k6 := set_get k5 (⟨[.int .i64 x, .int .i64 l[k.toNat].2], 2, .rw⟩ : Blk)
            have ss6 := ss5.other k5 rfl (by omega) ⟨[.int .i64 x, .int .i64 l[k.toNat].2], 2, .rw⟩
            try simp only [go_sem, Nat.reduceBEq, Nat.reduceAdd, Nat.reduceMul, Nat.reduceSub, Nat.reduceLeDiff, Nat.le_refl, implies_true, Nat.reduceLT, reduceIte, decide_true, decide_false, true_and, and_true, reduceCtorEq, Nat.mul_one, Int.reduceToNat, Int.reduceLE, Int.reduceLT, Int.reduceAdd, Int.reduceSub, Int.reduceMul, Int.cast_ofNat_Int, cast_zero_int, cast_one_int, Nat.reducePow, Nat.reduceEqDiff, Nat.reduceMod, Nat.zero_add, Nat.sub_zero, Nat.add_zero, e0, e5, k5, own_ge (show h.length ≤ H3.length by omega)]
            obtain ⟨H6, hH⟩ : ∃ X, H5.set H3.length (⟨[.int .i64 x, .int .i64 l[k.toNat].2], 2, .rw⟩ : Blk) = X := ⟨_, rfl⟩
            rw [hH] at ss6 k6
            try simp only [go_sem, Nat.reduceBEq, Nat.reduceAdd, Nat.reduceMul, Nat.reduceSub, Nat.reduceLeDiff, Nat.le_refl, implies_true, Nat.reduceLT, reduceIte, decide_true, decide_false, true_and, and_true, reduceCtorEq, Nat.mul_one, Int.reduceToNat, Int.reduceLE, Int.reduceLT, Int.reduceAdd, Int.reduceSub, Int.reduceMul, Int.cast_ofNat_Int, cast_zero_int, cast_one_int, Nat.reducePow, Nat.reduceEqDiff, Nat.reduceMod, Nat.zero_add, Nat.sub_zero, Nat.add_zero, e0, e5, hH, k6, ss6.s, k0, hkz, flH_len, own_ge ss6.low.1, show k.toNat * 2 + 2 ≤ l.length * 2 by omega]
            exact fin H6 l sid _ _ (ss6.more (by omega)) hkl (by omega)
          · by_cases hc1 : c = 1
            · try simp only [go_sem, Nat.reduceBEq, Nat.reduceAdd, Nat.reduceMul, Nat.reduceSub, Nat.reduceLeDiff, Nat.le_refl, implies_true, Nat.reduceLT, reduceIte, decide_true, decide_false, true_and, and_true, reduceCtorEq, Nat.mul_one, Int.reduceToNat, Int.reduceLE, Int.reduceLT, Int.reduceAdd, Int.reduceSub, Int.reduceMul, Int.cast_ofNat_Int, cast_zero_int, cast_one_int, Nat.reducePow, Nat.reduceEqDiff, Nat.reduceMod, Nat.zero_add, Nat.sub_zero, Nat.add_zero, e0, e5, show (c == 0) = false by simpa using hc0, show (c == 1) = true by simpa using hc1]
              refine ⟨by kernel_rfl, (d_amongL _ _ ss4.st hown rfl (by simp) (by omega) (by omega) (by omega)).use (fun _ m => m) ?_⟩
              rintro _ H5 ⟨⟨x, rfl⟩, s5, g5, l5⟩
              have ss5 := ss4.step s5 g5
              have k5 := agr_get g5 k9 (by omega)
              have k6 := set_get k5 (⟨[.int .i64 l[k.toNat].1, .int .i64 x], 2, .rw⟩ : Blk)
              have ss6 := ss5.other k5 rfl (by omega) ⟨[.int .i64 l[k.toNat].1, .int .i64 x], 2, .rw⟩
              try simp only [go_sem, Nat.reduceBEq, Nat.reduceAdd, Nat.reduceMul, Nat.reduceSub, Nat.reduceLeDiff, Nat.le_refl, implies_true, Nat.reduceLT, reduceIte, decide_true, decide_false, true_and, and_true, reduceCtorEq, Nat.mul_one, Int.reduceToNat, Int.reduceLE, Int.reduceLT, Int.reduceAdd, Int.reduceSub, Int.reduceMul, Int.cast_ofNat_Int, cast_zero_int, cast_one_int, Nat.reducePow, Nat.reduceEqDiff, Nat.reduceMod, Nat.zero_add, Nat.sub_zero, Nat.add_zero, e0, e5, k5, own_ge (show h.length ≤ H3.length by omega)]
              obtain ⟨H6, hH⟩ : ∃ X, H5.set H3.length (⟨[.int .i64 l[k.toNat].1, .int .i64 x], 2, .rw⟩ : Blk) = X := ⟨_, rfl⟩
              rw [hH] at ss6 k6
              try simp only [go_sem, Nat.reduceBEq, Nat.reduceAdd, Nat.reduceMul, Nat.reduceSub, Nat.reduceLeDiff, Nat.le_refl, implies_true, Nat.reduceLT, reduceIte, decide_true, decide_false, true_and, and_true, reduceCtorEq, Nat.mul_one, Int.reduceToNat, Int.reduceLE, Int.reduceLT, Int.reduceAdd, Int.reduceSub, Int.reduceMul, Int.cast_ofNat_Int, cast_zero_int, cast_one_int, Nat.reducePow, Nat.reduceEqDiff, Nat.reduceMod, Nat.zero_add, Nat.sub_zero, Nat.add_zero, e0, e5, hH, k6, ss6.s, k0, hkz, flH_len, own_ge ss6.low.1, show k.toNat * 2 + 2 ≤ l.length * 2 by omega]
              exact fin H6 l sid _ _ (ss6.more (by omega)) hkl (by omega)
            · by_cases hc2 : c = 2
              · try simp only [go_sem, Nat.reduceBEq, Nat.reduceAdd, Nat.reduceMul, Nat.reduceSub, Nat.reduceLeDiff, Nat.le_refl, implies_true, Nat.reduceLT, reduceIte, decide_true, decide_false, true_and, and_true, reduceCtorEq, Nat.mul_one, Int.reduceToNat, Int.reduceLE, Int.reduceLT, Int.reduceAdd, Int.reduceSub, Int.reduceMul, Int.cast_ofNat_Int, cast_zero_int, cast_one_int, Nat.reducePow, Nat.reduceEqDiff, Nat.reduceMod, Nat.zero_add, Nat.sub_zero, Nat.add_zero, e0, e5, show (c == 0) = false by simpa using hc0, show (c == 1) = false by simpa using hc1, show (c == 2) = true by simpa using hc2]
                refine vLoop.count mo 12 (fun i e H => ∃ (l' : List (Int × Int)) (sid' : Nat), e 0 = .pointer (some ⟨id, 0, none⟩) ∧ e 5 = .slice (some ⟨sid', 0, none⟩) l'.length 0 ∧ e 8 = .int .i64 k ∧ e 9 = .pointer (some ⟨H3.length, 0, none⟩) ∧
                  Sst h H id n a (B + 100 + 2 * i) sid' 2 (flH l') ∧ hget H H3.length = some ⟨[.int .i64 l[k.toNat].1, .int .i64 l[k.toNat].2], 2, .rw⟩ ∧ sid' ≠ H3.length ∧ k.toNat < l'.length ∧ i < l'.length ∧ l'.length ≤ 20) ?_ ?_
                · try simp only [go_sem, Nat.reduceBEq, Nat.reduceAdd, Nat.reduceMul, Nat.reduceSub, Nat.reduceLeDiff, Nat.le_refl, implies_true, Nat.reduceLT, reduceIte, decide_true, decide_false, true_and, and_true, reduceCtorEq, Nat.mul_one, Int.reduceToNat, Int.reduceLE, Int.reduceLT, Int.reduceAdd, Int.reduceSub, Int.reduceMul, Int.cast_ofNat_Int, cast_zero_int, cast_one_int, Nat.reducePow, Nat.reduceEqDiff, Nat.reduceMod, Nat.zero_add, Nat.sub_zero, Nat.add_zero, e0, e5]
                  exact ⟨l, sid, rfl, ss4.more (by omega), k9, nsid, hkl, by omega, by omega⟩
                · rintro i e H hi ⟨l', sid', e0, e5, e8, e9, ss, kb, nb, hkl', hil, hl20⟩
                  have hq := ss.s
                  try simp only [go_sem, Nat.reduceBEq, Nat.reduceAdd, Nat.reduceMul, Nat.reduceSub, Nat.reduceLeDiff, Nat.le_refl, implies_true, Nat.reduceLT, reduceIte, decide_true, decide_false, true_and, and_true, reduceCtorEq, Nat.mul_one, Int.reduceToNat, Int.reduceLE, Int.reduceLT, Int.reduceAdd, Int.reduceSub, Int.reduceMul, Int.cast_ofNat_Int, cast_zero_int, cast_one_int, Nat.reducePow, Nat.reduceEqDiff, Nat.reduceMod, Nat.zero_add, Nat.sub_zero, Nat.add_zero, e0, e5, e8, e9]
                  refine ⟨by kernel_rfl, (d_pick _ ss.st hown (by omega)).use (fun _ m => m) ?_⟩
                  rintro _ H5 ⟨⟨y, rfl, y0, y1⟩, s5, g5⟩
                  have ss5 := ss.step s5 g5
                  have hq5 := ss5.s
                  have L5 : h.length ≤ H5.length := ss5.out.1
                  have kb5 := agr_get g5 kb (by omega)
                  have w1 : IntKind.i64.wrap (10 + y) = 10 + y := wrap64 (by omega)
                  have w2 : IntKind.i64.wrap ((l'.length : Int) - 1) = ((l'.length - 1 : Nat) : Int) := by rw [wrap64 (by omega)]; omega
                  by_cases h1 : (l'.length : Int) < 10 + y
                  · try simp only [go_sem, Nat.reduceBEq, Nat.reduceAdd, Nat.reduceMul, Nat.reduceSub, Nat.reduceLeDiff, Nat.le_refl, implies_true, Nat.reduceLT, reduceIte, decide_true, decide_false, true_and, and_true, reduceCtorEq, Nat.mul_one, Int.reduceToNat, Int.reduceLE, Int.reduceLT, Int.reduceAdd, Int.reduceSub, Int.reduceMul, Int.cast_ofNat_Int, cast_zero_int, cast_one_int, Nat.reducePow, Nat.reduceEqDiff, Nat.reduceMod, Nat.zero_add, Nat.sub_zero, Nat.add_zero, e0, e5, e8, e9, w1, w2, h1, hq5, flH_row (show l'.length - 1 < l'.length by omega), flH_len, self_get hq5, own_ge ss5.low.1, show ((l'.length - 1 : Nat) : Int) < l'.length by omega, show (l'.length - 1) * 2 + 2 ≤ l'.length * 2 by omega]
                    refine ⟨by omega, by omega, by omega, l' ++ [l'[l'.length - 1]], H5.length + 1, by rw [snoc_lenH], ?_, ?_, by have := hget_lt kb5; omega, by simp; omega, by simp; omega, by simp; omega⟩
                    · rw [flH_snoc]; exact (ss5.app (new := hyd l'[l'.length - 1])).more (by omega)
                    · exact self_get (by rw [hget_set_ne nb]; exact self_get kb5 _) _
                  · try simp only [go_sem, Nat.reduceBEq, Nat.reduceAdd, Nat.reduceMul, Nat.reduceSub, Nat.reduceLeDiff, Nat.le_refl, implies_true, Nat.reduceLT, reduceIte, decide_true, decide_false, true_and, and_true, reduceCtorEq, Nat.mul_one, Int.reduceToNat, Int.reduceLE, Int.reduceLT, Int.reduceAdd, Int.reduceSub, Int.reduceMul, Int.cast_ofNat_Int, cast_zero_int, cast_one_int, Nat.reducePow, Nat.reduceEqDiff, Nat.reduceMod, Nat.zero_add, Nat.sub_zero, Nat.add_zero, e0, e5, e8, e9, w1, h1, kb5, hq5, k0, show k < l'.length by omega, flH_len, own_ge ss5.low.1, show k.toNat * 2 + 2 ≤ l'.length * 2 by omega]
                    exact fin H5 l' sid' _ _ (ss5.more (by omega)) hkl' (by omega)
              · try simp only [go_sem, Nat.reduceBEq, Nat.reduceAdd, Nat.reduceMul, Nat.reduceSub, Nat.reduceLeDiff, Nat.le_refl, implies_true, Nat.reduceLT, reduceIte, decide_true, decide_false, true_and, and_true, reduceCtorEq, Nat.mul_one, Int.reduceToNat, Int.reduceLE, Int.reduceLT, Int.reduceAdd, Int.reduceSub, Int.reduceMul, Int.cast_ofNat_Int, cast_zero_int, cast_one_int, Nat.reducePow, Nat.reduceEqDiff, Nat.reduceMod, Nat.zero_add, Nat.sub_zero, Nat.add_zero, e0, e5, show (c == 0) = false by simpa using hc0, show (c == 1) = false by simpa using hc1, show (c == 2) = false by simpa using hc2, k9, ss4.s, k0, hkz, flH_len, own_ge ss4.low.1, show k.toNat * 2 + 2 ≤ l.length * 2 by omega]
                exact fin H4 l sid _ _ (ss4.more (by omega)) hkl (by omega)
    · try simp only [go_sem, Nat.reduceBEq, Nat.reduceAdd, Nat.reduceMul, Nat.reduceSub, Nat.reduceLeDiff, Nat.le_refl, implies_true, Nat.reduceLT, reduceIte, decide_true, decide_false, true_and, and_true, reduceCtorEq, Nat.mul_one, Int.reduceToNat, Int.reduceLE, Int.reduceLT, Int.reduceAdd, Int.reduceSub, Int.reduceMul, Int.cast_ofNat_Int, cast_zero_int, cast_one_int, Nat.reducePow, Nat.reduceEqDiff, Nat.reduceMod, Nat.zero_add, Nat.sub_zero, Nat.add_zero, e0, e1, e5, e6, e7, h1]
      have L3 : h.length ≤ H.length := ss.out.1
      by_cases hl0 : l.length = 0
      · try simp only [go_sem, Nat.reduceBEq, Nat.reduceAdd, Nat.reduceMul, Nat.reduceSub, Nat.reduceLeDiff, Nat.le_refl, implies_true, Nat.reduceLT, reduceIte, decide_true, decide_false, true_and, and_true, reduceCtorEq, Nat.mul_one, Int.reduceToNat, Int.reduceLE, Int.reduceLT, Int.reduceAdd, Int.reduceSub, Int.reduceMul, Int.cast_ofNat_Int, cast_zero_int, cast_one_int, Nat.reducePow, Nat.reduceEqDiff, Nat.reduceMod, Nat.zero_add, Nat.sub_zero, Nat.add_zero, e0, e5, show ((l.length : Int) == 0) = true by simpa using hl0]
        exact ⟨l, sid, rfl, ss.more (by omega), by omega⟩
      · try simp only [go_sem, Nat.reduceBEq, Nat.reduceAdd, Nat.reduceMul, Nat.reduceSub, Nat.reduceLeDiff, Nat.le_refl, implies_true, Nat.reduceLT, reduceIte, decide_true, decide_false, true_and, and_true, reduceCtorEq, Nat.mul_one, Int.reduceToNat, Int.reduceLE, Int.reduceLT, Int.reduceAdd, Int.reduceSub, Int.reduceMul, Int.cast_ofNat_Int, cast_zero_int, cast_one_int, Nat.reducePow, Nat.reduceEqDiff, Nat.reduceMod, Nat.zero_add, Nat.sub_zero, Nat.add_zero, e0, e5, show ((l.length : Int) == 0) = false by simpa using hl0]
        refine ⟨by kernel_rfl, (d_pick _ ss.st hown (by omega)).use (fun _ m => m) ?_⟩
        rintro _ H3 ⟨⟨k, rfl, k0, k1⟩, s3, g3⟩
        have ss3 := ss.step s3 g3
        have hq3 := ss3.s
        have L4 : h.length ≤ H3.length := ss3.out.1
        have hkl : k.toNat < l.length := by omega
        have hkz : k < l.length := by omega
        try simp only [go_sem, Nat.reduceBEq, Nat.reduceAdd, Nat.reduceMul, Nat.reduceSub, Nat.reduceLeDiff, Nat.le_refl, implies_true, Nat.reduceLT, reduceIte, decide_true, decide_false, true_and, and_true, reduceCtorEq, Nat.mul_one, Int.reduceToNat, Int.reduceLE, Int.reduceLT, Int.reduceAdd, Int.reduceSub, Int.reduceMul, Int.cast_ofNat_Int, cast_zero_int, cast_one_int, Nat.reducePow, Nat.reduceEqDiff, Nat.reduceMod, Nat.zero_add, Nat.sub_zero, Nat.add_zero, e0, e5, hq3, flH_row hkl, flH_len, k0, hkz, own_ge L4, show k.toNat * 2 + 2 ≤ l.length * 2 by omega]
        refine ⟨by kernel_rfl, (d_pick _ (ss3.st.app _) hown (by omega)).use (fun _ m => m) ?_⟩
        rintro _ H4 ⟨⟨c, rfl, c0, c1⟩, s4, g4⟩
        have ss4 := ss3.step s4 ((Agr.app (t := [_])).trans g4)
        have k9 := agr_get g4 hget_new (by have := ss3.st.lt; omega)
        have nsid : sid ≠ H3.length := by have := hget_lt hq3; omega
        have fin : ∀ (H' : Heap) (l' : List (Int × Int)) (sid' : Nat) (a' b' : Int), Sst h H' id n a (B + 200) sid' 2 (flH l') → k.toNat < l'.length → l'.length ≤ 40 →
            (∃ (l : List (Int × Int)) (sid : Nat), Value.slice (some ⟨sid', 0, none⟩) l'.length 0 = .slice (some ⟨sid, 0, none⟩) l.length 0 ∧ Sst h (H'.set sid' ⟨setRange (flH l') (k.toNat * 2) [.int .i64 a', .int .i64 b'], 2, .rw⟩) id n a (B + 200) sid 2 (flH l) ∧ l.length ≤ 40) := fun H' l' sid' a' b' ss hk' hl' => by
          refine ⟨l'.set k.toNat (a', b'), sid', by rw [List.length_set], ?_, by simpa using hl'⟩
          rw [flH_set hk']
          exact ss.put _
        try simp only [go_sem, Nat.reduceBEq, Nat.reduceAdd, Nat.reduceMul, Nat.reduceSub, Nat.reduceLeDiff, Nat.le_refl, implies_true, Nat.reduceLT, reduceIte, decide_true, decide_false, true_and, and_true, reduceCtorEq, Nat.mul_one, Int.reduceToNat, Int.reduceLE, Int.reduceLT, Int.reduceAdd, Int.reduceSub, Int.reduceMul, Int.cast_ofNat_Int, cast_zero_int, cast_one_int, Nat.reducePow, Nat.reduceEqDiff, Nat.reduceMod, Nat.zero_add, Nat.sub_zero, Nat.add_zero, e0, e5]
        by_cases hc0 : c = 0
        · try simp only [go_sem, Nat.reduceBEq, Nat.reduceAdd, Nat.reduceMul, Nat.reduceSub, Nat.reduceLeDiff, Nat.le_refl, implies_true, Nat.reduceLT, reduceIte, decide_true, decide_false, true_and, and_true, reduceCtorEq, Nat.mul_one, Int.reduceToNat, Int.reduceLE, Int.reduceLT, Int.reduceAdd, Int.reduceSub, Int.reduceMul, Int.cast_ofNat_Int, cast_zero_int, cast_one_int, Nat.reducePow, Nat.reduceEqDiff, Nat.reduceMod, Nat.zero_add, Nat.sub_zero, Nat.add_zero, e0, e5, show (c == 0) = true by simpa using hc0]
          refine ⟨by kernel_rfl, (d_amongL _ _ ss4.st hown rfl (by simp) (by omega) (by omega) (by omega)).use (fun _ m => m) ?_⟩
          rintro _ H5 ⟨⟨x, rfl⟩, s5, g5, l5⟩
          have ss5 := ss4.step s5 g5
          have k5 := agr_get g5 k9 (by omega)
          have k6 := set_get k5 (⟨[.int .i64 x, .int .i64 l[k.toNat].2], 2, .rw⟩ : Blk)
          have ss6 := ss5.other k5 rfl (by omega) ⟨[.int .i64 x, .int .i64 l[k.toNat].2], 2, .rw⟩
          try simp only [go_sem, Nat.reduceBEq, Nat.reduceAdd, Nat.reduceMul, Nat.reduceSub, Nat.reduceLeDiff, Nat.le_refl, implies_true, Nat.reduceLT, reduceIte, decide_true, decide_false, true_and, and_true, reduceCtorEq, Nat.mul_one, Int.reduceToNat, Int.reduceLE, Int.reduceLT, Int.reduceAdd, Int.reduceSub, Int.reduceMul, Int.cast_ofNat_Int, cast_zero_int, cast_one_int, Nat.reducePow, Nat.reduceEqDiff, Nat.reduceMod, Nat.zero_add, Nat.sub_zero, Nat.add_zero, e0, e5, k5, own_ge (show h.length ≤ H3.length by omega)]
          obtain ⟨H6, hH⟩ : ∃ X, H5.set H3.length (⟨[.int .i64 x, .int .i64 l[k.toNat].2], 2, .rw⟩ : Blk) = X := ⟨_, rfl⟩
          rw [hH] at ss6 k6
          try simp only [go_sem, Nat.reduceBEq, Nat.reduceAdd, Nat.reduceMul, Nat.reduceSub, Nat.reduceLeDiff, Nat.le_refl, implies_true, Nat.reduceLT, reduceIte, decide_true, decide_false, true_and, and_true, reduceCtorEq, Nat.mul_one, Int.reduceToNat, Int.reduceLE, Int.reduceLT, Int.reduceAdd, Int.reduceSub, Int.reduceMul, Int.cast_ofNat_Int, cast_zero_int, cast_one_int, Nat.reducePow, Nat.reduceEqDiff, Nat.reduceMod, Nat.zero_add, Nat.sub_zero, Nat.add_zero, e0, e5, hH, k6, ss6.s, k0, hkz, flH_len, own_ge ss6.low.1, show k.toNat * 2 + 2 ≤ l.length * 2 by omega]
          exact fin H6 l sid _ _ (ss6.more (by omega)) hkl (by omega)
        · by_cases hc1 : c = 1
          · try simp only [go_sem, Nat.reduceBEq, Nat.reduceAdd, Nat.reduceMul, Nat.reduceSub, Nat.reduceLeDiff, Nat.le_refl, implies_true, Nat.reduceLT, reduceIte, decide_true, decide_false, true_and, and_true, reduceCtorEq, Nat.mul_one, Int.reduceToNat, Int.reduceLE, Int.reduceLT, Int.reduceAdd, Int.reduceSub, Int.reduceMul, Int.cast_ofNat_Int, cast_zero_int, cast_one_int, Nat.reducePow, Nat.reduceEqDiff, Nat.reduceMod, Nat.zero_add, Nat.sub_zero, Nat.add_zero, e0, e5, show (c == 0) = false by simpa using hc0, show (c == 1) = true by simpa using hc1]
            refine ⟨by kernel_rfl, (d_amongL _ _ ss4.st hown rfl (by simp) (by omega) (by omega) (by omega)).use (fun _ m => m) ?_⟩
            rintro _ H5 ⟨⟨x, rfl⟩, s5, g5, l5⟩
            have ss5 := ss4.step s5 g5
            have k5 := agr_get g5 k9 (by omega)
            have k6 := set_get k5 (⟨[.int .i64 l[k.toNat].1, .int .i64 x], 2, .rw⟩ : Blk)
            have ss6 := ss5.other k5 rfl (by omega) ⟨[.int .i64 l[k.toNat].1, .int .i64 x], 2, .rw⟩
            try simp only [go_sem, Nat.reduceBEq, Nat.reduceAdd, Nat.reduceMul, Nat.reduceSub, Nat.reduceLeDiff, Nat.le_refl, implies_true, Nat.reduceLT, reduceIte, decide_true, decide_false, true_and, and_true, reduceCtorEq, Nat.mul_one, Int.reduceToNat, Int.reduceLE, Int.reduceLT, Int.reduceAdd, Int.reduceSub, Int.reduceMul, Int.cast_ofNat_Int, cast_zero_int, cast_one_int, Nat.reducePow, Nat.reduceEqDiff, Nat.reduceMod, Nat.zero_add, Nat.sub_zero, Nat.add_zero, e0, e5, k5, own_ge (show h.length ≤ H3.length by omega)]
            obtain ⟨H6, hH⟩ : ∃ X, H5.set H3.length (⟨[.int .i64 l[k.toNat].1, .int .i64 x], 2, .rw⟩ : Blk) = X := ⟨_, rfl⟩
            rw [hH] at ss6 k6
            try simp only [go_sem, Nat.reduceBEq, Nat.reduceAdd, Nat.reduceMul, Nat.reduceSub, Nat.reduceLeDiff, Nat.le_refl, implies_true, Nat.reduceLT, reduceIte, decide_true, decide_false, true_and, and_true, reduceCtorEq, Nat.mul_one, Int.reduceToNat, Int.reduceLE, Int.reduceLT, Int.reduceAdd, Int.reduceSub, Int.reduceMul, Int.cast_ofNat_Int, cast_zero_int, cast_one_int, Nat.reducePow, Nat.reduceEqDiff, Nat.reduceMod, Nat.zero_add, Nat.sub_zero, Nat.add_zero, e0, e5, hH, k6, ss6.s, k0, hkz, flH_len, own_ge ss6.low.1, show k.toNat * 2 + 2 ≤ l.length * 2 by omega]
            exact fin H6 l sid _ _ (ss6.more (by omega)) hkl (by omega)
          · by_cases hc2 : c = 2
            · try simp only [go_sem, Nat.reduceBEq, Nat.reduceAdd, Nat.reduceMul, Nat.reduceSub, Nat.reduceLeDiff, Nat.le_refl, implies_true, Nat.reduceLT, reduceIte, decide_true, decide_false, true_and, and_true, reduceCtorEq, Nat.mul_one, Int.reduceToNat, Int.reduceLE, Int.reduceLT, Int.reduceAdd, Int.reduceSub, Int.reduceMul, Int.cast_ofNat_Int, cast_zero_int, cast_one_int, Nat.reducePow, Nat.reduceEqDiff, Nat.reduceMod, Nat.zero_add, Nat.sub_zero, Nat.add_zero, e0, e5, show (c == 0) = false by simpa using hc0, show (c == 1) = false by simpa using hc1, show (c == 2) = true by simpa using hc2]
              refine vLoop.count mo 12 (fun i e H => ∃ (l' : List (Int × Int)) (sid' : Nat), e 0 = .pointer (some ⟨id, 0, none⟩) ∧ e 5 = .slice (some ⟨sid', 0, none⟩) l'.length 0 ∧ e 8 = .int .i64 k ∧ e 9 = .pointer (some ⟨H3.length, 0, none⟩) ∧
                Sst h H id n a (B + 100 + 2 * i) sid' 2 (flH l') ∧ hget H H3.length = some ⟨[.int .i64 l[k.toNat].1, .int .i64 l[k.toNat].2], 2, .rw⟩ ∧ sid' ≠ H3.length ∧ k.toNat < l'.length ∧ i < l'.length ∧ l'.length ≤ 20) ?_ ?_
              · try simp only [go_sem, Nat.reduceBEq, Nat.reduceAdd, Nat.reduceMul, Nat.reduceSub, Nat.reduceLeDiff, Nat.le_refl, implies_true, Nat.reduceLT, reduceIte, decide_true, decide_false, true_and, and_true, reduceCtorEq, Nat.mul_one, Int.reduceToNat, Int.reduceLE, Int.reduceLT, Int.reduceAdd, Int.reduceSub, Int.reduceMul, Int.cast_ofNat_Int, cast_zero_int, cast_one_int, Nat.reducePow, Nat.reduceEqDiff, Nat.reduceMod, Nat.zero_add, Nat.sub_zero, Nat.add_zero, e0, e5]
                exact ⟨l, sid, rfl, ss4.more (by omega), k9, nsid, hkl, by omega, by omega⟩
              · rintro i e H hi ⟨l', sid', e0, e5, e8, e9, ss, kb, nb, hkl', hil, hl20⟩
                have hq := ss.s
                try simp only [go_sem, Nat.reduceBEq, Nat.reduceAdd, Nat.reduceMul, Nat.reduceSub, Nat.reduceLeDiff, Nat.le_refl, implies_true, Nat.reduceLT, reduceIte, decide_true, decide_false, true_and, and_true, reduceCtorEq, Nat.mul_one, Int.reduceToNat, Int.reduceLE, Int.reduceLT, Int.reduceAdd, Int.reduceSub, Int.reduceMul, Int.cast_ofNat_Int, cast_zero_int, cast_one_int, Nat.reducePow, Nat.reduceEqDiff, Nat.reduceMod, Nat.zero_add, Nat.sub_zero, Nat.add_zero, e0, e5, e8, e9]
                refine ⟨by kernel_rfl, (d_pick _ ss.st hown (by omega)).use (fun _ m => m) ?_⟩
                rintro _ H5 ⟨⟨y, rfl, y0, y1⟩, s5, g5⟩
                have ss5 := ss.step s5 g5
                have hq5 := ss5.s
                have L5 : h.length ≤ H5.length := ss5.out.1
                have kb5 := agr_get g5 kb (by omega)
                have w1 : IntKind.i64.wrap (10 + y) = 10 + y := wrap64 (by omega)
                have w2 : IntKind.i64.wrap ((l'.length : Int) - 1) = ((l'.length - 1 : Nat) : Int) := by rw [wrap64 (by omega)]; omega
                by_cases h1 : (l'.length : Int) < 10 + y
                · try simp only [go_sem, Nat.reduceBEq, Nat.reduceAdd, Nat.reduceMul, Nat.reduceSub, Nat.reduceLeDiff, Nat.le_refl, implies_true, Nat.reduceLT, reduceIte, decide_true, decide_false, true_and, and_true, reduceCtorEq, Nat.mul_one, Int.reduceToNat, Int.reduceLE, Int.reduceLT, Int.reduceAdd, Int.reduceSub, Int.reduceMul, Int.cast_ofNat_Int, cast_zero_int, cast_one_int, Nat.reducePow, Nat.reduceEqDiff, Nat.reduceMod, Nat.zero_add, Nat.sub_zero, Nat.add_zero, e0, e5, e8, e9, w1, w2, h1, hq5, flH_row (show l'.length - 1 < l'.length by omega), flH_len, self_get hq5, own_ge ss5.low.1, show ((l'.length - 1 : Nat) : Int) < l'.length by omega, show (l'.length - 1) * 2 + 2 ≤ l'.length * 2 by omega]
                  refine ⟨by omega, by omega, by omega, l' ++ [l'[l'.length - 1]], H5.length + 1, by rw [snoc_lenH], ?_, ?_, by have := hget_lt kb5; omega, by simp; omega, by simp; omega, by simp; omega⟩
                  · rw [flH_snoc]; exact (ss5.app (new := hyd l'[l'.length - 1])).more (by omega)
                  · exact self_get (by rw [hget_set_ne nb]; exact self_get kb5 _) _
                · try simp only [go_sem, Nat.reduceBEq, Nat.reduceAdd, Nat.reduceMul, Nat.reduceSub, Nat.reduceLeDiff, Nat.le_refl, implies_true, Nat.reduceLT, reduceIte, decide_true, decide_false, true_and, and_true, reduceCtorEq, Nat.mul_one, Int.reduceToNat, Int.reduceLE, Int.reduceLT, Int.reduceAdd, Int.reduceSub, Int.reduceMul, Int.cast_ofNat_Int, cast_zero_int, cast_one_int, Nat.reducePow, Nat.reduceEqDiff, Nat.reduceMod, Nat.zero_add, Nat.sub_zero, Nat.add_zero, e0, e5, e8, e9, w1, h1, kb5, hq5, k0, show k < l'.length by omega, flH_len, own_ge ss5.low.1, show k.toNat * 2 + 2 ≤ l'.length * 2 by omega]
                  exact fin H5 l' sid' _ _ (ss5.more (by omega)) hkl' (by omega)
            · try simp only [go_sem, Nat.reduceBEq, Nat.reduceAdd, Nat.reduceMul, Nat.reduceSub, Nat.reduceLeDiff, Nat.le_refl, implies_true, Nat.reduceLT, reduceIte, decide_true, decide_false, true_and, and_true, reduceCtorEq, Nat.mul_one, Int.reduceToNat, Int.reduceLE, Int.reduceLT, Int.reduceAdd, Int.reduceSub, Int.reduceMul, Int.cast_ofNat_Int, cast_zero_int, cast_one_int, Nat.reducePow, Nat.reduceEqDiff, Nat.reduceMod, Nat.zero_add, Nat.sub_zero, Nat.add_zero, e0, e5, show (c == 0) = false by simpa using hc0, show (c == 1) = false by simpa using hc1, show (c == 2) = false by simpa using hc2, k9, ss4.s, k0, hkz, flH_len, own_ge ss4.low.1, show k.toNat * 2 + 2 ≤ l.length * 2 by omega]
              exact fin H4 l sid _ _ (ss4.more (by omega)) hkl (by omega)
end
end Go.Proofs.Ytjgekhahklidcaa
