
/- A box whose slice may be older than itself. No condition. -/
import Derived.Test.YtjgekhahklidcaaDrawN
namespace Go.Proofs.Ytjgekhahklidcaa
open Go.HH
set_option linter.unusedSimpArgs false
set_option linter.unusedVariables false

theorem FC.set {n m sz len j : Nat} {h : Heap} {v : Value} {cs : List Value} (s : FC n m sz len h v cs) (hj : ∀ sid, v = .slice (some ⟨sid, 0, none⟩) len 0 → sid ≠ j) (b : Blk) : FC n m sz len (h.set j b) v cs := by
  rcases s with s | ⟨id, e, e1, e2, e3, e4⟩
  · exact .inl s
  · exact .inr ⟨id, e, e1, e2, by rw [hget_set_ne (Ne.symm (hj id e))]; exact e3, e4⟩
/-- A box that holds a number and a slice that grows, beside a cursor and the block for the result. -/
structure Bst2 (h H : Heap) (id n : Nat) (a : Option Addr) (B b2 b3 : Nat) (z2 : Blk) (x v : Value) (sz len : Nat) (cs : List Value) : Prop where
  st : St H id n a B
  out : Agr id (id + 1) h H
  r : hget H b2 = some z2
  b : hget H b3 = some ⟨[x, v], 2, .rw⟩
  s : FC (b2 + 1) H.length sz len H v cs
  ne : ∀ sid, v = .slice (some ⟨sid, 0, none⟩) len 0 → sid ≠ b3
  low : h.length ≤ b2 ∧ b2 < b3 ∧ id < h.length
section
variable {h H H' : Heap} {id n B B' b2 b3 sz len : Nat} {a : Option Addr} {z2 : Blk} {x v : Value} {cs : List Value}
theorem Bst2.step (s : Bst2 h H id n a B b2 b3 z2 x v sz len cs) (s' : St H' id n a B') (g : Agr id (id + 1) H H') : Bst2 h H' id n a B' b2 b3 z2 x v sz len cs := by
  have h1 := s.low
  have h2 := g.1
  exact ⟨s', s.out.trans g, agr_get g s.r (by omega), agr_get g s.b (by omega), (s.s.agr g (by omega)).wide (Nat.le_refl _) h2, s.ne, h1⟩
theorem Bst2.grow (s : Bst2 h H id n a B b2 b3 z2 x v sz len cs) (t : Heap) : Bst2 h (H ++ t) id n a B b2 b3 z2 x v sz len cs := s.step (s.st.app t) Agr.app
theorem Bst2.setx (s : Bst2 h H id n a B b2 b3 z2 x v sz len cs) (y : Value) : Bst2 h (H.set b3 ⟨[y, v], 2, .rw⟩) id n a B b2 b3 z2 y v sz len cs := by
  have h1 := s.low
  have g : Agr b3 (b3 + 1) H (H.set b3 ⟨[y, v], 2, .rw⟩) := Agr.set (Nat.le_refl _) (Nat.lt_succ_self _)
  have g' : Agr id (id + 1) h (H.set b3 ⟨[y, v], 2, .rw⟩) := ⟨by simpa using s.out.1, fun i h2 h3 => by rw [hget_set_ne (by omega)]; exact s.out.2 i h2 h3⟩
  exact ⟨s.st.set s.b rfl (by omega), g', agr_get g s.r (by omega), hget_set_same (hget_lt s.b), by simpa using FC.set s.s s.ne _, s.ne, h1⟩
/-- The result is laid down. -/
theorem Bst2.done (s : Bst2 h H id n a B b2 b3 z2 x v sz len cs) (hz : z2.st = .rw) (c : Blk) : St (H.set b2 c) id n a B ∧ Agr id (id + 1) h (H.set b2 c) ∧ FC (b2 + 1) (H.set b2 c).length sz len (H.set b2 c) v cs ∧ hget (H.set b2 c) b2 = some c := by
  have h1 := s.low
  have g : Agr b2 (b2 + 1) H (H.set b2 c) := Agr.set (Nat.le_refl _) (Nat.lt_succ_self _)
  exact ⟨s.st.set s.r hz (by omega), ⟨by simpa using s.out.1, fun i h2 h3 => by rw [hget_set_ne (by omega)]; exact s.out.2 i h2 h3⟩, by simpa using s.s.agr g (by omega), hget_set_same (hget_lt s.r)⟩
/-- The first one is appended. -/
theorem Bst2.app0 {new : List Value} (s : Bst2 h H id n a B b2 b3 z2 x (.slice none 0 0) sz len cs) (hn : new.length = sz) :
    Bst2 h ((H ++ [(⟨new, sz, .rw⟩ : Blk), (⟨new, sz, .rw⟩ : Blk)]).set b3 ⟨[x, .slice (some ⟨H.length + 1, 0, none⟩) 1 0], 2, .rw⟩) id n a B b2 b3 z2 x (.slice (some ⟨H.length + 1, 0, none⟩) 1 0) sz 1 new := by
  have h1 := s.low
  have h2 := hget_lt s.b
  have h0 := s.out.1
  have s1 := s.grow [(⟨new, sz, .rw⟩ : Blk), (⟨new, sz, .rw⟩ : Blk)]
  refine ⟨s1.st.set s1.b rfl (by omega), ⟨by have := s1.out.1; simpa using this, fun i e1 e2 => by rw [hget_set_ne (by omega)]; exact s1.out.2 i e1 e2⟩, by rw [hget_set_ne (by omega)]; exact s1.r, hget_set_same (hget_lt s1.b), .inr ⟨_, rfl, by omega, by simp, ?_, by omega⟩, fun sid e => by simp at e; omega, h1⟩
  rw [hget_set_ne (by omega)]
  exact hget_lit1
/-- One more is appended. -/
theorem Bst2.app1 {new : List Value} {sid : Nat} (s : Bst2 h H id n a B b2 b3 z2 x (.slice (some ⟨sid, 0, none⟩) len 0) sz len cs) (hn : new.length = sz) :
    Bst2 h (((H ++ [(⟨new, sz, .rw⟩ : Blk)]).set sid (⟨cs, sz, .dead⟩ : Blk) ++ [(⟨cs ++ new, sz, .rw⟩ : Blk)]).set b3 ⟨[x, .slice (some ⟨H.length + 1, 0, none⟩) (len + 1) 0], 2, .rw⟩) id n a B b2 b3 z2 x (.slice (some ⟨H.length + 1, 0, none⟩) (len + 1) 0) sz (len + 1) (cs ++ new) := by
  have h1 := s.low
  have h2 := hget_lt s.b
  have h0 := s.out.1
  rcases s.s with ⟨e, _⟩ | ⟨sid', e, e1, e2, e3, e4⟩
  · cases e
  obtain rfl : sid' = sid := by simpa using e.symm
  have s1 := s.grow [(⟨new, sz, .rw⟩ : Blk)]
  have s2 : St ((H ++ [(⟨new, sz, .rw⟩ : Blk)]).set sid' (⟨cs, sz, .dead⟩ : Blk)) id n a B := s1.st.set (self_get e3 _) rfl (by omega)
  have s3 := s2.app [(⟨cs ++ new, sz, .rw⟩ : Blk)]
  have key : ∀ i b, hget H i = some b → i ≠ sid' → hget ((H ++ [(⟨new, sz, .rw⟩ : Blk)]).set sid' (⟨cs, sz, .dead⟩ : Blk) ++ [(⟨cs ++ new, sz, .rw⟩ : Blk)]) i = some b := fun i b hb hi => self_get (by rw [hget_set_ne (by omega)]; exact self_get hb _) _
  have nb := s.ne sid' rfl
  have b0 := key _ _ s.b (Ne.symm nb)
  refine ⟨s3.set b0 rfl (by omega), ⟨by simp; omega, fun i e1 e2 => ?_⟩, by rw [hget_set_ne (by omega)]; exact key _ _ s.r (by omega), hget_set_same (hget_lt b0), .inr ⟨_, rfl, by omega, by simp, ?_, by simp [e4, hn, Nat.add_mul]⟩, fun sid e => by simp at e; omega, h1⟩
  · rw [hget_set_ne (by omega)]
    have e5 := s.out.2 i e1 e2
    have e6 : i < H.length := by omega
    rw [← e5]
    have e7 : hget H i = some H[i] := by unfold hget; exact List.getElem?_eq_getElem e6
    rw [e7]
    exact key _ _ e7 (by omega)
  · rw [hget_set_ne (by omega)]
    have e5 : ((H ++ [(⟨new, sz, .rw⟩ : Blk)]).set sid' (⟨cs, sz, .dead⟩ : Blk)).length = H.length + 1 := by simp
    rw [← e5]
    exact hget_new
end
section
/-- A block beside. -/
theorem Bst2.other {h H : Heap} {id n B b2 b3 sz len : Nat} {a : Option Addr} {z2 : Blk} {x v : Value} {cs : List Value} (s : Bst2 h H id n a B b2 b3 z2 x v sz len cs) {j : Nat} {c : Blk} (hj : hget H j = some c) (hrw : c.st = .rw)
    (hne : h.length ≤ j ∧ j ≠ b2 ∧ j ≠ b3) (hs : ∀ sid, v = .slice (some ⟨sid, 0, none⟩) len 0 → sid ≠ j) (b : Blk) : Bst2 h (H.set j b) id n a B b2 b3 z2 x v sz len cs := by
  have h1 := s.low
  exact ⟨s.st.set hj hrw (by omega), ⟨by simpa using s.out.1, fun i e1 e2 => by rw [hget_set_ne (by omega)]; exact s.out.2 i e1 e2⟩, by rw [hget_set_ne (by omega)]; exact s.r, by rw [hget_set_ne (by omega)]; exact s.b, by simpa using FC.set s.s hs b, s.ne, h1⟩
end

section
variable {h : Heap} {M : Nat → Prop}
set_option maxRecDepth 8000 in
set_option maxHeartbeats 4000000 in
theorem d_anyNetwork {id n B : Nat} {a : Option Addr} (s : St h id n a B) (hM : M id) (hB : B ≤ 100000) :
    vCall [] Try.prog M 85 [.pointer (some ⟨id, 0, none⟩)] h (fun r H' => (∃ (N : Int) (l : List Pip) (w : Value), r = .agg #[.int .i64 N, w] ∧ FC h.length H'.length 4 l.length H' w (flP l) ∧ l.length ≤ 40) ∧ St H' id n a (B + 400) ∧ Agr id (id + 1) h H') := by
  have hid := s.lt
  have hown : own h.length M id := Or.inr hM
  refine body_ofR ([(17,[1,4])]) mo Try.func85 rfl (by kernel_rfl) (Nat.le_of_ble_eq_true (by kernel_rfl)) rfl ?_
  simp only [go_sem, Nat.reduceBEq, Nat.reduceAdd, Nat.reduceMul, Nat.reduceSub, Nat.reduceLeDiff, Nat.le_refl, implies_true, Nat.reduceLT, reduceIte, decide_true, decide_false, true_and, and_true, reduceCtorEq, Nat.mul_one, Int.reduceToNat, Int.reduceLE, Int.reduceLT, Int.reduceAdd, Int.reduceSub, Int.reduceMul, Int.cast_ofNat_Int, cast_zero_int, cast_one_int, Nat.reducePow, Nat.reduceEqDiff, Nat.reduceMod, Nat.zero_add, Nat.sub_zero, Nat.add_zero]
  refine ⟨by kernel_rfl, (d_network (s.app _) hown (by omega)).use (fun _ m => m) ?_⟩
  rintro _ H1 ⟨⟨N, l, w, rfl, fc, hl⟩, s1, g1⟩
  obtain ⟨aw, rfl⟩ := fc.len
  have L1 : h.length ≤ H1.length := by have := g1.1; simp only [List.length_append] at this; omega
  have L2 : h.length + 1 ≤ H1.length := by have := g1.1; simpa using this
  try simp only [go_sem, Nat.reduceBEq, Nat.reduceAdd, Nat.reduceMul, Nat.reduceSub, Nat.reduceLeDiff, Nat.le_refl, implies_true, Nat.reduceLT, reduceIte, decide_true, decide_false, true_and, and_true, reduceCtorEq, Nat.mul_one, Int.reduceToNat, Int.reduceLE, Int.reduceLT, Int.reduceAdd, Int.reduceSub, Int.reduceMul, Int.cast_ofNat_Int, cast_zero_int, cast_one_int, Nat.reducePow, Nat.reduceEqDiff, Nat.reduceMod, Nat.zero_add, Nat.sub_zero, Nat.add_zero, own_base0 L1, own_ge (show h.length ≤ H1.length + 1 by omega)]
  have ne3 : ∀ sid, Value.slice aw l.length 0 = .slice (some ⟨sid, 0, none⟩) l.length 0 → sid < H1.length := fun sid e => by
    rcases fc with ⟨e', _⟩ | ⟨sid', e', q1, q2, _⟩
    · rw [e'] at e; cases e
    · rw [e'] at e; simp at e; omega
  have bs : Bst2 h (H1 ++ [⟨[.int .i64 N, .slice aw l.length 0], 2, .rw⟩, ⟨[.int .i64 99, .int .i64 1, .int .i64 2, .int .i64 1], 4, .rw⟩]) id n a (B + 200) h.length H1.length ⟨[.int .i64 0, .slice none 0 0], 2, .rw⟩ (.int .i64 N) (.slice aw l.length 0) 4 l.length (flP l) :=
    ⟨s1.app _, (Agr.app.trans g1).trans Agr.app, self_get (agr_get g1 hget_new (by omega)) _, hget_lit0, (fc.app _).wide (by simp) (by simp), fun sid e => by have := ne3 sid e; omega, by omega⟩
  refine ⟨by kernel_rfl, (d_pick _ bs.st hown (by omega)).use (fun _ m => m) ?_⟩
  rintro _ H2 ⟨⟨c, rfl, c0, c1⟩, s2, g2⟩
  have bs2 := bs.step s2 g2
  have k4 := agr_get g2 hget_lit1 (by omega)
  have ne4 : ∀ sid, Value.slice aw l.length 0 = .slice (some ⟨sid, 0, none⟩) l.length 0 → sid ≠ H1.length + 1 := fun sid e => by have := ne3 sid e; omega
  have fin : ∀ (H' : Heap) (N' : Int) (l' : List Pip) (w : Value), Bst2 h H' id n a (B + 400) h.length H1.length ⟨[.int .i64 0, .slice none 0 0], 2, .rw⟩ (.int .i64 N') w 4 l'.length (flP l') → l'.length ≤ 40 →
      (∃ (N : Int) (l : List Pip) (w2 : Value), Value.agg #[.int .i64 N', w] = .agg #[.int .i64 N, w2] ∧ FC h.length (H'.set h.length ⟨[.int .i64 N', w], 2, .rw⟩).length 4 l.length (H'.set h.length ⟨[.int .i64 N', w], 2, .rw⟩) w2 (flP l) ∧ l.length ≤ 40) ∧
        St (H'.set h.length ⟨[.int .i64 N', w], 2, .rw⟩) id n a (B + 400) ∧ Agr id (id + 1) h (H'.set h.length ⟨[.int .i64 N', w], 2, .rw⟩) := fun H' N' l' w bs hl => by
    obtain ⟨d1, d2, d3, _⟩ := bs.done rfl ⟨[.int .i64 N', w], 2, .rw⟩
    exact ⟨⟨N', l', w, rfl, d3.wide (by omega) (Nat.le_refl _), hl⟩, d1, d2⟩
  try simp only [go_sem, Nat.reduceBEq, Nat.reduceAdd, Nat.reduceMul, Nat.reduceSub, Nat.reduceLeDiff, Nat.le_refl, implies_true, Nat.reduceLT, reduceIte, decide_true, decide_false, true_and, and_true, reduceCtorEq, Nat.mul_one, Int.reduceToNat, Int.reduceLE, Int.reduceLT, Int.reduceAdd, Int.reduceSub, Int.reduceMul, Int.cast_ofNat_Int, cast_zero_int, cast_one_int, Nat.reducePow, Nat.reduceEqDiff, Nat.reduceMod, Nat.zero_add, Nat.sub_zero, Nat.add_zero]
  by_cases hc0 : c = 0
  · try simp only [go_sem, Nat.reduceBEq, Nat.reduceAdd, Nat.reduceMul, Nat.reduceSub, Nat.reduceLeDiff, Nat.le_refl, implies_true, Nat.reduceLT, reduceIte, decide_true, decide_false, true_and, and_true, reduceCtorEq, Nat.mul_one, Int.reduceToNat, Int.reduceLE, Int.reduceLT, Int.reduceAdd, Int.reduceSub, Int.reduceMul, Int.cast_ofNat_Int, cast_zero_int, cast_one_int, Nat.reducePow, Nat.reduceEqDiff, Nat.reduceMod, Nat.zero_add, Nat.sub_zero, Nat.add_zero, show (c == 0) = true by simpa using hc0]
    refine ⟨by kernel_rfl, (d_amongL _ _ bs2.st hown rfl (by simp) (by omega) (by omega) (by omega)).use (fun _ m => m) ?_⟩
    rintro _ H3 ⟨⟨x, rfl⟩, s3, g3, l3⟩
    have bs3 := bs2.step s3 g3
    have bs4 := bs3.setx (.int .i64 x)
    try simp only [go_sem, Nat.reduceBEq, Nat.reduceAdd, Nat.reduceMul, Nat.reduceSub, Nat.reduceLeDiff, Nat.le_refl, implies_true, Nat.reduceLT, reduceIte, decide_true, decide_false, true_and, and_true, reduceCtorEq, Nat.mul_one, Int.reduceToNat, Int.reduceLE, Int.reduceLT, Int.reduceAdd, Int.reduceSub, Int.reduceMul, Int.cast_ofNat_Int, cast_zero_int, cast_one_int, Nat.reducePow, Nat.reduceEqDiff, Nat.reduceMod, Nat.zero_add, Nat.sub_zero, Nat.add_zero, bs3.b, bs4.b, bs4.r, set_get bs4.r, own_base0 L1, own_ge (Nat.le_refl h.length)]
    exact fin _ _ _ _ (bs4.step (bs4.st.more (by omega)) Agr.refl) (by omega)
  · by_cases hc1 : c = 1
    · try simp only [go_sem, Nat.reduceBEq, Nat.reduceAdd, Nat.reduceMul, Nat.reduceSub, Nat.reduceLeDiff, Nat.le_refl, implies_true, Nat.reduceLT, reduceIte, decide_true, decide_false, true_and, and_true, reduceCtorEq, Nat.mul_one, Int.reduceToNat, Int.reduceLE, Int.reduceLT, Int.reduceAdd, Int.reduceSub, Int.reduceMul, Int.cast_ofNat_Int, cast_zero_int, cast_one_int, Nat.reducePow, Nat.reduceEqDiff, Nat.reduceMod, Nat.zero_add, Nat.sub_zero, Nat.add_zero, show (c == 0) = false by simpa using hc0, show (c == 1) = true by simpa using hc1]
      refine ⟨by kernel_rfl, (d_amongL _ _ bs2.st hown rfl (by simp) (by omega) (by omega) (by omega)).use (fun _ m => m) ?_⟩
      rintro _ H3 ⟨⟨x, rfl⟩, s3, g3, l3⟩
      have bs3 := bs2.step s3 g3
      have k5 := agr_get g3 k4 (by omega)
      have k6 := set_get k5 (⟨[.int .i64 x, .int .i64 1, .int .i64 2, .int .i64 1], 4, .rw⟩ : Blk)
      have bs4 := bs3.other k5 rfl (by omega) ne4 ⟨[.int .i64 x, .int .i64 1, .int .i64 2, .int .i64 1], 4, .rw⟩
      try simp only [go_sem, Nat.reduceBEq, Nat.reduceAdd, Nat.reduceMul, Nat.reduceSub, Nat.reduceLeDiff, Nat.le_refl, implies_true, Nat.reduceLT, reduceIte, decide_true, decide_false, true_and, and_true, reduceCtorEq, Nat.mul_one, Int.reduceToNat, Int.reduceLE, Int.reduceLT, Int.reduceAdd, Int.reduceSub, Int.reduceMul, Int.cast_ofNat_Int, cast_zero_int, cast_one_int, Nat.reducePow, Nat.reduceEqDiff, Nat.reduceMod, Nat.zero_add, Nat.sub_zero, Nat.add_zero, k5, own_ge (show h.length ≤ H1.length + 1 by omega)]
      obtain ⟨H4, hH⟩ : ∃ X, H3.set (H1.length + 1) (⟨[.int .i64 x, .int .i64 1, .int .i64 2, .int .i64 1], 4, .rw⟩ : Blk) = X := ⟨_, rfl⟩
      rw [hH] at bs4 k6
      have L4 : h.length ≤ H4.length := bs4.out.1
      rcases bs4.s with ⟨ev, n1, n2⟩ | ⟨sid, ev, q1, q2, q3, q4⟩
      · obtain rfl : l = [] := List.length_eq_zero_iff.1 n1
        obtain rfl : aw = none := by simpa using ev
        have bz := bs4.app0 (new := [.int .i64 x, .int .i64 1, .int .i64 2, .int .i64 1]) rfl
        try simp only [go_sem, Nat.reduceBEq, Nat.reduceAdd, Nat.reduceMul, Nat.reduceSub, Nat.reduceLeDiff, Nat.le_refl, implies_true, Nat.reduceLT, reduceIte, decide_true, decide_false, true_and, and_true, reduceCtorEq, Nat.mul_one, Int.reduceToNat, Int.reduceLE, Int.reduceLT, Int.reduceAdd, Int.reduceSub, Int.reduceMul, Int.cast_ofNat_Int, cast_zero_int, cast_one_int, Nat.reducePow, Nat.reduceEqDiff, Nat.reduceMod, Nat.zero_add, Nat.sub_zero, Nat.add_zero, hH, k6, self_get k6, bs4.b, self_get bs4.b, own_base0 L1, bz.b, bz.r, set_get bz.r, own_ge (Nat.le_refl h.length)]
        exact fin _ _ [(x, 1, 2, 1)] _ (bz.step (bz.st.more (by omega)) Agr.refl) (by simp)
      · obtain rfl : aw = some ⟨sid, 0, none⟩ := by simpa using ev
        have o1 : own h.length M sid = True := own_ge (by omega)
        have bz := bs4.app1 (new := [.int .i64 x, .int .i64 1, .int .i64 2, .int .i64 1]) rfl
        try simp only [go_sem, Nat.reduceBEq, Nat.reduceAdd, Nat.reduceMul, Nat.reduceSub, Nat.reduceLeDiff, Nat.le_refl, implies_true, Nat.reduceLT, reduceIte, decide_true, decide_false, true_and, and_true, reduceCtorEq, Nat.mul_one, Int.reduceToNat, Int.reduceLE, Int.reduceLT, Int.reduceAdd, Int.reduceSub, Int.reduceMul, Int.cast_ofNat_Int, cast_zero_int, cast_one_int, Nat.reducePow, Nat.reduceEqDiff, Nat.reduceMod, Nat.zero_add, Nat.sub_zero, Nat.add_zero, hH, k6, self_get k6, bs4.b, self_get bs4.b, own_base0 L1, self_get q3, o1, kill_get bs4.b (bs4.ne sid rfl), flP_len, bz.b, bz.r, set_get bz.r, own_ge (Nat.le_refl h.length)]
        refine ⟨by omega, by omega, ?_⟩
        exact fin _ _ (l ++ [(x, 1, 2, 1)]) _ (by rw [snoc_lenP, flP_snoc]; exact bz.step (bz.st.more (by omega)) Agr.refl) (by simp; omega)
    · by_cases hc2 : c = 2
      · try simp only [go_sem, Nat.reduceBEq, Nat.reduceAdd, Nat.reduceMul, Nat.reduceSub, Nat.reduceLeDiff, Nat.le_refl, implies_true, Nat.reduceLT, reduceIte, decide_true, decide_false, true_and, and_true, reduceCtorEq, Nat.mul_one, Int.reduceToNat, Int.reduceLE, Int.reduceLT, Int.reduceAdd, Int.reduceSub, Int.reduceMul, Int.cast_ofNat_Int, cast_zero_int, cast_one_int, Nat.reducePow, Nat.reduceEqDiff, Nat.reduceMod, Nat.zero_add, Nat.sub_zero, Nat.add_zero, show (c == 0) = false by simpa using hc0, show (c == 1) = false by simpa using hc1, show (c == 2) = true by simpa using hc2]
        refine ⟨by kernel_rfl, (d_amongL _ _ bs2.st hown rfl (by simp) (by omega) (by omega) (by omega)).use (fun _ m => m) ?_⟩
        rintro _ H3 ⟨⟨x, rfl⟩, s3, g3, l3⟩
        have bs3 := bs2.step s3 g3
        have k5 := agr_get g3 k4 (by omega)
        have k6 := set_get k5 (⟨[.int .i64 99, .int .i64 1, .int .i64 2, .int .i64 x], 4, .rw⟩ : Blk)
        have bs4 := bs3.other k5 rfl (by omega) ne4 ⟨[.int .i64 99, .int .i64 1, .int .i64 2, .int .i64 x], 4, .rw⟩
        try simp only [go_sem, Nat.reduceBEq, Nat.reduceAdd, Nat.reduceMul, Nat.reduceSub, Nat.reduceLeDiff, Nat.le_refl, implies_true, Nat.reduceLT, reduceIte, decide_true, decide_false, true_and, and_true, reduceCtorEq, Nat.mul_one, Int.reduceToNat, Int.reduceLE, Int.reduceLT, Int.reduceAdd, Int.reduceSub, Int.reduceMul, Int.cast_ofNat_Int, cast_zero_int, cast_one_int, Nat.reducePow, Nat.reduceEqDiff, Nat.reduceMod, Nat.zero_add, Nat.sub_zero, Nat.add_zero, k5, own_ge (show h.length ≤ H1.length + 1 by omega)]
        obtain ⟨H4, hH⟩ : ∃ X, H3.set (H1.length + 1) (⟨[.int .i64 99, .int .i64 1, .int .i64 2, .int .i64 x], 4, .rw⟩ : Blk) = X := ⟨_, rfl⟩
        rw [hH] at bs4 k6
        have L4 : h.length ≤ H4.length := bs4.out.1
        rcases bs4.s with ⟨ev, n1, n2⟩ | ⟨sid, ev, q1, q2, q3, q4⟩
        · obtain rfl : l = [] := List.length_eq_zero_iff.1 n1
          obtain rfl : aw = none := by simpa using ev
          have bz := bs4.app0 (new := [.int .i64 99, .int .i64 1, .int .i64 2, .int .i64 x]) rfl
          try simp only [go_sem, Nat.reduceBEq, Nat.reduceAdd, Nat.reduceMul, Nat.reduceSub, Nat.reduceLeDiff, Nat.le_refl, implies_true, Nat.reduceLT, reduceIte, decide_true, decide_false, true_and, and_true, reduceCtorEq, Nat.mul_one, Int.reduceToNat, Int.reduceLE, Int.reduceLT, Int.reduceAdd, Int.reduceSub, Int.reduceMul, Int.cast_ofNat_Int, cast_zero_int, cast_one_int, Nat.reducePow, Nat.reduceEqDiff, Nat.reduceMod, Nat.zero_add, Nat.sub_zero, Nat.add_zero, hH, k6, self_get k6, bs4.b, self_get bs4.b, own_base0 L1, bz.b, bz.r, set_get bz.r, own_ge (Nat.le_refl h.length)]
          exact fin _ _ [(99, 1, 2, x)] _ (bz.step (bz.st.more (by omega)) Agr.refl) (by simp)
        · obtain rfl : aw = some ⟨sid, 0, none⟩ := by simpa using ev
          have o1 : own h.length M sid = True := own_ge (by omega)
          have bz := bs4.app1 (new := [.int .i64 99, .int .i64 1, .int .i64 2, .int .i64 x]) rfl
          try simp only [go_sem, Nat.reduceBEq, Nat.reduceAdd, Nat.reduceMul, Nat.reduceSub, Nat.reduceLeDiff, Nat.le_refl, implies_true, Nat.reduceLT, reduceIte, decide_true, decide_false, true_and, and_true, reduceCtorEq, Nat.mul_one, Int.reduceToNat, Int.reduceLE, Int.reduceLT, Int.reduceAdd, Int.reduceSub, Int.reduceMul, Int.cast_ofNat_Int, cast_zero_int, cast_one_int, Nat.reducePow, Nat.reduceEqDiff, Nat.reduceMod, Nat.zero_add, Nat.sub_zero, Nat.add_zero, hH, k6, self_get k6, bs4.b, self_get bs4.b, own_base0 L1, self_get q3, o1, kill_get bs4.b (bs4.ne sid rfl), flP_len, bz.b, bz.r, set_get bz.r, own_ge (Nat.le_refl h.length)]
          refine ⟨by omega, by omega, ?_⟩
          exact fin _ _ (l ++ [(99, 1, 2, x)]) _ (by rw [snoc_lenP, flP_snoc]; exact bz.step (bz.st.more (by omega)) Agr.refl) (by simp; omega)
      · by_cases hc3 : c = 3
        · try simp only [go_sem, Nat.reduceBEq, Nat.reduceAdd, Nat.reduceMul, Nat.reduceSub, Nat.reduceLeDiff, Nat.le_refl, implies_true, Nat.reduceLT, reduceIte, decide_true, decide_false, true_and, and_true, reduceCtorEq, Nat.mul_one, Int.reduceToNat, Int.reduceLE, Int.reduceLT, Int.reduceAdd, Int.reduceSub, Int.reduceMul, Int.cast_ofNat_Int, cast_zero_int, cast_one_int, Nat.reducePow, Nat.reduceEqDiff, Nat.reduceMod, Nat.zero_add, Nat.sub_zero, Nat.add_zero, show (c == 0) = false by simpa using hc0, show (c == 1) = false by simpa using hc1, show (c == 2) = false by simpa using hc2, show (c == 3) = true by simpa using hc3]
          refine ⟨by kernel_rfl, (d_amongL _ _ bs2.st hown rfl (by simp) (by omega) (by omega) (by omega)).use (fun _ m => m) ?_⟩
          rintro _ H3 ⟨⟨x, rfl⟩, s3, g3, l3⟩
          have bs3 := bs2.step s3 g3
          have k5 := agr_get g3 k4 (by omega)
          have k6 := set_get k5 (⟨[.int .i64 99, .int .i64 1, .int .i64 x, .int .i64 1], 4, .rw⟩ : Blk)
          have bs4 := bs3.other k5 rfl (by omega) ne4 ⟨[.int .i64 99, .int .i64 1, .int .i64 x, .int .i64 1], 4, .rw⟩
          try simp only [go_sem, Nat.reduceBEq, Nat.reduceAdd, Nat.reduceMul, Nat.reduceSub, Nat.reduceLeDiff, Nat.le_refl, implies_true, Nat.reduceLT, reduceIte, decide_true, decide_false, true_and, and_true, reduceCtorEq, Nat.mul_one, Int.reduceToNat, Int.reduceLE, Int.reduceLT, Int.reduceAdd, Int.reduceSub, Int.reduceMul, Int.cast_ofNat_Int, cast_zero_int, cast_one_int, Nat.reducePow, Nat.reduceEqDiff, Nat.reduceMod, Nat.zero_add, Nat.sub_zero, Nat.add_zero, k5, own_ge (show h.length ≤ H1.length + 1 by omega)]
          obtain ⟨H4, hH⟩ : ∃ X, H3.set (H1.length + 1) (⟨[.int .i64 99, .int .i64 1, .int .i64 x, .int .i64 1], 4, .rw⟩ : Blk) = X := ⟨_, rfl⟩
          rw [hH] at bs4 k6
          have L4 : h.length ≤ H4.length := bs4.out.1
          rcases bs4.s with ⟨ev, n1, n2⟩ | ⟨sid, ev, q1, q2, q3, q4⟩
          · obtain rfl : l = [] := List.length_eq_zero_iff.1 n1
            obtain rfl : aw = none := by simpa using ev
            have bz := bs4.app0 (new := [.int .i64 99, .int .i64 1, .int .i64 x, .int .i64 1]) rfl
            try simp only [go_sem, Nat.reduceBEq, Nat.reduceAdd, Nat.reduceMul, Nat.reduceSub, Nat.reduceLeDiff, Nat.le_refl, implies_true, Nat.reduceLT, reduceIte, decide_true, decide_false, true_and, and_true, reduceCtorEq, Nat.mul_one, Int.reduceToNat, Int.reduceLE, Int.reduceLT, Int.reduceAdd, Int.reduceSub, Int.reduceMul, Int.cast_ofNat_Int, cast_zero_int, cast_one_int, Nat.reducePow, Nat.reduceEqDiff, Nat.reduceMod, Nat.zero_add, Nat.sub_zero, Nat.add_zero, hH, k6, self_get k6, bs4.b, self_get bs4.b, own_base0 L1, bz.b, bz.r, set_get bz.r, own_ge (Nat.le_refl h.length)]
            exact fin _ _ [(99, 1, x, 1)] _ (bz.step (bz.st.more (by omega)) Agr.refl) (by simp)
          · obtain rfl : aw = some ⟨sid, 0, none⟩ := by simpa using ev
            have o1 : own h.length M sid = True := own_ge (by omega)
            have bz := bs4.app1 (new := [.int .i64 99, .int .i64 1, .int .i64 x, .int .i64 1]) rfl
            try simp only [go_sem, Nat.reduceBEq, Nat.reduceAdd, Nat.reduceMul, Nat.reduceSub, Nat.reduceLeDiff, Nat.le_refl, implies_true, Nat.reduceLT, reduceIte, decide_true, decide_false, true_and, and_true, reduceCtorEq, Nat.mul_one, Int.reduceToNat, Int.reduceLE, Int.reduceLT, Int.reduceAdd, Int.reduceSub, Int.reduceMul, Int.cast_ofNat_Int, cast_zero_int, cast_one_int, Nat.reducePow, Nat.reduceEqDiff, Nat.reduceMod, Nat.zero_add, Nat.sub_zero, Nat.add_zero, hH, k6, self_get k6, bs4.b, self_get bs4.b, own_base0 L1, self_get q3, o1, kill_get bs4.b (bs4.ne sid rfl), flP_len, bz.b, bz.r, set_get bz.r, own_ge (Nat.le_refl h.length)]
            refine ⟨by omega, by omega, ?_⟩
            exact fin _ _ (l ++ [(99, 1, x, 1)]) _ (by rw [snoc_lenP, flP_snoc]; exact bz.step (bz.st.more (by omega)) Agr.refl) (by simp; omega)
        · by_cases hc4 : c = 4
          · try simp only [go_sem, Nat.reduceBEq, Nat.reduceAdd, Nat.reduceMul, Nat.reduceSub, Nat.reduceLeDiff, Nat.le_refl, implies_true, Nat.reduceLT, reduceIte, decide_true, decide_false, true_and, and_true, reduceCtorEq, Nat.mul_one, Int.reduceToNat, Int.reduceLE, Int.reduceLT, Int.reduceAdd, Int.reduceSub, Int.reduceMul, Int.cast_ofNat_Int, cast_zero_int, cast_one_int, Nat.reducePow, Nat.reduceEqDiff, Nat.reduceMod, Nat.zero_add, Nat.sub_zero, Nat.add_zero, show (c == 0) = false by simpa using hc0, show (c == 1) = false by simpa using hc1, show (c == 2) = false by simpa using hc2, show (c == 3) = false by simpa using hc3, show (c == 4) = true by simpa using hc4]
            refine vLoopR.count mo 12 (fun i e H => ∃ (v : Value) (l : List Pip), e 0 = .pointer (some ⟨id, 0, none⟩) ∧ e 2 = .pointer (some ⟨h.length, 0, none⟩) ∧ e 3 = .pointer (some ⟨H1.length, 0, none⟩) ∧ e 5 = .int .i64 i ∧
              Bst2 h H id n a (B + 210 + 10 * i) h.length H1.length ⟨[.int .i64 0, .slice none 0 0], 2, .rw⟩ (.int .i64 N) v 4 l.length (flP l) ∧ l.length ≤ 20 + i) ?_ ?_
            · try simp only [go_sem, Nat.reduceBEq, Nat.reduceAdd, Nat.reduceMul, Nat.reduceSub, Nat.reduceLeDiff, Nat.le_refl, implies_true, Nat.reduceLT, reduceIte, decide_true, decide_false, true_and, and_true, reduceCtorEq, Nat.mul_one, Int.reduceToNat, Int.reduceLE, Int.reduceLT, Int.reduceAdd, Int.reduceSub, Int.reduceMul, Int.cast_ofNat_Int, cast_zero_int, cast_one_int, Nat.reducePow, Nat.reduceEqDiff, Nat.reduceMod, Nat.zero_add, Nat.sub_zero, Nat.add_zero]
              exact ⟨_, l, bs2.step (bs2.st.more (by omega)) Agr.refl, by omega⟩
            · rintro i e H hi ⟨v, l, e0, e2, e3, e5, bs, hl⟩
              obtain ⟨av, rfl⟩ := bs.s.len
              try simp only [go_sem, Nat.reduceBEq, Nat.reduceAdd, Nat.reduceMul, Nat.reduceSub, Nat.reduceLeDiff, Nat.le_refl, implies_true, Nat.reduceLT, reduceIte, decide_true, decide_false, true_and, and_true, reduceCtorEq, Nat.mul_one, Int.reduceToNat, Int.reduceLE, Int.reduceLT, Int.reduceAdd, Int.reduceSub, Int.reduceMul, Int.cast_ofNat_Int, cast_zero_int, cast_one_int, Nat.reducePow, Nat.reduceEqDiff, Nat.reduceMod, Nat.zero_add, Nat.sub_zero, Nat.add_zero, e0, e2, e3, e5, bs.b]
              refine ⟨by kernel_rfl, (d_pick _ bs.st hown (by omega)).use (fun _ m => m) ?_⟩
              rintro _ H3 ⟨⟨y, rfl, y0, y1⟩, s3, g3⟩
              have bs3 := bs.step s3 g3
              have l3 := g3.1
              have w1 : IntKind.i64.wrap (10 + y) = 10 + y := wrap64 (by omega)
              obtain ⟨d1, d2, d3, _⟩ := bs3.done rfl ⟨[.int .i64 N, .slice av l.length 0], 2, .rw⟩
              by_cases h1 : (l.length : Int) < 10 + y
              · by_cases h2 : (i : Int) < 12
                · obtain ⟨wa, hwa⟩ : ∃ w, IntKind.i64.wrap (60 + (i : Int)) = w := ⟨_, rfl⟩
                  have w3 : IntKind.i64.wrap ((i : Int) + 1) = ((i + 1 : Nat) : Int) := by rw [wrap64 (by omega)]; rfl
                  try simp only [go_sem, Nat.reduceBEq, Nat.reduceAdd, Nat.reduceMul, Nat.reduceSub, Nat.reduceLeDiff, Nat.le_refl, implies_true, Nat.reduceLT, reduceIte, decide_true, decide_false, true_and, and_true, reduceCtorEq, Nat.mul_one, Int.reduceToNat, Int.reduceLE, Int.reduceLT, Int.reduceAdd, Int.reduceSub, Int.reduceMul, Int.cast_ofNat_Int, cast_zero_int, cast_one_int, Nat.reducePow, Nat.reduceEqDiff, Nat.reduceMod, Nat.zero_add, Nat.sub_zero, Nat.add_zero, e0, e2, e3, e5, bs.b, bs3.b, l3, w1, w3, h1, h2, hwa]
                  refine ⟨by kernel_rfl, (c_l1Most _ _).use (fun _ m => m) ?_⟩
                  rintro _ _ ⟨rfl, rfl⟩
                  obtain ⟨ml, hml⟩ : ∃ w : Int, (if N < 2 then 2 else N) = w := ⟨_, rfl⟩
                  rcases bs3.s with ⟨ev, n1, n2⟩ | ⟨sid, ev, q1, q2, q3, q4⟩
                  · obtain rfl : l = [] := List.length_eq_zero_iff.1 n1
                    obtain rfl : av = none := by simpa using ev
                    have bz := bs3.app0 (new := pip (wa, 1, (if N < 2 then 2 else N), 2)) rfl
                    try simp only [go_sem, Nat.reduceBEq, Nat.reduceAdd, Nat.reduceMul, Nat.reduceSub, Nat.reduceLeDiff, Nat.le_refl, implies_true, Nat.reduceLT, reduceIte, decide_true, decide_false, true_and, and_true, reduceCtorEq, Nat.mul_one, Int.reduceToNat, Int.reduceLE, Int.reduceLT, Int.reduceAdd, Int.reduceSub, Int.reduceMul, Int.cast_ofNat_Int, cast_zero_int, cast_one_int, Nat.reducePow, Nat.reduceEqDiff, Nat.reduceMod, Nat.zero_add, Nat.sub_zero, Nat.add_zero, e0, e2, e3, e5, w3, bs3.b, self_get bs3.b, own_base0 L1]
                    exact ⟨by omega, .slice (some ⟨H3.length + 1, 0, none⟩) 1 0, [(wa, 1, (if N < 2 then 2 else N), 2)], bz.step (bz.st.more (by omega)) Agr.refl, by simp; omega⟩
                  · obtain rfl : av = some ⟨sid, 0, none⟩ := by simpa using ev
                    have o1 : own h.length M sid = True := own_ge (by omega)
                    have bz := bs3.app1 (new := pip (wa, 1, (if N < 2 then 2 else N), 2)) rfl
                    try simp only [go_sem, Nat.reduceBEq, Nat.reduceAdd, Nat.reduceMul, Nat.reduceSub, Nat.reduceLeDiff, Nat.le_refl, implies_true, Nat.reduceLT, reduceIte, decide_true, decide_false, true_and, and_true, reduceCtorEq, Nat.mul_one, Int.reduceToNat, Int.reduceLE, Int.reduceLT, Int.reduceAdd, Int.reduceSub, Int.reduceMul, Int.cast_ofNat_Int, cast_zero_int, cast_one_int, Nat.reducePow, Nat.reduceEqDiff, Nat.reduceMod, Nat.zero_add, Nat.sub_zero, Nat.add_zero, e0, e2, e3, e5, w3, bs3.b, self_get bs3.b, own_base0 L1, self_get q3, o1, kill_get bs3.b (bs3.ne sid rfl), flP_len]
                    refine ⟨by omega, by omega, by omega, .slice (some ⟨H3.length + 1, 0, none⟩) (l.length + 1) 0, l ++ [(wa, 1, (if N < 2 then 2 else N), 2)], ?_, by simp; omega⟩
                    rw [snoc_lenP, flP_snoc]; exact bz.step (bz.st.more (by omega)) Agr.refl
                · try simp only [go_sem, Nat.reduceBEq, Nat.reduceAdd, Nat.reduceMul, Nat.reduceSub, Nat.reduceLeDiff, Nat.le_refl, implies_true, Nat.reduceLT, reduceIte, decide_true, decide_false, true_and, and_true, reduceCtorEq, Nat.mul_one, Int.reduceToNat, Int.reduceLE, Int.reduceLT, Int.reduceAdd, Int.reduceSub, Int.reduceMul, Int.cast_ofNat_Int, cast_zero_int, cast_one_int, Nat.reducePow, Nat.reduceEqDiff, Nat.reduceMod, Nat.zero_add, Nat.sub_zero, Nat.add_zero, e0, e2, e3, e5, bs.b, bs3.b, l3, w1, h1, h2, bs3.r, set_get bs3.r, own_ge (Nat.le_refl h.length)]
                  exact fin _ _ l _ (bs3.step (bs3.st.more (by omega)) Agr.refl) (by omega)
              · try simp only [go_sem, Nat.reduceBEq, Nat.reduceAdd, Nat.reduceMul, Nat.reduceSub, Nat.reduceLeDiff, Nat.le_refl, implies_true, Nat.reduceLT, reduceIte, decide_true, decide_false, true_and, and_true, reduceCtorEq, Nat.mul_one, Int.reduceToNat, Int.reduceLE, Int.reduceLT, Int.reduceAdd, Int.reduceSub, Int.reduceMul, Int.cast_ofNat_Int, cast_zero_int, cast_one_int, Nat.reducePow, Nat.reduceEqDiff, Nat.reduceMod, Nat.zero_add, Nat.sub_zero, Nat.add_zero, e0, e2, e3, e5, bs.b, bs3.b, l3, w1, h1, bs3.r, set_get bs3.r, own_ge (Nat.le_refl h.length)]
                exact fin _ _ l _ (bs3.step (bs3.st.more (by omega)) Agr.refl) (by omega)
          · try simp only [go_sem, Nat.reduceBEq, Nat.reduceAdd, Nat.reduceMul, Nat.reduceSub, Nat.reduceLeDiff, Nat.le_refl, implies_true, Nat.reduceLT, reduceIte, decide_true, decide_false, true_and, and_true, reduceCtorEq, Nat.mul_one, Int.reduceToNat, Int.reduceLE, Int.reduceLT, Int.reduceAdd, Int.reduceSub, Int.reduceMul, Int.cast_ofNat_Int, cast_zero_int, cast_one_int, Nat.reducePow, Nat.reduceEqDiff, Nat.reduceMod, Nat.zero_add, Nat.sub_zero, Nat.add_zero, show (c == 0) = false by simpa using hc0, show (c == 1) = false by simpa using hc1, show (c == 2) = false by simpa using hc2, show (c == 3) = false by simpa using hc3, show (c == 4) = false by simpa using hc4, bs2.b, bs2.r, set_get bs2.r, own_ge (Nat.le_refl h.length)]
            exact fin _ _ _ _ (bs2.step (bs2.st.more (by omega)) Agr.refl) (by omega)
end
end Go.Proofs.Ytjgekhahklidcaa
