
/- Draws: what a cursor leaves as it was, and slices that grow beside it. No condition. -/
import Derived.Test.YtfolkgkcaiaifaaCur
import Derived.Test.YtfolkgkcaiaifaaInts
namespace Go.Proofs.Ytfolkgkcaiaifaa
open Go.HH
set_option linter.unusedSimpArgs false
set_option linter.unusedVariables false

/-- A cursor that may be used. -/
def St (H : Heap) (id n : Nat) (a : Option Addr) (B : Nat) : Prop := (∃ p s : Int, hget H id = some (curB a n p s) ∧ 0 ≤ p ∧ p ≤ B) ∧ CodeOk H a n
theorem St.lt {H : Heap} {id n B : Nat} {a : Option Addr} (s : St H id n a B) : id < H.length := let ⟨⟨_, _, h, _⟩, _⟩ := s; hget_lt h
theorem St.more {H : Heap} {id n B : Nat} {a : Option Addr} (s : St H id n a B) {B' : Nat} (h : B ≤ B') : St H id n a B' := let ⟨⟨p, q, h1, h2, h3⟩, h4⟩ := s; ⟨⟨p, q, h1, h2, by omega⟩, h4⟩
theorem CodeOk.agr {H H' : Heap} {a : Option Addr} {n id : Nat} {c : Blk} (k : CodeOk H a n) (hc : hget H id = some c) (hrw : c.st = .rw) (g : Agr id (id + 1) H H') : CodeOk H' a n := by
  refine ⟨k.1, fun h0 => ?_⟩
  obtain ⟨id2, off, b, e, e1, e2, e3⟩ := k.2 h0
  have : id ≠ id2 := by intro hh; subst hh; rw [hc] at e1; cases e1; rw [hrw] at e2; cases e2
  exact ⟨id2, off, b, e, agr_get g e1 (by omega), e2, e3⟩
theorem CodeOk.mono {H H' : Heap} {a : Option Addr} {n : Nat} (k : CodeOk H a n) (hp : H <+: H') : CodeOk H' a n := by
  obtain ⟨t, rfl⟩ := hp; exact k.app
/-- A heap that grows, or in which a block that is not the cursor's and not read-only changes. -/
theorem St.app {H : Heap} {id n B : Nat} {a : Option Addr} (s : St H id n a B) (t : Heap) : St (H ++ t) id n a B := by
  obtain ⟨⟨p, q, h1, h2⟩, h4⟩ := s
  exact ⟨⟨p, q, self_get h1 t, h2⟩, h4.app⟩
theorem St.set {H : Heap} {id n B : Nat} {a : Option Addr} (s : St H id n a B) {j : Nat} {b c : Blk} (hj : hget H j = some c) (hrw : c.st = .rw) (hne : j ≠ id) : St (H.set j b) id n a B := by
  obtain ⟨⟨p, q, h1, h2⟩, h4⟩ := s
  exact ⟨⟨p, q, by rw [hget_set_ne hne]; exact h1, h2⟩, h4.set hj hrw⟩
theorem Cur2.out {H H' : Heap} {id n B : Nat} {a : Option Addr} {p s : Int} {j : Nat} (h1 : hget H id = some (curB a n p s)) (h4 : CodeOk H a n) (h2 : 0 ≤ p) (h3 : p ≤ B) (c : Cur2 H H' id n a p j) : St H' id n a (B + j) ∧ Agr id (id + 1) H H' := by
  obtain ⟨p', s', t, rfl, e1, e2⟩ := c
  have g : Agr id (id + 1) H (H.set id (curB a n p' s') ++ t) := (Agr.set (Nat.le_refl _) (Nat.lt_succ_self _)).trans Agr.app
  exact ⟨⟨⟨p', s', self_get (hget_set_same (hget_lt h1)) t, by omega, by omega⟩, h4.agr h1 rfl g⟩, g⟩

section
variable {H : Heap} {M : Nat → Prop}
theorem d_pick {id n B : Nat} {a : Option Addr} (k : Int) (s : St H id n a B) (hM : M id) (hB : B ≤ 1000000) :
    vCall [] Try.prog M 45 [.pointer (some ⟨id, 0, none⟩), .int .i64 k] H (fun r H' => (∃ m, r = .int .i64 m ∧ 0 ≤ m ∧ (m < k ∨ m = 0)) ∧ St H' id n a (B + 2) ∧ Agr id (id + 1) H H') := by
  obtain ⟨⟨p, q, h1, h2, h3⟩, h4⟩ := s
  obtain ⟨r, H', hr, hm, c⟩ := c_pick (M := M) id n a p q k hM h1 h4 (by omega)
  exact ⟨r, H', hr, hm, c.out h1 h4 h2 h3⟩
theorem d_among {id n B : Nat} {a : Option Addr} (j cnt : Nat) (b : Blk) (s : St H id n a B) (hM : M id) (hj : hget H j = some b) (hint : b.cells.all isI64 = true) (hd : b.st = .rw) (hcnt : cnt ≤ b.cells.length) (hne : j ≠ id) (hl : 0 < cnt) (hmax : cnt ≤ 1000) (hB : B ≤ 1000000) :
    vCall [] Try.prog M 44 [.pointer (some ⟨id, 0, none⟩), .slice (some ⟨j, 0, none⟩) cnt 0] H (fun r H' => (∃ m, r = .int .i64 m) ∧ St H' id n a (B + 2) ∧ Agr id (id + 1) H H') := by
  obtain ⟨⟨p, q, h1, h2, h3⟩, h4⟩ := s
  obtain ⟨r, H', hr, hm, c⟩ := c_among (M := M) id n a p q j cnt b hM hj hint (by rw [hd]; simp) hcnt h1 h4 (by omega) (by omega) hl hmax
  exact ⟨r, H', hr, hm, c.out h1 h4 h2 h3⟩
/-- The numbers to choose from lie in the newest block. -/
theorem d_amongL {id n B : Nat} {a : Option Addr} (l : List Value) (cnt : Nat) (s : St H id n a B) (hM : M id) (hint : l.all isI64 = true) (hcnt : cnt ≤ l.length) (hl : 0 < cnt) (hmax : cnt ≤ 1000) (hB : B ≤ 1000000) :
    vCall [] Try.prog M 44 [.pointer (some ⟨id, 0, none⟩), .slice (some ⟨H.length, 0, none⟩) cnt 0] (H ++ [⟨l, 1, .rw⟩]) (fun r H' => (∃ m, r = .int .i64 m) ∧ St H' id n a (B + 2) ∧ Agr id (id + 1) H H' ∧ H.length + 1 ≤ H'.length) := by
  have h1 := s.lt
  obtain ⟨r, H', hr, hm, c, g⟩ := d_among (M := M) H.length cnt ⟨l, 1, .rw⟩ (s.app [⟨l, 1, .rw⟩]) hM hget_new hint rfl hcnt (by omega) hl hmax hB
  exact ⟨r, H', hr, hm, c, Agr.app.trans g, by have := g.1; simpa using this⟩
theorem d_one {id n B : Nat} {a : Option Addr} (k : Int) (s : St H id n a B) (hM : M id) (hB : B ≤ 1000000) :
    vCall [] Try.prog M 53 [.pointer (some ⟨id, 0, none⟩), .int .i64 k] H (fun r H' => (∃ g : Bool, r = .bool g) ∧ St H' id n a (B + 2) ∧ Agr id (id + 1) H H') := by
  refine body_of mo Try.func53 rfl (by kernel_rfl) (Nat.le_of_ble_eq_true (by kernel_rfl)) rfl ?_
  simp only [go_sem, Nat.reduceBEq, Nat.reduceAdd, Nat.reduceMul, Nat.reduceSub, Nat.reduceLeDiff, Nat.le_refl, implies_true, Nat.reduceLT, reduceIte, decide_true, decide_false, true_and, and_true, reduceCtorEq, Nat.mul_one, Int.reduceToNat, Int.reduceLE, Int.reduceLT, Int.reduceAdd, Int.reduceSub, Int.reduceMul, Int.cast_ofNat_Int, cast_zero_int, cast_one_int, Nat.reducePow, Nat.reduceEqDiff, Nat.reduceMod, Nat.zero_add, Nat.sub_zero, Nat.add_zero]
  refine ⟨by kernel_rfl, (d_pick _ s (Or.inr hM) hB).use (fun _ m => m) ?_⟩
  rintro _ H' ⟨⟨m, rfl, _⟩, s', g⟩
  simp only [go_sem, Nat.reduceBEq, Nat.reduceAdd, Nat.reduceMul, Nat.reduceSub, Nat.reduceLeDiff, Nat.le_refl, implies_true, Nat.reduceLT, reduceIte, decide_true, decide_false, true_and, and_true, reduceCtorEq, Nat.mul_one, Int.reduceToNat, Int.reduceLE, Int.reduceLT, Int.reduceAdd, Int.reduceSub, Int.reduceMul, Int.cast_ofNat_Int, cast_zero_int, cast_one_int, Nat.reducePow, Nat.reduceEqDiff, Nat.reduceMod, Nat.zero_add, Nat.sub_zero, Nat.add_zero]
  exact ⟨⟨_, rfl⟩, s', g⟩
end

theorem kill_get {H t u : Heap} {sid i : Nat} {b d : Blk} (hb : hget H i = some b) (hi : sid ≠ i) : hget (List.set (H ++ t) sid d ++ u) i = some b := self_get (by rw [hget_set_ne hi]; exact self_get hb _) _
theorem own_ge {m i : Nat} {M : Nat → Prop} (hi : m ≤ i) : own m M i = True := by simp [own, hi]
theorem snoc_len {l : List Int} {x : Int} : (l ++ [x]).length = l.length + 1 := by simp
theorem snoc_iv {l : List Int} {x : Int} : (l ++ [x]).map iv = l.map iv ++ [.int .i64 x] := by simp [iv]
/-- A slice that grows: nothing yet, or an own block that it fills. -/
def FC (lo hi sz len : Nat) (h : Heap) (v : Value) (cs : List Value) : Prop :=
  (v = .slice none 0 0 ∧ len = 0 ∧ cs = []) ∨ ∃ id, v = .slice (some ⟨id, 0, none⟩) len 0 ∧ lo ≤ id ∧ id < hi ∧ hget h id = some ⟨cs, sz, .rw⟩ ∧ cs.length = len * sz
theorem FC.nil {lo hi sz : Nat} {h : Heap} : FC lo hi sz 0 h (.slice none 0 0) [] := .inl ⟨rfl, rfl, rfl⟩
theorem FC.agr {n m sz len lo hi : Nat} {h h' : Heap} {v : Value} {cs : List Value} (s : FC n m sz len h v cs) (a : Agr lo hi h h') (hn : m ≤ lo ∨ hi ≤ n) : FC n m sz len h' v cs := by
  rcases s with s | ⟨id, e, e1, e2, e3, e4⟩
  · exact .inl s
  · exact .inr ⟨id, e, e1, e2, agr_get a e3 (by omega), e4⟩
theorem FC.app {n m sz len : Nat} {h : Heap} {v : Value} {cs : List Value} (s : FC n m sz len h v cs) (t : Heap) : FC n m sz len (h ++ t) v cs := s.agr (lo := m) (hi := m) Agr.app (by omega)
theorem FC.wide {n m n' m' sz len : Nat} {h : Heap} {v : Value} {cs : List Value} (s : FC n m sz len h v cs) (h1 : n' ≤ n) (h2 : m ≤ m') : FC n' m' sz len h v cs := by
  rcases s with s | ⟨id, e, e1, e2, e3⟩
  · exact .inl s
  · exact .inr ⟨id, e, by omega, by omega, e3⟩
theorem FC.len {n m sz len : Nat} {h : Heap} {v : Value} {cs : List Value} (s : FC n m sz len h v cs) : ∃ a, v = .slice a len 0 := by
  rcases s with ⟨rfl, rfl, _⟩ | ⟨id, e, _⟩
  · exact ⟨_, rfl⟩
  · exact ⟨_, e⟩

theorem FC.one {n m sz len : Nat} {h : Heap} {v : Value} {cs : List Value} (s : FC n m sz len h v cs) : oneC v = true := by
  obtain ⟨a, rfl⟩ := s.len
  rfl
theorem set_get {H : Heap} {i : Nat} {b : Blk} (hg : hget H i = some b) (c : Blk) : hget (List.set H i c) i = some c := hget_set_same (hget_lt hg)
/-- A box that holds a number and a slice that grows, beside a cursor and the block for the result. -/
structure Bst (h H : Heap) (id n : Nat) (a : Option Addr) (B b2 b3 : Nat) (z2 : Blk) (x v : Value) (sz len : Nat) (cs : List Value) : Prop where
  st : St H id n a B
  out : Agr id (id + 1) h H
  r : hget H b2 = some z2
  b : hget H b3 = some ⟨[x, v], 2, .rw⟩
  s : FC (b3 + 1) H.length sz len H v cs
  low : h.length ≤ b2 ∧ b2 < b3 ∧ id < h.length
section
variable {h H H' : Heap} {id n B B' b2 b3 sz len : Nat} {a : Option Addr} {z2 : Blk} {x v : Value} {cs : List Value}
theorem Bst.step (s : Bst h H id n a B b2 b3 z2 x v sz len cs) (s' : St H' id n a B') (g : Agr id (id + 1) H H') : Bst h H' id n a B' b2 b3 z2 x v sz len cs := by
  have h1 := s.low
  have h2 := g.1
  exact ⟨s', s.out.trans g, agr_get g s.r (by omega), agr_get g s.b (by omega), (s.s.agr g (by omega)).wide (Nat.le_refl _) h2, h1⟩
theorem Bst.grow (s : Bst h H id n a B b2 b3 z2 x v sz len cs) (t : Heap) : Bst h (H ++ t) id n a B b2 b3 z2 x v sz len cs := s.step (s.st.app t) Agr.app
theorem Bst.setx (s : Bst h H id n a B b2 b3 z2 x v sz len cs) (y : Value) : Bst h (H.set b3 ⟨[y, v], 2, .rw⟩) id n a B b2 b3 z2 y v sz len cs := by
  have h1 := s.low
  have g : Agr b3 (b3 + 1) H (H.set b3 ⟨[y, v], 2, .rw⟩) := Agr.set (Nat.le_refl _) (Nat.lt_succ_self _)
  have g' : Agr id (id + 1) h (H.set b3 ⟨[y, v], 2, .rw⟩) := ⟨by simpa using s.out.1, fun i h2 h3 => by rw [hget_set_ne (by omega)]; exact s.out.2 i h2 h3⟩
  exact ⟨s.st.set s.b rfl (by omega), g', agr_get g s.r (by omega), hget_set_same (hget_lt s.b), by simpa using s.s.agr g (by omega), h1⟩
theorem agr_set_out {lo hi j : Nat} {H H7 : Heap} {b : Blk} (g : Agr lo hi H H7) (hj : H.length ≤ j) : Agr lo hi H (H7.set j b) :=
  ⟨by simpa using g.1, fun i h1 h2 => by rw [hget_set_ne (by omega)]; exact g.2 i h1 h2⟩
/-- The result is laid down. -/
theorem Bst.done (s : Bst h H id n a B b2 b3 z2 x v sz len cs) (hz : z2.st = .rw) (c : Blk) : St (H.set b2 c) id n a B ∧ Agr id (id + 1) h (H.set b2 c) ∧ FC (b3 + 1) (H.set b2 c).length sz len (H.set b2 c) v cs ∧ hget (H.set b2 c) b2 = some c := by
  have h1 := s.low
  have g : Agr b2 (b2 + 1) H (H.set b2 c) := Agr.set (Nat.le_refl _) (Nat.lt_succ_self _)
  exact ⟨s.st.set s.r hz (by omega), ⟨by simpa using s.out.1, fun i h2 h3 => by rw [hget_set_ne (by omega)]; exact s.out.2 i h2 h3⟩, by simpa using s.s.agr g (by omega), hget_set_same (hget_lt s.r)⟩
/-- The first one is appended. -/
theorem Bst.app0 {new : List Value} (s : Bst h H id n a B b2 b3 z2 x (.slice none 0 0) sz len cs) (hn : new.length = sz) :
    Bst h ((H ++ [(⟨new, sz, .rw⟩ : Blk), (⟨new, sz, .rw⟩ : Blk)]).set b3 ⟨[x, .slice (some ⟨H.length + 1, 0, none⟩) 1 0], 2, .rw⟩) id n a B b2 b3 z2 x (.slice (some ⟨H.length + 1, 0, none⟩) 1 0) sz 1 new := by
  have h1 := s.low
  have h2 := hget_lt s.b
  have h0 := s.out.1
  have s1 := s.grow [(⟨new, sz, .rw⟩ : Blk), (⟨new, sz, .rw⟩ : Blk)]
  refine ⟨s1.st.set s1.b rfl (by omega), ⟨by have := s1.out.1; simpa using this, fun i e1 e2 => by rw [hget_set_ne (by omega)]; exact s1.out.2 i e1 e2⟩, by rw [hget_set_ne (by omega)]; exact s1.r, hget_set_same (hget_lt s1.b), .inr ⟨_, rfl, by omega, by simp, ?_, by omega⟩, h1⟩
  rw [hget_set_ne (by omega)]
  exact hget_lit1
/-- One more is appended. -/
theorem Bst.app1 {new : List Value} {sid : Nat} (s : Bst h H id n a B b2 b3 z2 x (.slice (some ⟨sid, 0, none⟩) len 0) sz len cs) (hn : new.length = sz) :
    Bst h (((H ++ [(⟨new, sz, .rw⟩ : Blk)]).set sid (⟨cs, sz, .dead⟩ : Blk) ++ [(⟨cs ++ new, sz, .rw⟩ : Blk)]).set b3 ⟨[x, .slice (some ⟨H.length + 1, 0, none⟩) (len + 1) 0], 2, .rw⟩) id n a B b2 b3 z2 x (.slice (some ⟨H.length + 1, 0, none⟩) (len + 1) 0) sz (len + 1) (cs ++ new) := by
  have h1 := s.low
  have h2 := hget_lt s.b
  have h0 := s.out.1
  rcases s.s with ⟨e, _⟩ | ⟨sid', e, e1, e2, e3, e4⟩
  · cases e
  obtain rfl : sid' = sid := by simpa using e.symm
  have s1 := s.grow [(⟨new, sz, .rw⟩ : Blk)]
  have s2 : St ((H ++ [(⟨new, sz, .rw⟩ : Blk)]).set sid' (⟨cs, sz, .dead⟩ : Blk)) id n a B := s1.st.set (self_get e3 _) rfl (by omega)
  have s3 := s2.app [(⟨cs ++ new, sz, .rw⟩ : Blk)]
  have key : ∀ i b, hget H i = some b → i ≠ sid' → hget ((H ++ [(⟨new, sz, .rw⟩ : Blk)]).set sid' (⟨cs, sz, .dead⟩ : Blk) ++ [(⟨cs ++ new, sz, .rw⟩ : Blk)]) i = some b := fun i b hb hi => self_get (by rw [hget_set_ne (by omega)]; exact self_get hb _) _
  have b0 := key _ _ s.b (by omega)
  refine ⟨s3.set b0 rfl (by omega), ⟨by simp; omega, fun i e1 e2 => ?_⟩, by rw [hget_set_ne (by omega)]; exact key _ _ s.r (by omega), hget_set_same (hget_lt b0), .inr ⟨_, rfl, by omega, by simp, ?_, by simp [e4, hn, Nat.add_mul]⟩, h1⟩
  · rw [hget_set_ne (by omega)]
    have e5 := s.out.2 i e1 e2
    have e6 : i < H.length := by omega
    rw [← e5]
    have e7 : hget H i = some H[i] := by unfold hget; exact List.getElem?_eq_getElem e6
    rw [e7]
    exact key _ _ e7 (by omega)
  · rw [hget_set_ne (by omega)]
    have e5 : ((H ++ [(⟨new, sz, .rw⟩ : Blk)]).set sid' (⟨cs, sz, .dead⟩ : Blk)).length = H.length + 1 := by simp
    rw [← e5]
    exact hget_new
end
end Go.Proofs.Ytfolkgkcaiaifaa
