
/- The cursor that draws numbers from bytes: what it returns, and that it changes nothing but itself. No condition. -/
import Derived.Test.YtfolkgkcaiaifaaScalar
import Derived.Test.YtfolkgkcaiaifaaH3
namespace Go.Proofs.Ytfolkgkcaiaifaa
open Go.HH
set_option linter.unusedSimpArgs false
set_option linter.unusedVariables false

/-- The bytes that a cursor reads. -/
def CodeOk (h : Heap) (a : Option Addr) (n : Nat) : Prop := n ≤ 9223372036854775807 ∧ (0 < n → ∃ id off k, a = some ⟨id, off, none⟩ ∧ hget h id = some k ∧ k.st = .ro ∧ ∀ i, i < n → ∃ b : Int, k.cells[off + i]? = some (.int .u8 b) ∧ 0 ≤ b ∧ b ≤ 255)
/-- A cursor's block, after at most 'm' steps. -/
def curB (a : Option Addr) (n : Nat) (p s : Int) : Blk := ⟨[.slice a n 0, .int .i64 p, .int .u64 s], 3, .rw⟩

section
variable {h : Heap} {M : Nat → Prop}

theorem c_next (id n : Nat) (a : Option Addr) (p s : Int) (hM : M id) (hc : hget h id = some (curB a n p s)) (hcode : CodeOk h a n) (hp : 0 ≤ p ∧ p < 1000000000000) :
    vCall [] Try.prog M 55 [.pointer (some ⟨id, 0, none⟩)] h (fun r h' => (∃ m, r = .int .i64 m ∧ 0 ≤ m ∧ m ≤ 255) ∧ ∃ s', h' = h.set id (curB a n (p + 1) s')) := by
  have hid := hget_lt hc
  refine body_of mo Try.func55 rfl (by kernel_rfl) (Nat.le_of_ble_eq_true (by kernel_rfl)) rfl ?_
  unfold curB at hc
  have hown : own h.length M id := Or.inr hM
  have hs : ∀ b, hget (h.set id b) id = some b := fun b => hget_set_same hid
  simp only [go_sem, Nat.reduceBEq, Nat.reduceAdd, Nat.reduceMul, Nat.reduceSub, Nat.reduceLeDiff, Nat.le_refl, implies_true, Nat.reduceLT, reduceIte, decide_true, decide_false, true_and, and_true, reduceCtorEq, Nat.mul_one, Int.reduceToNat, Int.reduceLE, Int.reduceLT, Int.reduceAdd, Int.reduceSub, Int.reduceMul, Int.cast_ofNat_Int, cast_zero_int, cast_one_int, Nat.reducePow, Nat.reduceEqDiff, Nat.reduceMod, Nat.zero_add, Nat.sub_zero, Nat.add_zero, hc]
  by_cases h1 : p < n
  · obtain ⟨hn, hk⟩ := hcode
    obtain ⟨id2, off, k, rfl, hk2, hro, hby⟩ := hk (by omega)
    obtain ⟨b, hb, hb0, hb1⟩ := hby p.toNat (by omega)
    have hd : k.st ≠ .dead := by rw [hro]; simp
    have e1 : IntKind.i64.wrap (p + 1) = p + 1 := wrap64 (by omega)
    have e2 : IntKind.i64.wrap b = b := wrap64 (by omega)
    simp only [go_sem, Nat.reduceBEq, Nat.reduceAdd, Nat.reduceMul, Nat.reduceSub, Nat.reduceLeDiff, Nat.le_refl, implies_true, Nat.reduceLT, reduceIte, decide_true, decide_false, true_and, and_true, reduceCtorEq, Nat.mul_one, Int.reduceToNat, Int.reduceLE, Int.reduceLT, Int.reduceAdd, Int.reduceSub, Int.reduceMul, Int.cast_ofNat_Int, cast_zero_int, cast_one_int, Nat.reducePow, Nat.reduceEqDiff, Nat.reduceMod, Nat.zero_add, Nat.sub_zero, Nat.add_zero, hc, h1, hk2, hp.1, hd, Nat.mul_one, hb, hown, hs, List.set_set, e1, e2]
    by_cases h2 : p + 1 ≤ n
    · simp only [go_sem, Nat.reduceBEq, Nat.reduceAdd, Nat.reduceMul, Nat.reduceSub, Nat.reduceLeDiff, Nat.le_refl, implies_true, Nat.reduceLT, reduceIte, decide_true, decide_false, true_and, and_true, reduceCtorEq, Nat.mul_one, Int.reduceToNat, Int.reduceLE, Int.reduceLT, Int.reduceAdd, Int.reduceSub, Int.reduceMul, Int.cast_ofNat_Int, cast_zero_int, cast_one_int, Nat.reducePow, Nat.reduceEqDiff, Nat.reduceMod, Nat.zero_add, Nat.sub_zero, Nat.add_zero, h2, List.set_set]
      exact ⟨⟨b, rfl, hb0, hb1⟩, _, rfl⟩
    · omega
  · have e1 : IntKind.i64.wrap (p + 1) = p + 1 := wrap64 (by omega)
    simp only [go_sem, Nat.reduceBEq, Nat.reduceAdd, Nat.reduceMul, Nat.reduceSub, Nat.reduceLeDiff, Nat.le_refl, implies_true, Nat.reduceLT, reduceIte, decide_true, decide_false, true_and, and_true, reduceCtorEq, Nat.mul_one, Int.reduceToNat, Int.reduceLE, Int.reduceLT, Int.reduceAdd, Int.reduceSub, Int.reduceMul, Int.cast_ofNat_Int, cast_zero_int, cast_one_int, Nat.reducePow, Nat.reduceEqDiff, Nat.reduceMod, Nat.zero_add, Nat.sub_zero, Nat.add_zero, hc, h1, hown, hs, List.set_set, e1]
    have h2 : ¬ p + 1 ≤ n := by omega
    simp only [go_sem, Nat.reduceBEq, Nat.reduceAdd, Nat.reduceMul, Nat.reduceSub, Nat.reduceLeDiff, Nat.le_refl, implies_true, Nat.reduceLT, reduceIte, decide_true, decide_false, true_and, and_true, reduceCtorEq, Nat.mul_one, Int.reduceToNat, Int.reduceLE, Int.reduceLT, Int.reduceAdd, Int.reduceSub, Int.reduceMul, Int.cast_ofNat_Int, cast_zero_int, cast_one_int, Nat.reducePow, Nat.reduceEqDiff, Nat.reduceMod, Nat.zero_add, Nat.sub_zero, Nat.add_zero, h2, hs, hBin_shr (show (0 : Int) ≤ 40 by omega), List.set_set]
    obtain ⟨m, e3, m0, m1⟩ := and_bound (x := (IntKind.u64.wrap (IntKind.u64.wrap (IntKind.u64.wrap (s * 6364136223846793005) + IntKind.u64.wrap 0) + 853853)).fdiv (2 ^ min 40 64)) (y := 255) (by omega)
    refine ⟨⟨m, ?_, m0, m1⟩, _, rfl⟩
    have e4 : IntKind.i64.wrap m = m := wrap64 (by omega)
    rw [← e4, ← e3]
    rfl
/-- A changed cursor: the same bytes, at most 'j' steps farther. -/
def Cur2 (h h' : Heap) (id n : Nat) (a : Option Addr) (p : Int) (j : Nat) : Prop := ∃ p' s' t, h' = h.set id (curB a n p' s') ++ t ∧ p ≤ p' ∧ p' ≤ p + j

theorem CodeOk.set {h : Heap} {a : Option Addr} {n id : Nat} (hcode : CodeOk h a n) {b c : Blk} (hc : hget h id = some c) (hrw : c.st = .rw) : CodeOk (h.set id b) a n := by
  refine ⟨hcode.1, fun h0 => ?_⟩
  obtain ⟨id2, off, k, e, e1, e2, e3⟩ := hcode.2 h0
  have : id ≠ id2 := by intro hh; subst hh; rw [hc] at e1; cases e1; rw [hrw] at e2; cases e2
  exact ⟨id2, off, k, e, by rw [hget_set_ne this]; exact e1, e2, e3⟩
theorem CodeOk.app {h t : Heap} {a : Option Addr} {n : Nat} (hcode : CodeOk h a n) : CodeOk (h ++ t) a n := by
  refine ⟨hcode.1, fun h0 => ?_⟩
  obtain ⟨id2, off, k, e, e1, e2, e3⟩ := hcode.2 h0
  exact ⟨id2, off, k, e, by rw [hget_prefix (List.prefix_append _ _) (hget_lt e1)]; exact e1, e2, e3⟩

theorem c_pick (id n : Nat) (a : Option Addr) (p s k : Int) (hM : M id) (hc : hget h id = some (curB a n p s)) (hcode : CodeOk h a n) (hp : 0 ≤ p ∧ p < 100000000000) :
    vCall [] Try.prog M 45 [.pointer (some ⟨id, 0, none⟩), .int .i64 k] h (fun r h' => (∃ m, r = .int .i64 m ∧ 0 ≤ m ∧ (m < k ∨ m = 0)) ∧ Cur2 h h' id n a p 2) := by
  have hid := hget_lt hc
  have hown : own h.length M id := Or.inr hM
  refine body_of mo Try.func45 rfl (by kernel_rfl) (Nat.le_of_ble_eq_true (by kernel_rfl)) rfl ?_
  simp only [go_sem, Nat.reduceBEq, Nat.reduceAdd, Nat.reduceMul, Nat.reduceSub, Nat.reduceLeDiff, Nat.le_refl, implies_true, Nat.reduceLT, reduceIte, decide_true, decide_false, true_and, and_true, reduceCtorEq, Nat.mul_one, Int.reduceToNat, Int.reduceLE, Int.reduceLT, Int.reduceAdd, Int.reduceSub, Int.reduceMul, Int.cast_ofNat_Int, cast_zero_int, cast_one_int, Nat.reducePow, Nat.reduceEqDiff, Nat.reduceMod, Nat.zero_add, Nat.sub_zero, Nat.add_zero]
  have hset : h.set id (curB a n p s) = h := by
    refine List.ext_getElem (by simp) fun i h1 h2 => ?_
    rw [List.getElem_set]
    split
    · rename_i hi; subst hi; have : h[id]? = some (curB a n p s) := hc
      rw [List.getElem?_eq_getElem hid] at this; simpa using this.symm
    · rfl
  by_cases h1 : k ≤ 1
  · simp only [go_sem, Nat.reduceBEq, Nat.reduceAdd, Nat.reduceMul, Nat.reduceSub, Nat.reduceLeDiff, Nat.le_refl, implies_true, Nat.reduceLT, reduceIte, decide_true, decide_false, true_and, and_true, reduceCtorEq, Nat.mul_one, Int.reduceToNat, Int.reduceLE, Int.reduceLT, Int.reduceAdd, Int.reduceSub, Int.reduceMul, Int.cast_ofNat_Int, cast_zero_int, cast_one_int, Nat.reducePow, Nat.reduceEqDiff, Nat.reduceMod, Nat.zero_add, Nat.sub_zero, Nat.add_zero, h1]
    exact ⟨⟨0, rfl, by omega, .inr rfl⟩, p, s, [], by rw [hset]; simp, by omega, by omega⟩
  · simp only [go_sem, Nat.reduceBEq, Nat.reduceAdd, Nat.reduceMul, Nat.reduceSub, Nat.reduceLeDiff, Nat.le_refl, implies_true, Nat.reduceLT, reduceIte, decide_true, decide_false, true_and, and_true, reduceCtorEq, Nat.mul_one, Int.reduceToNat, Int.reduceLE, Int.reduceLT, Int.reduceAdd, Int.reduceSub, Int.reduceMul, Int.cast_ofNat_Int, cast_zero_int, cast_one_int, Nat.reducePow, Nat.reduceEqDiff, Nat.reduceMod, Nat.zero_add, Nat.sub_zero, Nat.add_zero, h1]
    refine ⟨by kernel_rfl, (c_next id n a p s hown hc hcode (by omega)).use (fun _ m => m) ?_⟩
    rintro _ _ ⟨⟨m, rfl, m0, m1⟩, s', rfl⟩
    by_cases h2 : 200 < k
    · simp only [go_sem, Nat.reduceBEq, Nat.reduceAdd, Nat.reduceMul, Nat.reduceSub, Nat.reduceLeDiff, Nat.le_refl, implies_true, Nat.reduceLT, reduceIte, decide_true, decide_false, true_and, and_true, reduceCtorEq, Nat.mul_one, Int.reduceToNat, Int.reduceLE, Int.reduceLT, Int.reduceAdd, Int.reduceSub, Int.reduceMul, Int.cast_ofNat_Int, cast_zero_int, cast_one_int, Nat.reducePow, Nat.reduceEqDiff, Nat.reduceMod, Nat.zero_add, Nat.sub_zero, Nat.add_zero, h2]
      have e1 : IntKind.i64.wrap (m * 256) = m * 256 := wrap64 (by omega)
      rw [e1]
      refine ⟨by kernel_rfl, (c_next id n a (p + 1) s' hown (hget_set_same hid) (hcode.set hc rfl) (by omega)).use (fun _ m => m) ?_⟩
      rintro _ _ ⟨⟨m', rfl, m0', m1'⟩, s'', rfl⟩
      have e2 : IntKind.i64.wrap (m * 256 + m') = m * 256 + m' := wrap64 (by omega)
      simp only [go_sem, Nat.reduceBEq, Nat.reduceAdd, Nat.reduceMul, Nat.reduceSub, Nat.reduceLeDiff, Nat.le_refl, implies_true, Nat.reduceLT, reduceIte, decide_true, decide_false, true_and, and_true, reduceCtorEq, Nat.mul_one, Int.reduceToNat, Int.reduceLE, Int.reduceLT, Int.reduceAdd, Int.reduceSub, Int.reduceMul, Int.cast_ofNat_Int, cast_zero_int, cast_one_int, Nat.reducePow, Nat.reduceEqDiff, Nat.reduceMod, Nat.zero_add, Nat.sub_zero, Nat.add_zero, e2, hBin_rem (show k ≠ 0 by omega)]
      rw [Int.tmod_eq_emod_of_nonneg (by omega), List.set_set]
      exact ⟨⟨_, rfl, Int.emod_nonneg _ (by omega), .inl (Int.emod_lt_of_pos _ (by omega))⟩, p + 1 + 1, s'', [], by simp, by omega, by omega⟩
    · simp only [go_sem, Nat.reduceBEq, Nat.reduceAdd, Nat.reduceMul, Nat.reduceSub, Nat.reduceLeDiff, Nat.le_refl, implies_true, Nat.reduceLT, reduceIte, decide_true, decide_false, true_and, and_true, reduceCtorEq, Nat.mul_one, Int.reduceToNat, Int.reduceLE, Int.reduceLT, Int.reduceAdd, Int.reduceSub, Int.reduceMul, Int.cast_ofNat_Int, cast_zero_int, cast_one_int, Nat.reducePow, Nat.reduceEqDiff, Nat.reduceMod, Nat.zero_add, Nat.sub_zero, Nat.add_zero, h2, hBin_rem (show k ≠ 0 by omega)]
      rw [Int.tmod_eq_emod_of_nonneg (by omega)]
      exact ⟨⟨_, rfl, Int.emod_nonneg _ (by omega), .inl (Int.emod_lt_of_pos _ (by omega))⟩, p + 1, s', [], by simp, by omega, by omega⟩

def isI64 : Value → Bool
  | .int .i64 _ => true
  | _ => false
theorem isI64_at {l : List Value} (hl : l.all isI64 = true) {i : Nat} (hi : i < l.length) : ∃ m, l[i]? = some (.int .i64 m) := by
  have h := List.all_eq_true.1 hl l[i] (List.getElem_mem hi)
  rw [List.getElem?_eq_getElem hi]
  cases e : l[i] with
  | int k m => cases k <;> first | exact ⟨m, rfl⟩ | (rw [e] at h; cases h)
  | _ => rw [e] at h; cases h

set_option maxRecDepth 8000 in
theorem c_among (id n : Nat) (a : Option Addr) (p s : Int) (id2 cnt : Nat) (k : Blk) (hM : M id) (hk : hget h id2 = some k) (hint : k.cells.all isI64 = true) (hd : k.st ≠ .dead) (hcnt : cnt ≤ k.cells.length)
    (hc : hget h id = some (curB a n p s)) (hcode : CodeOk h a n) (hp : 0 ≤ p ∧ p < 100000000000) (hne : id ≠ id2) (hl : 0 < cnt) (hmax : cnt ≤ 1000) :
    vCall [] Try.prog M 44 [.pointer (some ⟨id, 0, none⟩), .slice (some ⟨id2, 0, none⟩) cnt 0] h (fun r h' => (∃ m, r = .int .i64 m) ∧ Cur2 h h' id n a p 2) := by
  have hid := hget_lt hc
  have hown : own h.length M id := Or.inr hM
  refine body_of mo Try.func44 rfl (by kernel_rfl) (Nat.le_of_ble_eq_true (by kernel_rfl)) rfl ?_
  simp only [go_sem, Nat.reduceBEq, Nat.reduceAdd, Nat.reduceMul, Nat.reduceSub, Nat.reduceLeDiff, Nat.le_refl, implies_true, Nat.reduceLT, reduceIte, decide_true, decide_false, true_and, and_true, reduceCtorEq, Nat.mul_one, Int.reduceToNat, Int.reduceLE, Int.reduceLT, Int.reduceAdd, Int.reduceSub, Int.reduceMul, Int.cast_ofNat_Int, cast_zero_int, cast_one_int, Nat.reducePow, Nat.reduceEqDiff, Nat.reduceMod, Nat.zero_add, Nat.sub_zero, Nat.add_zero]
  refine ⟨by kernel_rfl, (c_pick id n a p s _ hown hc hcode hp).use (fun _ m => m) ?_⟩
  intro r h' hr
  obtain ⟨⟨m, hrm, m0, m1⟩, hcu⟩ := hr
  obtain ⟨p', s', t, hh', hp1, hp2⟩ := hcu
  rw [hrm, hh']
  have hi : m.toNat < cnt := by omega
  have hz : m < (cnt : Int) := by omega
  obtain ⟨x, hx⟩ := isI64_at hint (Nat.lt_of_lt_of_le hi hcnt)
  have hk2 : hget (h.set id (curB a n p' s') ++ t) id2 = some k := by
    rw [hget_prefix (List.prefix_append _ _) (by simpa using hget_lt hk), hget_set_ne hne]; exact hk
  simp only [go_sem, Nat.reduceBEq, Nat.reduceAdd, Nat.reduceMul, Nat.reduceSub, Nat.reduceLeDiff, Nat.le_refl, implies_true, Nat.reduceLT, reduceIte, decide_true, decide_false, true_and, and_true, reduceCtorEq, Nat.mul_one, Int.reduceToNat, Int.reduceLE, Int.reduceLT, Int.reduceAdd, Int.reduceSub, Int.reduceMul, Int.cast_ofNat_Int, cast_zero_int, cast_one_int, Nat.reducePow, Nat.reduceEqDiff, Nat.reduceMod, Nat.zero_add, Nat.sub_zero, Nat.add_zero, hk2, m0, hz, hd, hx]
  exact ⟨⟨x, rfl⟩, p', s', t, rfl, hp1, hp2⟩

/-- The length that a draw takes. -/
theorem cutLen (c : Int) (hc : 0 ≤ c ∧ c ≤ 10) {m : Int} (m0 : 0 ≤ m) (m1 : m < 24 ∨ m = 0) : ∃ k : Nat, IntKind.i64.wrap (c + IntKind.i64.wrap (m.tdiv 11)) = (k : Int) ∧ c.toNat ≤ k ∧ k ≤ c.toNat + 2 := by
  rw [Int.tdiv_eq_ediv_of_nonneg m0]
  have h1 : 0 ≤ m / 11 ∧ m / 11 ≤ 2 := by omega
  rw [wrap64 (n := m / 11) (by omega), wrap64 (by omega)]
  exact ⟨(c + m / 11).toNat, by omega, by omega, by omega⟩

theorem c_pickN {u : Heap} (n : Nat) (b : Option Addr) (p s k : Int) (hcode : CodeOk h b n) (hp : 0 ≤ p ∧ p < 100000000000) :
    vCall [] Try.prog (own h.length M) 45 [.pointer (some ⟨h.length, 0, none⟩), .int .i64 k] (h ++ curB b n p s :: u) (fun r h' => (∃ m, r = .int .i64 m ∧ 0 ≤ m ∧ (m < k ∨ m = 0)) ∧ ∃ p' s' t, h' = h ++ curB b n p' s' :: (u ++ t) ∧ p ≤ p' ∧ p' ≤ p + 2) := by
  obtain ⟨r, h', hr, hm, p', s', t, e, g⟩ := c_pick (M := own h.length M) (h := h ++ curB b n p s :: u) h.length n b p s k (Or.inl (Nat.le_refl _)) hget_app0 hcode.app hp
  exact ⟨r, h', hr, hm, p', s', t, by rw [e, hset_app0]; simp, g⟩

theorem c_amongN {u : Heap} (n : Nat) (b : Option Addr) (p s : Int) (i cnt : Nat) (k : Blk) (hcode : CodeOk h b n) (hp : 0 ≤ p ∧ p < 100000000000) (hl : 0 < cnt) (hmax : cnt ≤ 1000)
    (hk : u[i]? = some k) (hint : k.cells.all isI64 = true) (hd : k.st ≠ .dead) (hcnt : cnt ≤ k.cells.length) :
    vCall [] Try.prog (own h.length M) 44 [.pointer (some ⟨h.length, 0, none⟩), .slice (some ⟨h.length + (i + 1), 0, none⟩) cnt 0] (h ++ curB b n p s :: u) (fun r h' => (∃ m, r = .int .i64 m) ∧ ∃ p' s' t, h' = h ++ curB b n p' s' :: (u ++ t) ∧ p ≤ p' ∧ p' ≤ p + 2) := by
  obtain ⟨r, h', hr, hm, p', s', t, e, g⟩ := c_among (M := own h.length M) (h := h ++ curB b n p s :: u) h.length n b p s (h.length + (i + 1)) cnt k (Or.inl (Nat.le_refl _)) (by rw [hget_app]; simpa using hk) hint hd hcnt hget_app0 hcode.app hp (by omega) hl hmax
  exact ⟨r, h', hr, hm, p', s', t, by rw [e, hset_app0]; simp, g⟩

theorem get_mid {a b : Blk} {t u w : Heap} : (a :: (t ++ (u ++ b :: w)))[t.length + u.length + 1]? = some b := by
  rw [List.getElem?_cons_succ, ← List.append_assoc, ← List.length_append, List.getElem?_append_right (Nat.le_refl _), Nat.sub_self]; rfl
theorem get_end {a b : Blk} {t u w x : Heap} : (a :: (t ++ (b :: (u ++ w))))[t.length + 1]? = some b := by
  rw [List.getElem?_cons_succ, List.getElem?_append_right (Nat.le_refl _), Nat.sub_self]; rfl
theorem get_mid4 {a b c : Blk} {t u v w x : Heap} : (a :: (t ++ (u ++ b :: (v ++ (w ++ c :: x)))))[t.length + (u.length + (v.length + w.length + 1)) + 1]? = some c := by
  rw [List.getElem?_cons_succ, List.getElem?_append_right (by omega), List.getElem?_append_right (by omega), show t.length + (u.length + (v.length + w.length + 1)) - t.length - u.length = v.length + w.length + 1 by omega, List.getElem?_cons_succ,
    List.getElem?_append_right (by omega), List.getElem?_append_right (by omega), show v.length + w.length - v.length - w.length = 0 by omega]; rfl
theorem get1 {b : Blk} {t u : Heap} : (t ++ b :: u)[t.length]? = some b := by
  rw [List.getElem?_append_right (Nat.le_refl _), Nat.sub_self]; rfl
theorem get3 {a b : Blk} {t u v w : Heap} : (t ++ b :: (u ++ (v ++ a :: w)))[t.length + (u.length + v.length + 1)]? = some a := by
  rw [List.getElem?_append_right (by omega), show t.length + (u.length + v.length + 1) - t.length = u.length + v.length + 1 by omega, List.getElem?_cons_succ, List.getElem?_append_right (by omega), List.getElem?_append_right (by omega), show u.length + v.length - u.length - v.length = 0 by omega]; rfl
end
theorem flat_one {α : Type} {f : α → Value} : ∀ {l : List α}, (l.map fun x => [f x]).flatten = l.map f
  | [] => rfl
  | x :: l => by rw [List.map_cons, List.flatten_cons, flat_one]; rfl
theorem Fits.code {h : Heap} {v : Value} (f : FitV h (.slice (.int .u8)) v) : ∃ b n, v = .slice b n 0 ∧ CodeOk h b n := by
  rcases f.slice with rfl | ⟨id, rows, rfl, hg, hl, hf⟩
  · exact ⟨none, 0, rfl, by omega, by omega⟩
  · obtain ⟨l, rfl⟩ := rows_map (f := fun x : {n : Int // (Lit.int .u8 n).wf = true} => [Value.int .u8 x.1]) (rows := rows) (fun r hr => by
      obtain ⟨n, rfl, hw⟩ := hf r hr
      exact ⟨⟨n, hw⟩, rfl⟩)
    rw [List.length_map] at hl ⊢
    refine ⟨_, _, rfl, hl, fun _ => ⟨id, 0, _, rfl, hg, rfl, fun i hi => ?_⟩⟩
    have e := @flat_one {n : Int // (Lit.int .u8 n).wf = true} (fun x => Value.int .u8 x.1) l
    refine ⟨l[i].1, ?_, ?_⟩
    · simp only [e, Nat.zero_add]
      rw [List.getElem?_map, List.getElem?_eq_getElem hi]; rfl
    · have := l[i].2
      have h2 : decide (IntKind.u8.min ≤ l[i].val) = true ∧ decide (l[i].val ≤ IntKind.u8.max) = true := by simpa [Lit.wf] using this
      exact ⟨of_decide_eq_true h2.1, of_decide_eq_true h2.2⟩

end Go.Proofs.Ytfolkgkcaiaifaa
