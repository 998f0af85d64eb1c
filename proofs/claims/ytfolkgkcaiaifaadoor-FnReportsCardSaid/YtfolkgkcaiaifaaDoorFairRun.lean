
/- Fair shares: what the program computes. No condition. -/
import Derived.Test.YtfolkgkcaiaifaaDoorFairPlain
namespace Go.Proofs.YtfolkgkcaiaifaaDoor
open Go.HH
set_option linter.unusedSimpArgs false
set_option linter.unusedVariables false

def fairOk (l : List Sup) (L : Int) : Prop := supGood l ∧ 0 ≤ L ∧ L ≤ 100000
instance {l : List Sup} {L : Int} : Decidable (fairOk l L) := by unfold fairOk; infer_instance
/-- What a fair share is. -/
def fairY (l : List Sup) (L : Int) (y : List Sup) : Prop := (fairOk l L → ∃ k, full (iterF (zeroed l, L) k) = iterF (zeroed l, L) k ∧ y = (iterF (zeroed l, L) k).1) ∧ (¬ fairOk l L → y = [])
theorem fairY_one {l : List Sup} {L : Int} {y y' : List Sup} (a : fairY l L y) (b : fairY l L y') : y = y' := by
  by_cases h : fairOk l L
  · obtain ⟨k, h1, rfl⟩ := a.1 h
    obtain ⟨m, h2, rfl⟩ := b.1 h
    rw [iterF_one h1 h2]
  · rw [a.2 h, b.2 h]
theorem fairY_len {l : List Sup} {L : Int} {y : List Sup} (a : fairY l L y) : y.length ≤ l.length := by
  by_cases h : fairOk l L
  · obtain ⟨k, _, rfl⟩ := a.1 h
    rw [iterF_len]; simp [zeroed]
  · rw [a.2 h]; simp
/-- A slice of its own, or an empty one. -/
def FQ (lo hi : Nat) (h : Heap) (v : Value) (rows : List (List Value)) : Prop := FR lo hi 3 h v rows ∨ (rows = [] ∧ ∃ a, v = .slice a 0 0)
theorem FQ.mono {lo hi : Nat} {h h' : Heap} {v : Value} {rows : List (List Value)} (s : FQ lo hi h v rows) (hp : h <+: h') : FQ lo hi h' v rows := s.imp (fun s => s.mono hp) id
theorem FQ.agr {lo hi a b : Nat} {h h' : Heap} {v : Value} {rows : List (List Value)} (s : FQ lo hi h v rows) (g : Agr a b h h') (hn : hi ≤ a ∨ b ≤ lo) : FQ lo hi h' v rows :=
  s.imp (fun ⟨id, e, e1, e2, e3, e4⟩ => ⟨id, e, e1, e2, by rw [g.2 id (hget_lt e3) (by omega)]; exact e3, e4⟩) id
theorem FQ.sl {lo hi : Nat} {h : Heap} {v : Value} {rows : List (List Value)} (s : FQ lo hi h v rows) : Sl h 3 v rows := by
  rcases s with s | ⟨rfl, a, rfl⟩
  · exact s.sl
  · exact ⟨a, rfl, fun r hr => by simp at hr, fun h0 => absurd rfl h0⟩

section
variable {h : Heap} {M : Nat → Prop}

theorem c_markQ {lo hi : Nat} (v : Value) (l : List Sup) (s : FQ lo hi h v (l.map sup)) (hM : ∀ i, lo ≤ i → i < hi → M i) (k : Int) (hk : 0 ≤ k ∧ k ≤ 1000000000000) (hmax : l.length ≤ 1048576) :
    vCall [] Tryd.prog M 8 [v, .int .i64 k] h (fun r h' => r = .int .i64 (k + 3 * l.length) ∧ FQ lo hi h' v (mks3 k l.length) ∧ Agr lo hi h h') := by
  rcases s with s | ⟨hl, a, rfl⟩
  · exact (c_markSupplyS v l s hM k hk hmax).use (fun _ m => m) fun r h' ⟨a, b, c⟩ => ⟨a, .inl b, c⟩
  · obtain rfl : l = [] := by simpa using hl
    refine body_of mo Tryd.func8 rfl (by kernel_rfl) (Nat.le_of_ble_eq_true (by kernel_rfl)) rfl ?_
    simp only [go_sem, Nat.reduceBEq, Nat.reduceAdd, Nat.reduceMul, Nat.reduceSub, Nat.reduceLeDiff, Nat.le_refl, implies_true, Nat.reduceLT, reduceIte, decide_true, decide_false, true_and, and_true, reduceCtorEq, Nat.mul_one, Int.reduceToNat, Int.reduceLE, Int.reduceLT, Int.reduceAdd, Int.reduceSub, Int.reduceMul, Int.cast_ofNat_Int, cast_zero_int, cast_one_int, Nat.reducePow, Nat.reduceEqDiff, Nat.reduceMod, Nat.zero_add, Nat.sub_zero, Nat.add_zero]
    refine vLoop.count mo 0 (fun i e h' => e 0 = .slice a 0 0 ∧ e 1 = .int .i64 k ∧ e 5 = .int .i64 0 ∧ h' = h) ?_ ?_
    · exact ⟨rfl, rfl, rfl, rfl⟩
    · rintro i e h' hi ⟨e0, e1, e5, rfl⟩
      simp only [go_sem, Nat.reduceBEq, Nat.reduceAdd, Nat.reduceMul, Nat.reduceSub, Nat.reduceLeDiff, Nat.le_refl, implies_true, Nat.reduceLT, reduceIte, decide_true, decide_false, true_and, and_true, reduceCtorEq, Nat.mul_one, Int.reduceToNat, Int.reduceLE, Int.reduceLT, Int.reduceAdd, Int.reduceSub, Int.reduceMul, Int.cast_ofNat_Int, cast_zero_int, cast_one_int, Nat.reducePow, Nat.reduceEqDiff, Nat.reduceMod, Nat.zero_add, Nat.sub_zero, Nat.add_zero, e0, e1, e5]
      exact ⟨by simp, .inr ⟨by simp [mks3], a, rfl⟩, Agr.refl⟩

def zN (l : List Sup) (i : Nat) : List Sup := zeroed (l.take i) ++ l.drop i
theorem zN_len {l : List Sup} {i : Nat} (hi : i ≤ l.length) : (zN l i).length = l.length := by simp [zN, zeroed]; omega
theorem zN_at {l : List Sup} {i : Nat} (hi : i < l.length) : (zN l i)[i]'(by rw [zN_len (by omega)]; exact hi) = l[i] := by
  simp [zN, zeroed, List.getElem_append_right, Nat.min_eq_left (Nat.le_of_lt hi)]
theorem zN_step {l : List Sup} {i : Nat} (hi : i < l.length) : (zN l i).set i (l[i].1, 0, l[i].2.2) = zN l (i + 1) := by
  have h1 : (zeroed (l.take i)).length = i := by simp [zeroed]; omega
  rw [zN, zN, List.set_append_right _ _ (by omega), h1, Nat.sub_self, List.drop_eq_getElem_cons hi, List.set_cons_zero, List.take_add_one, List.getElem?_eq_getElem hi, zeroed, zeroed, List.map_append]
  simp
theorem oneC_sup {l : List Sup} : ((l.map sup).flatten).all oneC = true := by
  rw [List.all_eq_true]
  intro x hx
  obtain ⟨r, hr, hx⟩ := List.mem_flatten.1 hx
  obtain ⟨y, _, rfl⟩ := List.mem_map.1 hr
  simp only [sup, List.mem_cons, List.not_mem_nil, or_false] at hx
  rcases hx with rfl | rfl | rfl <;> rfl

theorem new_endF {u : Heap} {K b : Blk} {j n : Nat} (hn : n = u.length) : (u.set j b ++ [K])[n]? = some K := by
  subst hn
  rw [List.getElem?_append_right (by simp), List.length_set, Nat.sub_self]; rfl
def zT (l : List Sup) (i : Nat) : List Sup := zeroed (l.take i)
theorem zT_len {l : List Sup} {i : Nat} (hi : i ≤ l.length) : (zT l i).length = i := by simp [zT, zeroed]; omega
theorem zT_succ {l : List Sup} {i : Nat} (hi : i < l.length) : zT l (i + 1) = zT l i ++ [(l[i].1, 0, l[i].2.2)] := by
  rw [zT, zT, List.take_add_one, List.getElem?_eq_getElem hi, zeroed, zeroed, List.map_append]; rfl

end

theorem Fits.sups {h : Heap} {v : Value} (f : FitV h (.slice (.struct (.pair (.int .i64) (.pair (.int .i64) (.pair (.int .i64) .unit))))) v) : ∃ l : List Sup, SB h.length 3 h v (l.map sup) ∧ l.length ≤ 9223372036854775807 := by
  obtain ⟨rows, s, hl, hf⟩ := Fits.sb f
  obtain ⟨l, rfl⟩ := rows_map (f := sup) (rows := rows) (fun r hr => by
    have f' : Fits h (.pair (.int .i64) (.pair (.int .i64) (.pair (.int .i64) .unit))) r := hf r hr
    obtain ⟨_, _, rfl, f0, r0⟩ := f'.pair
    obtain ⟨_, _, rfl, f1, r1⟩ := r0.pair
    obtain ⟨_, _, rfl, f2, r2⟩ := r1.pair
    obtain rfl := r2.unit
    obtain ⟨a0, rfl, _⟩ := f0.int
    obtain ⟨a1, rfl, _⟩ := f1.int
    obtain ⟨a2, rfl, _⟩ := f2.int
    exact ⟨(a0, a1, a2), rfl⟩)
  exact ⟨l, s, by rw [List.length_map] at hl; exact hl⟩

end Go.Proofs.YtfolkgkcaiaifaaDoor
