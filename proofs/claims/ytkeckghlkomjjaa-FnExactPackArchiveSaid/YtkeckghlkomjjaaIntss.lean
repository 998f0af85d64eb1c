
/- Slices of slices of numbers: how the laws compare, mark and measure them. No condition. -/
import Derived.Test.YtkeckghlkomjjaaArchive
namespace Go.Proofs.Ytkeckghlkomjjaa
open Go.HH
set_option linter.unusedSimpArgs false
set_option linter.unusedVariables false

/-- 'v' is a slice of its own of 'n' slices of their own; row i holds the numbers 'g i'. -/
def FG (lo hi : Nat) (h : Heap) (v : Value) (n : Nat) (g : Nat → List Int) : Prop :=
  ∃ a, v = .slice a n 0 ∧ (0 < n → ∃ (oid : Nat) (cells : List Value) (f : Nat → Nat), a = some ⟨oid, 0, none⟩ ∧ lo ≤ oid ∧ oid < hi ∧ hget h oid = some ⟨cells, 1, .rw⟩ ∧ cells.length = n ∧
    (∀ i, i < n → lo ≤ f i ∧ f i < hi ∧ f i ≠ oid ∧ cells[i]? = some (.slice (some ⟨f i, 0, none⟩) (g i).length 0) ∧ hget h (f i) = some ⟨(g i).map iv, 1, .rw⟩) ∧ ∀ i j, i < n → j < n → f i = f j → i = j)
theorem FG.mono {lo hi : Nat} {h h' : Heap} {v : Value} {n : Nat} {g : Nat → List Int} (s : FG lo hi h v n g) (hp : h <+: h') : FG lo hi h' v n g := by
  obtain ⟨a, e, F⟩ := s
  refine ⟨a, e, fun h0 => ?_⟩
  have G := F h0
  clear F
  obtain ⟨oid, cells, f, e1, e2, e3, e4, e5, e6, e7⟩ := G
  exact ⟨oid, cells, f, e1, e2, e3, by rw [hget_prefix hp (hget_lt e4)]; exact e4, e5, fun i hi => by
    obtain ⟨a1, a2, a3, a4, a5⟩ := e6 i hi
    exact ⟨a1, a2, a3, a4, by rw [hget_prefix hp (hget_lt a5)]; exact a5⟩, e7⟩
theorem FG.agr {lo hi a b : Nat} {h h' : Heap} {v : Value} {n : Nat} {g : Nat → List Int} (s : FG lo hi h v n g) (ag : Agr a b h h') (hn : hi ≤ a ∨ b ≤ lo) : FG lo hi h' v n g := by
  obtain ⟨p, e, F⟩ := s
  refine ⟨p, e, fun h0 => ?_⟩
  have G := F h0
  clear F
  obtain ⟨oid, cells, f, e1, e2, e3, e4, e5, e6, e7⟩ := G
  exact ⟨oid, cells, f, e1, e2, e3, by rw [ag.2 oid (hget_lt e4) (by omega)]; exact e4, e5, fun i hi => by
    obtain ⟨a1, a2, a3, a4, a5⟩ := e6 i hi
    exact ⟨a1, a2, a3, a4, by rw [ag.2 (f i) (hget_lt a5) (by omega)]; exact a5⟩, e7⟩
theorem FG.congr {lo hi : Nat} {h : Heap} {v : Value} {n : Nat} {g g' : Nat → List Int} (s : FG lo hi h v n g) (hg : ∀ i, i < n → g i = g' i) : FG lo hi h v n g' := by
  obtain ⟨p, e, F⟩ := s
  refine ⟨p, e, fun h0 => ?_⟩
  have G := F h0
  clear F
  obtain ⟨oid, cells, f, e1, e2, e3, e4, e5, e6, e7⟩ := G
  exact ⟨oid, cells, f, e1, e2, e3, e4, e5, fun i hi => by rw [← hg i hi]; exact e6 i hi, e7⟩
theorem FG.wide {lo hi lo' hi' : Nat} {h : Heap} {v : Value} {n : Nat} {g : Nat → List Int} (s : FG lo hi h v n g) (h1 : lo' ≤ lo) (h2 : hi ≤ hi') : FG lo' hi' h v n g := by
  obtain ⟨p, e, F⟩ := s
  refine ⟨p, e, fun h0 => ?_⟩
  have G := F h0
  clear F
  obtain ⟨oid, cells, f, e1, e2, e3, e4, e5, e6, e7⟩ := G
  exact ⟨oid, cells, f, e1, by omega, by omega, e4, e5, fun i hi => by
    obtain ⟨a1, a2, a3⟩ := e6 i hi
    exact ⟨by omega, by omega, a3⟩, e7⟩
/-- The lengths of the first rows. -/
def offG (g : Nat → List Int) : Nat → Nat
  | 0 => 0
  | i + 1 => offG g i + (g i).length
theorem offG_le {g : Nat → List Int} : ∀ n, (∀ i, i < n → (g i).length ≤ 100) → offG g n ≤ 100 * n
  | 0, _ => by simp [offG]
  | n + 1, hb => by
    have := offG_le n (fun i hi => hb i (by omega))
    have := hb n (by omega)
    rw [offG]; omega
def mksG (k : Int) (g : Nat → List Int) (i : Nat) : List Int := marks (k + offG g i) (g i).length

section
variable {h : Heap} {M : Nat → Prop}

theorem c_eqIntSS {lo hi lo' hi' : Nat} (v w : Value) (n : Nat) (g : Nat → List Int) (s : FG lo hi h v n g) (s' : FG lo' hi' h w n g) (hmax : n ≤ 1000) (hb : ∀ i, i < n → (g i).length ≤ 100) : vCall [] Try.prog M 51 [v, w] h (fun r h' => r = .bool true ∧ h <+: h') := by
  obtain ⟨a, rfl, f1⟩ := s
  obtain ⟨b, rfl, f2⟩ := s'
  refine body_of mo Try.func51 rfl (by kernel_rfl) (Nat.le_of_ble_eq_true (by kernel_rfl)) rfl ?_
  simp only [go_sem, Nat.reduceBEq, Nat.reduceAdd, Nat.reduceMul, Nat.reduceSub, Nat.reduceLeDiff, Nat.le_refl, implies_true, Nat.reduceLT, reduceIte, decide_true, decide_false, true_and, and_true, reduceCtorEq, Nat.mul_one, Int.reduceToNat, Int.reduceLE, Int.reduceLT, Int.reduceAdd, Int.reduceSub, Int.reduceMul, Int.cast_ofNat_Int, cast_zero_int, cast_one_int, Nat.reducePow, Nat.reduceEqDiff, Nat.reduceMod, Nat.zero_add, Nat.sub_zero, Nat.add_zero]
  refine vLoop.count mo n (fun i e h' => ∃ t : Heap, e 0 = .slice a n 0 ∧ e 1 = .slice b n 0 ∧ e 5 = .int .i64 i ∧ h' = h ++ t) ?_ ?_
  · exact ⟨[], rfl, rfl, rfl, by simp⟩
  · rintro i e _ hi ⟨t, e0, e1, e5, rfl⟩
    simp only [go_sem, Nat.reduceBEq, Nat.reduceAdd, Nat.reduceMul, Nat.reduceSub, Nat.reduceLeDiff, Nat.le_refl, implies_true, Nat.reduceLT, reduceIte, decide_true, decide_false, true_and, and_true, reduceCtorEq, Nat.mul_one, Int.reduceToNat, Int.reduceLE, Int.reduceLT, Int.reduceAdd, Int.reduceSub, Int.reduceMul, Int.cast_ofNat_Int, cast_zero_int, cast_one_int, Nat.reducePow, Nat.reduceEqDiff, Nat.reduceMod, Nat.zero_add, Nat.sub_zero, Nat.add_zero, e0, e1, e5]
    refine .intro (fun h1 => ?_) (fun h1 => ?_)
    · have hlt : i < n := by simpa using h1
      have hz : (i : Int) < n := by omega
      obtain ⟨o1, c1, p1, rfl, _, _, q1, l1, r1, _⟩ := f1 (by omega)
      obtain ⟨o2, c2, p2, rfl, _, _, q2, l2, r2, _⟩ := f2 (by omega)
      obtain ⟨_, _, _, x1, y1⟩ := r1 i hlt
      obtain ⟨_, _, _, x2, y2⟩ := r2 i hlt
      have k1 : ∀ t, hget (h ++ t) o1 = some ⟨c1, 1, .rw⟩ := fun t => by rw [hget_prefix (List.prefix_append _ _) (hget_lt q1)]; exact q1
      have k2 : ∀ t, hget (h ++ t) o2 = some ⟨c2, 1, .rw⟩ := fun t => by rw [hget_prefix (List.prefix_append _ _) (hget_lt q2)]; exact q2
      simp only [go_sem, Nat.reduceBEq, Nat.reduceAdd, Nat.reduceMul, Nat.reduceSub, Nat.reduceLeDiff, Nat.le_refl, implies_true, Nat.reduceLT, reduceIte, decide_true, decide_false, true_and, and_true, reduceCtorEq, Nat.mul_one, Int.reduceToNat, Int.reduceLE, Int.reduceLT, Int.reduceAdd, Int.reduceSub, Int.reduceMul, Int.cast_ofNat_Int, cast_zero_int, cast_one_int, Nat.reducePow, Nat.reduceEqDiff, Nat.reduceMod, Nat.zero_add, Nat.sub_zero, Nat.add_zero, e0, e1, e5, hz, k1, k2, x1, x2]
      have z1 : FI 0 (p1 i + 1) h (.slice (some ⟨p1 i, 0, none⟩) (g i).length 0) (g i) := FI.at (by omega) (by omega) y1
      have z2 : FI 0 (p2 i + 1) h (.slice (some ⟨p2 i, 0, none⟩) (g i).length 0) (g i) := FI.at (by omega) (by omega) y2
      have := hb i hlt
      refine ⟨by kernel_rfl, (c_eqIntS _ _ (g i) (g i) (z1.ai.mono (List.prefix_append _ _)) (z2.ai.mono (List.prefix_append _ _)) (by omega) (by omega)).use (fun _ m => m) ?_⟩
      rintro _ _ ⟨rfl, ⟨t2, rfl⟩⟩
      simp only [go_sem, Nat.reduceBEq, Nat.reduceAdd, Nat.reduceMul, Nat.reduceSub, Nat.reduceLeDiff, Nat.le_refl, implies_true, Nat.reduceLT, reduceIte, decide_true, decide_false, true_and, and_true, reduceCtorEq, Nat.mul_one, Int.reduceToNat, Int.reduceLE, Int.reduceLT, Int.reduceAdd, Int.reduceSub, Int.reduceMul, Int.cast_ofNat_Int, cast_zero_int, cast_one_int, Nat.reducePow, Nat.reduceEqDiff, Nat.reduceMod, Nat.zero_add, Nat.sub_zero, Nat.add_zero, e0, e1, e5]
      exact ⟨hlt, t ++ t2, by rw [wrap64 (by omega)]; rfl, rfl⟩
    · simp only [go_sem, Nat.reduceBEq, Nat.reduceAdd, Nat.reduceMul, Nat.reduceSub, Nat.reduceLeDiff, Nat.le_refl, implies_true, Nat.reduceLT, reduceIte, decide_true, decide_false, true_and, and_true, reduceCtorEq, Nat.mul_one, Int.reduceToNat, Int.reduceLE, Int.reduceLT, Int.reduceAdd, Int.reduceSub, Int.reduceMul, Int.cast_ofNat_Int, cast_zero_int, cast_one_int, Nat.reducePow, Nat.reduceEqDiff, Nat.reduceMod, Nat.zero_add, Nat.sub_zero, Nat.add_zero, e0, e1, e5]

theorem c_markIntSS {lo hi : Nat} (v : Value) (n : Nat) (g : Nat → List Int) (s : FG lo hi h v n g) (hM : ∀ i, lo ≤ i → i < hi → M i) (k : Int) (hk : 0 ≤ k ∧ k ≤ 1000000) (hmax : n ≤ 1000) (hb : ∀ i, i < n → (g i).length ≤ 100) (hb0 : ∀ i, i < n → 0 < (g i).length) :
    vCall [] Try.prog M 52 [v, .int .i64 k] h (fun r h' => r = .int .i64 (k + offG g n) ∧ FG lo hi h' v n (mksG k g) ∧ Agr lo hi h h') := by
  obtain ⟨a, rfl, f1⟩ := id s
  refine body_of mo Try.func52 rfl (by kernel_rfl) (Nat.le_of_ble_eq_true (by kernel_rfl)) rfl ?_
  simp only [go_sem, Nat.reduceBEq, Nat.reduceAdd, Nat.reduceMul, Nat.reduceSub, Nat.reduceLeDiff, Nat.le_refl, implies_true, Nat.reduceLT, reduceIte, decide_true, decide_false, true_and, and_true, reduceCtorEq, Nat.mul_one, Int.reduceToNat, Int.reduceLE, Int.reduceLT, Int.reduceAdd, Int.reduceSub, Int.reduceMul, Int.cast_ofNat_Int, cast_zero_int, cast_one_int, Nat.reducePow, Nat.reduceEqDiff, Nat.reduceMod, Nat.zero_add, Nat.sub_zero, Nat.add_zero]
  refine vLoop.count mo n (fun i e h' => e 0 = .slice a n 0 ∧ e 1 = .int .i64 (k + offG g i) ∧ e 5 = .int .i64 i ∧ Agr lo hi h h' ∧ FG lo hi h' (.slice a n 0) n (fun j => if j < i then mksG k g j else g j)) ?_ ?_
  · exact ⟨rfl, by simp [upd, env0, offG], rfl, Agr.refl, s.congr (fun i hi => by simp)⟩
  · rintro i e H hi ⟨e0, e1, e5, hag, hf⟩
    simp only [go_sem, Nat.reduceBEq, Nat.reduceAdd, Nat.reduceMul, Nat.reduceSub, Nat.reduceLeDiff, Nat.le_refl, implies_true, Nat.reduceLT, reduceIte, decide_true, decide_false, true_and, and_true, reduceCtorEq, Nat.mul_one, Int.reduceToNat, Int.reduceLE, Int.reduceLT, Int.reduceAdd, Int.reduceSub, Int.reduceMul, Int.cast_ofNat_Int, cast_zero_int, cast_one_int, Nat.reducePow, Nat.reduceEqDiff, Nat.reduceMod, Nat.zero_add, Nat.sub_zero, Nat.add_zero, e0, e1, e5]
    refine .intro (fun h1 => ?_) (fun h1 => ?_)
    · have hlt : i < n := by simpa using h1
      have hz : (i : Int) < n := by omega
      obtain ⟨a', ea, ff⟩ := hf
      obtain rfl : a = a' := by simpa using ea
      obtain ⟨oid, cells, f, rfl, b1, b2, b3, b4, b5, b6⟩ := ff (by omega)
      obtain ⟨a1, a2, a3, a4, a5⟩ := b5 i hlt
      simp only [Nat.lt_irrefl, if_false] at a4 a5
      have ho := offG_le i (fun j hj => hb j (by omega))
      have := hb i hlt
      simp only [go_sem, Nat.reduceBEq, Nat.reduceAdd, Nat.reduceMul, Nat.reduceSub, Nat.reduceLeDiff, Nat.le_refl, implies_true, Nat.reduceLT, reduceIte, decide_true, decide_false, true_and, and_true, reduceCtorEq, Nat.mul_one, Int.reduceToNat, Int.reduceLE, Int.reduceLT, Int.reduceAdd, Int.reduceSub, Int.reduceMul, Int.cast_ofNat_Int, cast_zero_int, cast_one_int, Nat.reducePow, Nat.reduceEqDiff, Nat.reduceMod, Nat.zero_add, Nat.sub_zero, Nat.add_zero, e0, e1, e5, hz, b3, a4]
      have z1 : FI (f i) (f i + 1) H (.slice (some ⟨f i, 0, none⟩) (g i).length 0) (g i) := FI.at (by omega) (by omega) a5
      refine ⟨by kernel_rfl, (c_markIntS _ (g i) z1 (fun j x y => Or.inr (hM j (by omega) (by omega))) (k + offG g i) (by omega) (by omega)).use (fun _ m => m) ?_⟩
      rintro _ H2 ⟨rfl, z2, hag2⟩
      clear f1 ff s
      try simp only [go_sem, Nat.reduceBEq, Nat.reduceAdd, Nat.reduceMul, Nat.reduceSub, Nat.reduceLeDiff, Nat.le_refl, implies_true, Nat.reduceLT, reduceIte, decide_true, decide_false, true_and, and_true, reduceCtorEq, Nat.mul_one, Int.reduceToNat, Int.reduceLE, Int.reduceLT, Int.reduceAdd, Int.reduceSub, Int.reduceMul, Int.cast_ofNat_Int, cast_zero_int, cast_one_int, Nat.reducePow, Nat.reduceEqDiff, Nat.reduceMod, Nat.zero_add, Nat.sub_zero, Nat.add_zero, e0, e1, e5]
      refine ⟨hlt, by rw [offG]; congr 1; omega, by rw [wrap64 (by omega)]; rfl, hag.trans (hag2.wide (by omega) (by omega)), _, rfl, fun _ => ⟨oid, cells, f, rfl, b1, b2, ?_, b4, fun j hj => ?_, b6⟩⟩
      · rw [hag2.2 oid (hget_lt b3) (by omega)]; exact b3
      · obtain ⟨c1, c2, c3, c4, c5⟩ := b5 j hj
        by_cases hji : j = i
        · subst hji
          obtain ⟨p, ep, fp⟩ := z2
          simp only [Nat.lt_succ_self, if_true, mksG, marks_len]
          refine ⟨c1, c2, c3, a4, ?_⟩
          by_cases h0 : 0 < (g j).length
          · obtain ⟨id, rfl, _, _, hg⟩ := fp (by rw [marks_len]; exact h0)
            simp only [Value.slice.injEq, Option.some.injEq, Addr.mk.injEq, and_true] at ep
            rw [ep.1]; exact hg
          · exact absurd (hb0 j hj) h0
        · have e1 : (if j < i + 1 then mksG k g j else g j) = (if j < i then mksG k g j else g j) := by
            by_cases hji2 : j < i
            · rw [if_pos (by omega), if_pos hji2]
            · rw [if_neg (by omega), if_neg hji2]
          have hne : f j ≠ f i := fun hh => hji (b6 j i hj hlt hh)
          refine ⟨c1, c2, c3, ?_, ?_⟩
          · show cells[j]? = some (.slice (some ⟨f j, 0, none⟩) (if j < i + 1 then mksG k g j else g j).length 0)
            rw [e1]; exact c4
          · show hget H2 (f j) = some ⟨(if j < i + 1 then mksG k g j else g j).map iv, 1, .rw⟩
            rw [e1, hag2.2 (f j) (hget_lt c5) (by omega)]; exact c5
    · simp only [go_sem, Nat.reduceBEq, Nat.reduceAdd, Nat.reduceMul, Nat.reduceSub, Nat.reduceLeDiff, Nat.le_refl, implies_true, Nat.reduceLT, reduceIte, decide_true, decide_false, true_and, and_true, reduceCtorEq, Nat.mul_one, Int.reduceToNat, Int.reduceLE, Int.reduceLT, Int.reduceAdd, Int.reduceSub, Int.reduceMul, Int.cast_ofNat_Int, cast_zero_int, cast_one_int, Nat.reducePow, Nat.reduceEqDiff, Nat.reduceMod, Nat.zero_add, Nat.sub_zero, Nat.add_zero, e0, e1, e5]
      obtain rfl : i = n := by have : ¬ i < n := by simpa using h1
                               omega
      exact ⟨rfl, hf.congr (fun j hj => by rw [if_pos hj]), hag⟩

theorem c_heldIntSS {lo hi : Nat} (v : Value) (n : Nat) (g : Nat → List Int) (k : Int) (s : FG lo hi h v n (mksG k g)) (hk : 0 ≤ k ∧ k ≤ 1000000) (hmax : n ≤ 1000) (hb : ∀ i, i < n → (g i).length ≤ 100) :
    vCall [] Try.prog M 53 [v, .int .i64 k] h (fun r h' => r = .int .i64 (k + offG g n) ∧ h <+: h') := by
  obtain ⟨a, rfl, f1⟩ := s
  refine body_of mo Try.func53 rfl (by kernel_rfl) (Nat.le_of_ble_eq_true (by kernel_rfl)) rfl ?_
  simp only [go_sem, Nat.reduceBEq, Nat.reduceAdd, Nat.reduceMul, Nat.reduceSub, Nat.reduceLeDiff, Nat.le_refl, implies_true, Nat.reduceLT, reduceIte, decide_true, decide_false, true_and, and_true, reduceCtorEq, Nat.mul_one, Int.reduceToNat, Int.reduceLE, Int.reduceLT, Int.reduceAdd, Int.reduceSub, Int.reduceMul, Int.cast_ofNat_Int, cast_zero_int, cast_one_int, Nat.reducePow, Nat.reduceEqDiff, Nat.reduceMod, Nat.zero_add, Nat.sub_zero, Nat.add_zero]
  refine vLoop.count mo n (fun i e h' => ∃ t : Heap, e 0 = .slice a n 0 ∧ e 1 = .int .i64 (k + offG g i) ∧ e 5 = .int .i64 i ∧ h' = h ++ t) ?_ ?_
  · exact ⟨[], rfl, by simp [upd, env0, offG], rfl, by simp⟩
  · rintro i e _ hi ⟨t, e0, e1, e5, rfl⟩
    simp only [go_sem, Nat.reduceBEq, Nat.reduceAdd, Nat.reduceMul, Nat.reduceSub, Nat.reduceLeDiff, Nat.le_refl, implies_true, Nat.reduceLT, reduceIte, decide_true, decide_false, true_and, and_true, reduceCtorEq, Nat.mul_one, Int.reduceToNat, Int.reduceLE, Int.reduceLT, Int.reduceAdd, Int.reduceSub, Int.reduceMul, Int.cast_ofNat_Int, cast_zero_int, cast_one_int, Nat.reducePow, Nat.reduceEqDiff, Nat.reduceMod, Nat.zero_add, Nat.sub_zero, Nat.add_zero, e0, e1, e5]
    refine .intro (fun h1 => ?_) (fun h1 => ?_)
    · have hlt : i < n := by simpa using h1
      have hz : (i : Int) < n := by omega
      have G := f1 (by omega)
      clear f1
      obtain ⟨oid, cells, f, rfl, b1, b2, b3, b4, b5, b6⟩ := G
      obtain ⟨a1, a2, a3, a4, a5⟩ := b5 i hlt
      have k1 : ∀ t, hget (h ++ t) oid = some ⟨cells, 1, .rw⟩ := fun t => by rw [hget_prefix (List.prefix_append _ _) (hget_lt b3)]; exact b3
      have ho := offG_le i (fun j hj => hb j (by omega))
      have := hb i hlt
      simp only [go_sem, Nat.reduceBEq, Nat.reduceAdd, Nat.reduceMul, Nat.reduceSub, Nat.reduceLeDiff, Nat.le_refl, implies_true, Nat.reduceLT, reduceIte, decide_true, decide_false, true_and, and_true, reduceCtorEq, Nat.mul_one, Int.reduceToNat, Int.reduceLE, Int.reduceLT, Int.reduceAdd, Int.reduceSub, Int.reduceMul, Int.cast_ofNat_Int, cast_zero_int, cast_one_int, Nat.reducePow, Nat.reduceEqDiff, Nat.reduceMod, Nat.zero_add, Nat.sub_zero, Nat.add_zero, e0, e1, e5, hz, k1, a4]
      have z1 : FI 0 (f i + 1) h (.slice (some ⟨f i, 0, none⟩) (mksG k g i).length 0) (mksG k g i) := FI.at (by omega) (by omega) a5
      refine ⟨by kernel_rfl, (c_heldIntS _ (mksG k g i) (k + offG g i) (by omega) (z1.ai.mono (List.prefix_append _ _)) (by simp [mksG, marks_len]) (by simp [mksG, marks_len]; omega)).use (fun _ m => m) ?_⟩
      rintro _ _ ⟨rfl, ⟨t2, rfl⟩⟩
      have hml : (mksG k g i).length = (g i).length := by simp [mksG, marks_len]
      simp only [go_sem, Nat.reduceBEq, Nat.reduceAdd, Nat.reduceMul, Nat.reduceSub, Nat.reduceLeDiff, Nat.le_refl, implies_true, Nat.reduceLT, reduceIte, decide_true, decide_false, true_and, and_true, reduceCtorEq, Nat.mul_one, Int.reduceToNat, Int.reduceLE, Int.reduceLT, Int.reduceAdd, Int.reduceSub, Int.reduceMul, Int.cast_ofNat_Int, cast_zero_int, cast_one_int, Nat.reducePow, Nat.reduceEqDiff, Nat.reduceMod, Nat.zero_add, Nat.sub_zero, Nat.add_zero, e0, e1, e5, hml, show ¬ (k + (offG g i : Int) + ((g i).length : Int) < 0) by omega]
      exact ⟨hlt, _, by rw [offG]; congr 1; omega, by rw [wrap64 (by omega)]; rfl, rfl⟩
    · simp only [go_sem, Nat.reduceBEq, Nat.reduceAdd, Nat.reduceMul, Nat.reduceSub, Nat.reduceLeDiff, Nat.le_refl, implies_true, Nat.reduceLT, reduceIte, decide_true, decide_false, true_and, and_true, reduceCtorEq, Nat.mul_one, Int.reduceToNat, Int.reduceLE, Int.reduceLT, Int.reduceAdd, Int.reduceSub, Int.reduceMul, Int.cast_ofNat_Int, cast_zero_int, cast_one_int, Nat.reducePow, Nat.reduceEqDiff, Nat.reduceMod, Nat.zero_add, Nat.sub_zero, Nat.add_zero, e0, e1, e5]
      obtain rfl : i = n := by have : ¬ i < n := by simpa using h1
                               omega
      rfl
end
end Go.Proofs.Ytkeckghlkomjjaa
