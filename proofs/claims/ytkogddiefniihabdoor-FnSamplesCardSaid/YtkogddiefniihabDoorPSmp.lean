
/- A sample read from its text: what both programs return. No condition. -/
import Derived.Test.YtkogddiefniihabDoorSmpN
import Derived.Test.YtkogddiefniihabDoorPSupL
import Derived.Test.YtkogddiefniihabDoorH3
namespace Go.Proofs.YtkogddiefniihabDoor
open Go.HH Go.Proofs
set_option linter.unusedSimpArgs false
set_option linter.unusedVariables false

/-- The sample that a text tells. -/
def IsPM (s : ByteArray) (ok : Bool) (x : Smp) : Prop := (ok = true ∧ smpOk x ∧ smpB x = s) ∨ (ok = false ∧ x = (0, 0, 0, 0) ∧ ¬ ∃ y, smpOk y ∧ smpB y = s)
theorem IsPM.ex (s : ByteArray) : ∃ ok x, IsPM s ok x := by
  by_cases h : ∃ y, smpOk y ∧ smpB y = s
  · obtain ⟨y, hy⟩ := h
    exact ⟨true, y, .inl ⟨rfl, hy⟩⟩
  · exact ⟨false, _, .inr ⟨rfl, rfl, h⟩⟩
theorem IsPM.no {s : ByteArray} {ok : Bool} {x y : Smp} (h : IsPM s ok x) (hy : ok = true → y = x) (g : ¬ (smpOk y ∧ smpB y = s)) : ok = false ∧ x = (0, 0, 0, 0) := by
  rcases h with ⟨h1, h2, h3⟩ | ⟨h1, h2, _⟩
  · rw [hy h1] at g; exact absurd ⟨h2, h3⟩ g
  · exact ⟨h1, h2⟩
theorem IsPM.yes {s : ByteArray} {ok : Bool} {x y : Smp} (h : IsPM s ok x) (hy : ok = true → y = x) (g : smpOk y ∧ smpB y = s) : ok = true ∧ x = y := by
  rcases h with ⟨h1, h2, h3⟩ | ⟨h1, h2, h3⟩
  · exact ⟨h1, (hy h1).symm⟩
  · exact absurd ⟨y, g⟩ h3
theorem IsPM.non {s : ByteArray} {ok : Bool} {x : Smp} (h : IsPM s ok x) (g : ¬ ok = true) : ok = false ∧ x = (0, 0, 0, 0) := by
  rcases h with ⟨h1, _⟩ | ⟨h1, h2, _⟩
  · exact absurd h1 g
  · exact ⟨h1, h2⟩
theorem IsPM.nat {s : ByteArray} {ok : Bool} {x : Smp} (h : IsPM s ok x) (hok : ok = true) : ∃ a n k v : Nat, x = ((a : Int), (n : Int), (k : Int), (v : Int)) ∧ a ≤ 3650 ∧ n ≤ 8 ∧ (1 ≤ k ∧ k ≤ 4) ∧ v ≤ 100000 ∧ s = smpS a n k v := by
  rcases h with ⟨h1, h2, h3⟩ | ⟨h1, _⟩
  · obtain ⟨a, n, k, v⟩ := x
    obtain ⟨g1, g2, g3, g4⟩ := h2
    dsimp only at g1 g2 g3 g4
    obtain ⟨a, rfl⟩ := Int.eq_ofNat_of_zero_le g1.1
    obtain ⟨n, rfl⟩ := Int.eq_ofNat_of_zero_le (show 0 ≤ n by omega)
    obtain ⟨k, rfl⟩ := Int.eq_ofNat_of_zero_le (show 0 ≤ k by omega)
    obtain ⟨v, rfl⟩ := Int.eq_ofNat_of_zero_le g4.1
    exact ⟨a, n, k, v, rfl, by omega, by omega, by omega, by omega, h3.symm⟩
  · rw [h1] at hok; cases hok
theorem smp60 {a n k v : Nat} (ha : a ≤ 3650) (hn : n ≤ 8) (hk : k ≤ 4) (hv : v ≤ 100000) : (smpS a n k v).size ≤ 60 := by
  have z1 := num_size 4 a (by omega) (by omega)
  have z2 := num_size 1 n (by omega) (by omega)
  have z3 := num_size 3 (v / 1000) (by omega) (by omega)
  have z4 := wordB_size hk
  have e1 : tDay.size = 4 := rfl
  have e2 : tAt.size = 7 := rfl
  have e3 : tCol.size = 2 := rfl
  have e4 : tSp.size = 1 := rfl
  have e5 : tDot.size = 1 := rfl
  have e6 : (d3 (v % 1000)).size = 3 := rfl
  simp only [smpS, ByteArray.size_append]
  omega

section
variable {h : Heap} {M : Nat → Prop}

set_option maxRecDepth 20000 in
theorem c_ParseSample (pw : SmpAt glGA h) (mx : MaxAt glGA h) (s : ByteArray) (ok : Bool) (x : Smp) (hs : s.size ≤ 10000000) (hx : IsPM s ok x) : vCall glGA Tryd.prog M 26 [.string s] h (fun r h' => r = .tuple #[sag x, .bool ok] ∧ h <+: h') := by
  have wg : ∀ t, hget (h ++ t) 0 = some ⟨wordV, 1, .ro⟩ := fun t => (pw.wrd.mono (List.prefix_append _ _)).2
  refine body_of mo Tryd.func26 rfl (by kernel_rfl) (Nat.le_of_ble_eq_true (by kernel_rfl)) rfl ?_
  simp only [go_sem, Nat.reduceBEq, Nat.reduceAdd, Nat.reduceMul, Nat.reduceSub, Nat.reduceLeDiff, Nat.le_refl, implies_true, Nat.reduceLT, reduceIte, decide_true, decide_false, true_and, and_true, reduceCtorEq, Nat.mul_one, Int.reduceToNat, Int.reduceLE, Int.reduceLT, Int.reduceAdd, Int.reduceSub, Int.reduceMul, Int.cast_ofNat_Int, cast_zero_int, cast_one_int, Nat.reducePow, Nat.reduceEqDiff, Nat.reduceMod, Nat.zero_add, Nat.sub_zero, Nat.add_zero]
  refine ⟨by kernel_rfl, ((c_numbersOf s 5 hs (by omega)).addG).use (fun _ m => m) ?_⟩
  rintro v _ ⟨⟨l, fl, nl⟩, ⟨t, rfl⟩⟩
  have ll := nl.len
  obtain ⟨va, rfl⟩ := fl.ai.len
  have known : ok = true → s.size ≤ 60 ∧ ∃ a n k v : Nat, x = ((a : Int), (n : Int), (k : Int), (v : Int)) ∧ (1 ≤ k ∧ k ≤ 4) ∧ s = smpS a n k v ∧ l = [(a : Int), (n : Int), ((v / 1000 : Nat) : Int), ((v % 1000 : Nat) : Int)] := fun hok => by
    obtain ⟨a, n, k, v, e1, e2, e3, e4, e5, e6⟩ := hx.nat hok
    refine ⟨by rw [e6]; exact smp60 e2 e3 (by omega) e5, a, n, k, v, e1, e4, e6, ?_⟩
    rw [e6] at nl
    exact nl.uniq (smp_nums e2 e3 (by omega) e5)
  have shut : ¬ (s.size ≤ 60 ∧ l.length = 4) → ok = false ∧ x = (0, 0, 0, 0) := fun g => hx.non fun hok => by
    obtain ⟨k1, a, n, k, v, _, _, _, k2⟩ := known hok
    exact g ⟨k1, by rw [k2]; rfl⟩
  by_cases g1 : s.size ≤ 60
  · have n60 : ¬ (60 : Int) < s.size := by omega
    by_cases g2 : l.length = 4
    · obtain ⟨id, off, k, hv, _, hk, hk0, hd, _, hb, _, hat⟩ := fl.ai.at (by omega)
      obtain rfl : va = some ⟨id, off, none⟩ := by simpa using hv
      simp only [List.append_assoc, List.cons_append, List.nil_append] at hk hk0
      obtain ⟨p, q, u, w, rfl⟩ : ∃ p q u w, l = [p, q, u, w] := by
        match l, g2 with
        | [p, q, u, w], _ => exact ⟨p, q, u, w, rfl⟩
      have a0 : k.cells[off]? = some (.int .i64 p) := hat 0 (by simp)
      have a1 : k.cells[off + 1]? = some (.int .i64 q) := hat 1 (by simp)
      have a2 : k.cells[off + 2]? = some (.int .i64 u) := hat 2 (by simp)
      have a3 : k.cells[off + 3]? = some (.int .i64 w) := hat 3 (by simp)
      have bu := nl.bound u (by simp)
      have bw := nl.bound w (by simp)
      have w1 : IntKind.i64.wrap (1000 * u) = 1000 * u := wrap64 (by omega)
      have w2 : IntKind.i64.wrap (1000 * u + w) = 1000 * u + w := wrap64 (by omega)
      simp only [go_sem, Nat.reduceBEq, Nat.reduceAdd, Nat.reduceMul, Nat.reduceSub, Nat.reduceLeDiff, Nat.le_refl, implies_true, Nat.reduceLT, reduceIte, decide_true, decide_false, true_and, and_true, reduceCtorEq, Nat.mul_one, Int.reduceToNat, Int.reduceLE, Int.reduceLT, Int.reduceAdd, Int.reduceSub, Int.reduceMul, Int.cast_ofNat_Int, cast_zero_int, cast_one_int, Nat.reducePow, Nat.reduceEqDiff, Nat.reduceMod, Nat.zero_add, Nat.sub_zero, Nat.add_zero, n60, hk, hk0, hd, a0, a1, a2, a3, w1, w2, show ((4 : Int) != 4) = false from rfl]
      refine vLoop.count mo 4 (fun i e h' => ∃ κ : Int, e 0 = .string s ∧ e 2 = .pointer (some ⟨h.length, 0, none⟩) ∧ e 5 = .pointer (some ⟨h.length + (t.length + 1), 0, none⟩) ∧ e 6 = .int .i64 (i + 1 : Nat) ∧
        h' = h ++ ⟨[.int .i64 0, .int .i64 0, .int .i64 0, .int .i64 0], 4, .rw⟩ :: (t ++ [⟨[.int .i64 p, .int .i64 q, .int .i64 κ, .int .i64 (1000 * u + w)], 4, .rw⟩]) ∧ (ok = true → κ = if x.2.2.1 ≤ i then x.2.2.1 else 0)) ?_ ?_
      · refine ⟨0, rfl, rfl, ?_, rfl, rfl, fun hok => ?_⟩
        · simp only [go_sem, Nat.reduceBEq, Nat.reduceAdd, Nat.reduceMul, Nat.reduceSub, Nat.reduceLeDiff, Nat.le_refl, implies_true, Nat.reduceLT, reduceIte, decide_true, decide_false, true_and, and_true, reduceCtorEq, Nat.mul_one, Int.reduceToNat, Int.reduceLE, Int.reduceLT, Int.reduceAdd, Int.reduceSub, Int.reduceMul, Int.cast_ofNat_Int, cast_zero_int, cast_one_int, Nat.reducePow, Nat.reduceEqDiff, Nat.reduceMod, Nat.zero_add, Nat.sub_zero, Nat.add_zero]
        · obtain ⟨_, a, n, k2, v, e1, e2, _⟩ := known hok
          rw [e1, if_neg]; dsimp only; omega
      · rintro i e _ hi ⟨κ, e0, e2, e5, e6, rfl, hκ⟩
        by_cases h4 : i < 4
        · have hz : ((i + 1 : Nat) : Int) ≤ 4 := by omega
          have wv := wordV_at (k := i + 1) (by omega)
          simp only [go_sem, Nat.reduceBEq, Nat.reduceAdd, Nat.reduceMul, Nat.reduceSub, Nat.reduceLeDiff, Nat.le_refl, implies_true, Nat.reduceLT, reduceIte, decide_true, decide_false, true_and, and_true, reduceCtorEq, Nat.mul_one, Int.reduceToNat, Int.reduceLE, Int.reduceLT, Int.reduceAdd, Int.reduceSub, Int.reduceMul, Int.cast_ofNat_Int, cast_zero_int, cast_one_int, Nat.reducePow, Nat.reduceEqDiff, Nat.reduceMod, Nat.zero_add, Nat.sub_zero, Nat.add_zero, e0, e2, e5, e6, hz, wg, wv, show ((i + 1 : Nat) : Int) < 5 by omega, show (0 : Int) ≤ ((i + 1 : Nat) : Int) by omega, Int.toNat_natCast]
          refine ⟨by kernel_rfl, (c_ContainsG (mx.mono (by simp)) s (wordB (i + 1)) (by omega)).use (fun _ m => m) ?_⟩
          rintro _ _ ⟨rfl, rfl⟩
          have hc : ok = true → Lib.contains (bl s) (bl (wordB (i + 1))) = decide (((i + 1 : Nat) : Int) = x.2.2.1) := fun hok => by
            obtain ⟨_, a, n, k2, v, e1, e2, e3, _⟩ := known hok
            have := smp_has (a := a) (n := n) (v := v) (j := i + 1) (k := k2) (by omega) e2
            rw [e3, bl_wordB, this, e1]
            exact decide_eq_decide.2 (by dsimp only; omega)
          by_cases q1 : Lib.contains (bl s) (bl (wordB (i + 1))) = true
          · simp only [go_sem, Nat.reduceBEq, Nat.reduceAdd, Nat.reduceMul, Nat.reduceSub, Nat.reduceLeDiff, Nat.le_refl, implies_true, Nat.reduceLT, reduceIte, decide_true, decide_false, true_and, and_true, reduceCtorEq, Nat.mul_one, Int.reduceToNat, Int.reduceLE, Int.reduceLT, Int.reduceAdd, Int.reduceSub, Int.reduceMul, Int.cast_ofNat_Int, cast_zero_int, cast_one_int, Nat.reducePow, Nat.reduceEqDiff, Nat.reduceMod, Nat.zero_add, Nat.sub_zero, Nat.add_zero, e0, e2, e5, e6, q1]
            refine ⟨h4, ((i + 1 : Nat) : Int), ?_⟩
            refine ⟨by rw [wrap64 (by omega)]; rfl, rfl, fun hok => ?_⟩
            have h1 := hc hok
            rw [q1] at h1
            have h2 := of_decide_eq_true h1.symm
            rw [← h2, if_pos (Int.le_refl _)]
          · have q2 : Lib.contains (bl s) (bl (wordB (i + 1))) = false := by simpa using q1
            simp only [go_sem, Nat.reduceBEq, Nat.reduceAdd, Nat.reduceMul, Nat.reduceSub, Nat.reduceLeDiff, Nat.le_refl, implies_true, Nat.reduceLT, reduceIte, decide_true, decide_false, true_and, and_true, reduceCtorEq, Nat.mul_one, Int.reduceToNat, Int.reduceLE, Int.reduceLT, Int.reduceAdd, Int.reduceSub, Int.reduceMul, Int.cast_ofNat_Int, cast_zero_int, cast_one_int, Nat.reducePow, Nat.reduceEqDiff, Nat.reduceMod, Nat.zero_add, Nat.sub_zero, Nat.add_zero, e0, e2, e5, e6, q2]
            refine ⟨h4, κ, ?_⟩
            refine ⟨by rw [wrap64 (by omega)]; rfl, rfl, fun hok => ?_⟩
            have h1 := hc hok
            rw [q2] at h1
            have h2 := of_decide_eq_false h1.symm
            rw [hκ hok]
            by_cases h3 : x.2.2.1 ≤ (i : Int)
            · rw [if_pos h3, if_pos (by omega)]
            · rw [if_neg h3, if_neg (by omega)]
        · obtain rfl : i = 4 := by omega
          have hy : ok = true → ((p, q, κ, 1000 * u + w) : Smp) = x := fun hok => by
            obtain ⟨_, a, n, k2, v, e1, e2, _, e3⟩ := known hok
            rw [hκ hok, e1, if_pos (by dsimp only; omega)]
            simp at e3
            obtain ⟨rfl, rfl, rfl, rfl⟩ := e3
            simp only [Prod.mk.injEq, true_and]
            omega
          simp only [go_sem, Nat.reduceBEq, Nat.reduceAdd, Nat.reduceMul, Nat.reduceSub, Nat.reduceLeDiff, Nat.le_refl, implies_true, Nat.reduceLT, reduceIte, decide_true, decide_false, true_and, and_true, reduceCtorEq, Nat.mul_one, Int.reduceToNat, Int.reduceLE, Int.reduceLT, Int.reduceAdd, Int.reduceSub, Int.reduceMul, Int.cast_ofNat_Int, cast_zero_int, cast_one_int, Nat.reducePow, Nat.reduceEqDiff, Nat.reduceMod, Nat.zero_add, Nat.sub_zero, Nat.add_zero, e0, e2, e5, e6]
          refine ⟨by kernel_rfl, ((c_IsValidSample ((p, q, κ, 1000 * u + w) : Smp)).addG).use (fun _ m => m) ?_⟩
          rintro _ _ ⟨rfl, ⟨t3, rfl⟩⟩
          by_cases v1 : smpOk ((p, q, κ, 1000 * u + w) : Smp)
          · simp only [go_sem, Nat.reduceBEq, Nat.reduceAdd, Nat.reduceMul, Nat.reduceSub, Nat.reduceLeDiff, Nat.le_refl, implies_true, Nat.reduceLT, reduceIte, decide_true, decide_false, true_and, and_true, reduceCtorEq, Nat.mul_one, Int.reduceToNat, Int.reduceLE, Int.reduceLT, Int.reduceAdd, Int.reduceSub, Int.reduceMul, Int.cast_ofNat_Int, cast_zero_int, cast_one_int, Nat.reducePow, Nat.reduceEqDiff, Nat.reduceMod, Nat.zero_add, Nat.sub_zero, Nat.add_zero, e0, e2, e5, e6, decbS v1, Bool.not_true]
            refine ⟨by kernel_rfl, (c_sampleText (pw.mono (by simp)) ((p, q, κ, 1000 * u + w) : Smp) v1).use (fun _ m => m) ?_⟩
            rintro _ _ ⟨rfl, ⟨t4, rfl⟩⟩
            by_cases v2 : smpB ((p, q, κ, 1000 * u + w) : Smp) = s
            · obtain ⟨rfl, rfl⟩ := hx.yes hy ⟨v1, v2⟩
              have v3 : ((smpB ((p, q, κ, 1000 * u + w) : Smp)).toList == s.toList) = true := by rw [v2]; exact beq_self_eq_true _
              simp only [go_sem, Nat.reduceBEq, Nat.reduceAdd, Nat.reduceMul, Nat.reduceSub, Nat.reduceLeDiff, Nat.le_refl, implies_true, Nat.reduceLT, reduceIte, decide_true, decide_false, true_and, and_true, reduceCtorEq, Nat.mul_one, Int.reduceToNat, Int.reduceLE, Int.reduceLT, Int.reduceAdd, Int.reduceSub, Int.reduceMul, Int.cast_ofNat_Int, cast_zero_int, cast_one_int, Nat.reducePow, Nat.reduceEqDiff, Nat.reduceMod, Nat.zero_add, Nat.sub_zero, Nat.add_zero, e0, e2, e5, e6, decbS v1, v3, Bool.not_true]
              rfl
            · obtain ⟨rfl, rfl⟩ := hx.no hy (fun h => v2 h.2)
              have v3 : ((smpB ((p, q, κ, 1000 * u + w) : Smp)).toList == s.toList) = false := by rw [toList_eq]; exact decide_eq_false v2
              simp only [go_sem, Nat.reduceBEq, Nat.reduceAdd, Nat.reduceMul, Nat.reduceSub, Nat.reduceLeDiff, Nat.le_refl, implies_true, Nat.reduceLT, reduceIte, decide_true, decide_false, true_and, and_true, reduceCtorEq, Nat.mul_one, Int.reduceToNat, Int.reduceLE, Int.reduceLT, Int.reduceAdd, Int.reduceSub, Int.reduceMul, Int.cast_ofNat_Int, cast_zero_int, cast_one_int, Nat.reducePow, Nat.reduceEqDiff, Nat.reduceMod, Nat.zero_add, Nat.sub_zero, Nat.add_zero, e0, e2, e5, e6, decbS v1, v3, Bool.not_false]
              rfl
          · obtain ⟨rfl, rfl⟩ := hx.no hy (fun h => v1 h.1)
            simp only [go_sem, Nat.reduceBEq, Nat.reduceAdd, Nat.reduceMul, Nat.reduceSub, Nat.reduceLeDiff, Nat.le_refl, implies_true, Nat.reduceLT, reduceIte, decide_true, decide_false, true_and, and_true, reduceCtorEq, Nat.mul_one, Int.reduceToNat, Int.reduceLE, Int.reduceLT, Int.reduceAdd, Int.reduceSub, Int.reduceMul, Int.cast_ofNat_Int, cast_zero_int, cast_one_int, Nat.reducePow, Nat.reduceEqDiff, Nat.reduceMod, Nat.zero_add, Nat.sub_zero, Nat.add_zero, e0, e2, e5, e6, dectS v1, Bool.not_false]
            rfl
    · obtain ⟨rfl, rfl⟩ := shut (fun h => g2 h.2)
      simp only [go_sem, Nat.reduceBEq, Nat.reduceAdd, Nat.reduceMul, Nat.reduceSub, Nat.reduceLeDiff, Nat.le_refl, implies_true, Nat.reduceLT, reduceIte, decide_true, decide_false, true_and, and_true, reduceCtorEq, Nat.mul_one, Int.reduceToNat, Int.reduceLE, Int.reduceLT, Int.reduceAdd, Int.reduceSub, Int.reduceMul, Int.cast_ofNat_Int, cast_zero_int, cast_one_int, Nat.reducePow, Nat.reduceEqDiff, Nat.reduceMod, Nat.zero_add, Nat.sub_zero, Nat.add_zero, n60, show ((l.length : Int) != 4) = true from by rw [bne_iff_ne]; omega]
      rfl
  · obtain ⟨rfl, rfl⟩ := shut (fun h => g1 h.1)
    simp only [go_sem, Nat.reduceBEq, Nat.reduceAdd, Nat.reduceMul, Nat.reduceSub, Nat.reduceLeDiff, Nat.le_refl, implies_true, Nat.reduceLT, reduceIte, decide_true, decide_false, true_and, and_true, reduceCtorEq, Nat.mul_one, Int.reduceToNat, Int.reduceLE, Int.reduceLT, Int.reduceAdd, Int.reduceSub, Int.reduceMul, Int.cast_ofNat_Int, cast_zero_int, cast_one_int, Nat.reducePow, Nat.reduceEqDiff, Nat.reduceMod, Nat.zero_add, Nat.sub_zero, Nat.add_zero, show (60 : Int) < s.size by omega]
    rfl
end
end Go.Proofs.YtkogddiefniihabDoor
