
/- The law about a sample read from its text. No condition. -/
import Derived.Test.YtkogddiefniihabDoorPSmp
import Derived.Test.YtkogddiefniihabDoorH3
namespace Go.Proofs.YtkogddiefniihabDoor
open Go.HH Go.Proofs
set_option linter.unusedSimpArgs false
set_option linter.unusedVariables false

theorem ext_snoc {l : BL} {c : UInt8} : (mkB (l ++ [c])).extract 0 ((mkB (l ++ [c])).size - 1) = mkB l := by
  refine bl_ext ?_
  rw [bl_extract, bl_mkB, bl_mkB, List.drop_zero, mkB_size, List.length_append, List.length_singleton, Nat.add_sub_cancel, List.take_left']
  rfl
/-- Digits read on, whatever the bytes are. -/
def pv (l : BL) : Int := l.foldl (fun p c => 10 * p + c.toNat - 48) 0
theorem pv_snoc (l : BL) (c : UInt8) : pv (l ++ [c]) = 10 * pv l + c.toNat - 48 := by rw [pv, List.foldl_append]; rfl
theorem pv_bound : ∀ (l : BL), l.length ≤ 3 → -50000 ≤ pv l ∧ pv l ≤ 300000
  | [], _ => by decide
  | [a], _ => by
    have := a.toNat_lt
    simp only [pv, List.foldl_cons, List.foldl_nil]; omega
  | [a, b], _ => by
    have := a.toNat_lt
    have := b.toNat_lt
    simp only [pv, List.foldl_cons, List.foldl_nil]; omega
  | [a, b, c], _ => by
    have := a.toNat_lt
    have := b.toNat_lt
    have := c.toNat_lt
    simp only [pv, List.foldl_cons, List.foldl_nil]; omega
  | a :: b :: c :: d :: r, h => by simp only [List.length_cons] at h; omega
theorem pv_dl3 (x : Nat) (hx : x < 1000) : pv (dl3 x) = x := by
  have key : ∀ y, y < 10 → (UInt8.ofNat (48 + y)).toNat = 48 + y := fun y hy => by simp; omega
  simp only [pv, dl3, List.foldl_cons, List.foldl_nil, key (x / 100) (by omega), key (x / 10 % 10) (by omega), key (x % 10) (by omega)]
  omega

theorem wordB_eq {j k : Nat} (hj : 1 ≤ j ∧ j ≤ 4) (hk : 1 ≤ k ∧ k ≤ 4) : wordB j = wordB k ↔ j = k := by
  constructor
  · intro h
    have h2 : wordK j = wordK k := congrArg bl h
    obtain ⟨j, rfl⟩ : ∃ i, j = i + 1 := ⟨j - 1, by omega⟩
    obtain ⟨k, rfl⟩ : ∃ i, k = i + 1 := ⟨k - 1, by omega⟩
    rcases j with _ | _ | _ | _ | j <;> rcases k with _ | _ | _ | _ | k <;> first | rfl | omega | (exact absurd h2 (by decide))
  · intro h; rw [h]
section
variable {h : Heap} {M : Nat → Prop}

set_option maxRecDepth 20000 in
theorem c_sParseSample (s : ByteArray) (ok : Bool) (x : Smp) (hs : s.size ≤ 10000000) (hx : IsPM s ok x) : vCall [] Tryd.prog M 25 [.string s] h (fun r h' => r = .tuple #[sag x, .bool ok] ∧ h <+: h') := by
  refine body_of mo Tryd.func25 rfl (by kernel_rfl) (Nat.le_of_ble_eq_true (by kernel_rfl)) rfl ?_
  simp only [go_sem, Nat.reduceBEq, Nat.reduceAdd, Nat.reduceMul, Nat.reduceSub, Nat.reduceLeDiff, Nat.le_refl, implies_true, Nat.reduceLT, reduceIte, decide_true, decide_false, true_and, and_true, reduceCtorEq, Nat.mul_one, Int.reduceToNat, Int.reduceLE, Int.reduceLT, Int.reduceAdd, Int.reduceSub, Int.reduceMul, Int.cast_ofNat_Int, cast_zero_int, cast_one_int, Nat.reducePow, Nat.reduceEqDiff, Nat.reduceMod, Nat.zero_add, Nat.sub_zero, Nat.add_zero]
  refine ⟨by kernel_rfl, (c_l1Split s 32 hs).use (fun _ m => m) ?_⟩
  rintro _ _ ⟨t, j, rfl, rfl, hj⟩
  obtain ⟨W, hW⟩ : ∃ W, W = splitL (bl s) 32 := ⟨_, rfl⟩
  rw [← hW] at hj
  rw [← hW]
  have zW : ∀ w ∈ W, (mkB w).size ≤ 10000000 := fun w hw => by
    rw [hW] at hw
    have := splitL_le hw
    rw [mkB_size]; rw [bl_len] at this; omega
  have known : ok = true → s.size ≤ 60 ∧ ∃ a n k v : Nat, x = ((a : Int), (n : Int), (k : Int), (v : Int)) ∧ a ≤ 3650 ∧ n ≤ 8 ∧ (1 ≤ k ∧ k ≤ 4) ∧ v ≤ 100000 ∧ W = smpW a n k v := fun hok => by
    obtain ⟨a, n, k, v, e1, e2, e3, e4, e5, e6⟩ := hx.nat hok
    refine ⟨by rw [e6]; exact smp60 e2 e3 (by omega) e5, a, n, k, v, e1, e2, e3, e4, e5, ?_⟩
    rw [hW, e6, smp_split (by omega)]
  clear hW
  have hk0 : hget (h ++ ⟨[.int .i64 0, .int .i64 0, .int .i64 0, .int .i64 0], 4, .rw⟩ :: ⟨[.int .i64 0, .int .i64 0, .int .i64 0, .int .i64 0], 4, .rw⟩ :: t) (h.length + 2 + j) = some ⟨strsV W, 1, .rw⟩ := (hget_sk2 (u := t)).trans hj
  have hk : ∀ u, hget (h ++ ⟨[.int .i64 0, .int .i64 0, .int .i64 0, .int .i64 0], 4, .rw⟩ :: ⟨[.int .i64 0, .int .i64 0, .int .i64 0, .int .i64 0], 4, .rw⟩ :: (t ++ u)) (h.length + 2 + j) = some ⟨strsV W, 1, .rw⟩ := fun u => hget_sk2.trans (by rw [List.getElem?_append_left (List.getElem?_eq_some_iff.1 hj).1]; exact hj)
  by_cases g1 : s.size ≤ 60
  · have n60 : ¬ (60 : Int) < s.size := by omega
    by_cases g2 : W.length = 6
    · have hWl : (W.length : Int) = 6 := by omega
      have n6 : ((6 : Int) != 6) = false := rfl
      have c1 := strsV_at (W := W) (i := 1) (by omega)
      have c3 := strsV_at (W := W) (i := 3) (by omega)
      have c4 := strsV_at (W := W) (i := 4) (by omega)
      have c5 := strsV_at (W := W) (i := 5) (by omega)
      obtain ⟨A, hA⟩ : ∃ A, A = mkB W[1] := ⟨_, rfl⟩
      obtain ⟨B, hB⟩ : ∃ B, B = mkB W[3] := ⟨_, rfl⟩
      obtain ⟨C, hC⟩ : ∃ C, C = mkB W[4] := ⟨_, rfl⟩
      obtain ⟨D, hD⟩ : ∃ D, D = mkB W[5] := ⟨_, rfl⟩
      have zA : A.size ≤ 10000000 := by rw [hA]; exact zW _ (List.getElem_mem _)
      have zB : B.size ≤ 10000000 := by rw [hB]; exact zW _ (List.getElem_mem _)
      have zD : D.size ≤ 10000000 := by rw [hD]; exact zW _ (List.getElem_mem _)
      rw [← hA] at c1
      rw [← hB] at c3
      rw [← hC] at c4
      rw [← hD] at c5
      have know2 : ok = true → ∃ a n k v : Nat, x = ((a : Int), (n : Int), (k : Int), (v : Int)) ∧ a ≤ 3650 ∧ n ≤ 8 ∧ (1 ≤ k ∧ k ≤ 4) ∧ v ≤ 100000 ∧ A = mkB (Lib.decDigits a ++ [44]) ∧ B = mkB (Lib.decDigits n ++ [58]) ∧ C = wordB k ∧ D = mkB (Lib.decDigits (v / 1000) ++ 46 :: dl3 (v % 1000)) := fun hok => by
        obtain ⟨_, a, n, k, v, e1, e2, e3, e4, e5, e6⟩ := known hok
        subst e6
        exact ⟨a, n, k, v, e1, e2, e3, e4, e5, hA, hB, hC, hD⟩
      clear known hA hB hC hD zW
      by_cases g3 : 2 ≤ A.size
      · have n3 : ¬ (A.size : Int) < 2 := by omega
        by_cases g4 : 2 ≤ B.size
        · have n4 : ¬ (B.size : Int) < 2 := by omega
          have wA : IntKind.i64.wrap ((A.size : Int) - 1) = ((A.size - 1 : Nat) : Int) := by rw [wrap64 (by omega)]; omega
          have wB : IntKind.i64.wrap ((B.size : Int) - 1) = ((B.size - 1 : Nat) : Int) := by rw [wrap64 (by omega)]; omega
          have pA : (0 : Int) ≤ ((A.size - 1 : Nat) : Int) := by omega
          have pB : (0 : Int) ≤ ((B.size - 1 : Nat) : Int) := by omega
          simp only [go_sem, Nat.reduceBEq, Nat.reduceAdd, Nat.reduceMul, Nat.reduceSub, Nat.reduceLeDiff, Nat.le_refl, implies_true, Nat.reduceLT, reduceIte, decide_true, decide_false, true_and, and_true, reduceCtorEq, Nat.mul_one, Int.reduceToNat, Int.reduceLE, Int.reduceLT, Int.reduceAdd, Int.reduceSub, Int.reduceMul, Int.cast_ofNat_Int, cast_zero_int, cast_one_int, Nat.reducePow, Nat.reduceEqDiff, Nat.reduceMod, Nat.zero_add, Nat.sub_zero, Nat.add_zero, n60, hWl, n6, hk, hk0, c1, c3, n3, n4, wA, pA, Int.toNat_natCast, show A.size - 1 ≤ A.size by omega]
          refine ⟨by omega, ?_⟩
          refine ⟨by kernel_rfl, (c_l1Read (A.extract 0 (A.size - 1)) (by rw [ByteArray.size_extract]; omega)).use (fun _ m => m) ?_⟩
          rintro _ _ ⟨⟨m1, b1, rfl, r1⟩, rfl⟩
          simp only [go_sem, Nat.reduceBEq, Nat.reduceAdd, Nat.reduceMul, Nat.reduceSub, Nat.reduceLeDiff, Nat.le_refl, implies_true, Nat.reduceLT, reduceIte, decide_true, decide_false, true_and, and_true, reduceCtorEq, Nat.mul_one, Int.reduceToNat, Int.reduceLE, Int.reduceLT, Int.reduceAdd, Int.reduceSub, Int.reduceMul, Int.cast_ofNat_Int, cast_zero_int, cast_one_int, Nat.reducePow, Nat.reduceEqDiff, Nat.reduceMod, Nat.zero_add, Nat.sub_zero, Nat.add_zero, n60, hWl, n6, hk, hk0, c1, c3, n3, n4, wB, pB, Int.toNat_natCast, show B.size - 1 ≤ B.size by omega]
          refine ⟨by omega, ?_⟩
          refine ⟨by kernel_rfl, (c_l1Read (B.extract 0 (B.size - 1)) (by rw [ByteArray.size_extract]; omega)).use (fun _ m => m) ?_⟩
          rintro _ _ ⟨⟨m2, b2, rfl, r2⟩, rfl⟩
          simp only [go_sem, Nat.reduceBEq, Nat.reduceAdd, Nat.reduceMul, Nat.reduceSub, Nat.reduceLeDiff, Nat.le_refl, implies_true, Nat.reduceLT, reduceIte, decide_true, decide_false, true_and, and_true, reduceCtorEq, Nat.mul_one, Int.reduceToNat, Int.reduceLE, Int.reduceLT, Int.reduceAdd, Int.reduceSub, Int.reduceMul, Int.cast_ofNat_Int, cast_zero_int, cast_one_int, Nat.reducePow, Nat.reduceEqDiff, Nat.reduceMod, Nat.zero_add, Nat.sub_zero, Nat.add_zero, n60, hWl, n6, hk, hk0, c1, c3, n3, n4]
          have know3 : ok = true → b1 = true ∧ b2 = true ∧ ∃ k v : Nat, x = (m1, m2, (k : Int), (v : Int)) ∧ (1 ≤ k ∧ k ≤ 4) ∧ v ≤ 100000 ∧ C = wordB k ∧ D = mkB (Lib.decDigits (v / 1000) ++ 46 :: dl3 (v % 1000)) := fun hok => by
            obtain ⟨a, n, k, v, e1, e2, e3, e4, e5, e6, e7, e8, e9⟩ := know2 hok
            rw [e6, ext_snoc] at r1
            rw [e7, ext_snoc] at r2
            obtain ⟨p1, p2⟩ := r1.1 a (by omega) rfl
            obtain ⟨p3, p4⟩ := r2.1 n (by omega) rfl
            exact ⟨p2, p4, k, v, by rw [e1, p1, p3], e4, e5, e8, e9⟩
          clear know2 r1 r2
          refine vLoop.count mo 4 (fun i e h' => ∃ (κ : Int) (u : Heap), e 0 = .string s ∧ e 2 = .pointer (some ⟨h.length, 0, none⟩) ∧ e 4 = .pointer (some ⟨h.length + 1, 0, none⟩) ∧ e 5 = .slice (some ⟨h.length + 2 + j, 0, none⟩) W.length 0 ∧ e 7 = .bool b1 ∧ e 9 = .bool b2 ∧
            e 10 = .pointer (some ⟨h.length + (t.length + 1 + 1), 0, none⟩) ∧ e 11 = .int .i64 (i + 1 : Nat) ∧
            h' = h ++ ⟨[.int .i64 0, .int .i64 0, .int .i64 0, .int .i64 0], 4, .rw⟩ :: ⟨[.int .i64 0, .int .i64 0, .int .i64 0, .int .i64 0], 4, .rw⟩ :: (t ++ ⟨[.int .i64 m1, .int .i64 m2, .int .i64 κ, .int .i64 0], 4, .rw⟩ :: u) ∧ (ok = true → κ = if x.2.2.1 ≤ i then x.2.2.1 else 0)) ?_ ?_
          · refine ⟨0, [], ?_⟩
            simp only [go_sem, Nat.reduceBEq, Nat.reduceAdd, Nat.reduceMul, Nat.reduceSub, Nat.reduceLeDiff, Nat.le_refl, implies_true, Nat.reduceLT, reduceIte, decide_true, decide_false, true_and, and_true, reduceCtorEq, Nat.mul_one, Int.reduceToNat, Int.reduceLE, Int.reduceLT, Int.reduceAdd, Int.reduceSub, Int.reduceMul, Int.cast_ofNat_Int, cast_zero_int, cast_one_int, Nat.reducePow, Nat.reduceEqDiff, Nat.reduceMod, Nat.zero_add, Nat.sub_zero, Nat.add_zero]
            intro hok
            obtain ⟨_, _, k, v, e1, e2, _⟩ := know3 hok
            rw [e1, if_neg]; dsimp only; omega
          · rintro i e _ hi ⟨κ, u, e0, e2, e4, e5, e7, e9, e10, e11, rfl, hκ⟩
            by_cases h4 : i < 4
            · have hz : ((i + 1 : Nat) : Int) ≤ 4 := by omega
              have wv := wordV_at (k := i + 1) (by omega)
              simp only [go_sem, Nat.reduceBEq, Nat.reduceAdd, Nat.reduceMul, Nat.reduceSub, Nat.reduceLeDiff, Nat.le_refl, implies_true, Nat.reduceLT, reduceIte, decide_true, decide_false, true_and, and_true, reduceCtorEq, Nat.mul_one, Int.reduceToNat, Int.reduceLE, Int.reduceLT, Int.reduceAdd, Int.reduceSub, Int.reduceMul, Int.cast_ofNat_Int, cast_zero_int, cast_one_int, Nat.reducePow, Nat.reduceEqDiff, Nat.reduceMod, Nat.zero_add, Nat.sub_zero, Nat.add_zero, e0, e2, e4, e5, e7, e9, e10, e11, hz]
              refine ⟨by kernel_rfl, (c_l23Words).use (fun _ m => m) ?_⟩
              rintro _ _ ⟨rfl, rfl⟩
              simp only [go_sem, Nat.reduceBEq, Nat.reduceAdd, Nat.reduceMul, Nat.reduceSub, Nat.reduceLeDiff, Nat.le_refl, implies_true, Nat.reduceLT, reduceIte, decide_true, decide_false, true_and, and_true, reduceCtorEq, Nat.mul_one, Int.reduceToNat, Int.reduceLE, Int.reduceLT, Int.reduceAdd, Int.reduceSub, Int.reduceMul, Int.cast_ofNat_Int, cast_zero_int, cast_one_int, Nat.reducePow, Nat.reduceEqDiff, Nat.reduceMod, Nat.zero_add, Nat.sub_zero, Nat.add_zero, e0, e2, e4, e5, e7, e9, e10, e11, hz, wv, show ((i + 1 : Nat) : Int) < 5 by omega, show (0 : Int) ≤ ((i + 1 : Nat) : Int) by omega, Int.toNat_natCast, hWl, hk, c4]
              by_cases hq : wordB (i + 1) = C
              · have q1 : ((wordB (i + 1)).toList == C.toList) = true := by rw [hq]; exact beq_self_eq_true _
                simp only [go_sem, Nat.reduceBEq, Nat.reduceAdd, Nat.reduceMul, Nat.reduceSub, Nat.reduceLeDiff, Nat.le_refl, implies_true, Nat.reduceLT, reduceIte, decide_true, decide_false, true_and, and_true, reduceCtorEq, Nat.mul_one, Int.reduceToNat, Int.reduceLE, Int.reduceLT, Int.reduceAdd, Int.reduceSub, Int.reduceMul, Int.cast_ofNat_Int, cast_zero_int, cast_one_int, Nat.reducePow, Nat.reduceEqDiff, Nat.reduceMod, Nat.zero_add, Nat.sub_zero, Nat.add_zero, e0, e2, e4, e5, e7, e9, e10, e11, q1]
                refine ⟨h4, ((i + 1 : Nat) : Int), _, by rw [wrap64 (by omega)]; rfl, rfl, fun hok => ?_⟩
                obtain ⟨_, _, k, v, e1, e2, _, e3, _⟩ := know3 hok
                rw [e3] at hq
                have := (wordB_eq (by omega) e2).1 hq
                rw [e1, if_pos (by dsimp only; omega), this]
              · have q1 : ((wordB (i + 1)).toList == C.toList) = false := by rw [toList_eq]; exact decide_eq_false hq
                simp only [go_sem, Nat.reduceBEq, Nat.reduceAdd, Nat.reduceMul, Nat.reduceSub, Nat.reduceLeDiff, Nat.le_refl, implies_true, Nat.reduceLT, reduceIte, decide_true, decide_false, true_and, and_true, reduceCtorEq, Nat.mul_one, Int.reduceToNat, Int.reduceLE, Int.reduceLT, Int.reduceAdd, Int.reduceSub, Int.reduceMul, Int.cast_ofNat_Int, cast_zero_int, cast_one_int, Nat.reducePow, Nat.reduceEqDiff, Nat.reduceMod, Nat.zero_add, Nat.sub_zero, Nat.add_zero, e0, e2, e4, e5, e7, e9, e10, e11, q1]
                refine ⟨h4, κ, _, by rw [wrap64 (by omega)]; rfl, rfl, fun hok => ?_⟩
                rw [hκ hok]
                obtain ⟨_, _, k, v, e1, e2, _, e3, _⟩ := know3 hok
                rw [e1]
                dsimp only
                have h3 : ((i + 1 : Nat) : Int) ≠ k := fun he => hq (by rw [e3]; congr 1; omega)
                by_cases h5 : (k : Int) ≤ (i : Int)
                · rw [if_pos h5, if_pos (by omega)]
                · rw [if_neg h5, if_neg (by omega)]
            · obtain rfl : i = 4 := by omega
              simp only [go_sem, Nat.reduceBEq, Nat.reduceAdd, Nat.reduceMul, Nat.reduceSub, Nat.reduceLeDiff, Nat.le_refl, implies_true, Nat.reduceLT, reduceIte, decide_true, decide_false, true_and, and_true, reduceCtorEq, Nat.mul_one, Int.reduceToNat, Int.reduceLE, Int.reduceLT, Int.reduceAdd, Int.reduceSub, Int.reduceMul, Int.cast_ofNat_Int, cast_zero_int, cast_one_int, Nat.reducePow, Nat.reduceEqDiff, Nat.reduceMod, Nat.zero_add, Nat.sub_zero, Nat.add_zero, e0, e2, e4, e5, e7, e9, e10, e11, hWl, hk, c5]
              by_cases g5 : 5 ≤ D.size
              · have wD : IntKind.i64.wrap ((D.size : Int) - 4) = ((D.size - 4 : Nat) : Int) := by rw [wrap64 (by omega)]; omega
                have n1 : ¬ (((D.size - 4 : Nat) : Int) < 1) := by omega
                cases b1
                · obtain ⟨rfl, rfl⟩ := hx.non fun hok => by cases (know3 hok).1
                  simp only [go_sem, Nat.reduceBEq, Nat.reduceAdd, Nat.reduceMul, Nat.reduceSub, Nat.reduceLeDiff, Nat.le_refl, implies_true, Nat.reduceLT, reduceIte, decide_true, decide_false, true_and, and_true, reduceCtorEq, Nat.mul_one, Int.reduceToNat, Int.reduceLE, Int.reduceLT, Int.reduceAdd, Int.reduceSub, Int.reduceMul, Int.cast_ofNat_Int, cast_zero_int, cast_one_int, Nat.reducePow, Nat.reduceEqDiff, Nat.reduceMod, Nat.zero_add, Nat.sub_zero, Nat.add_zero, e0, e2, e4, e5, e7, e9, e10, e11, hWl, hk, c5, wD, Bool.not_false]
                  rfl
                cases b2
                · obtain ⟨rfl, rfl⟩ := hx.non fun hok => by cases (know3 hok).2.1
                  simp only [go_sem, Nat.reduceBEq, Nat.reduceAdd, Nat.reduceMul, Nat.reduceSub, Nat.reduceLeDiff, Nat.le_refl, implies_true, Nat.reduceLT, reduceIte, decide_true, decide_false, true_and, and_true, reduceCtorEq, Nat.mul_one, Int.reduceToNat, Int.reduceLE, Int.reduceLT, Int.reduceAdd, Int.reduceSub, Int.reduceMul, Int.cast_ofNat_Int, cast_zero_int, cast_one_int, Nat.reducePow, Nat.reduceEqDiff, Nat.reduceMod, Nat.zero_add, Nat.sub_zero, Nat.add_zero, e0, e2, e4, e5, e7, e9, e10, e11, hWl, hk, c5, wD, Bool.not_false, Bool.not_true]
                  rfl
                simp only [go_sem, Nat.reduceBEq, Nat.reduceAdd, Nat.reduceMul, Nat.reduceSub, Nat.reduceLeDiff, Nat.le_refl, implies_true, Nat.reduceLT, reduceIte, decide_true, decide_false, true_and, and_true, reduceCtorEq, Nat.mul_one, Int.reduceToNat, Int.reduceLE, Int.reduceLT, Int.reduceAdd, Int.reduceSub, Int.reduceMul, Int.cast_ofNat_Int, cast_zero_int, cast_one_int, Nat.reducePow, Nat.reduceEqDiff, Nat.reduceMod, Nat.zero_add, Nat.sub_zero, Nat.add_zero, e0, e2, e4, e5, e7, e9, e10, e11, hWl, hk, c5, wD, Bool.not_false, Bool.not_true, n1, show (0 : Int) ≤ ((D.size - 4 : Nat) : Int) by omega, Int.toNat_natCast, show D.size - 4 ≤ D.size by omega]
                refine ⟨by omega, ?_⟩
                refine ⟨by kernel_rfl, (c_l1Read (D.extract 0 (D.size - 4)) (by rw [ByteArray.size_extract]; omega)).use (fun _ m => m) ?_⟩
                rintro _ _ ⟨⟨m3, b3, rfl, r3⟩, rfl⟩
                have wD2 : IntKind.i64.wrap (((D.size - 4 : Nat) : Int) + 1) = ((D.size - 3 + 0 : Nat) : Int) := by rw [wrap64 (by omega)]; omega
                simp only [go_sem, Nat.reduceBEq, Nat.reduceAdd, Nat.reduceMul, Nat.reduceSub, Nat.reduceLeDiff, Nat.le_refl, implies_true, Nat.reduceLT, reduceIte, decide_true, decide_false, true_and, and_true, reduceCtorEq, Nat.mul_one, Int.reduceToNat, Int.reduceLE, Int.reduceLT, Int.reduceAdd, Int.reduceSub, Int.reduceMul, Int.cast_ofNat_Int, cast_zero_int, cast_one_int, Nat.reducePow, Nat.reduceEqDiff, Nat.reduceMod, Nat.zero_add, Nat.sub_zero, Nat.add_zero, e0, e2, e4, e5, e7, e9, e10, e11, hWl, hk, c5, wD, Bool.not_false, Bool.not_true, n1, wD2]
                obtain ⟨L, hL⟩ : ∃ L, L = (bl D).drop (D.size - 3) := ⟨_, rfl⟩
                have lL : L.length = 3 := by rw [hL, List.length_drop, bl_len]; omega
                refine vLoop.count mo 3 (fun i e h' => e 0 = .string s ∧ e 2 = .pointer (some ⟨h.length, 0, none⟩) ∧ e 4 = .pointer (some ⟨h.length + 1, 0, none⟩) ∧ e 5 = .slice (some ⟨h.length + 2 + j, 0, none⟩) W.length 0 ∧
                  e 10 = .pointer (some ⟨h.length + (t.length + 1 + 1), 0, none⟩) ∧ e 13 = .int .i64 m3 ∧ e 14 = .bool b3 ∧ e 15 = .int .i64 (pv (L.take i)) ∧ e 16 = .int .i64 (D.size - 3 + i : Nat) ∧
                  h' = h ++ ⟨[.int .i64 0, .int .i64 0, .int .i64 0, .int .i64 0], 4, .rw⟩ :: ⟨[.int .i64 0, .int .i64 0, .int .i64 0, .int .i64 0], 4, .rw⟩ :: (t ++ ⟨[.int .i64 m1, .int .i64 m2, .int .i64 κ, .int .i64 0], 4, .rw⟩ :: u)) ?_ ?_
                · simp only [go_sem, Nat.reduceBEq, Nat.reduceAdd, Nat.reduceMul, Nat.reduceSub, Nat.reduceLeDiff, Nat.le_refl, implies_true, Nat.reduceLT, reduceIte, decide_true, decide_false, true_and, and_true, reduceCtorEq, Nat.mul_one, Int.reduceToNat, Int.reduceLE, Int.reduceLT, Int.reduceAdd, Int.reduceSub, Int.reduceMul, Int.cast_ofNat_Int, cast_zero_int, cast_one_int, Nat.reducePow, Nat.reduceEqDiff, Nat.reduceMod, Nat.zero_add, Nat.sub_zero, Nat.add_zero, e0, e2, e4, e5, e10]
                  rfl
                · rintro i e _ hi ⟨e0, e2, e4, e5, e10, e13, e14, e15, e16, rfl⟩
                  by_cases h3 : i < 3
                  · have hlt : D.size - 3 + i < D.size := by omega
                    have hz : ((D.size - 3 + i : Nat) : Int) < D.size := by omega
                    have hlt' : D.size - 3 + i < (bl D).length := by rw [bl_len]; exact hlt
                    have hb := bl_get hlt
                    have hLi : L[i]? = some (bl D)[D.size - 3 + i] := by rw [hL, List.getElem?_drop, List.getElem?_eq_getElem hlt']
                    obtain ⟨c, hce⟩ : ∃ c, c = (bl D)[D.size - 3 + i] := ⟨_, rfl⟩
                    rw [← hce] at hb hLi
                    have hc2 := c.toNat_lt
                    have tk : L.take (i + 1) = L.take i ++ [c] := by rw [List.take_add_one, hLi]; rfl
                    have pb := pv_bound (L.take i) (by rw [List.length_take]; omega)
                    have w1 : IntKind.i64.wrap (10 * pv (L.take i)) = 10 * pv (L.take i) := wrap64 (by omega)
                    have w2 : IntKind.i64.wrap (c.toNat : Int) = c.toNat := wrap64 (by omega)
                    have w3 : IntKind.i64.wrap (10 * pv (L.take i) + (c.toNat : Int)) = 10 * pv (L.take i) + c.toNat := wrap64 (by omega)
                    have w4 : IntKind.i64.wrap (10 * pv (L.take i) + (c.toNat : Int) - 48) = pv (L.take (i + 1)) := by rw [tk, pv_snoc]; exact wrap64 (by omega)
                    simp only [go_sem, Nat.reduceBEq, Nat.reduceAdd, Nat.reduceMul, Nat.reduceSub, Nat.reduceLeDiff, Nat.le_refl, implies_true, Nat.reduceLT, reduceIte, decide_true, decide_false, true_and, and_true, reduceCtorEq, Nat.mul_one, Int.reduceToNat, Int.reduceLE, Int.reduceLT, Int.reduceAdd, Int.reduceSub, Int.reduceMul, Int.cast_ofNat_Int, cast_zero_int, cast_one_int, Nat.reducePow, Nat.reduceEqDiff, Nat.reduceMod, Nat.zero_add, Nat.sub_zero, Nat.add_zero, e0, e2, e4, e5, e10, e13, e14, e15, e16, hWl, hk, c5, hz, hb, w1, w2, w3, w4]
                    exact ⟨h3, by rw [wrap64 (by omega)]; rfl⟩
                  · obtain rfl : i = 3 := by omega
                    rw [List.take_of_length_le (by omega)] at e15
                    have nz : ¬ (((D.size - 3 + 3 : Nat) : Int) < D.size) := by omega
                    obtain ⟨V, hV⟩ : ∃ V, V = IntKind.i64.wrap (IntKind.i64.wrap (1000 * m3) + pv L) := ⟨_, rfl⟩
                    have hall : ok = true → b3 = true ∧ ((m1, m2, κ, V) : Smp) = x := fun hok => by
                      obtain ⟨_, _, k, v, e1, q1, q2, _, q3⟩ := know3 hok
                      have zD : D.size = (Lib.decDigits (v / 1000)).length + 4 := by rw [q3, mkB_size, List.length_append]; rfl
                      have x1 : D.extract 0 (D.size - 4) = num (v / 1000) := bl_ext (by
                        rw [bl_extract, List.drop_zero, zD, Nat.add_sub_cancel, q3, bl_mkB, List.take_left']
                        · rfl
                        · rfl)
                      have x2 : L = dl3 (v % 1000) := by
                        rw [hL, zD, q3, bl_mkB, show (Lib.decDigits (v / 1000)).length + 4 - 3 = (Lib.decDigits (v / 1000)).length + 1 by omega, ← List.drop_drop, List.drop_left']
                        · rfl
                        · rfl
                      obtain ⟨x3, x4⟩ := r3.1 (v / 1000) (by omega) x1
                      refine ⟨x4, ?_⟩
                      rw [hV, x3, x2, pv_dl3 _ (by omega), wrap64 (show -9223372036854775808 ≤ 1000 * ((v / 1000 : Nat) : Int) ∧ 1000 * ((v / 1000 : Nat) : Int) ≤ 9223372036854775807 by omega), wrap64 (by omega), hκ hok, e1, if_pos (by dsimp only; omega)]
                      simp only [Prod.mk.injEq, true_and]
                      omega
                    clear know3
                    cases b3
                    · obtain ⟨rfl, rfl⟩ := hx.non fun hok => by cases (hall hok).1
                      simp only [go_sem, Nat.reduceBEq, Nat.reduceAdd, Nat.reduceMul, Nat.reduceSub, Nat.reduceLeDiff, Nat.le_refl, implies_true, Nat.reduceLT, reduceIte, decide_true, decide_false, true_and, and_true, reduceCtorEq, Nat.mul_one, Int.reduceToNat, Int.reduceLE, Int.reduceLT, Int.reduceAdd, Int.reduceSub, Int.reduceMul, Int.cast_ofNat_Int, cast_zero_int, cast_one_int, Nat.reducePow, Nat.reduceEqDiff, Nat.reduceMod, Nat.zero_add, Nat.sub_zero, Nat.add_zero, e0, e2, e4, e5, e10, e13, e14, e15, e16, hWl, hk, c5, nz, ← hV, Bool.not_false]
                      rfl
                    · have hy := fun hok => (hall hok).2
                      simp only [go_sem, Nat.reduceBEq, Nat.reduceAdd, Nat.reduceMul, Nat.reduceSub, Nat.reduceLeDiff, Nat.le_refl, implies_true, Nat.reduceLT, reduceIte, decide_true, decide_false, true_and, and_true, reduceCtorEq, Nat.mul_one, Int.reduceToNat, Int.reduceLE, Int.reduceLT, Int.reduceAdd, Int.reduceSub, Int.reduceMul, Int.cast_ofNat_Int, cast_zero_int, cast_one_int, Nat.reducePow, Nat.reduceEqDiff, Nat.reduceMod, Nat.zero_add, Nat.sub_zero, Nat.add_zero, e0, e2, e4, e5, e10, e13, e14, e15, e16, hWl, hk, c5, nz, ← hV, Bool.not_true]
                      refine ⟨by kernel_rfl, (c_l23One ((m1, m2, κ, V) : Smp)).use (fun _ m => m) ?_⟩
                      rintro _ _ ⟨rfl, ⟨t3, rfl⟩⟩
                      by_cases v1 : smpOk ((m1, m2, κ, V) : Smp)
                      · simp only [go_sem, Nat.reduceBEq, Nat.reduceAdd, Nat.reduceMul, Nat.reduceSub, Nat.reduceLeDiff, Nat.le_refl, implies_true, Nat.reduceLT, reduceIte, decide_true, decide_false, true_and, and_true, reduceCtorEq, Nat.mul_one, Int.reduceToNat, Int.reduceLE, Int.reduceLT, Int.reduceAdd, Int.reduceSub, Int.reduceMul, Int.cast_ofNat_Int, cast_zero_int, cast_one_int, Nat.reducePow, Nat.reduceEqDiff, Nat.reduceMod, Nat.zero_add, Nat.sub_zero, Nat.add_zero, e0, e2, e4, e10, decbS v1, Bool.not_true]
                        refine ⟨by kernel_rfl, (c_l23TextI ((m1, m2, κ, V) : Smp) v1).use (fun _ m => m) ?_⟩
                        rintro _ _ ⟨rfl, ⟨t4, rfl⟩⟩
                        by_cases v2 : smpB ((m1, m2, κ, V) : Smp) = s
                        · obtain ⟨rfl, rfl⟩ := hx.yes hy ⟨v1, v2⟩
                          have v3 : ((smpB ((m1, m2, κ, V) : Smp)).toList == s.toList) = true := by rw [v2]; exact beq_self_eq_true _
                          simp only [go_sem, Nat.reduceBEq, Nat.reduceAdd, Nat.reduceMul, Nat.reduceSub, Nat.reduceLeDiff, Nat.le_refl, implies_true, Nat.reduceLT, reduceIte, decide_true, decide_false, true_and, and_true, reduceCtorEq, Nat.mul_one, Int.reduceToNat, Int.reduceLE, Int.reduceLT, Int.reduceAdd, Int.reduceSub, Int.reduceMul, Int.cast_ofNat_Int, cast_zero_int, cast_one_int, Nat.reducePow, Nat.reduceEqDiff, Nat.reduceMod, Nat.zero_add, Nat.sub_zero, Nat.add_zero, e0, e2, e4, e10, decbS v1, v3, Bool.not_true]
                          rfl
                        · obtain ⟨rfl, rfl⟩ := hx.no hy (fun h => v2 h.2)
                          have v3 : ((smpB ((m1, m2, κ, V) : Smp)).toList == s.toList) = false := by rw [toList_eq]; exact decide_eq_false v2
                          simp only [go_sem, Nat.reduceBEq, Nat.reduceAdd, Nat.reduceMul, Nat.reduceSub, Nat.reduceLeDiff, Nat.le_refl, implies_true, Nat.reduceLT, reduceIte, decide_true, decide_false, true_and, and_true, reduceCtorEq, Nat.mul_one, Int.reduceToNat, Int.reduceLE, Int.reduceLT, Int.reduceAdd, Int.reduceSub, Int.reduceMul, Int.cast_ofNat_Int, cast_zero_int, cast_one_int, Nat.reducePow, Nat.reduceEqDiff, Nat.reduceMod, Nat.zero_add, Nat.sub_zero, Nat.add_zero, e0, e2, e4, e10, decbS v1, v3, Bool.not_false, Bool.not_true]
                          rfl
                      · obtain ⟨rfl, rfl⟩ := hx.no hy (fun h => v1 h.1)
                        simp only [go_sem, Nat.reduceBEq, Nat.reduceAdd, Nat.reduceMul, Nat.reduceSub, Nat.reduceLeDiff, Nat.le_refl, implies_true, Nat.reduceLT, reduceIte, decide_true, decide_false, true_and, and_true, reduceCtorEq, Nat.mul_one, Int.reduceToNat, Int.reduceLE, Int.reduceLT, Int.reduceAdd, Int.reduceSub, Int.reduceMul, Int.cast_ofNat_Int, cast_zero_int, cast_one_int, Nat.reducePow, Nat.reduceEqDiff, Nat.reduceMod, Nat.zero_add, Nat.sub_zero, Nat.add_zero, e0, e2, e4, e10, dectS v1, Bool.not_false, Bool.not_true]
                        rfl
              · have wD : IntKind.i64.wrap ((D.size : Int) - 4) < 1 := by rw [wrap64 (by omega)]; omega
                obtain ⟨rfl, rfl⟩ := hx.non fun hok => by
                  obtain ⟨_, _, k, v, _, _, _, _, e3⟩ := know3 hok
                  obtain ⟨_, _, hd⟩ := dec_pos (v / 1000)
                  exact g5 (by rw [e3, mkB_size, hd]; simp [dl3])
                cases b1
                · simp only [go_sem, Nat.reduceBEq, Nat.reduceAdd, Nat.reduceMul, Nat.reduceSub, Nat.reduceLeDiff, Nat.le_refl, implies_true, Nat.reduceLT, reduceIte, decide_true, decide_false, true_and, and_true, reduceCtorEq, Nat.mul_one, Int.reduceToNat, Int.reduceLE, Int.reduceLT, Int.reduceAdd, Int.reduceSub, Int.reduceMul, Int.cast_ofNat_Int, cast_zero_int, cast_one_int, Nat.reducePow, Nat.reduceEqDiff, Nat.reduceMod, Nat.zero_add, Nat.sub_zero, Nat.add_zero, e0, e2, e4, e5, e7, e9, e10, e11, hWl, hk, c5, wD, Bool.not_false]
                  rfl
                cases b2
                · simp only [go_sem, Nat.reduceBEq, Nat.reduceAdd, Nat.reduceMul, Nat.reduceSub, Nat.reduceLeDiff, Nat.le_refl, implies_true, Nat.reduceLT, reduceIte, decide_true, decide_false, true_and, and_true, reduceCtorEq, Nat.mul_one, Int.reduceToNat, Int.reduceLE, Int.reduceLT, Int.reduceAdd, Int.reduceSub, Int.reduceMul, Int.cast_ofNat_Int, cast_zero_int, cast_one_int, Nat.reducePow, Nat.reduceEqDiff, Nat.reduceMod, Nat.zero_add, Nat.sub_zero, Nat.add_zero, e0, e2, e4, e5, e7, e9, e10, e11, hWl, hk, c5, wD, Bool.not_false, Bool.not_true]
                  rfl
                simp only [go_sem, Nat.reduceBEq, Nat.reduceAdd, Nat.reduceMul, Nat.reduceSub, Nat.reduceLeDiff, Nat.le_refl, implies_true, Nat.reduceLT, reduceIte, decide_true, decide_false, true_and, and_true, reduceCtorEq, Nat.mul_one, Int.reduceToNat, Int.reduceLE, Int.reduceLT, Int.reduceAdd, Int.reduceSub, Int.reduceMul, Int.cast_ofNat_Int, cast_zero_int, cast_one_int, Nat.reducePow, Nat.reduceEqDiff, Nat.reduceMod, Nat.zero_add, Nat.sub_zero, Nat.add_zero, e0, e2, e4, e5, e7, e9, e10, e11, hWl, hk, c5, wD, Bool.not_false, Bool.not_true]
                rfl
        · obtain ⟨rfl, rfl⟩ := hx.non fun hok => by
            obtain ⟨a, n, k, v, _, _, _, _, _, _, e2, _⟩ := know2 hok
            obtain ⟨_, _, hd⟩ := dec_pos n
            exact g4 (by rw [e2, mkB_size, hd]; simp)
          simp only [go_sem, Nat.reduceBEq, Nat.reduceAdd, Nat.reduceMul, Nat.reduceSub, Nat.reduceLeDiff, Nat.le_refl, implies_true, Nat.reduceLT, reduceIte, decide_true, decide_false, true_and, and_true, reduceCtorEq, Nat.mul_one, Int.reduceToNat, Int.reduceLE, Int.reduceLT, Int.reduceAdd, Int.reduceSub, Int.reduceMul, Int.cast_ofNat_Int, cast_zero_int, cast_one_int, Nat.reducePow, Nat.reduceEqDiff, Nat.reduceMod, Nat.zero_add, Nat.sub_zero, Nat.add_zero, n60, hWl, n6, hk, hk0, c1, c3, n3, show (B.size : Int) < 2 by omega]
          rfl
      · obtain ⟨rfl, rfl⟩ := hx.non fun hok => by
          obtain ⟨a, n, k, v, _, _, _, _, _, e2, _⟩ := know2 hok
          obtain ⟨_, _, hd⟩ := dec_pos a
          exact g3 (by rw [e2, mkB_size, hd]; simp)
        simp only [go_sem, Nat.reduceBEq, Nat.reduceAdd, Nat.reduceMul, Nat.reduceSub, Nat.reduceLeDiff, Nat.le_refl, implies_true, Nat.reduceLT, reduceIte, decide_true, decide_false, true_and, and_true, reduceCtorEq, Nat.mul_one, Int.reduceToNat, Int.reduceLE, Int.reduceLT, Int.reduceAdd, Int.reduceSub, Int.reduceMul, Int.cast_ofNat_Int, cast_zero_int, cast_one_int, Nat.reducePow, Nat.reduceEqDiff, Nat.reduceMod, Nat.zero_add, Nat.sub_zero, Nat.add_zero, n60, hWl, n6, hk, hk0, c1, show (A.size : Int) < 2 by omega]
        rfl
    · obtain ⟨rfl, rfl⟩ := hx.non fun hok => by
        obtain ⟨_, a, n, k, v, _, _, _, _, _, e6⟩ := known hok
        exact g2 (by rw [e6]; rfl)
      simp only [go_sem, Nat.reduceBEq, Nat.reduceAdd, Nat.reduceMul, Nat.reduceSub, Nat.reduceLeDiff, Nat.le_refl, implies_true, Nat.reduceLT, reduceIte, decide_true, decide_false, true_and, and_true, reduceCtorEq, Nat.mul_one, Int.reduceToNat, Int.reduceLE, Int.reduceLT, Int.reduceAdd, Int.reduceSub, Int.reduceMul, Int.cast_ofNat_Int, cast_zero_int, cast_one_int, Nat.reducePow, Nat.reduceEqDiff, Nat.reduceMod, Nat.zero_add, Nat.sub_zero, Nat.add_zero, n60, show ((W.length : Int) != 6) = true from by rw [bne_iff_ne]; omega]
      rfl
  · obtain ⟨rfl, rfl⟩ := hx.non fun hok => g1 (known hok).1
    simp only [go_sem, Nat.reduceBEq, Nat.reduceAdd, Nat.reduceMul, Nat.reduceSub, Nat.reduceLeDiff, Nat.le_refl, implies_true, Nat.reduceLT, reduceIte, decide_true, decide_false, true_and, and_true, reduceCtorEq, Nat.mul_one, Int.reduceToNat, Int.reduceLE, Int.reduceLT, Int.reduceAdd, Int.reduceSub, Int.reduceMul, Int.cast_ofNat_Int, cast_zero_int, cast_one_int, Nat.reducePow, Nat.reduceEqDiff, Nat.reduceMod, Nat.zero_add, Nat.sub_zero, Nat.add_zero, show (60 : Int) < s.size by omega]
    rfl
theorem l_ParseSample (pw : SmpAt glGA h) (mx : MaxAt glGA h) (s : ByteArray) (hs : s.size ≤ 9223372036854775807) : vCall glGA Tryd.prog M 6 [.string s] h (fun r h' => r = .bool true) := by
  obtain ⟨ok, x, hx⟩ := IsPM.ex s
  refine body_of mo Tryd.func6 rfl (by kernel_rfl) (Nat.le_of_ble_eq_true (by kernel_rfl)) rfl ?_
  by_cases h1 : (1048576 : Int) < s.size
  · simp only [go_sem, Nat.reduceBEq, Nat.reduceAdd, Nat.reduceMul, Nat.reduceSub, Nat.reduceLeDiff, Nat.le_refl, implies_true, Nat.reduceLT, reduceIte, decide_true, decide_false, true_and, and_true, reduceCtorEq, Nat.mul_one, Int.reduceToNat, Int.reduceLE, Int.reduceLT, Int.reduceAdd, Int.reduceSub, Int.reduceMul, Int.cast_ofNat_Int, cast_zero_int, cast_one_int, Nat.reducePow, Nat.reduceEqDiff, Nat.reduceMod, Nat.zero_add, Nat.sub_zero, Nat.add_zero, h1]
  · simp only [go_sem, Nat.reduceBEq, Nat.reduceAdd, Nat.reduceMul, Nat.reduceSub, Nat.reduceLeDiff, Nat.le_refl, implies_true, Nat.reduceLT, reduceIte, decide_true, decide_false, true_and, and_true, reduceCtorEq, Nat.mul_one, Int.reduceToNat, Int.reduceLE, Int.reduceLT, Int.reduceAdd, Int.reduceSub, Int.reduceMul, Int.cast_ofNat_Int, cast_zero_int, cast_one_int, Nat.reducePow, Nat.reduceEqDiff, Nat.reduceMod, Nat.zero_add, Nat.sub_zero, Nat.add_zero, h1]
    refine ⟨by kernel_rfl, ((c_sParseSample s ok x (by omega) hx).addG).use (fun _ m => m) ?_⟩
    rintro _ _ ⟨rfl, ⟨t1, rfl⟩⟩
    simp only [go_sem, Nat.reduceBEq, Nat.reduceAdd, Nat.reduceMul, Nat.reduceSub, Nat.reduceLeDiff, Nat.le_refl, implies_true, Nat.reduceLT, reduceIte, decide_true, decide_false, true_and, and_true, reduceCtorEq, Nat.mul_one, Int.reduceToNat, Int.reduceLE, Int.reduceLT, Int.reduceAdd, Int.reduceSub, Int.reduceMul, Int.cast_ofNat_Int, cast_zero_int, cast_one_int, Nat.reducePow, Nat.reduceEqDiff, Nat.reduceMod, Nat.zero_add, Nat.sub_zero, Nat.add_zero, sag]
    refine ⟨by kernel_rfl, (c_ParseSample (pw.mono (by simp)) (mx.mono (by simp)) s ok x (by omega) hx).use (fun _ m => m) ?_⟩
    rintro _ _ ⟨rfl, ⟨t2, rfl⟩⟩
    simp only [go_sem, Nat.reduceBEq, Nat.reduceAdd, Nat.reduceMul, Nat.reduceSub, Nat.reduceLeDiff, Nat.le_refl, implies_true, Nat.reduceLT, reduceIte, decide_true, decide_false, true_and, and_true, reduceCtorEq, Nat.mul_one, Int.reduceToNat, Int.reduceLE, Int.reduceLT, Int.reduceAdd, Int.reduceSub, Int.reduceMul, Int.cast_ofNat_Int, cast_zero_int, cast_one_int, Nat.reducePow, Nat.reduceEqDiff, Nat.reduceMod, Nat.zero_add, Nat.sub_zero, Nat.add_zero, sag]
    refine ⟨by kernel_rfl, ((c_eqSample x x).addG).use (fun _ m => m) ?_⟩
    rintro _ _ ⟨rfl, ⟨t5, rfl⟩⟩
    simp only [go_sem, Nat.reduceBEq, Nat.reduceAdd, Nat.reduceMul, Nat.reduceSub, Nat.reduceLeDiff, Nat.le_refl, implies_true, Nat.reduceLT, reduceIte, decide_true, decide_false, true_and, and_true, reduceCtorEq, Nat.mul_one, Int.reduceToNat, Int.reduceLE, Int.reduceLT, Int.reduceAdd, Int.reduceSub, Int.reduceMul, Int.cast_ofNat_Int, cast_zero_int, cast_one_int, Nat.reducePow, Nat.reduceEqDiff, Nat.reduceMod, Nat.zero_add, Nat.sub_zero, Nat.add_zero, bne_self_eq_false, Bool.not_true]
end
theorem a_FnExactParseSample (m : Int) (h : Heap) (a : List Value) (hp : glHA m <+: h) (ft : FitsAll h [.str] a) : vCall glGA Tryd.prog (fun _ => False) 6 a h (fun r _ => r = .bool true) := by
  obtain ⟨v, vs, rfl, f, g⟩ := ft.cons
  obtain rfl := g.nil
  obtain ⟨s, hse, hs⟩ := f
  obtain rfl : v = .string s := by simpa using hse
  obtain ⟨p, q⟩ := glHA_at hp
  exact l_ParseSample p q s (Nat.le_trans hs (by decide))
theorem glob_metA {W : World} (h : laidMetH Tryd.prog Rows.fnExactParseSampleRow.laid W) (hs : W.ShapedOpen Tryd.prog) : ∃ m, HRel glGA (globP (glLA m) glNA) (glHA m) W ∧ allRo (glHA m) := by
  rw [MakeChecks.laidMetH_plain _ _ _ (by kernel_rfl)] at h
  have h3 : laidMet Tryd.prog ((_, Lib.tabData .u64 Lib.pow10Tab) :: _) W := laidMet.tail (laidMet.tail h)
  have t := Lib.tabIs_of_head (g := 2) (t := 138) (e := 74) (n := 20) (by kernel_rfl) (by kernel_rfl) (by kernel_rfl) (by kernel_rfl) (by kernel_rfl) (by kernel_rfl) h3
  obtain ⟨ps, ⟨g', t', cs, fuel, p, q, hg', ht', hvar, hd, _, _⟩, _⟩ : laidMet Tryd.prog ((_, .agg (wordL.map fun z => .lit (.string z))) :: []) W := laidMet.tail h3
  obtain rfl : 0 = g' := Option.some.inj ((show Tryd.prog.globalNamed _ = some 0 by kernel_rfl).symm.trans hg')
  obtain rfl : 93 = t' := Option.some.inj ((show (Tryd.prog.globals[0]?).map (·.type) = some 93 by kernel_rfl).symm.trans ht')
  have hcs := cells_of_strs (n := 5) (e := 9) (by kernel_rfl) (by kernel_rfl) (by kernel_rfl) (by kernel_rfl) hd
  obtain rfl : cs = wordV.toArray := by rw [show wordV = cs.toList from hcs.symm, Array.toArray_toList]
  obtain ⟨m, hm⟩ := max_met hs
  refine ⟨m, ?_⟩
  rw [← globGA m]
  refine glob_rel ?_ ?_
  · intro x hx
    simp only [glLA, List.mem_cons, List.not_mem_nil, or_false] at hx
    rcases hx with rfl | rfl | rfl <;> exact ⟨Nat.le_of_ble_eq_true rfl, rfl⟩
  · intro i l e
    unfold glLA at e
    rw [List.lookup_cons] at e
    split at e
    · rename_i hi
      obtain rfl : i = 2 := by simpa using hi
      cases e
      exact ⟨powV_plain, var_cells (by kernel_rfl) t⟩
    · rw [List.lookup_cons] at e
      split at e
      · rename_i hi
        obtain rfl : i = 0 := by simpa using hi
        cases e
        exact ⟨wordV_plain, var_cells (by kernel_rfl) hvar⟩
      · rw [List.lookup_cons] at e
        split at e
        · rename_i hi
          obtain rfl : i = 1 := by simpa using hi
          cases e
          exact ⟨fun v hv => by rw [List.mem_singleton.1 hv]; exact .int _ _, hm⟩
        · simp at e
end Go.Proofs.YtkogddiefniihabDoor
