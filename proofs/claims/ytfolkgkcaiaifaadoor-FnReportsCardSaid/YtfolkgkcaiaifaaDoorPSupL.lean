
/- The law about a supply read from its sentence. No condition. -/
import Derived.Test.YtfolkgkcaiaifaaDoorPSup
import Derived.Test.YtfolkgkcaiaifaaDoorSupplies
import Derived.Test.YtfolkgkcaiaifaaDoorH3
namespace Go.Proofs.YtfolkgkcaiaifaaDoor
open Go.HH Go.Proofs
set_option linter.unusedSimpArgs false
set_option linter.unusedVariables false

theorem num_noth {n : Int} {b : Bool} (h : ReadsN (mkB pNoth) n b) : n = 0 := by
  cases b
  · exact h.2.2 rfl
  · have := h.2.1 rfl 110 (by decide)
    cases this
theorem spl_le (b : UInt8) : ∀ (l : BL) (A : List BL) (c : BL) (K : Nat), (∀ w ∈ A, w.length ≤ K) → c.length ≤ K → (∀ w ∈ (l.foldl (spl b) (A, c)).1, w.length ≤ K + l.length) ∧ (l.foldl (spl b) (A, c)).2.length ≤ K + l.length
  | [], A, c, K, hA, hc => ⟨fun w hw => by have := hA w hw; simpa using this, by simpa using hc⟩
  | x :: r, A, c, K, hA, hc => by
    rw [List.foldl_cons, List.length_cons]
    by_cases hx : x = b
    · rw [show spl b (A, c) x = (A ++ [c], []) by rw [spl, if_pos hx]]
      have := spl_le b r (A ++ [c]) [] (K + 1) (fun w hw => by
        rcases List.mem_append.1 hw with h | h
        · have := hA w h; omega
        · rw [List.mem_singleton.1 h]; omega) (by simp)
      rwa [show K + 1 + r.length = K + (r.length + 1) by omega] at this
    · rw [show spl b (A, c) x = (A, c ++ [x]) by rw [spl, if_neg hx]]
      have := spl_le b r A (c ++ [x]) (K + 1) (fun w hw => by have := hA w hw; omega) (by rw [List.length_append, List.length_singleton]; omega)
      rwa [show K + 1 + r.length = K + (r.length + 1) by omega] at this
theorem splitL_le {l : BL} {b : UInt8} {w : BL} (hw : w ∈ splitL l b) : w.length ≤ l.length := by
  obtain ⟨h1, h2⟩ := spl_le b l [] [] 0 (fun w hw => by cases hw) (Nat.le_refl 0)
  rw [Nat.zero_add] at h1 h2
  rcases List.mem_append.1 hw with h | h
  · exact h1 w h
  · rw [List.mem_singleton.1 h]; exact h2
theorem sup60 {a b c : Nat} (ha : a ≤ 8) (hb : b ≤ c) (hc : c ≤ 1000) : (supS a b c).size ≤ 60 := by
  have z1 := num_size 1 a (by omega) (by omega)
  have z2 := num_size 4 b (by omega) (by omega)
  have z3 := num_size 4 c (by omega) (by omega)
  have e1 : tNode.size = 5 := rfl
  have e2 : tGot.size = 5 := rfl
  have e3 : tLit.size = 19 := rfl
  have e4 : (supMid b c).size ≤ 11 := by
    have e5 : tOf.size = 4 := rfl
    unfold supMid
    split
    · decide
    · split
      · exact Nat.le_refl 11
      · rw [ByteArray.size_append]; omega
  simp only [supS, ByteArray.size_append]
  omega
theorem hget_sk2 {h u : Heap} {x y : Blk} {j : Nat} : hget (h ++ x :: y :: u) (h.length + 2 + j) = u[j]? := by
  rw [Nat.add_assoc, hget_app, Nat.add_comm 2 j]; rfl
theorem IsPS.non {s : ByteArray} {ok : Bool} {x : Int × Int × Int} (h : IsPS s ok x) (g : ¬ ok = true) : ok = false ∧ x = (0, 0, 0) := by
  rcases h with ⟨h1, _⟩ | ⟨h1, h2, _⟩
  · exact absurd h1 g
  · exact ⟨h1, h2⟩
theorem strsV_at {W : List BL} {i : Nat} (h : i < W.length) : (strsV W)[i]? = some (.string (mkB W[i])) := by rw [strsV, List.getElem?_map, List.getElem?_eq_getElem h]; rfl
theorem dec_mk (n : Nat) : mkB (Lib.decDigits n) = num n := rfl

section
variable {h : Heap} {M : Nat → Prop}
set_option maxRecDepth 20000 in
theorem c_sParseSupply (s : ByteArray) (ok : Bool) (x : Int × Int × Int) (hs : s.size ≤ 10000000) (hx : IsPS s ok x) : vCall [] Tryd.prog M 17 [.string s] h (fun r h' => r = .tuple #[ag3 x, .bool ok] ∧ h <+: h') := by
  refine body_of mo Tryd.func17 rfl (by kernel_rfl) (Nat.le_of_ble_eq_true (by kernel_rfl)) rfl ?_
  simp only [go_sem, Nat.reduceBEq, Nat.reduceAdd, Nat.reduceMul, Nat.reduceSub, Nat.reduceLeDiff, Nat.le_refl, implies_true, Nat.reduceLT, reduceIte, decide_true, decide_false, true_and, and_true, reduceCtorEq, Nat.mul_one, Int.reduceToNat, Int.reduceLE, Int.reduceLT, Int.reduceAdd, Int.reduceSub, Int.reduceMul, Int.cast_ofNat_Int, cast_zero_int, cast_one_int, Nat.reducePow, Nat.reduceEqDiff, Nat.reduceMod, Nat.zero_add, Nat.sub_zero, Nat.add_zero]
  refine ⟨by kernel_rfl, (c_l1Split s 32 hs).use (fun _ m => m) ?_⟩
  rintro _ _ ⟨t, j, rfl, rfl, hj⟩
  obtain ⟨W, hW⟩ : ∃ W, W = splitL (bl s) 32 := ⟨_, rfl⟩
  rw [← hW] at hj
  rw [← hW]
  have zW : ∀ w ∈ W, (mkB w).size ≤ 10000000 := fun w hw => by
    rw [hW] at hw
    have := splitL_le hw
    rw [mkB_size]; rw [bl_len] at this; omega
  have known : ok = true → s.size ≤ 60 ∧ ∃ a b c : Nat, x = ((a : Int), (b : Int), (c : Int)) ∧ a ≤ 8 ∧ b ≤ c ∧ c ≤ 1000 ∧ W = supW a b c := fun hok => by
    obtain ⟨a, b, c, e1, e2, e3, e4, e5⟩ := hx.nat hok
    refine ⟨by rw [e5]; exact sup60 e2 e3 e4, a, b, c, e1, e2, e3, e4, ?_⟩
    rw [hW, e5, sup_split]
  have shut : ¬ (s.size ≤ 60 ∧ (W.length = 8 ∨ W.length = 9)) → ok = false ∧ x = (0, 0, 0) := fun g => by
    rcases hx with ⟨h1, _⟩ | ⟨h1, h2, _⟩
    · obtain ⟨k1, a, b, c, _, _, _, _, k2⟩ := known h1
      refine absurd ⟨k1, ?_⟩ g
      rw [k2, supW]
      split
      · exact .inl rfl
      · split
        · exact .inr rfl
        · exact .inr rfl
    · exact ⟨h1, h2⟩
  clear hW
  by_cases g1 : s.size ≤ 60
  · have n60 : ¬ (60 : Int) < s.size := by omega
    have hk0 : hget (h ++ ⟨[.int .i64 0, .int .i64 0, .int .i64 0], 3, .rw⟩ :: ⟨[.int .i64 0, .int .i64 0, .int .i64 0], 3, .rw⟩ :: t) (h.length + 2 + j) = some ⟨strsV W, 1, .rw⟩ := (hget_sk2 (u := t)).trans hj
    have hk : ∀ u, hget (h ++ ⟨[.int .i64 0, .int .i64 0, .int .i64 0], 3, .rw⟩ :: ⟨[.int .i64 0, .int .i64 0, .int .i64 0], 3, .rw⟩ :: (t ++ u)) (h.length + 2 + j) = some ⟨strsV W, 1, .rw⟩ := fun u => hget_sk2.trans (by rw [List.getElem?_append_left (List.getElem?_eq_some_iff.1 hj).1]; exact hj)
    by_cases g2 : W.length = 8
    · have hWl : (W.length : Int) = 8 := by omega
      have i1 : 1 < W.length := by omega
      have i4 : 4 < W.length := by omega
      have c1 := strsV_at i1
      have c4 := strsV_at i4
      simp only [go_sem, Nat.reduceBEq, Nat.reduceAdd, Nat.reduceMul, Nat.reduceSub, Nat.reduceLeDiff, Nat.le_refl, implies_true, Nat.reduceLT, reduceIte, decide_true, decide_false, true_and, and_true, reduceCtorEq, Nat.mul_one, Int.reduceToNat, Int.reduceLE, Int.reduceLT, Int.reduceAdd, Int.reduceSub, Int.reduceMul, Int.cast_ofNat_Int, cast_zero_int, cast_one_int, Nat.reducePow, Nat.reduceEqDiff, Nat.reduceMod, Nat.zero_add, Nat.sub_zero, Nat.add_zero, n60, hWl, hk, hk0, c1, c4, g2, show IntKind.i64.wrap 4 = 4 from rfl, show ((8 : Int) == 9) = false from rfl]
      refine ⟨by kernel_rfl, (c_l1Read _ (zW _ (List.getElem_mem _))).use (fun _ m => m) ?_⟩
      rintro _ _ ⟨⟨n1, b1, rfl, r1⟩, rfl⟩
      simp only [go_sem, Nat.reduceBEq, Nat.reduceAdd, Nat.reduceMul, Nat.reduceSub, Nat.reduceLeDiff, Nat.le_refl, implies_true, Nat.reduceLT, reduceIte, decide_true, decide_false, true_and, and_true, reduceCtorEq, Nat.mul_one, Int.reduceToNat, Int.reduceLE, Int.reduceLT, Int.reduceAdd, Int.reduceSub, Int.reduceMul, Int.cast_ofNat_Int, cast_zero_int, cast_one_int, Nat.reducePow, Nat.reduceEqDiff, Nat.reduceMod, Nat.zero_add, Nat.sub_zero, Nat.add_zero, n60, hWl, hk, hk0, c1, c4, g2, show IntKind.i64.wrap 4 = 4 from rfl, show ((8 : Int) == 9) = false from rfl]
      refine ⟨by kernel_rfl, (c_l1Read _ (zW _ (List.getElem_mem _))).use (fun _ m => m) ?_⟩
      rintro _ _ ⟨⟨n2, b2, rfl, r2⟩, rfl⟩
      simp only [go_sem, Nat.reduceBEq, Nat.reduceAdd, Nat.reduceMul, Nat.reduceSub, Nat.reduceLeDiff, Nat.le_refl, implies_true, Nat.reduceLT, reduceIte, decide_true, decide_false, true_and, and_true, reduceCtorEq, Nat.mul_one, Int.reduceToNat, Int.reduceLE, Int.reduceLT, Int.reduceAdd, Int.reduceSub, Int.reduceMul, Int.cast_ofNat_Int, cast_zero_int, cast_one_int, Nat.reducePow, Nat.reduceEqDiff, Nat.reduceMod, Nat.zero_add, Nat.sub_zero, Nat.add_zero, n60, hWl, hk, hk0, c1, c4, g2, show IntKind.i64.wrap 4 = 4 from rfl, show ((8 : Int) == 9) = false from rfl]
      have hall : ok = true → (b1 = true ∧ b2 = true) ∧ ((n1, n2, n2) : Int × Int × Int) = x := fun hok => by
        obtain ⟨_, a, b, c, e1, e2, e3, e4, e5⟩ := known hok
        subst e5
        unfold supW at *
        split at g2
        · rename_i h1
          simp only [h1, if_true] at r1 r2
          obtain ⟨p1, p2⟩ := r1.1 a (by omega) rfl
          obtain ⟨p3, p4⟩ := r2.1 c (by omega) rfl
          exact ⟨⟨p2, p4⟩, by rw [e1, p1, p3, h1]⟩
        · split at g2 <;> cases g2
      clear known shut
      cases b1
      · obtain ⟨rfl, rfl⟩ := hx.non (fun hok => by have := (hall hok).1.1; cases this)
        simp only [go_sem, Nat.reduceBEq, Nat.reduceAdd, Nat.reduceMul, Nat.reduceSub, Nat.reduceLeDiff, Nat.le_refl, implies_true, Nat.reduceLT, reduceIte, decide_true, decide_false, true_and, and_true, reduceCtorEq, Nat.mul_one, Int.reduceToNat, Int.reduceLE, Int.reduceLT, Int.reduceAdd, Int.reduceSub, Int.reduceMul, Int.cast_ofNat_Int, cast_zero_int, cast_one_int, Nat.reducePow, Nat.reduceEqDiff, Nat.reduceMod, Nat.zero_add, Nat.sub_zero, Nat.add_zero, n60, hWl, hk, hk0, c1, c4, g2, show IntKind.i64.wrap 4 = 4 from rfl, show ((8 : Int) == 9) = false from rfl, Bool.not_false]
        rfl
      · cases b2
        · obtain ⟨rfl, rfl⟩ := hx.non (fun hok => by have := (hall hok).1.2; cases this)
          simp only [go_sem, Nat.reduceBEq, Nat.reduceAdd, Nat.reduceMul, Nat.reduceSub, Nat.reduceLeDiff, Nat.le_refl, implies_true, Nat.reduceLT, reduceIte, decide_true, decide_false, true_and, and_true, reduceCtorEq, Nat.mul_one, Int.reduceToNat, Int.reduceLE, Int.reduceLT, Int.reduceAdd, Int.reduceSub, Int.reduceMul, Int.cast_ofNat_Int, cast_zero_int, cast_one_int, Nat.reducePow, Nat.reduceEqDiff, Nat.reduceMod, Nat.zero_add, Nat.sub_zero, Nat.add_zero, n60, hWl, hk, hk0, c1, c4, g2, show IntKind.i64.wrap 4 = 4 from rfl, show ((8 : Int) == 9) = false from rfl, Bool.not_false, Bool.not_true]
          rfl
        · have hy := fun hok => (hall hok).2
          simp only [go_sem, Nat.reduceBEq, Nat.reduceAdd, Nat.reduceMul, Nat.reduceSub, Nat.reduceLeDiff, Nat.le_refl, implies_true, Nat.reduceLT, reduceIte, decide_true, decide_false, true_and, and_true, reduceCtorEq, Nat.mul_one, Int.reduceToNat, Int.reduceLE, Int.reduceLT, Int.reduceAdd, Int.reduceSub, Int.reduceMul, Int.cast_ofNat_Int, cast_zero_int, cast_one_int, Nat.reducePow, Nat.reduceEqDiff, Nat.reduceMod, Nat.zero_add, Nat.sub_zero, Nat.add_zero, n60, hWl, hk, hk0, c1, c4, g2, show IntKind.i64.wrap 4 = 4 from rfl, show ((8 : Int) == 9) = false from rfl, Bool.not_true]
          refine ⟨by kernel_rfl, (c_l25One n1 n2 n2).use (fun _ m => m) ?_⟩
          rintro _ _ ⟨rfl, ⟨t3, rfl⟩⟩
          by_cases v1 : supplyOk n1 n2 n2
          · simp only [go_sem, Nat.reduceBEq, Nat.reduceAdd, Nat.reduceMul, Nat.reduceSub, Nat.reduceLeDiff, Nat.le_refl, implies_true, Nat.reduceLT, reduceIte, decide_true, decide_false, true_and, and_true, reduceCtorEq, Nat.mul_one, Int.reduceToNat, Int.reduceLE, Int.reduceLT, Int.reduceAdd, Int.reduceSub, Int.reduceMul, Int.cast_ofNat_Int, cast_zero_int, cast_one_int, Nat.reducePow, Nat.reduceEqDiff, Nat.reduceMod, Nat.zero_add, Nat.sub_zero, Nat.add_zero, Bool.not_true, n60, hWl, hk, hk0, c1, c4, g2, show IntKind.i64.wrap 4 = 4 from rfl, show ((8 : Int) == 9) = false from rfl, decbS v1, Bool.not_true]
            refine ⟨by kernel_rfl, (c_l25TextI n1 n2 n2 v1).use (fun _ m => m) ?_⟩
            rintro _ _ ⟨rfl, ⟨t4, rfl⟩⟩
            by_cases v2 : supT (n1, n2, n2) = s
            · obtain ⟨rfl, rfl⟩ := hx.yes hy ⟨v1, v2⟩
              have v3 : ((supS n1.toNat n2.toNat n2.toNat).toList == s.toList) = true := by rw [show supS n1.toNat n2.toNat n2.toNat = s from v2]; exact beq_self_eq_true _
              simp only [go_sem, Nat.reduceBEq, Nat.reduceAdd, Nat.reduceMul, Nat.reduceSub, Nat.reduceLeDiff, Nat.le_refl, implies_true, Nat.reduceLT, reduceIte, decide_true, decide_false, true_and, and_true, reduceCtorEq, Nat.mul_one, Int.reduceToNat, Int.reduceLE, Int.reduceLT, Int.reduceAdd, Int.reduceSub, Int.reduceMul, Int.cast_ofNat_Int, cast_zero_int, cast_one_int, Nat.reducePow, Nat.reduceEqDiff, Nat.reduceMod, Nat.zero_add, Nat.sub_zero, Nat.add_zero, Bool.not_true, n60, hWl, hk, hk0, c1, c4, g2, show IntKind.i64.wrap 4 = 4 from rfl, show ((8 : Int) == 9) = false from rfl, decbS v1, v3, Bool.not_true]
              rfl
            · obtain ⟨rfl, rfl⟩ := hx.no hy (fun h => v2 h.2)
              have v3 : ((supS n1.toNat n2.toNat n2.toNat).toList == s.toList) = false := by rw [toList_eq]; exact decide_eq_false v2
              simp only [go_sem, Nat.reduceBEq, Nat.reduceAdd, Nat.reduceMul, Nat.reduceSub, Nat.reduceLeDiff, Nat.le_refl, implies_true, Nat.reduceLT, reduceIte, decide_true, decide_false, true_and, and_true, reduceCtorEq, Nat.mul_one, Int.reduceToNat, Int.reduceLE, Int.reduceLT, Int.reduceAdd, Int.reduceSub, Int.reduceMul, Int.cast_ofNat_Int, cast_zero_int, cast_one_int, Nat.reducePow, Nat.reduceEqDiff, Nat.reduceMod, Nat.zero_add, Nat.sub_zero, Nat.add_zero, Bool.not_true, n60, hWl, hk, hk0, c1, c4, g2, show IntKind.i64.wrap 4 = 4 from rfl, show ((8 : Int) == 9) = false from rfl, decbS v1, v3, Bool.not_false, Bool.not_true]
              rfl
          · obtain ⟨rfl, rfl⟩ := hx.no hy (fun h => v1 h.1)
            simp only [go_sem, Nat.reduceBEq, Nat.reduceAdd, Nat.reduceMul, Nat.reduceSub, Nat.reduceLeDiff, Nat.le_refl, implies_true, Nat.reduceLT, reduceIte, decide_true, decide_false, true_and, and_true, reduceCtorEq, Nat.mul_one, Int.reduceToNat, Int.reduceLE, Int.reduceLT, Int.reduceAdd, Int.reduceSub, Int.reduceMul, Int.cast_ofNat_Int, cast_zero_int, cast_one_int, Nat.reducePow, Nat.reduceEqDiff, Nat.reduceMod, Nat.zero_add, Nat.sub_zero, Nat.add_zero, Bool.not_true, n60, hWl, hk, hk0, c1, c4, g2, show IntKind.i64.wrap 4 = 4 from rfl, show ((8 : Int) == 9) = false from rfl, dectS v1, Bool.not_false]
            rfl
    · by_cases g3 : W.length = 9
      · have hWl : (W.length : Int) = 9 := by omega
        have i1 : 1 < W.length := by omega
        have i3 : 3 < W.length := by omega
        have i5 : 5 < W.length := by omega
        have c1 := strsV_at i1
        have c3 := strsV_at i3
        have c5 := strsV_at i5
        simp only [go_sem, Nat.reduceBEq, Nat.reduceAdd, Nat.reduceMul, Nat.reduceSub, Nat.reduceLeDiff, Nat.le_refl, implies_true, Nat.reduceLT, reduceIte, decide_true, decide_false, true_and, and_true, reduceCtorEq, Nat.mul_one, Int.reduceToNat, Int.reduceLE, Int.reduceLT, Int.reduceAdd, Int.reduceSub, Int.reduceMul, Int.cast_ofNat_Int, cast_zero_int, cast_one_int, Nat.reducePow, Nat.reduceEqDiff, Nat.reduceMod, Nat.zero_add, Nat.sub_zero, Nat.add_zero, n60, hWl, hk, hk0, c1, c5, g2, g3, c3, show IntKind.i64.wrap 5 = 5 from rfl, show ((9 : Int) != 8) = true from rfl, show ((9 : Int) == 9) = true from rfl]
        refine ⟨by kernel_rfl, (c_l1Read _ (zW _ (List.getElem_mem _))).use (fun _ m => m) ?_⟩
        rintro _ _ ⟨⟨n1, b1, rfl, r1⟩, rfl⟩
        simp only [go_sem, Nat.reduceBEq, Nat.reduceAdd, Nat.reduceMul, Nat.reduceSub, Nat.reduceLeDiff, Nat.le_refl, implies_true, Nat.reduceLT, reduceIte, decide_true, decide_false, true_and, and_true, reduceCtorEq, Nat.mul_one, Int.reduceToNat, Int.reduceLE, Int.reduceLT, Int.reduceAdd, Int.reduceSub, Int.reduceMul, Int.cast_ofNat_Int, cast_zero_int, cast_one_int, Nat.reducePow, Nat.reduceEqDiff, Nat.reduceMod, Nat.zero_add, Nat.sub_zero, Nat.add_zero, n60, hWl, hk, hk0, c1, c5, g2, g3, c3, show IntKind.i64.wrap 5 = 5 from rfl, show ((9 : Int) != 8) = true from rfl, show ((9 : Int) == 9) = true from rfl]
        refine ⟨by kernel_rfl, (c_l1Read _ (zW _ (List.getElem_mem _))).use (fun _ m => m) ?_⟩
        rintro _ _ ⟨⟨n2, b2, rfl, r2⟩, rfl⟩
        simp only [go_sem, Nat.reduceBEq, Nat.reduceAdd, Nat.reduceMul, Nat.reduceSub, Nat.reduceLeDiff, Nat.le_refl, implies_true, Nat.reduceLT, reduceIte, decide_true, decide_false, true_and, and_true, reduceCtorEq, Nat.mul_one, Int.reduceToNat, Int.reduceLE, Int.reduceLT, Int.reduceAdd, Int.reduceSub, Int.reduceMul, Int.cast_ofNat_Int, cast_zero_int, cast_one_int, Nat.reducePow, Nat.reduceEqDiff, Nat.reduceMod, Nat.zero_add, Nat.sub_zero, Nat.add_zero, n60, hWl, hk, hk0, c1, c5, g2, g3, c3, show IntKind.i64.wrap 5 = 5 from rfl, show ((9 : Int) != 8) = true from rfl, show ((9 : Int) == 9) = true from rfl]
        refine ⟨by kernel_rfl, (c_l1Read _ (zW _ (List.getElem_mem _))).use (fun _ m => m) ?_⟩
        rintro _ _ ⟨⟨n3, b3, rfl, r3⟩, rfl⟩
        simp only [go_sem, Nat.reduceBEq, Nat.reduceAdd, Nat.reduceMul, Nat.reduceSub, Nat.reduceLeDiff, Nat.le_refl, implies_true, Nat.reduceLT, reduceIte, decide_true, decide_false, true_and, and_true, reduceCtorEq, Nat.mul_one, Int.reduceToNat, Int.reduceLE, Int.reduceLT, Int.reduceAdd, Int.reduceSub, Int.reduceMul, Int.cast_ofNat_Int, cast_zero_int, cast_one_int, Nat.reducePow, Nat.reduceEqDiff, Nat.reduceMod, Nat.zero_add, Nat.sub_zero, Nat.add_zero, n60, hWl, hk, hk0, c1, c5, g2, g3, c3, show IntKind.i64.wrap 5 = 5 from rfl, show ((9 : Int) != 8) = true from rfl, show ((9 : Int) == 9) = true from rfl]
        have hall : ok = true → (b1 = true ∧ b2 = true) ∧ ((n1, n3, n2) : Int × Int × Int) = x := fun hok => by
          obtain ⟨_, a, b, c, e1, e2, e3, e4, e5⟩ := known hok
          subst e5
          unfold supW at *
          split at g3
          · cases g3
          · rename_i h1
            split at g3
            · rename_i h2
              simp only [if_neg h1, if_pos h2] at r1 r2 r3
              obtain ⟨p1, p2⟩ := r1.1 a (by omega) rfl
              obtain ⟨p3, p4⟩ := r2.1 c (by omega) rfl
              have p5 := num_noth r3
              exact ⟨⟨p2, p4⟩, by rw [e1, p1, p3, p5, h2]; rfl⟩
            · rename_i h2
              simp only [if_neg h1, if_neg h2] at r1 r2 r3
              obtain ⟨p1, p2⟩ := r1.1 a (by omega) rfl
              obtain ⟨p3, p4⟩ := r2.1 c (by omega) rfl
              obtain ⟨p5, p6⟩ := r3.1 b (by omega) rfl
              exact ⟨⟨p2, p4⟩, by rw [e1, p1, p3, p5]⟩
        clear known shut
        cases b1
        · obtain ⟨rfl, rfl⟩ := hx.non (fun hok => by have := (hall hok).1.1; cases this)
          simp only [go_sem, Nat.reduceBEq, Nat.reduceAdd, Nat.reduceMul, Nat.reduceSub, Nat.reduceLeDiff, Nat.le_refl, implies_true, Nat.reduceLT, reduceIte, decide_true, decide_false, true_and, and_true, reduceCtorEq, Nat.mul_one, Int.reduceToNat, Int.reduceLE, Int.reduceLT, Int.reduceAdd, Int.reduceSub, Int.reduceMul, Int.cast_ofNat_Int, cast_zero_int, cast_one_int, Nat.reducePow, Nat.reduceEqDiff, Nat.reduceMod, Nat.zero_add, Nat.sub_zero, Nat.add_zero, n60, hWl, hk, hk0, c1, c5, g2, g3, c3, show IntKind.i64.wrap 5 = 5 from rfl, show ((9 : Int) != 8) = true from rfl, show ((9 : Int) == 9) = true from rfl, Bool.not_false]
          rfl
        · cases b2
          · obtain ⟨rfl, rfl⟩ := hx.non (fun hok => by have := (hall hok).1.2; cases this)
            simp only [go_sem, Nat.reduceBEq, Nat.reduceAdd, Nat.reduceMul, Nat.reduceSub, Nat.reduceLeDiff, Nat.le_refl, implies_true, Nat.reduceLT, reduceIte, decide_true, decide_false, true_and, and_true, reduceCtorEq, Nat.mul_one, Int.reduceToNat, Int.reduceLE, Int.reduceLT, Int.reduceAdd, Int.reduceSub, Int.reduceMul, Int.cast_ofNat_Int, cast_zero_int, cast_one_int, Nat.reducePow, Nat.reduceEqDiff, Nat.reduceMod, Nat.zero_add, Nat.sub_zero, Nat.add_zero, n60, hWl, hk, hk0, c1, c5, g2, g3, c3, show IntKind.i64.wrap 5 = 5 from rfl, show ((9 : Int) != 8) = true from rfl, show ((9 : Int) == 9) = true from rfl, Bool.not_false, Bool.not_true]
            rfl
          · have hy := fun hok => (hall hok).2
            simp only [go_sem, Nat.reduceBEq, Nat.reduceAdd, Nat.reduceMul, Nat.reduceSub, Nat.reduceLeDiff, Nat.le_refl, implies_true, Nat.reduceLT, reduceIte, decide_true, decide_false, true_and, and_true, reduceCtorEq, Nat.mul_one, Int.reduceToNat, Int.reduceLE, Int.reduceLT, Int.reduceAdd, Int.reduceSub, Int.reduceMul, Int.cast_ofNat_Int, cast_zero_int, cast_one_int, Nat.reducePow, Nat.reduceEqDiff, Nat.reduceMod, Nat.zero_add, Nat.sub_zero, Nat.add_zero, n60, hWl, hk, hk0, c1, c5, g2, g3, c3, show IntKind.i64.wrap 5 = 5 from rfl, show ((9 : Int) != 8) = true from rfl, show ((9 : Int) == 9) = true from rfl, Bool.not_true]
            refine ⟨by kernel_rfl, (c_l25One n1 n3 n2).use (fun _ m => m) ?_⟩
            rintro _ _ ⟨rfl, ⟨t3, rfl⟩⟩
            by_cases v1 : supplyOk n1 n3 n2
            · simp only [go_sem, Nat.reduceBEq, Nat.reduceAdd, Nat.reduceMul, Nat.reduceSub, Nat.reduceLeDiff, Nat.le_refl, implies_true, Nat.reduceLT, reduceIte, decide_true, decide_false, true_and, and_true, reduceCtorEq, Nat.mul_one, Int.reduceToNat, Int.reduceLE, Int.reduceLT, Int.reduceAdd, Int.reduceSub, Int.reduceMul, Int.cast_ofNat_Int, cast_zero_int, cast_one_int, Nat.reducePow, Nat.reduceEqDiff, Nat.reduceMod, Nat.zero_add, Nat.sub_zero, Nat.add_zero, Bool.not_true, n60, hWl, hk, hk0, c1, c5, g2, g3, c3, show IntKind.i64.wrap 5 = 5 from rfl, show ((9 : Int) != 8) = true from rfl, show ((9 : Int) == 9) = true from rfl, decbS v1, Bool.not_true]
              refine ⟨by kernel_rfl, (c_l25TextI n1 n3 n2 v1).use (fun _ m => m) ?_⟩
              rintro _ _ ⟨rfl, ⟨t4, rfl⟩⟩
              by_cases v2 : supT (n1, n3, n2) = s
              · obtain ⟨rfl, rfl⟩ := hx.yes hy ⟨v1, v2⟩
                have v3 : ((supS n1.toNat n3.toNat n2.toNat).toList == s.toList) = true := by rw [show supS n1.toNat n3.toNat n2.toNat = s from v2]; exact beq_self_eq_true _
                simp only [go_sem, Nat.reduceBEq, Nat.reduceAdd, Nat.reduceMul, Nat.reduceSub, Nat.reduceLeDiff, Nat.le_refl, implies_true, Nat.reduceLT, reduceIte, decide_true, decide_false, true_and, and_true, reduceCtorEq, Nat.mul_one, Int.reduceToNat, Int.reduceLE, Int.reduceLT, Int.reduceAdd, Int.reduceSub, Int.reduceMul, Int.cast_ofNat_Int, cast_zero_int, cast_one_int, Nat.reducePow, Nat.reduceEqDiff, Nat.reduceMod, Nat.zero_add, Nat.sub_zero, Nat.add_zero, Bool.not_true, n60, hWl, hk, hk0, c1, c5, g2, g3, c3, show IntKind.i64.wrap 5 = 5 from rfl, show ((9 : Int) != 8) = true from rfl, show ((9 : Int) == 9) = true from rfl, decbS v1, v3, Bool.not_true]
                rfl
              · obtain ⟨rfl, rfl⟩ := hx.no hy (fun h => v2 h.2)
                have v3 : ((supS n1.toNat n3.toNat n2.toNat).toList == s.toList) = false := by rw [toList_eq]; exact decide_eq_false v2
                simp only [go_sem, Nat.reduceBEq, Nat.reduceAdd, Nat.reduceMul, Nat.reduceSub, Nat.reduceLeDiff, Nat.le_refl, implies_true, Nat.reduceLT, reduceIte, decide_true, decide_false, true_and, and_true, reduceCtorEq, Nat.mul_one, Int.reduceToNat, Int.reduceLE, Int.reduceLT, Int.reduceAdd, Int.reduceSub, Int.reduceMul, Int.cast_ofNat_Int, cast_zero_int, cast_one_int, Nat.reducePow, Nat.reduceEqDiff, Nat.reduceMod, Nat.zero_add, Nat.sub_zero, Nat.add_zero, Bool.not_true, n60, hWl, hk, hk0, c1, c5, g2, g3, c3, show IntKind.i64.wrap 5 = 5 from rfl, show ((9 : Int) != 8) = true from rfl, show ((9 : Int) == 9) = true from rfl, decbS v1, v3, Bool.not_false, Bool.not_true]
                rfl
            · obtain ⟨rfl, rfl⟩ := hx.no hy (fun h => v1 h.1)
              simp only [go_sem, Nat.reduceBEq, Nat.reduceAdd, Nat.reduceMul, Nat.reduceSub, Nat.reduceLeDiff, Nat.le_refl, implies_true, Nat.reduceLT, reduceIte, decide_true, decide_false, true_and, and_true, reduceCtorEq, Nat.mul_one, Int.reduceToNat, Int.reduceLE, Int.reduceLT, Int.reduceAdd, Int.reduceSub, Int.reduceMul, Int.cast_ofNat_Int, cast_zero_int, cast_one_int, Nat.reducePow, Nat.reduceEqDiff, Nat.reduceMod, Nat.zero_add, Nat.sub_zero, Nat.add_zero, Bool.not_true, n60, hWl, hk, hk0, c1, c5, g2, g3, c3, show IntKind.i64.wrap 5 = 5 from rfl, show ((9 : Int) != 8) = true from rfl, show ((9 : Int) == 9) = true from rfl, dectS v1, Bool.not_false]
              rfl
      · obtain ⟨rfl, rfl⟩ := shut (fun h => by omega)
        simp only [go_sem, Nat.reduceBEq, Nat.reduceAdd, Nat.reduceMul, Nat.reduceSub, Nat.reduceLeDiff, Nat.le_refl, implies_true, Nat.reduceLT, reduceIte, decide_true, decide_false, true_and, and_true, reduceCtorEq, Nat.mul_one, Int.reduceToNat, Int.reduceLE, Int.reduceLT, Int.reduceAdd, Int.reduceSub, Int.reduceMul, Int.cast_ofNat_Int, cast_zero_int, cast_one_int, Nat.reducePow, Nat.reduceEqDiff, Nat.reduceMod, Nat.zero_add, Nat.sub_zero, Nat.add_zero, n60, show ((W.length : Int) != 8) = true from by rw [bne_iff_ne]; omega, show ((W.length : Int) != 9) = true from by rw [bne_iff_ne]; omega]
        rfl
  · obtain ⟨rfl, rfl⟩ := shut (fun h => g1 h.1)
    simp only [go_sem, Nat.reduceBEq, Nat.reduceAdd, Nat.reduceMul, Nat.reduceSub, Nat.reduceLeDiff, Nat.le_refl, implies_true, Nat.reduceLT, reduceIte, decide_true, decide_false, true_and, and_true, reduceCtorEq, Nat.mul_one, Int.reduceToNat, Int.reduceLE, Int.reduceLT, Int.reduceAdd, Int.reduceSub, Int.reduceMul, Int.cast_ofNat_Int, cast_zero_int, cast_one_int, Nat.reducePow, Nat.reduceEqDiff, Nat.reduceMod, Nat.zero_add, Nat.sub_zero, Nat.add_zero, show (60 : Int) < s.size by omega]
    rfl
end
end Go.Proofs.YtfolkgkcaiaifaaDoor
