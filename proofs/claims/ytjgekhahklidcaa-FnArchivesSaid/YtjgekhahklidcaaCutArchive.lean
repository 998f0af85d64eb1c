
/- A part of an archive. No condition. -/
import Derived.Test.YtjgekhahklidcaaArchive
namespace Go.Proofs.Ytjgekhahklidcaa
open Go.HH
set_option linter.unusedSimpArgs false
set_option linter.unusedVariables false

/-- The values of the days from 'a' to 'b', of the first places. -/
def cutN (f : Int) (l : List Int) (a b : Int) : Nat → List Int
  | 0 => []
  | i + 1 => if a ≤ f + i ∧ f + i ≤ b then cutN f l a b i ++ [l.getD i 0] else cutN f l a b i
theorem cutN_yes {f : Int} {l : List Int} {a b : Int} {i : Nat} (h : a ≤ f + i ∧ f + i ≤ b) : cutN f l a b (i + 1) = cutN f l a b i ++ [l.getD i 0] := by rw [cutN, if_pos h]
theorem cutN_no {f : Int} {l : List Int} {a b : Int} {i : Nat} (h : ¬ (a ≤ f + i ∧ f + i ≤ b)) : cutN f l a b (i + 1) = cutN f l a b i := by rw [cutN, if_neg h]
theorem cutN_len {f : Int} {l : List Int} {a b : Int} : ∀ i : Nat, (cutN f l a b i).length ≤ i ∧ max a f + ((cutN f l a b i).length : Int) = max (max a f) (min (b + 1) (f + i))
  | 0 => by simp [cutN]; omega
  | i + 1 => by
    have ih := cutN_len (f := f) (l := l) (a := a) (b := b) i
    by_cases h : a ≤ f + i ∧ f + i ≤ b
    · rw [cutN_yes h, List.length_append, List.length_singleton]; omega
    · rw [cutN_no h]; omega
theorem cutN_mem {f : Int} {l : List Int} {a b : Int} : ∀ i : Nat, i ≤ l.length → ∀ x ∈ cutN f l a b i, x ∈ l
  | 0, _ => by simp [cutN]
  | i + 1, hi => fun x hx => by
    have ih := cutN_mem (f := f) (l := l) (a := a) (b := b) i (by omega)
    by_cases h : a ≤ f + i ∧ f + i ≤ b
    · rw [cutN_yes h] at hx
      rcases List.mem_append.1 hx with hx | hx
      · exact ih x hx
      · have hlt : i < l.length := hi
        simp [List.getD, hlt] at hx
        rw [hx]; exact List.getElem_mem hlt
    · rw [cutN_no h] at hx; exact ih x hx
def cutOk (f : Int) (l : List Int) (a b : Int) : Prop := arGood f l ∧ (0 ≤ a ∧ a ≤ 3650) ∧ (0 ≤ b ∧ b ≤ 3650) ∧ a ≤ b
instance {f : Int} {l : List Int} {a b : Int} : Decidable (cutOk f l a b) := by unfold cutOk; infer_instance
theorem cut_good {f : Int} {l : List Int} {a b : Int} (h : cutOk f l a b) : arGood (max a f) (cutN f l a b l.length) := by
  obtain ⟨⟨g1, g2, g3, g4⟩, h2, h3, h4⟩ := h
  have hl := cutN_len (f := f) (l := l) (a := a) (b := b) l.length
  exact ⟨fun x hx => g1 x (cutN_mem _ (Nat.le_refl _) x hx), by omega, by omega, by omega⟩

section
variable {h : Heap} {M : Nat → Prop}

theorem c_CutArchive {n : Nat} (v : Value) (f : Int) (l : List Int) (a b : Int) (s : AA n h v f l) (hmax : l.length ≤ 1048576) : vCall [] Try.prog M 26 [v, .int .i64 a, .int .i64 b] h (fun r h' =>
    (∃ w, r = .tuple #[w, .bool (decide (cutOk f l a b))] ∧ FA h.length h'.length h' w (if cutOk f l a b then max a f else 0) (if cutOk f l a b then cutN f l a b l.length else [])) ∧ h <+: h') := by
  obtain ⟨w, rfl, s'⟩ := id s
  obtain ⟨p, rfl⟩ := s'.len
  refine body_of mo Try.func26 rfl (by kernel_rfl) (Nat.le_of_ble_eq_true (by kernel_rfl)) rfl ?_
  simp only [go_sem, Nat.reduceBEq, Nat.reduceAdd, Nat.reduceMul, Nat.reduceSub, Nat.reduceLeDiff, Nat.le_refl, implies_true, Nat.reduceLT, reduceIte, decide_true, decide_false, true_and, and_true, reduceCtorEq, Nat.mul_one, Int.reduceToNat, Int.reduceLE, Int.reduceLT, Int.reduceAdd, Int.reduceSub, Int.reduceMul, Int.cast_ofNat_Int, cast_zero_int, cast_one_int, Nat.reducePow, Nat.reduceEqDiff, Nat.reduceMod, Nat.zero_add, Nat.sub_zero, Nat.add_zero]
  refine ⟨by kernel_rfl, (c_IsValidArchive _ f l (s.mono (List.prefix_append _ _)) hmax).use (fun _ m => m) ?_⟩
  rintro _ _ ⟨rfl, ⟨t, rfl⟩⟩
  simp only [go_sem, Nat.reduceBEq, Nat.reduceAdd, Nat.reduceMul, Nat.reduceSub, Nat.reduceLeDiff, Nat.le_refl, implies_true, Nat.reduceLT, reduceIte, decide_true, decide_false, true_and, and_true, reduceCtorEq, Nat.mul_one, Int.reduceToNat, Int.reduceLE, Int.reduceLT, Int.reduceAdd, Int.reduceSub, Int.reduceMul, Int.cast_ofNat_Int, cast_zero_int, cast_one_int, Nat.reducePow, Nat.reduceEqDiff, Nat.reduceMod, Nat.zero_add, Nat.sub_zero, Nat.add_zero]
  have bad : ¬ cutOk f l a b → ∀ (m : Nat) (H : Heap), ∃ w, (Value.tuple #[Value.agg #[.int .i64 0, .slice none 0 0], .bool false]) = .tuple #[w, .bool (decide (cutOk f l a b))] ∧ FA h.length m H w (if cutOk f l a b then max a f else 0) (if cutOk f l a b then cutN f l a b l.length else []) := fun hn m H =>
    ⟨_, by rw [decide_eq_false hn], _, by rw [if_neg hn], by rw [if_neg hn]; exact .nil⟩
  by_cases h1 : arGood f l
  · obtain ⟨g1, g2, g3, g4⟩ := id h1
    simp only [go_sem, Nat.reduceBEq, Nat.reduceAdd, Nat.reduceMul, Nat.reduceSub, Nat.reduceLeDiff, Nat.le_refl, implies_true, Nat.reduceLT, reduceIte, decide_true, decide_false, true_and, and_true, reduceCtorEq, Nat.mul_one, Int.reduceToNat, Int.reduceLE, Int.reduceLT, Int.reduceAdd, Int.reduceSub, Int.reduceMul, Int.cast_ofNat_Int, cast_zero_int, cast_one_int, Nat.reducePow, Nat.reduceEqDiff, Nat.reduceMod, Nat.zero_add, Nat.sub_zero, Nat.add_zero, decb h1]
    refine ⟨by kernel_rfl, (c_isDay _).use (fun _ m => m) ?_⟩
    rintro _ _ ⟨rfl, rfl⟩
    simp only [go_sem, Nat.reduceBEq, Nat.reduceAdd, Nat.reduceMul, Nat.reduceSub, Nat.reduceLeDiff, Nat.le_refl, implies_true, Nat.reduceLT, reduceIte, decide_true, decide_false, true_and, and_true, reduceCtorEq, Nat.mul_one, Int.reduceToNat, Int.reduceLE, Int.reduceLT, Int.reduceAdd, Int.reduceSub, Int.reduceMul, Int.cast_ofNat_Int, cast_zero_int, cast_one_int, Nat.reducePow, Nat.reduceEqDiff, Nat.reduceMod, Nat.zero_add, Nat.sub_zero, Nat.add_zero]
    by_cases h2 : 0 ≤ a ∧ a ≤ 3650
    · simp only [go_sem, Nat.reduceBEq, Nat.reduceAdd, Nat.reduceMul, Nat.reduceSub, Nat.reduceLeDiff, Nat.le_refl, implies_true, Nat.reduceLT, reduceIte, decide_true, decide_false, true_and, and_true, reduceCtorEq, Nat.mul_one, Int.reduceToNat, Int.reduceLE, Int.reduceLT, Int.reduceAdd, Int.reduceSub, Int.reduceMul, Int.cast_ofNat_Int, cast_zero_int, cast_one_int, Nat.reducePow, Nat.reduceEqDiff, Nat.reduceMod, Nat.zero_add, Nat.sub_zero, Nat.add_zero, decb h1, decb h2]
      refine ⟨by kernel_rfl, (c_isDay _).use (fun _ m => m) ?_⟩
      rintro _ _ ⟨rfl, rfl⟩
      simp only [go_sem, Nat.reduceBEq, Nat.reduceAdd, Nat.reduceMul, Nat.reduceSub, Nat.reduceLeDiff, Nat.le_refl, implies_true, Nat.reduceLT, reduceIte, decide_true, decide_false, true_and, and_true, reduceCtorEq, Nat.mul_one, Int.reduceToNat, Int.reduceLE, Int.reduceLT, Int.reduceAdd, Int.reduceSub, Int.reduceMul, Int.cast_ofNat_Int, cast_zero_int, cast_one_int, Nat.reducePow, Nat.reduceEqDiff, Nat.reduceMod, Nat.zero_add, Nat.sub_zero, Nat.add_zero]
      by_cases h3 : 0 ≤ b ∧ b ≤ 3650
      · simp only [go_sem, Nat.reduceBEq, Nat.reduceAdd, Nat.reduceMul, Nat.reduceSub, Nat.reduceLeDiff, Nat.le_refl, implies_true, Nat.reduceLT, reduceIte, decide_true, decide_false, true_and, and_true, reduceCtorEq, Nat.mul_one, Int.reduceToNat, Int.reduceLE, Int.reduceLT, Int.reduceAdd, Int.reduceSub, Int.reduceMul, Int.cast_ofNat_Int, cast_zero_int, cast_one_int, Nat.reducePow, Nat.reduceEqDiff, Nat.reduceMod, Nat.zero_add, Nat.sub_zero, Nat.add_zero, decb h1, decb h2, decb h3]
        by_cases h4 : b < a
        · simp only [go_sem, Nat.reduceBEq, Nat.reduceAdd, Nat.reduceMul, Nat.reduceSub, Nat.reduceLeDiff, Nat.le_refl, implies_true, Nat.reduceLT, reduceIte, decide_true, decide_false, true_and, and_true, reduceCtorEq, Nat.mul_one, Int.reduceToNat, Int.reduceLE, Int.reduceLT, Int.reduceAdd, Int.reduceSub, Int.reduceMul, Int.cast_ofNat_Int, cast_zero_int, cast_one_int, Nat.reducePow, Nat.reduceEqDiff, Nat.reduceMod, Nat.zero_add, Nat.sub_zero, Nat.add_zero, h4]
          exact bad (fun hh => by have := hh.2.2.2; omega) _ _
        · have hn : cutOk f l a b := ⟨h1, h2, h3, by omega⟩
          have hmx : (if f > a then f else a) = max a f := by split <;> omega
          simp only [go_sem, Nat.reduceBEq, Nat.reduceAdd, Nat.reduceMul, Nat.reduceSub, Nat.reduceLeDiff, Nat.le_refl, implies_true, Nat.reduceLT, reduceIte, decide_true, decide_false, true_and, and_true, reduceCtorEq, Nat.mul_one, Int.reduceToNat, Int.reduceLE, Int.reduceLT, Int.reduceAdd, Int.reduceSub, Int.reduceMul, Int.cast_ofNat_Int, cast_zero_int, cast_one_int, Nat.reducePow, Nat.reduceEqDiff, Nat.reduceMod, Nat.zero_add, Nat.sub_zero, Nat.add_zero, h4, hmx]
          refine vLoop.count mo l.length (fun i e h' => ∃ (u : Heap) (c j : Nat), e 1 = .int .i64 a ∧ e 2 = .int .i64 b ∧ e 3 = .pointer (some ⟨h.length, 0, none⟩) ∧ e 6 = .pointer (some ⟨h.length + 1, 0, none⟩) ∧ e 8 = .pointer (some ⟨h.length + (c + 2), 0, none⟩) ∧ e 37 = .slice p l.length 0 ∧ e 38 = .int .i64 l.length ∧ e 39 = .int .i64 i ∧
            h' = h ++ ⟨[.int .i64 f, .slice p l.length 0], 2, .rw⟩ :: ⟨[.int .i64 0, .slice none 0 0], 2, .rw⟩ :: u ∧ u[c]? = some ⟨[.int .i64 (max a f), .slice (some ⟨h.length + (j + 2), 0, none⟩) (cutN f l a b i).length 0], 2, .rw⟩ ∧ j ≠ c ∧ u[j]? = some ⟨(cutN f l a b i).map iv, 1, .rw⟩) ?_ ?_
          · refine ⟨t ++ [⟨[], 1, .rw⟩, ⟨[.int .i64 (max a f), .slice (some ⟨h.length + (t.length + 2), 0, none⟩) 0 0], 2, .rw⟩], t.length + 1, t.length, ?_⟩
            simp only [go_sem, Nat.reduceBEq, Nat.reduceAdd, Nat.reduceMul, Nat.reduceSub, Nat.reduceLeDiff, Nat.le_refl, implies_true, Nat.reduceLT, reduceIte, decide_true, decide_false, true_and, and_true, reduceCtorEq, Nat.mul_one, Int.reduceToNat, Int.reduceLE, Int.reduceLT, Int.reduceAdd, Int.reduceSub, Int.reduceMul, Int.cast_ofNat_Int, cast_zero_int, cast_one_int, Nat.reducePow, Nat.reduceEqDiff, Nat.reduceMod, Nat.zero_add, Nat.sub_zero, Nat.add_zero]
            simp [cutN]
          · rintro i e _ hi ⟨u, c, j, e1, e2, e3, e6, e8, e37, e38, e39, rfl, hu, hj1, hj⟩
            simp only [go_sem, Nat.reduceBEq, Nat.reduceAdd, Nat.reduceMul, Nat.reduceSub, Nat.reduceLeDiff, Nat.le_refl, implies_true, Nat.reduceLT, reduceIte, decide_true, decide_false, true_and, and_true, reduceCtorEq, Nat.mul_one, Int.reduceToNat, Int.reduceLE, Int.reduceLT, Int.reduceAdd, Int.reduceSub, Int.reduceMul, Int.cast_ofNat_Int, cast_zero_int, cast_one_int, Nat.reducePow, Nat.reduceEqDiff, Nat.reduceMod, Nat.zero_add, Nat.sub_zero, Nat.add_zero, e37, e38, e39]
            refine .intro (fun h5 => ?_) (fun h5 => ?_)
            · have hlt : i < l.length := by simpa using h5
              obtain ⟨id, off, k, hv, _, hk, _, hd, _, _, _, hat⟩ := s'.at (Nat.zero_lt_of_lt hlt)
              obtain rfl : p = some ⟨id, off, none⟩ := by simpa using hv
              have hz : (i : Int) < l.length := by omega
              have e9 : IntKind.i64.wrap (f + (i : Int)) = f + i := wrap64 (by omega)
              simp only [go_sem, Nat.reduceBEq, Nat.reduceAdd, Nat.reduceMul, Nat.reduceSub, Nat.reduceLeDiff, Nat.le_refl, implies_true, Nat.reduceLT, reduceIte, decide_true, decide_false, true_and, and_true, reduceCtorEq, Nat.mul_one, Int.reduceToNat, Int.reduceLE, Int.reduceLT, Int.reduceAdd, Int.reduceSub, Int.reduceMul, Int.cast_ofNat_Int, cast_zero_int, cast_one_int, Nat.reducePow, Nat.reduceEqDiff, Nat.reduceMod, Nat.zero_add, Nat.sub_zero, Nat.add_zero, e1, e2, e3, e37, e39, hz, hk, hd, hat i hlt, e9]
              refine ⟨by kernel_rfl, (c_inside _ _ _).use (fun _ m => m) ?_⟩
              rintro _ _ ⟨rfl, rfl⟩
              simp only [go_sem, Nat.reduceBEq, Nat.reduceAdd, Nat.reduceMul, Nat.reduceSub, Nat.reduceLeDiff, Nat.le_refl, implies_true, Nat.reduceLT, reduceIte, decide_true, decide_false, true_and, and_true, reduceCtorEq, Nat.mul_one, Int.reduceToNat, Int.reduceLE, Int.reduceLT, Int.reduceAdd, Int.reduceSub, Int.reduceMul, Int.cast_ofNat_Int, cast_zero_int, cast_one_int, Nat.reducePow, Nat.reduceEqDiff, Nat.reduceMod, Nat.zero_add, Nat.sub_zero, Nat.add_zero]
              by_cases h6 : a ≤ f + i ∧ f + i ≤ b
              · have hcl := (cutN_len (f := f) (l := l) (a := a) (b := b) i).1
                simp only [go_sem, Nat.reduceBEq, Nat.reduceAdd, Nat.reduceMul, Nat.reduceSub, Nat.reduceLeDiff, Nat.le_refl, implies_true, Nat.reduceLT, reduceIte, decide_true, decide_false, true_and, and_true, reduceCtorEq, Nat.mul_one, Int.reduceToNat, Int.reduceLE, Int.reduceLT, Int.reduceAdd, Int.reduceSub, Int.reduceMul, Int.cast_ofNat_Int, cast_zero_int, cast_one_int, Nat.reducePow, Nat.reduceEqDiff, Nat.reduceMod, Nat.zero_add, Nat.sub_zero, Nat.add_zero, decb h6, e1, e2, e3, e6, e8, e37, e38, e39, hu, app_old hj, app_keep hu hj1, List.length_map, show (cutN f l a b i).length ≤ 9223372036854775806 by omega, show ((cutN f l a b i).length + 1) * 8 ≤ 140737488355328 by omega]
                exact ⟨hlt, _, c, u.length + 1, rfl, by rw [wrap64 (by omega)]; rfl, rfl, by rw [app_cell hu, cutN_yes h6, List.length_append]; rfl, app_ne hu, by rw [app_new hu, cutN_yes h6, List.map_append, getD_of hlt]; rfl⟩
              · simp only [go_sem, Nat.reduceBEq, Nat.reduceAdd, Nat.reduceMul, Nat.reduceSub, Nat.reduceLeDiff, Nat.le_refl, implies_true, Nat.reduceLT, reduceIte, decide_true, decide_false, true_and, and_true, reduceCtorEq, Nat.mul_one, Int.reduceToNat, Int.reduceLE, Int.reduceLT, Int.reduceAdd, Int.reduceSub, Int.reduceMul, Int.cast_ofNat_Int, cast_zero_int, cast_one_int, Nat.reducePow, Nat.reduceEqDiff, Nat.reduceMod, Nat.zero_add, Nat.sub_zero, Nat.add_zero, dect h6, e1, e2, e3, e6, e8, e37, e38, e39]
                exact ⟨hlt, u, c, j, rfl, by rw [wrap64 (by omega)]; rfl, rfl, by rw [hu, cutN_no h6], hj1, by rw [hj, cutN_no h6]⟩
            · simp only [go_sem, Nat.reduceBEq, Nat.reduceAdd, Nat.reduceMul, Nat.reduceSub, Nat.reduceLeDiff, Nat.le_refl, implies_true, Nat.reduceLT, reduceIte, decide_true, decide_false, true_and, and_true, reduceCtorEq, Nat.mul_one, Int.reduceToNat, Int.reduceLE, Int.reduceLT, Int.reduceAdd, Int.reduceSub, Int.reduceMul, Int.cast_ofNat_Int, cast_zero_int, cast_one_int, Nat.reducePow, Nat.reduceEqDiff, Nat.reduceMod, Nat.zero_add, Nat.sub_zero, Nat.add_zero, e6, e8, hu]
              obtain rfl : i = l.length := by have : ¬ i < l.length := by simpa using h5
                                              omega
              have sv : FI (h ++ [(⟨[.int .i64 f, .slice p l.length 0], 2, .rw⟩ : Blk), ⟨[.int .i64 0, .slice none 0 0], 2, .rw⟩]).length (h.length + (j + 3)) (h ++ [(⟨[.int .i64 f, .slice p l.length 0], 2, .rw⟩ : Blk), ⟨[.int .i64 0, .slice none 0 0], 2, .rw⟩] ++ u)
                  (.slice (some ⟨h.length + (j + 2), 0, none⟩) (cutN f l a b l.length).length 0) (cutN f l a b l.length) :=
                FI.at (by simp) (by omega) (by rw [List.append_assoc, hget_app]; exact hj)
              have sv' := sv.ai
              simp only [List.append_assoc, List.cons_append, List.nil_append] at sv'
              have hcl := (cutN_len (f := f) (l := l) (a := a) (b := b) l.length).1
              refine ⟨by kernel_rfl, (c_asArchive _ (max a f) (cutN f l a b l.length) ⟨_, rfl, sv'⟩ (by omega)).use (fun _ m => m) ?_⟩
              rintro _ _ ⟨rfl, ⟨t2, rfl⟩⟩
              have hg := cut_good hn
              simp only [go_sem, Nat.reduceBEq, Nat.reduceAdd, Nat.reduceMul, Nat.reduceSub, Nat.reduceLeDiff, Nat.le_refl, implies_true, Nat.reduceLT, reduceIte, decide_true, decide_false, true_and, and_true, reduceCtorEq, Nat.mul_one, Int.reduceToNat, Int.reduceLE, Int.reduceLT, Int.reduceAdd, Int.reduceSub, Int.reduceMul, Int.cast_ofNat_Int, cast_zero_int, cast_one_int, Nat.reducePow, Nat.reduceEqDiff, Nat.reduceMod, Nat.zero_add, Nat.sub_zero, Nat.add_zero, e6, if_pos hg, decb hg]
              refine ⟨_, by rw [decide_eq_true hn], _, by rw [if_pos hn], ?_⟩
              rw [if_pos hn]
              have hj2 := (List.getElem?_eq_some_iff.1 hj).1
              exact FI.swap (y := [_, _]) (FI.mono (h' := h ++ [(⟨[.int .i64 f, .slice p l.length 0], 2, .rw⟩ : Blk), ⟨[.int .i64 0, .slice none 0 0], 2, .rw⟩] ++ (u ++ t2)) sv (by simp)) rfl (by omega)
      · simp only [go_sem, Nat.reduceBEq, Nat.reduceAdd, Nat.reduceMul, Nat.reduceSub, Nat.reduceLeDiff, Nat.le_refl, implies_true, Nat.reduceLT, reduceIte, decide_true, decide_false, true_and, and_true, reduceCtorEq, Nat.mul_one, Int.reduceToNat, Int.reduceLE, Int.reduceLT, Int.reduceAdd, Int.reduceSub, Int.reduceMul, Int.cast_ofNat_Int, cast_zero_int, cast_one_int, Nat.reducePow, Nat.reduceEqDiff, Nat.reduceMod, Nat.zero_add, Nat.sub_zero, Nat.add_zero, decb h1, decb h2, dect h3]
        exact bad (fun hh => h3 hh.2.2.1) _ _
    · simp only [go_sem, Nat.reduceBEq, Nat.reduceAdd, Nat.reduceMul, Nat.reduceSub, Nat.reduceLeDiff, Nat.le_refl, implies_true, Nat.reduceLT, reduceIte, decide_true, decide_false, true_and, and_true, reduceCtorEq, Nat.mul_one, Int.reduceToNat, Int.reduceLE, Int.reduceLT, Int.reduceAdd, Int.reduceSub, Int.reduceMul, Int.cast_ofNat_Int, cast_zero_int, cast_one_int, Nat.reducePow, Nat.reduceEqDiff, Nat.reduceMod, Nat.zero_add, Nat.sub_zero, Nat.add_zero, decb h1, dect h2]
      exact bad (fun hh => h2 hh.2.1) _ _
  · simp only [go_sem, Nat.reduceBEq, Nat.reduceAdd, Nat.reduceMul, Nat.reduceSub, Nat.reduceLeDiff, Nat.le_refl, implies_true, Nat.reduceLT, reduceIte, decide_true, decide_false, true_and, and_true, reduceCtorEq, Nat.mul_one, Int.reduceToNat, Int.reduceLE, Int.reduceLT, Int.reduceAdd, Int.reduceSub, Int.reduceMul, Int.cast_ofNat_Int, cast_zero_int, cast_one_int, Nat.reducePow, Nat.reduceEqDiff, Nat.reduceMod, Nat.zero_add, Nat.sub_zero, Nat.add_zero, dect h1]
    exact bad (fun hh => h1 hh.1) _ _

theorem c_sCutArchive {n : Nat} (v : Value) (f : Int) (l : List Int) (a b : Int) (s : AA n h v f l) (hmax : l.length ≤ 1048576) : vCall [] Try.prog M 36 [v, .int .i64 a, .int .i64 b] h (fun r h' =>
    (∃ w, r = .tuple #[w, .bool (decide (cutOk f l a b))] ∧ FA h.length h'.length h' w (if cutOk f l a b then max a f else 0) (if cutOk f l a b then cutN f l a b l.length else [])) ∧ h <+: h') := by
  obtain ⟨w, rfl, s'⟩ := id s
  obtain ⟨p, rfl⟩ := s'.len
  refine body_of mo Try.func36 rfl (by kernel_rfl) (Nat.le_of_ble_eq_true (by kernel_rfl)) rfl ?_
  simp only [go_sem, Nat.reduceBEq, Nat.reduceAdd, Nat.reduceMul, Nat.reduceSub, Nat.reduceLeDiff, Nat.le_refl, implies_true, Nat.reduceLT, reduceIte, decide_true, decide_false, true_and, and_true, reduceCtorEq, Nat.mul_one, Int.reduceToNat, Int.reduceLE, Int.reduceLT, Int.reduceAdd, Int.reduceSub, Int.reduceMul, Int.cast_ofNat_Int, cast_zero_int, cast_one_int, Nat.reducePow, Nat.reduceEqDiff, Nat.reduceMod, Nat.zero_add, Nat.sub_zero, Nat.add_zero]
  refine ⟨by kernel_rfl, (c_l26Good _ f l (s.mono (List.prefix_append _ _)) hmax).use (fun _ m => m) ?_⟩
  rintro _ _ ⟨rfl, ⟨t, rfl⟩⟩
  simp only [go_sem, Nat.reduceBEq, Nat.reduceAdd, Nat.reduceMul, Nat.reduceSub, Nat.reduceLeDiff, Nat.le_refl, implies_true, Nat.reduceLT, reduceIte, decide_true, decide_false, true_and, and_true, reduceCtorEq, Nat.mul_one, Int.reduceToNat, Int.reduceLE, Int.reduceLT, Int.reduceAdd, Int.reduceSub, Int.reduceMul, Int.cast_ofNat_Int, cast_zero_int, cast_one_int, Nat.reducePow, Nat.reduceEqDiff, Nat.reduceMod, Nat.zero_add, Nat.sub_zero, Nat.add_zero]
  have bad : ¬ cutOk f l a b → ∀ (m : Nat) (H : Heap), ∃ w, (Value.tuple #[Value.agg #[.int .i64 0, .slice none 0 0], .bool false]) = .tuple #[w, .bool (decide (cutOk f l a b))] ∧ FA h.length m H w (if cutOk f l a b then max a f else 0) (if cutOk f l a b then cutN f l a b l.length else []) := fun hn m H =>
    ⟨_, by rw [decide_eq_false hn], _, by rw [if_neg hn], by rw [if_neg hn]; exact .nil⟩
  by_cases h1 : arGood f l
  · obtain ⟨g1, g2, g3, g4⟩ := id h1
    simp only [go_sem, Nat.reduceBEq, Nat.reduceAdd, Nat.reduceMul, Nat.reduceSub, Nat.reduceLeDiff, Nat.le_refl, implies_true, Nat.reduceLT, reduceIte, decide_true, decide_false, true_and, and_true, reduceCtorEq, Nat.mul_one, Int.reduceToNat, Int.reduceLE, Int.reduceLT, Int.reduceAdd, Int.reduceSub, Int.reduceMul, Int.cast_ofNat_Int, cast_zero_int, cast_one_int, Nat.reducePow, Nat.reduceEqDiff, Nat.reduceMod, Nat.zero_add, Nat.sub_zero, Nat.add_zero, decb h1]
    refine ⟨by kernel_rfl, (c_l19Day _).use (fun _ m => m) ?_⟩
    rintro _ _ ⟨rfl, rfl⟩
    simp only [go_sem, Nat.reduceBEq, Nat.reduceAdd, Nat.reduceMul, Nat.reduceSub, Nat.reduceLeDiff, Nat.le_refl, implies_true, Nat.reduceLT, reduceIte, decide_true, decide_false, true_and, and_true, reduceCtorEq, Nat.mul_one, Int.reduceToNat, Int.reduceLE, Int.reduceLT, Int.reduceAdd, Int.reduceSub, Int.reduceMul, Int.cast_ofNat_Int, cast_zero_int, cast_one_int, Nat.reducePow, Nat.reduceEqDiff, Nat.reduceMod, Nat.zero_add, Nat.sub_zero, Nat.add_zero]
    by_cases h2 : 0 ≤ a ∧ a ≤ 3650
    · simp only [go_sem, Nat.reduceBEq, Nat.reduceAdd, Nat.reduceMul, Nat.reduceSub, Nat.reduceLeDiff, Nat.le_refl, implies_true, Nat.reduceLT, reduceIte, decide_true, decide_false, true_and, and_true, reduceCtorEq, Nat.mul_one, Int.reduceToNat, Int.reduceLE, Int.reduceLT, Int.reduceAdd, Int.reduceSub, Int.reduceMul, Int.cast_ofNat_Int, cast_zero_int, cast_one_int, Nat.reducePow, Nat.reduceEqDiff, Nat.reduceMod, Nat.zero_add, Nat.sub_zero, Nat.add_zero, decb h1, decb h2]
      refine ⟨by kernel_rfl, (c_l19Day _).use (fun _ m => m) ?_⟩
      rintro _ _ ⟨rfl, rfl⟩
      simp only [go_sem, Nat.reduceBEq, Nat.reduceAdd, Nat.reduceMul, Nat.reduceSub, Nat.reduceLeDiff, Nat.le_refl, implies_true, Nat.reduceLT, reduceIte, decide_true, decide_false, true_and, and_true, reduceCtorEq, Nat.mul_one, Int.reduceToNat, Int.reduceLE, Int.reduceLT, Int.reduceAdd, Int.reduceSub, Int.reduceMul, Int.cast_ofNat_Int, cast_zero_int, cast_one_int, Nat.reducePow, Nat.reduceEqDiff, Nat.reduceMod, Nat.zero_add, Nat.sub_zero, Nat.add_zero]
      by_cases h3 : 0 ≤ b ∧ b ≤ 3650
      · simp only [go_sem, Nat.reduceBEq, Nat.reduceAdd, Nat.reduceMul, Nat.reduceSub, Nat.reduceLeDiff, Nat.le_refl, implies_true, Nat.reduceLT, reduceIte, decide_true, decide_false, true_and, and_true, reduceCtorEq, Nat.mul_one, Int.reduceToNat, Int.reduceLE, Int.reduceLT, Int.reduceAdd, Int.reduceSub, Int.reduceMul, Int.cast_ofNat_Int, cast_zero_int, cast_one_int, Nat.reducePow, Nat.reduceEqDiff, Nat.reduceMod, Nat.zero_add, Nat.sub_zero, Nat.add_zero, decb h1, decb h2, decb h3]
        by_cases h4 : b < a
        · simp only [go_sem, Nat.reduceBEq, Nat.reduceAdd, Nat.reduceMul, Nat.reduceSub, Nat.reduceLeDiff, Nat.le_refl, implies_true, Nat.reduceLT, reduceIte, decide_true, decide_false, true_and, and_true, reduceCtorEq, Nat.mul_one, Int.reduceToNat, Int.reduceLE, Int.reduceLT, Int.reduceAdd, Int.reduceSub, Int.reduceMul, Int.cast_ofNat_Int, cast_zero_int, cast_one_int, Nat.reducePow, Nat.reduceEqDiff, Nat.reduceMod, Nat.zero_add, Nat.sub_zero, Nat.add_zero, h4]
          exact bad (fun hh => by have := hh.2.2.2; omega) _ _
        · have hn : cutOk f l a b := ⟨h1, h2, h3, by omega⟩
          have hmx : (if f < a then a else f) = max a f := by split <;> omega
          simp only [go_sem, Nat.reduceBEq, Nat.reduceAdd, Nat.reduceMul, Nat.reduceSub, Nat.reduceLeDiff, Nat.le_refl, implies_true, Nat.reduceLT, reduceIte, decide_true, decide_false, true_and, and_true, reduceCtorEq, Nat.mul_one, Int.reduceToNat, Int.reduceLE, Int.reduceLT, Int.reduceAdd, Int.reduceSub, Int.reduceMul, Int.cast_ofNat_Int, cast_zero_int, cast_one_int, Nat.reducePow, Nat.reduceEqDiff, Nat.reduceMod, Nat.zero_add, Nat.sub_zero, Nat.add_zero, h4]
          refine ⟨by kernel_rfl, (c_l1Most _ _).use (fun _ m => m) ?_⟩
          rintro _ _ ⟨rfl, rfl⟩
          simp only [go_sem, Nat.reduceBEq, Nat.reduceAdd, Nat.reduceMul, Nat.reduceSub, Nat.reduceLeDiff, Nat.le_refl, implies_true, Nat.reduceLT, reduceIte, decide_true, decide_false, true_and, and_true, reduceCtorEq, Nat.mul_one, Int.reduceToNat, Int.reduceLE, Int.reduceLT, Int.reduceAdd, Int.reduceSub, Int.reduceMul, Int.cast_ofNat_Int, cast_zero_int, cast_one_int, Nat.reducePow, Nat.reduceEqDiff, Nat.reduceMod, Nat.zero_add, Nat.sub_zero, Nat.add_zero, hmx]
          refine vLoop.count mo l.length (fun i e h' => ∃ (u : Heap) (c : Nat) (v : Value), e 1 = .int .i64 a ∧ e 2 = .int .i64 b ∧ e 3 = .pointer (some ⟨h.length, 0, none⟩) ∧ e 6 = .pointer (some ⟨h.length + 1, 0, none⟩) ∧ e 8 = .pointer (some ⟨h.length + (c + 2), 0, none⟩) ∧ e 9 = .int .i64 i ∧
            h' = h ++ ⟨[.int .i64 f, .slice p l.length 0], 2, .rw⟩ :: ⟨[.int .i64 0, .slice none 0 0], 2, .rw⟩ :: u ∧ u[c]? = some ⟨[.int .i64 (max a f), v], 2, .rw⟩ ∧ (cutN f l a b i = [] → v = .slice none 0 0) ∧
            (cutN f l a b i ≠ [] → ∃ j, v = .slice (some ⟨h.length + (j + 2), 0, none⟩) (cutN f l a b i).length 0 ∧ j ≠ c ∧ u[j]? = some ⟨(cutN f l a b i).map iv, 1, .rw⟩)) ?_ ?_
          · refine ⟨t ++ [⟨[.int .i64 (max a f), .slice none 0 0], 2, .rw⟩], t.length, .slice none 0 0, ?_⟩
            simp only [go_sem, Nat.reduceBEq, Nat.reduceAdd, Nat.reduceMul, Nat.reduceSub, Nat.reduceLeDiff, Nat.le_refl, implies_true, Nat.reduceLT, reduceIte, decide_true, decide_false, true_and, and_true, reduceCtorEq, Nat.mul_one, Int.reduceToNat, Int.reduceLE, Int.reduceLT, Int.reduceAdd, Int.reduceSub, Int.reduceMul, Int.cast_ofNat_Int, cast_zero_int, cast_one_int, Nat.reducePow, Nat.reduceEqDiff, Nat.reduceMod, Nat.zero_add, Nat.sub_zero, Nat.add_zero]
            simp [cutN]
          · rintro i e _ hi ⟨u, c, v, e1, e2, e3, e6, e8, e9, rfl, hu, hv0, hv1⟩
            simp only [go_sem, Nat.reduceBEq, Nat.reduceAdd, Nat.reduceMul, Nat.reduceSub, Nat.reduceLeDiff, Nat.le_refl, implies_true, Nat.reduceLT, reduceIte, decide_true, decide_false, true_and, and_true, reduceCtorEq, Nat.mul_one, Int.reduceToNat, Int.reduceLE, Int.reduceLT, Int.reduceAdd, Int.reduceSub, Int.reduceMul, Int.cast_ofNat_Int, cast_zero_int, cast_one_int, Nat.reducePow, Nat.reduceEqDiff, Nat.reduceMod, Nat.zero_add, Nat.sub_zero, Nat.add_zero, e3, e9]
            refine .intro (fun h5 => ?_) (fun h5 => ?_)
            · have hlt : i < l.length := by simpa using h5
              obtain ⟨id, off, k, hv, _, hk, _, hd, _, _, _, hat⟩ := s'.at (Nat.zero_lt_of_lt hlt)
              obtain rfl : p = some ⟨id, off, none⟩ := by simpa using hv
              have hz : (i : Int) < l.length := by omega
              have w9 : IntKind.i64.wrap (f + (i : Int)) = f + i := wrap64 (by omega)
              simp only [go_sem, Nat.reduceBEq, Nat.reduceAdd, Nat.reduceMul, Nat.reduceSub, Nat.reduceLeDiff, Nat.le_refl, implies_true, Nat.reduceLT, reduceIte, decide_true, decide_false, true_and, and_true, reduceCtorEq, Nat.mul_one, Int.reduceToNat, Int.reduceLE, Int.reduceLT, Int.reduceAdd, Int.reduceSub, Int.reduceMul, Int.cast_ofNat_Int, cast_zero_int, cast_one_int, Nat.reducePow, Nat.reduceEqDiff, Nat.reduceMod, Nat.zero_add, Nat.sub_zero, Nat.add_zero, e1, e2, e3, e9, w9]
              refine ⟨by kernel_rfl, (c_l1In _ _ _).use (fun _ m => m) ?_⟩
              rintro _ _ ⟨rfl, rfl⟩
              simp only [go_sem, Nat.reduceBEq, Nat.reduceAdd, Nat.reduceMul, Nat.reduceSub, Nat.reduceLeDiff, Nat.le_refl, implies_true, Nat.reduceLT, reduceIte, decide_true, decide_false, true_and, and_true, reduceCtorEq, Nat.mul_one, Int.reduceToNat, Int.reduceLE, Int.reduceLT, Int.reduceAdd, Int.reduceSub, Int.reduceMul, Int.cast_ofNat_Int, cast_zero_int, cast_one_int, Nat.reducePow, Nat.reduceEqDiff, Nat.reduceMod, Nat.zero_add, Nat.sub_zero, Nat.add_zero]
              by_cases h6 : a ≤ f + i ∧ f + i ≤ b
              · have hcl := (cutN_len (f := f) (l := l) (a := a) (b := b) i).1
                have hne : cutN f l a b (i + 1) ≠ [] := by rw [cutN_yes h6]; simp
                by_cases h7 : cutN f l a b i = []
                · obtain rfl := hv0 h7
                  simp only [go_sem, Nat.reduceBEq, Nat.reduceAdd, Nat.reduceMul, Nat.reduceSub, Nat.reduceLeDiff, Nat.le_refl, implies_true, Nat.reduceLT, reduceIte, decide_true, decide_false, true_and, and_true, reduceCtorEq, Nat.mul_one, Int.reduceToNat, Int.reduceLE, Int.reduceLT, Int.reduceAdd, Int.reduceSub, Int.reduceMul, Int.cast_ofNat_Int, cast_zero_int, cast_one_int, Nat.reducePow, Nat.reduceEqDiff, Nat.reduceMod, Nat.zero_add, Nat.sub_zero, Nat.add_zero, decb h6, e1, e2, e3, e6, e8, e9, hz, hk, hd, hat i hlt, hu, app_old hu]
                  have hone : cutN f l a b (i + 1) = [l[i]] := by rw [cutN_yes h6, h7, getD_of hlt]; rfl
                  exact ⟨hlt, _, c, _, rfl, by rw [wrap64 (by omega)]; rfl, rfl, app_cell0 hu, fun hh => absurd hh hne, fun _ => ⟨u.length + 1, by rw [hone]; rfl, app_ne hu, by rw [hone]; exact app_new0 hu⟩⟩
                · obtain ⟨j, rfl, hj1, hj⟩ := hv1 h7
                  simp only [go_sem, Nat.reduceBEq, Nat.reduceAdd, Nat.reduceMul, Nat.reduceSub, Nat.reduceLeDiff, Nat.le_refl, implies_true, Nat.reduceLT, reduceIte, decide_true, decide_false, true_and, and_true, reduceCtorEq, Nat.mul_one, Int.reduceToNat, Int.reduceLE, Int.reduceLT, Int.reduceAdd, Int.reduceSub, Int.reduceMul, Int.cast_ofNat_Int, cast_zero_int, cast_one_int, Nat.reducePow, Nat.reduceEqDiff, Nat.reduceMod, Nat.zero_add, Nat.sub_zero, Nat.add_zero, decb h6, e1, e2, e3, e6, e8, e9, hz, hk, hd, hat i hlt, hu, app_old hj, app_keep hu hj1, List.length_map, show (cutN f l a b i).length ≤ 9223372036854775806 by omega, show ((cutN f l a b i).length + 1) * 8 ≤ 140737488355328 by omega]
                  exact ⟨hlt, _, c, _, rfl, by rw [wrap64 (by omega)]; rfl, rfl, app_cell hu, fun hh => absurd hh hne, fun _ => ⟨u.length + 1, by rw [cutN_yes h6, List.length_append]; rfl, app_ne hu, by rw [app_new hu, cutN_yes h6, List.map_append, getD_of hlt]; rfl⟩⟩
              · simp only [go_sem, Nat.reduceBEq, Nat.reduceAdd, Nat.reduceMul, Nat.reduceSub, Nat.reduceLeDiff, Nat.le_refl, implies_true, Nat.reduceLT, reduceIte, decide_true, decide_false, true_and, and_true, reduceCtorEq, Nat.mul_one, Int.reduceToNat, Int.reduceLE, Int.reduceLT, Int.reduceAdd, Int.reduceSub, Int.reduceMul, Int.cast_ofNat_Int, cast_zero_int, cast_one_int, Nat.reducePow, Nat.reduceEqDiff, Nat.reduceMod, Nat.zero_add, Nat.sub_zero, Nat.add_zero, dect h6, e1, e2, e3, e6, e8, e9]
                exact ⟨hlt, u, c, v, rfl, by rw [wrap64 (by omega)]; rfl, rfl, hu, by rw [cutN_no h6]; exact hv0, by rw [cutN_no h6]; exact hv1⟩
            · obtain rfl : i = l.length := by have : ¬ i < l.length := by simpa using h5
                                              omega
              have sv : FI (h ++ [(⟨[.int .i64 f, .slice p l.length 0], 2, .rw⟩ : Blk), ⟨[.int .i64 0, .slice none 0 0], 2, .rw⟩]).length (h.length + (u.length + 2)) (h ++ [(⟨[.int .i64 f, .slice p l.length 0], 2, .rw⟩ : Blk), ⟨[.int .i64 0, .slice none 0 0], 2, .rw⟩] ++ u)
                  v (cutN f l a b l.length) := by
                by_cases h7 : cutN f l a b l.length = []
                · obtain rfl := hv0 h7
                  rw [h7]; exact .nil
                · obtain ⟨j, rfl, hj1, hj⟩ := hv1 h7
                  exact FI.at (by simp) (by have := (List.getElem?_eq_some_iff.1 hj).1; omega) (by rw [List.append_assoc, hget_app]; exact hj)
              obtain ⟨av, rfl, -⟩ := id sv
              simp only [go_sem, Nat.reduceBEq, Nat.reduceAdd, Nat.reduceMul, Nat.reduceSub, Nat.reduceLeDiff, Nat.le_refl, implies_true, Nat.reduceLT, reduceIte, decide_true, decide_false, true_and, and_true, reduceCtorEq, Nat.mul_one, Int.reduceToNat, Int.reduceLE, Int.reduceLT, Int.reduceAdd, Int.reduceSub, Int.reduceMul, Int.cast_ofNat_Int, cast_zero_int, cast_one_int, Nat.reducePow, Nat.reduceEqDiff, Nat.reduceMod, Nat.zero_add, Nat.sub_zero, Nat.add_zero, e6, e8, hu]
              refine ⟨_, by rw [decide_eq_true hn], _, by rw [if_pos hn], ?_⟩
              rw [if_pos hn]
              exact FI.swap (y := [_, _]) sv rfl (by omega)
      · simp only [go_sem, Nat.reduceBEq, Nat.reduceAdd, Nat.reduceMul, Nat.reduceSub, Nat.reduceLeDiff, Nat.le_refl, implies_true, Nat.reduceLT, reduceIte, decide_true, decide_false, true_and, and_true, reduceCtorEq, Nat.mul_one, Int.reduceToNat, Int.reduceLE, Int.reduceLT, Int.reduceAdd, Int.reduceSub, Int.reduceMul, Int.cast_ofNat_Int, cast_zero_int, cast_one_int, Nat.reducePow, Nat.reduceEqDiff, Nat.reduceMod, Nat.zero_add, Nat.sub_zero, Nat.add_zero, decb h1, decb h2, dect h3]
        exact bad (fun hh => h3 hh.2.2.1) _ _
    · simp only [go_sem, Nat.reduceBEq, Nat.reduceAdd, Nat.reduceMul, Nat.reduceSub, Nat.reduceLeDiff, Nat.le_refl, implies_true, Nat.reduceLT, reduceIte, decide_true, decide_false, true_and, and_true, reduceCtorEq, Nat.mul_one, Int.reduceToNat, Int.reduceLE, Int.reduceLT, Int.reduceAdd, Int.reduceSub, Int.reduceMul, Int.cast_ofNat_Int, cast_zero_int, cast_one_int, Nat.reducePow, Nat.reduceEqDiff, Nat.reduceMod, Nat.zero_add, Nat.sub_zero, Nat.add_zero, decb h1, dect h2]
      exact bad (fun hh => h2 hh.2.1) _ _
  · simp only [go_sem, Nat.reduceBEq, Nat.reduceAdd, Nat.reduceMul, Nat.reduceSub, Nat.reduceLeDiff, Nat.le_refl, implies_true, Nat.reduceLT, reduceIte, decide_true, decide_false, true_and, and_true, reduceCtorEq, Nat.mul_one, Int.reduceToNat, Int.reduceLE, Int.reduceLT, Int.reduceAdd, Int.reduceSub, Int.reduceMul, Int.cast_ofNat_Int, cast_zero_int, cast_one_int, Nat.reducePow, Nat.reduceEqDiff, Nat.reduceMod, Nat.zero_add, Nat.sub_zero, Nat.add_zero, dect h1]
    exact bad (fun hh => h1 hh.1) _ _

end


end Go.Proofs.Ytjgekhahklidcaa
