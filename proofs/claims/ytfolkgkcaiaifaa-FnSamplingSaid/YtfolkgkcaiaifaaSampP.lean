
/- The next day of sampling and the worst value. No condition. -/
import Derived.Test.YtfolkgkcaiaifaaBadNodes
namespace Go.Proofs.Ytfolkgkcaiaifaa
open Go.HH
set_option linter.unusedSimpArgs false
set_option linter.unusedVariables false

/-- May be asked for the next day. -/
def nxtOk (l : List Smp) (nd kd dy : Int) : Prop := ((smpGood l ∧ (1 ≤ nd ∧ nd ≤ 8)) ∧ (1 ≤ kd ∧ kd ≤ 4)) ∧ (1 ≤ dy ∧ dy ≤ 365)
instance {l : List Smp} {nd kd dy : Int} : Decidable (nxtOk l nd kd dy) := by unfold nxtOk; infer_instance
def nxtDay (l : List Smp) (nd kd dy : Int) : Int := (l.getD (lastN l nd kd l.length).toNat smp0).1 + (if off (l.getD (lastN l nd kd l.length).toNat smp0) = 0 then dy else 1)
def nxtV (l : List Smp) (nd kd dy : Int) : Value :=
  if nxtOk l nd kd dy then (if lastN l nd kd l.length < 0 then .tuple #[.int .i64 0, .bool true] else if 0 ≤ nxtDay l nd kd dy ∧ nxtDay l nd kd dy ≤ 3650 then .tuple #[.int .i64 (nxtDay l nd kd dy), .bool true] else .tuple #[.int .i64 0, .bool false])
  else .tuple #[.int .i64 0, .bool false]
/-- The worst among the first. -/
def wrst (l : List Smp) (kd : Int) : Nat → Int × Int
  | 0 => (-1, 0)
  | i + 1 => if (l.getD i smp0).2.2.1 = kd ∧ (wrst l kd i).2 < off (l.getD i smp0) then ((i : Int), off (l.getD i smp0)) else wrst l kd i
theorem wrst_yes {l : List Smp} {kd : Int} {i : Nat} (h : (l.getD i smp0).2.2.1 = kd ∧ (wrst l kd i).2 < off (l.getD i smp0)) : wrst l kd (i + 1) = ((i : Int), off (l.getD i smp0)) := by rw [wrst, if_pos h]
theorem wrst_no {l : List Smp} {kd : Int} {i : Nat} (h : ¬ ((l.getD i smp0).2.2.1 = kd ∧ (wrst l kd i).2 < off (l.getD i smp0))) : wrst l kd (i + 1) = wrst l kd i := by rw [wrst, if_neg h]
theorem wrst_spec {l : List Smp} {kd : Int} : ∀ i, i ≤ l.length → ((wrst l kd i).1 = -1 ∧ (wrst l kd i).2 = 0) ∨ (0 ≤ (wrst l kd i).1 ∧ (wrst l kd i).1 < i ∧ 0 < (wrst l kd i).2 ∧ (l.getD (wrst l kd i).1.toNat smp0).2.2.1 = kd ∧ off (l.getD (wrst l kd i).1.toNat smp0) = (wrst l kd i).2)
  | 0, _ => .inl ⟨rfl, rfl⟩
  | i + 1, h => by
    have ih := wrst_spec (l := l) (kd := kd) i (by omega)
    by_cases q : (l.getD i smp0).2.2.1 = kd ∧ (wrst l kd i).2 < off (l.getD i smp0)
    · rw [wrst_yes q]
      refine .inr ⟨by simp, by simp; omega, ?_, by simpa using q.1, by simp⟩
      rcases ih with ⟨_, e⟩ | ⟨_, _, e, _⟩ <;> simp only <;> omega
    · rw [wrst_no q]
      rcases ih with ih | ⟨a, b, c⟩
      · exact .inl ih
      · exact .inr ⟨a, by omega, c⟩
/-- No value is farther off than the worst. -/
theorem wrst_most {l : List Smp} {kd : Int} : ∀ i j, j < i → (l.getD j smp0).2.2.1 = kd → off (l.getD j smp0) ≤ (wrst l kd i).2
  | i + 1, j, h, hk => by
    have grow : (wrst l kd i).2 ≤ (wrst l kd (i + 1)).2 := by
      rw [wrst]; split
      · rename_i q; simp only; omega
      · omega
    by_cases e : j = i
    · subst e
      rw [wrst]; split
      · simp
      · rename_i q
        have : ¬ (wrst l kd j).2 < off (l.getD j smp0) := fun h2 => q ⟨hk, h2⟩
        omega
    · exact Int.le_trans (wrst_most i j (by omega) hk) grow
def wrstV (l : List Smp) (kd : Int) : Value := if ndOk l kd ∧ 0 ≤ (wrst l kd l.length).1 then .tuple #[.int .i64 (wrst l kd l.length).1, .bool true] else .tuple #[.int .i64 0, .bool false]
section
variable {h : Heap} {M : Nat → Prop}
theorem c_NextSampleDay (v : Value) (l : List Smp) (nd kd dy : Int) (s : Sl h 4 v (l.map smp)) (hmax : l.length ≤ 1048576) :
    vCall [] Try.prog M 17 [v, .int .i64 nd, .int .i64 kd, .int .i64 dy] h (fun r h' => r = nxtV l nd kd dy ∧ h <+: h') := by
  obtain ⟨a, hv, _, _⟩ := id s
  rw [List.length_map] at hv
  have bad : ¬ nxtOk l nd kd dy → Value.tuple #[.int .i64 0, .bool false] = nxtV l nd kd dy := fun hn => by rw [nxtV, if_neg hn]
  refine body_of mo Try.func17 rfl (by kernel_rfl) (Nat.le_of_ble_eq_true (by kernel_rfl)) rfl ?_
  simp only [go_sem, Nat.reduceBEq, Nat.reduceAdd, Nat.reduceMul, Nat.reduceSub, Nat.reduceLeDiff, Nat.le_refl, implies_true, Nat.reduceLT, reduceIte, decide_true, decide_false, true_and, and_true, reduceCtorEq, Nat.mul_one, Int.reduceToNat, Int.reduceLE, Int.reduceLT, Int.reduceAdd, Int.reduceSub, Int.reduceMul, Int.cast_ofNat_Int, cast_zero_int, cast_one_int, Nat.reducePow, Nat.reduceEqDiff, Nat.reduceMod, Nat.zero_add, Nat.sub_zero, Nat.add_zero]
  refine ⟨by kernel_rfl, (c_areSamples v l s hmax).use (fun _ m => m) ?_⟩
  rintro _ _ ⟨rfl, ⟨t, rfl⟩⟩
  by_cases g1 : smpGood l
  · simp only [go_sem, Nat.reduceBEq, Nat.reduceAdd, Nat.reduceMul, Nat.reduceSub, Nat.reduceLeDiff, Nat.le_refl, implies_true, Nat.reduceLT, reduceIte, decide_true, decide_false, true_and, and_true, reduceCtorEq, Nat.mul_one, Int.reduceToNat, Int.reduceLE, Int.reduceLT, Int.reduceAdd, Int.reduceSub, Int.reduceMul, Int.cast_ofNat_Int, cast_zero_int, cast_one_int, Nat.reducePow, Nat.reduceEqDiff, Nat.reduceMod, Nat.zero_add, Nat.sub_zero, Nat.add_zero, decb g1]
    refine ⟨by kernel_rfl, (c_smpNode nd).use (fun _ m => m) ?_⟩
    rintro _ _ ⟨rfl, rfl⟩
    by_cases g2 : 1 ≤ nd ∧ nd ≤ 8
    · simp only [go_sem, Nat.reduceBEq, Nat.reduceAdd, Nat.reduceMul, Nat.reduceSub, Nat.reduceLeDiff, Nat.le_refl, implies_true, Nat.reduceLT, reduceIte, decide_true, decide_false, true_and, and_true, reduceCtorEq, Nat.mul_one, Int.reduceToNat, Int.reduceLE, Int.reduceLT, Int.reduceAdd, Int.reduceSub, Int.reduceMul, Int.cast_ofNat_Int, cast_zero_int, cast_one_int, Nat.reducePow, Nat.reduceEqDiff, Nat.reduceMod, Nat.zero_add, Nat.sub_zero, Nat.add_zero, decb g1, decb g2]
      refine ⟨by kernel_rfl, (c_isSampleKind kd).use (fun _ m => m) ?_⟩
      rintro _ _ ⟨rfl, rfl⟩
      by_cases g3 : 1 ≤ kd ∧ kd ≤ 4
      · simp only [go_sem, Nat.reduceBEq, Nat.reduceAdd, Nat.reduceMul, Nat.reduceSub, Nat.reduceLeDiff, Nat.le_refl, implies_true, Nat.reduceLT, reduceIte, decide_true, decide_false, true_and, and_true, reduceCtorEq, Nat.mul_one, Int.reduceToNat, Int.reduceLE, Int.reduceLT, Int.reduceAdd, Int.reduceSub, Int.reduceMul, Int.cast_ofNat_Int, cast_zero_int, cast_one_int, Nat.reducePow, Nat.reduceEqDiff, Nat.reduceMod, Nat.zero_add, Nat.sub_zero, Nat.add_zero, decb g1, decb g2, decb g3]
        refine ⟨by kernel_rfl, (c_inside _ _ _).use (fun _ m => m) ?_⟩
        rintro _ _ ⟨rfl, rfl⟩
        by_cases g4 : 1 ≤ dy ∧ dy ≤ 365
        · have ok : nxtOk l nd kd dy := ⟨⟨⟨g1, g2⟩, g3⟩, g4⟩
          simp only [go_sem, Nat.reduceBEq, Nat.reduceAdd, Nat.reduceMul, Nat.reduceSub, Nat.reduceLeDiff, Nat.le_refl, implies_true, Nat.reduceLT, reduceIte, decide_true, decide_false, true_and, and_true, reduceCtorEq, Nat.mul_one, Int.reduceToNat, Int.reduceLE, Int.reduceLT, Int.reduceAdd, Int.reduceSub, Int.reduceMul, Int.cast_ofNat_Int, cast_zero_int, cast_one_int, Nat.reducePow, Nat.reduceEqDiff, Nat.reduceMod, Nat.zero_add, Nat.sub_zero, Nat.add_zero, decb g1, decb g2, decb g3, decb g4]
          refine ⟨by kernel_rfl, (c_lastSample v l nd kd (s.mono (List.prefix_append _ _)) hmax).use (fun _ m => m) ?_⟩
          rintro _ _ ⟨rfl, ⟨t2, rfl⟩⟩
          have hl := lastN_lt (l := l) (nd := nd) (kd := kd) l.length
          obtain ⟨i, hi⟩ : ∃ i, lastN l nd kd l.length = i := ⟨_, rfl⟩
          rw [hi] at hl
          by_cases q1 : i < 0
          · simp only [go_sem, Nat.reduceBEq, Nat.reduceAdd, Nat.reduceMul, Nat.reduceSub, Nat.reduceLeDiff, Nat.le_refl, implies_true, Nat.reduceLT, reduceIte, decide_true, decide_false, true_and, and_true, reduceCtorEq, Nat.mul_one, Int.reduceToNat, Int.reduceLE, Int.reduceLT, Int.reduceAdd, Int.reduceSub, Int.reduceMul, Int.cast_ofNat_Int, cast_zero_int, cast_one_int, Nat.reducePow, Nat.reduceEqDiff, Nat.reduceMod, Nat.zero_add, Nat.sub_zero, Nat.add_zero, hi, q1]
            rw [nxtV, if_pos ok, if_pos (by rw [hi]; exact q1)]
          · have hn : nxtV l nd kd dy = if 0 ≤ nxtDay l nd kd dy ∧ nxtDay l nd kd dy ≤ 3650 then .tuple #[.int .i64 (nxtDay l nd kd dy), .bool true] else .tuple #[.int .i64 0, .bool false] := by
              rw [nxtV, if_pos ok, if_neg (by rw [hi]; exact q1)]
            rw [hn]
            obtain ⟨k, rfl⟩ := Int.eq_ofNat_of_zero_le (show 0 ≤ i by omega)
            have hlt : k < l.length := by omega
            have hlt' : k < (l.map smp).length := by simpa using hlt
            subst hv
            obtain ⟨id, o, K, hv, hK, _, hd, hb, hrow, hcell⟩ := s.at hlt'
            obtain rfl : a = some ⟨id, o, none⟩ := by simpa using hv
            have hc0 := hcell 0 (by omega)
            rw [List.getElem_map] at hrow hc0
            simp only [smp, List.getElem?_cons_zero, Nat.add_zero] at hrow hc0
            have gd : l.getD k smp0 = l[k] := getDs hlt
            have hd0 : nxtDay l nd kd dy = l[k].1 + (if off l[k] = 0 then dy else 1) := by
              rw [nxtDay, hi, Int.toNat_natCast, gd]
            have hday := (g1.ok hlt).1
            simp only [go_sem, Nat.reduceBEq, Nat.reduceAdd, Nat.reduceMul, Nat.reduceSub, Nat.reduceLeDiff, Nat.le_refl, implies_true, Nat.reduceLT, reduceIte, decide_true, decide_false, true_and, and_true, reduceCtorEq, Nat.mul_one, Int.reduceToNat, Int.reduceLE, Int.reduceLT, Int.reduceAdd, Int.reduceSub, Int.reduceMul, Int.cast_ofNat_Int, cast_zero_int, cast_one_int, Nat.reducePow, Nat.reduceEqDiff, Nat.reduceMod, Nat.zero_add, Nat.sub_zero, Nat.add_zero, hi, q1, show (k : Int) < l.length by omega, hK, hd, hb, hrow, List.append_assoc]
            refine ⟨by kernel_rfl, (c_isGood _ (g1.ok hlt)).use (fun _ m => m) ?_⟩
            rintro _ _ ⟨rfl, ⟨t3, rfl⟩⟩
            by_cases q2 : off l[k] = 0
            · rw [show nxtDay l nd kd dy = l[k].1 + dy by rw [hd0, if_pos q2]]
              have w : IntKind.i64.wrap (l[k].1 + dy) = l[k].1 + dy := wrap64 (by omega)
              simp only [go_sem, Nat.reduceBEq, Nat.reduceAdd, Nat.reduceMul, Nat.reduceSub, Nat.reduceLeDiff, Nat.le_refl, implies_true, Nat.reduceLT, reduceIte, decide_true, decide_false, true_and, and_true, reduceCtorEq, Nat.mul_one, Int.reduceToNat, Int.reduceLE, Int.reduceLT, Int.reduceAdd, Int.reduceSub, Int.reduceMul, Int.cast_ofNat_Int, cast_zero_int, cast_one_int, Nat.reducePow, Nat.reduceEqDiff, Nat.reduceMod, Nat.zero_add, Nat.sub_zero, Nat.add_zero, hi, decb q2, show (k : Int) < l.length by omega, hK, hd, hc0, w, List.append_assoc]
              refine ⟨by kernel_rfl, (c_smpDay _).use (fun _ m => m) ?_⟩
              rintro _ _ ⟨rfl, rfl⟩
              by_cases q3 : 0 ≤ l[k].1 + dy ∧ l[k].1 + dy ≤ 3650
              · simp only [go_sem, Nat.reduceBEq, Nat.reduceAdd, Nat.reduceMul, Nat.reduceSub, Nat.reduceLeDiff, Nat.le_refl, implies_true, Nat.reduceLT, reduceIte, decide_true, decide_false, true_and, and_true, reduceCtorEq, Nat.mul_one, Int.reduceToNat, Int.reduceLE, Int.reduceLT, Int.reduceAdd, Int.reduceSub, Int.reduceMul, Int.cast_ofNat_Int, cast_zero_int, cast_one_int, Nat.reducePow, Nat.reduceEqDiff, Nat.reduceMod, Nat.zero_add, Nat.sub_zero, Nat.add_zero, hi, decb q3, show (k : Int) < l.length by omega, hK, hd, hc0, w, if_pos q3]
              · simp only [go_sem, Nat.reduceBEq, Nat.reduceAdd, Nat.reduceMul, Nat.reduceSub, Nat.reduceLeDiff, Nat.le_refl, implies_true, Nat.reduceLT, reduceIte, decide_true, decide_false, true_and, and_true, reduceCtorEq, Nat.mul_one, Int.reduceToNat, Int.reduceLE, Int.reduceLT, Int.reduceAdd, Int.reduceSub, Int.reduceMul, Int.cast_ofNat_Int, cast_zero_int, cast_one_int, Nat.reducePow, Nat.reduceEqDiff, Nat.reduceMod, Nat.zero_add, Nat.sub_zero, Nat.add_zero, dect q3, if_neg q3]
            · rw [show nxtDay l nd kd dy = l[k].1 + 1 by rw [hd0, if_neg q2]]
              have w : IntKind.i64.wrap (l[k].1 + 1) = l[k].1 + 1 := wrap64 (by omega)
              simp only [go_sem, Nat.reduceBEq, Nat.reduceAdd, Nat.reduceMul, Nat.reduceSub, Nat.reduceLeDiff, Nat.le_refl, implies_true, Nat.reduceLT, reduceIte, decide_true, decide_false, true_and, and_true, reduceCtorEq, Nat.mul_one, Int.reduceToNat, Int.reduceLE, Int.reduceLT, Int.reduceAdd, Int.reduceSub, Int.reduceMul, Int.cast_ofNat_Int, cast_zero_int, cast_one_int, Nat.reducePow, Nat.reduceEqDiff, Nat.reduceMod, Nat.zero_add, Nat.sub_zero, Nat.add_zero, hi, dect q2, show (k : Int) < l.length by omega, hK, hd, hc0, w, List.append_assoc]
              refine ⟨by kernel_rfl, (c_smpDay _).use (fun _ m => m) ?_⟩
              rintro _ _ ⟨rfl, rfl⟩
              by_cases q3 : 0 ≤ l[k].1 + 1 ∧ l[k].1 + 1 ≤ 3650
              · simp only [go_sem, Nat.reduceBEq, Nat.reduceAdd, Nat.reduceMul, Nat.reduceSub, Nat.reduceLeDiff, Nat.le_refl, implies_true, Nat.reduceLT, reduceIte, decide_true, decide_false, true_and, and_true, reduceCtorEq, Nat.mul_one, Int.reduceToNat, Int.reduceLE, Int.reduceLT, Int.reduceAdd, Int.reduceSub, Int.reduceMul, Int.cast_ofNat_Int, cast_zero_int, cast_one_int, Nat.reducePow, Nat.reduceEqDiff, Nat.reduceMod, Nat.zero_add, Nat.sub_zero, Nat.add_zero, hi, decb q3, show (k : Int) < l.length by omega, hK, hd, hc0, w, if_pos q3]
              · simp only [go_sem, Nat.reduceBEq, Nat.reduceAdd, Nat.reduceMul, Nat.reduceSub, Nat.reduceLeDiff, Nat.le_refl, implies_true, Nat.reduceLT, reduceIte, decide_true, decide_false, true_and, and_true, reduceCtorEq, Nat.mul_one, Int.reduceToNat, Int.reduceLE, Int.reduceLT, Int.reduceAdd, Int.reduceSub, Int.reduceMul, Int.cast_ofNat_Int, cast_zero_int, cast_one_int, Nat.reducePow, Nat.reduceEqDiff, Nat.reduceMod, Nat.zero_add, Nat.sub_zero, Nat.add_zero, dect q3, if_neg q3]
        · simp only [go_sem, Nat.reduceBEq, Nat.reduceAdd, Nat.reduceMul, Nat.reduceSub, Nat.reduceLeDiff, Nat.le_refl, implies_true, Nat.reduceLT, reduceIte, decide_true, decide_false, true_and, and_true, reduceCtorEq, Nat.mul_one, Int.reduceToNat, Int.reduceLE, Int.reduceLT, Int.reduceAdd, Int.reduceSub, Int.reduceMul, Int.cast_ofNat_Int, cast_zero_int, cast_one_int, Nat.reducePow, Nat.reduceEqDiff, Nat.reduceMod, Nat.zero_add, Nat.sub_zero, Nat.add_zero, decb g1, decb g2, decb g3, dect g4]
          exact bad (fun hh => g4 hh.2)
      · simp only [go_sem, Nat.reduceBEq, Nat.reduceAdd, Nat.reduceMul, Nat.reduceSub, Nat.reduceLeDiff, Nat.le_refl, implies_true, Nat.reduceLT, reduceIte, decide_true, decide_false, true_and, and_true, reduceCtorEq, Nat.mul_one, Int.reduceToNat, Int.reduceLE, Int.reduceLT, Int.reduceAdd, Int.reduceSub, Int.reduceMul, Int.cast_ofNat_Int, cast_zero_int, cast_one_int, Nat.reducePow, Nat.reduceEqDiff, Nat.reduceMod, Nat.zero_add, Nat.sub_zero, Nat.add_zero, decb g1, decb g2, dect g3]
        exact bad (fun hh => g3 hh.1.2)
    · simp only [go_sem, Nat.reduceBEq, Nat.reduceAdd, Nat.reduceMul, Nat.reduceSub, Nat.reduceLeDiff, Nat.le_refl, implies_true, Nat.reduceLT, reduceIte, decide_true, decide_false, true_and, and_true, reduceCtorEq, Nat.mul_one, Int.reduceToNat, Int.reduceLE, Int.reduceLT, Int.reduceAdd, Int.reduceSub, Int.reduceMul, Int.cast_ofNat_Int, cast_zero_int, cast_one_int, Nat.reducePow, Nat.reduceEqDiff, Nat.reduceMod, Nat.zero_add, Nat.sub_zero, Nat.add_zero, decb g1, dect g2]
      exact bad (fun hh => g2 hh.1.1.2)
  · simp only [go_sem, Nat.reduceBEq, Nat.reduceAdd, Nat.reduceMul, Nat.reduceSub, Nat.reduceLeDiff, Nat.le_refl, implies_true, Nat.reduceLT, reduceIte, decide_true, decide_false, true_and, and_true, reduceCtorEq, Nat.mul_one, Int.reduceToNat, Int.reduceLE, Int.reduceLT, Int.reduceAdd, Int.reduceSub, Int.reduceMul, Int.cast_ofNat_Int, cast_zero_int, cast_one_int, Nat.reducePow, Nat.reduceEqDiff, Nat.reduceMod, Nat.zero_add, Nat.sub_zero, Nat.add_zero, dect g1]
    exact bad (fun hh => g1 hh.1.1.1)
theorem c_sNextSampleDay (v : Value) (l : List Smp) (nd kd dy : Int) (s : Sl h 4 v (l.map smp)) (hmax : l.length ≤ 1048576) :
    vCall [] Try.prog M 24 [v, .int .i64 nd, .int .i64 kd, .int .i64 dy] h (fun r h' => r = nxtV l nd kd dy ∧ h <+: h') := by
  obtain ⟨a, hv, _, _⟩ := id s
  rw [List.length_map] at hv
  have bad : ¬ nxtOk l nd kd dy → Value.tuple #[.int .i64 0, .bool false] = nxtV l nd kd dy := fun hn => by rw [nxtV, if_neg hn]
  refine body_of mo Try.func24 rfl (by kernel_rfl) (Nat.le_of_ble_eq_true (by kernel_rfl)) rfl ?_
  simp only [go_sem, Nat.reduceBEq, Nat.reduceAdd, Nat.reduceMul, Nat.reduceSub, Nat.reduceLeDiff, Nat.le_refl, implies_true, Nat.reduceLT, reduceIte, decide_true, decide_false, true_and, and_true, reduceCtorEq, Nat.mul_one, Int.reduceToNat, Int.reduceLE, Int.reduceLT, Int.reduceAdd, Int.reduceSub, Int.reduceMul, Int.cast_ofNat_Int, cast_zero_int, cast_one_int, Nat.reducePow, Nat.reduceEqDiff, Nat.reduceMod, Nat.zero_add, Nat.sub_zero, Nat.add_zero]
  refine ⟨by kernel_rfl, (c_l23Good v l s hmax).use (fun _ m => m) ?_⟩
  rintro _ _ ⟨rfl, ⟨t, rfl⟩⟩
  by_cases g1 : smpGood l
  · simp only [go_sem, Nat.reduceBEq, Nat.reduceAdd, Nat.reduceMul, Nat.reduceSub, Nat.reduceLeDiff, Nat.le_refl, implies_true, Nat.reduceLT, reduceIte, decide_true, decide_false, true_and, and_true, reduceCtorEq, Nat.mul_one, Int.reduceToNat, Int.reduceLE, Int.reduceLT, Int.reduceAdd, Int.reduceSub, Int.reduceMul, Int.cast_ofNat_Int, cast_zero_int, cast_one_int, Nat.reducePow, Nat.reduceEqDiff, Nat.reduceMod, Nat.zero_add, Nat.sub_zero, Nat.add_zero, decb g1]
    refine ⟨by kernel_rfl, (c_l23smpNode nd).use (fun _ m => m) ?_⟩
    rintro _ _ ⟨rfl, rfl⟩
    by_cases g2 : 1 ≤ nd ∧ nd ≤ 8
    · simp only [go_sem, Nat.reduceBEq, Nat.reduceAdd, Nat.reduceMul, Nat.reduceSub, Nat.reduceLeDiff, Nat.le_refl, implies_true, Nat.reduceLT, reduceIte, decide_true, decide_false, true_and, and_true, reduceCtorEq, Nat.mul_one, Int.reduceToNat, Int.reduceLE, Int.reduceLT, Int.reduceAdd, Int.reduceSub, Int.reduceMul, Int.cast_ofNat_Int, cast_zero_int, cast_one_int, Nat.reducePow, Nat.reduceEqDiff, Nat.reduceMod, Nat.zero_add, Nat.sub_zero, Nat.add_zero, decb g1, decb g2]
      refine ⟨by kernel_rfl, (c_l23Kind kd).use (fun _ m => m) ?_⟩
      rintro _ _ ⟨rfl, rfl⟩
      by_cases g3 : 1 ≤ kd ∧ kd ≤ 4
      · simp only [go_sem, Nat.reduceBEq, Nat.reduceAdd, Nat.reduceMul, Nat.reduceSub, Nat.reduceLeDiff, Nat.le_refl, implies_true, Nat.reduceLT, reduceIte, decide_true, decide_false, true_and, and_true, reduceCtorEq, Nat.mul_one, Int.reduceToNat, Int.reduceLE, Int.reduceLT, Int.reduceAdd, Int.reduceSub, Int.reduceMul, Int.cast_ofNat_Int, cast_zero_int, cast_one_int, Nat.reducePow, Nat.reduceEqDiff, Nat.reduceMod, Nat.zero_add, Nat.sub_zero, Nat.add_zero, decb g1, decb g2, decb g3]
        refine ⟨by kernel_rfl, (c_l1In _ _ _).use (fun _ m => m) ?_⟩
        rintro _ _ ⟨rfl, rfl⟩
        by_cases g4 : 1 ≤ dy ∧ dy ≤ 365
        · have ok : nxtOk l nd kd dy := ⟨⟨⟨g1, g2⟩, g3⟩, g4⟩
          simp only [go_sem, Nat.reduceBEq, Nat.reduceAdd, Nat.reduceMul, Nat.reduceSub, Nat.reduceLeDiff, Nat.le_refl, implies_true, Nat.reduceLT, reduceIte, decide_true, decide_false, true_and, and_true, reduceCtorEq, Nat.mul_one, Int.reduceToNat, Int.reduceLE, Int.reduceLT, Int.reduceAdd, Int.reduceSub, Int.reduceMul, Int.cast_ofNat_Int, cast_zero_int, cast_one_int, Nat.reducePow, Nat.reduceEqDiff, Nat.reduceMod, Nat.zero_add, Nat.sub_zero, Nat.add_zero, decb g1, decb g2, decb g3, decb g4]
          refine ⟨by kernel_rfl, (c_l23Last v l nd kd (s.mono (List.prefix_append _ _)) hmax).use (fun _ m => m) ?_⟩
          rintro _ _ ⟨rfl, ⟨t2, rfl⟩⟩
          have hl := lastN_lt (l := l) (nd := nd) (kd := kd) l.length
          obtain ⟨i, hi⟩ : ∃ i, lastN l nd kd l.length = i := ⟨_, rfl⟩
          rw [hi] at hl
          by_cases q1 : i < 0
          · simp only [go_sem, Nat.reduceBEq, Nat.reduceAdd, Nat.reduceMul, Nat.reduceSub, Nat.reduceLeDiff, Nat.le_refl, implies_true, Nat.reduceLT, reduceIte, decide_true, decide_false, true_and, and_true, reduceCtorEq, Nat.mul_one, Int.reduceToNat, Int.reduceLE, Int.reduceLT, Int.reduceAdd, Int.reduceSub, Int.reduceMul, Int.cast_ofNat_Int, cast_zero_int, cast_one_int, Nat.reducePow, Nat.reduceEqDiff, Nat.reduceMod, Nat.zero_add, Nat.sub_zero, Nat.add_zero, hi, q1]
            rw [nxtV, if_pos ok, if_pos (by rw [hi]; exact q1)]
          · have hn : nxtV l nd kd dy = if 0 ≤ nxtDay l nd kd dy ∧ nxtDay l nd kd dy ≤ 3650 then .tuple #[.int .i64 (nxtDay l nd kd dy), .bool true] else .tuple #[.int .i64 0, .bool false] := by
              rw [nxtV, if_pos ok, if_neg (by rw [hi]; exact q1)]
            rw [hn]
            obtain ⟨k, rfl⟩ := Int.eq_ofNat_of_zero_le (show 0 ≤ i by omega)
            have hlt : k < l.length := by omega
            have hlt' : k < (l.map smp).length := by simpa using hlt
            subst hv
            obtain ⟨id, o, K, hv, hK, _, hd, hb, hrow, hcell⟩ := s.at hlt'
            obtain rfl : a = some ⟨id, o, none⟩ := by simpa using hv
            have hc0 := hcell 0 (by omega)
            rw [List.getElem_map] at hrow hc0
            simp only [smp, List.getElem?_cons_zero, Nat.add_zero] at hrow hc0
            have gd : l.getD k smp0 = l[k] := getDs hlt
            have hd0 : nxtDay l nd kd dy = l[k].1 + (if off l[k] = 0 then dy else 1) := by
              rw [nxtDay, hi, Int.toNat_natCast, gd]
            have hday := (g1.ok hlt).1
            have w1 : IntKind.i64.wrap (l[k].1 + 1) = l[k].1 + 1 := wrap64 (by omega)
            have w2 : IntKind.i64.wrap (l[k].1 + dy) = l[k].1 + dy := wrap64 (by omega)
            simp only [go_sem, Nat.reduceBEq, Nat.reduceAdd, Nat.reduceMul, Nat.reduceSub, Nat.reduceLeDiff, Nat.le_refl, implies_true, Nat.reduceLT, reduceIte, decide_true, decide_false, true_and, and_true, reduceCtorEq, Nat.mul_one, Int.reduceToNat, Int.reduceLE, Int.reduceLT, Int.reduceAdd, Int.reduceSub, Int.reduceMul, Int.cast_ofNat_Int, cast_zero_int, cast_one_int, Nat.reducePow, Nat.reduceEqDiff, Nat.reduceMod, Nat.zero_add, Nat.sub_zero, Nat.add_zero, hi, q1, show (k : Int) < l.length by omega, hK, hd, hb, hrow, hc0, w1, List.append_assoc]
            refine ⟨by kernel_rfl, (c_l23Off _ (g1.ok hlt)).use (fun _ m => m) ?_⟩
            rintro _ _ ⟨rfl, ⟨t3, rfl⟩⟩
            by_cases q2 : off l[k] = 0
            · rw [show nxtDay l nd kd dy = l[k].1 + dy by rw [hd0, if_pos q2]]
              simp only [go_sem, Nat.reduceBEq, Nat.reduceAdd, Nat.reduceMul, Nat.reduceSub, Nat.reduceLeDiff, Nat.le_refl, implies_true, Nat.reduceLT, reduceIte, decide_true, decide_false, true_and, and_true, reduceCtorEq, Nat.mul_one, Int.reduceToNat, Int.reduceLE, Int.reduceLT, Int.reduceAdd, Int.reduceSub, Int.reduceMul, Int.cast_ofNat_Int, cast_zero_int, cast_one_int, Nat.reducePow, Nat.reduceEqDiff, Nat.reduceMod, Nat.zero_add, Nat.sub_zero, Nat.add_zero, hi, show (off l[k] == 0) = true by simpa using q2, show (k : Int) < l.length by omega, hK, hd, hc0, w2, List.append_assoc]
              refine ⟨by kernel_rfl, (c_l19smpDay _).use (fun _ m => m) ?_⟩
              rintro _ _ ⟨rfl, rfl⟩
              by_cases q3 : 0 ≤ l[k].1 + dy ∧ l[k].1 + dy ≤ 3650
              · simp only [go_sem, Nat.reduceBEq, Nat.reduceAdd, Nat.reduceMul, Nat.reduceSub, Nat.reduceLeDiff, Nat.le_refl, implies_true, Nat.reduceLT, reduceIte, decide_true, decide_false, true_and, and_true, reduceCtorEq, Nat.mul_one, Int.reduceToNat, Int.reduceLE, Int.reduceLT, Int.reduceAdd, Int.reduceSub, Int.reduceMul, Int.cast_ofNat_Int, cast_zero_int, cast_one_int, Nat.reducePow, Nat.reduceEqDiff, Nat.reduceMod, Nat.zero_add, Nat.sub_zero, Nat.add_zero, hi, decb q3, if_pos q3]
              · simp only [go_sem, Nat.reduceBEq, Nat.reduceAdd, Nat.reduceMul, Nat.reduceSub, Nat.reduceLeDiff, Nat.le_refl, implies_true, Nat.reduceLT, reduceIte, decide_true, decide_false, true_and, and_true, reduceCtorEq, Nat.mul_one, Int.reduceToNat, Int.reduceLE, Int.reduceLT, Int.reduceAdd, Int.reduceSub, Int.reduceMul, Int.cast_ofNat_Int, cast_zero_int, cast_one_int, Nat.reducePow, Nat.reduceEqDiff, Nat.reduceMod, Nat.zero_add, Nat.sub_zero, Nat.add_zero, dect q3, if_neg q3]
            · rw [show nxtDay l nd kd dy = l[k].1 + 1 by rw [hd0, if_neg q2]]
              simp only [go_sem, Nat.reduceBEq, Nat.reduceAdd, Nat.reduceMul, Nat.reduceSub, Nat.reduceLeDiff, Nat.le_refl, implies_true, Nat.reduceLT, reduceIte, decide_true, decide_false, true_and, and_true, reduceCtorEq, Nat.mul_one, Int.reduceToNat, Int.reduceLE, Int.reduceLT, Int.reduceAdd, Int.reduceSub, Int.reduceMul, Int.cast_ofNat_Int, cast_zero_int, cast_one_int, Nat.reducePow, Nat.reduceEqDiff, Nat.reduceMod, Nat.zero_add, Nat.sub_zero, Nat.add_zero, hi, show (off l[k] == 0) = false by simpa using q2, show (k : Int) < l.length by omega, hK, hd, hc0, List.append_assoc]
              refine ⟨by kernel_rfl, (c_l19smpDay _).use (fun _ m => m) ?_⟩
              rintro _ _ ⟨rfl, rfl⟩
              by_cases q3 : 0 ≤ l[k].1 + 1 ∧ l[k].1 + 1 ≤ 3650
              · simp only [go_sem, Nat.reduceBEq, Nat.reduceAdd, Nat.reduceMul, Nat.reduceSub, Nat.reduceLeDiff, Nat.le_refl, implies_true, Nat.reduceLT, reduceIte, decide_true, decide_false, true_and, and_true, reduceCtorEq, Nat.mul_one, Int.reduceToNat, Int.reduceLE, Int.reduceLT, Int.reduceAdd, Int.reduceSub, Int.reduceMul, Int.cast_ofNat_Int, cast_zero_int, cast_one_int, Nat.reducePow, Nat.reduceEqDiff, Nat.reduceMod, Nat.zero_add, Nat.sub_zero, Nat.add_zero, hi, decb q3, if_pos q3]
              · simp only [go_sem, Nat.reduceBEq, Nat.reduceAdd, Nat.reduceMul, Nat.reduceSub, Nat.reduceLeDiff, Nat.le_refl, implies_true, Nat.reduceLT, reduceIte, decide_true, decide_false, true_and, and_true, reduceCtorEq, Nat.mul_one, Int.reduceToNat, Int.reduceLE, Int.reduceLT, Int.reduceAdd, Int.reduceSub, Int.reduceMul, Int.cast_ofNat_Int, cast_zero_int, cast_one_int, Nat.reducePow, Nat.reduceEqDiff, Nat.reduceMod, Nat.zero_add, Nat.sub_zero, Nat.add_zero, dect q3, if_neg q3]
        · simp only [go_sem, Nat.reduceBEq, Nat.reduceAdd, Nat.reduceMul, Nat.reduceSub, Nat.reduceLeDiff, Nat.le_refl, implies_true, Nat.reduceLT, reduceIte, decide_true, decide_false, true_and, and_true, reduceCtorEq, Nat.mul_one, Int.reduceToNat, Int.reduceLE, Int.reduceLT, Int.reduceAdd, Int.reduceSub, Int.reduceMul, Int.cast_ofNat_Int, cast_zero_int, cast_one_int, Nat.reducePow, Nat.reduceEqDiff, Nat.reduceMod, Nat.zero_add, Nat.sub_zero, Nat.add_zero, decb g1, decb g2, decb g3, dect g4]
          exact bad (fun hh => g4 hh.2)
      · simp only [go_sem, Nat.reduceBEq, Nat.reduceAdd, Nat.reduceMul, Nat.reduceSub, Nat.reduceLeDiff, Nat.le_refl, implies_true, Nat.reduceLT, reduceIte, decide_true, decide_false, true_and, and_true, reduceCtorEq, Nat.mul_one, Int.reduceToNat, Int.reduceLE, Int.reduceLT, Int.reduceAdd, Int.reduceSub, Int.reduceMul, Int.cast_ofNat_Int, cast_zero_int, cast_one_int, Nat.reducePow, Nat.reduceEqDiff, Nat.reduceMod, Nat.zero_add, Nat.sub_zero, Nat.add_zero, decb g1, decb g2, dect g3]
        exact bad (fun hh => g3 hh.1.2)
    · simp only [go_sem, Nat.reduceBEq, Nat.reduceAdd, Nat.reduceMul, Nat.reduceSub, Nat.reduceLeDiff, Nat.le_refl, implies_true, Nat.reduceLT, reduceIte, decide_true, decide_false, true_and, and_true, reduceCtorEq, Nat.mul_one, Int.reduceToNat, Int.reduceLE, Int.reduceLT, Int.reduceAdd, Int.reduceSub, Int.reduceMul, Int.cast_ofNat_Int, cast_zero_int, cast_one_int, Nat.reducePow, Nat.reduceEqDiff, Nat.reduceMod, Nat.zero_add, Nat.sub_zero, Nat.add_zero, decb g1, dect g2]
      exact bad (fun hh => g2 hh.1.1.2)
  · simp only [go_sem, Nat.reduceBEq, Nat.reduceAdd, Nat.reduceMul, Nat.reduceSub, Nat.reduceLeDiff, Nat.le_refl, implies_true, Nat.reduceLT, reduceIte, decide_true, decide_false, true_and, and_true, reduceCtorEq, Nat.mul_one, Int.reduceToNat, Int.reduceLE, Int.reduceLT, Int.reduceAdd, Int.reduceSub, Int.reduceMul, Int.cast_ofNat_Int, cast_zero_int, cast_one_int, Nat.reducePow, Nat.reduceEqDiff, Nat.reduceMod, Nat.zero_add, Nat.sub_zero, Nat.add_zero, dect g1]
    exact bad (fun hh => g1 hh.1.1.1)
theorem c_WorstValue (v : Value) (l : List Smp) (kd : Int) (s : Sl h 4 v (l.map smp)) (hmax : l.length ≤ 1048576) :
    vCall [] Try.prog M 18 [v, .int .i64 kd] h (fun r h' => r = wrstV l kd ∧ h <+: h') := by
  obtain ⟨a, hv, _, _⟩ := id s
  rw [List.length_map] at hv
  have bad : ¬ ndOk l kd → Value.tuple #[.int .i64 0, .bool false] = wrstV l kd := fun hn => by rw [wrstV, if_neg (fun hh => hn hh.1)]
  refine body_of mo Try.func18 rfl (by kernel_rfl) (Nat.le_of_ble_eq_true (by kernel_rfl)) rfl ?_
  simp only [go_sem, Nat.reduceBEq, Nat.reduceAdd, Nat.reduceMul, Nat.reduceSub, Nat.reduceLeDiff, Nat.le_refl, implies_true, Nat.reduceLT, reduceIte, decide_true, decide_false, true_and, and_true, reduceCtorEq, Nat.mul_one, Int.reduceToNat, Int.reduceLE, Int.reduceLT, Int.reduceAdd, Int.reduceSub, Int.reduceMul, Int.cast_ofNat_Int, cast_zero_int, cast_one_int, Nat.reducePow, Nat.reduceEqDiff, Nat.reduceMod, Nat.zero_add, Nat.sub_zero, Nat.add_zero]
  refine ⟨by kernel_rfl, (c_areSamples v l s hmax).use (fun _ m => m) ?_⟩
  rintro _ _ ⟨rfl, ⟨t, rfl⟩⟩
  by_cases g1 : smpGood l
  · simp only [go_sem, Nat.reduceBEq, Nat.reduceAdd, Nat.reduceMul, Nat.reduceSub, Nat.reduceLeDiff, Nat.le_refl, implies_true, Nat.reduceLT, reduceIte, decide_true, decide_false, true_and, and_true, reduceCtorEq, Nat.mul_one, Int.reduceToNat, Int.reduceLE, Int.reduceLT, Int.reduceAdd, Int.reduceSub, Int.reduceMul, Int.cast_ofNat_Int, cast_zero_int, cast_one_int, Nat.reducePow, Nat.reduceEqDiff, Nat.reduceMod, Nat.zero_add, Nat.sub_zero, Nat.add_zero, decb g1]
    refine ⟨by kernel_rfl, (c_isSampleKind kd).use (fun _ m => m) ?_⟩
    rintro _ _ ⟨rfl, rfl⟩
    by_cases g3 : 1 ≤ kd ∧ kd ≤ 4
    · have ok : ndOk l kd := ⟨g1, g3⟩
      subst hv
      simp only [go_sem, Nat.reduceBEq, Nat.reduceAdd, Nat.reduceMul, Nat.reduceSub, Nat.reduceLeDiff, Nat.le_refl, implies_true, Nat.reduceLT, reduceIte, decide_true, decide_false, true_and, and_true, reduceCtorEq, Nat.mul_one, Int.reduceToNat, Int.reduceLE, Int.reduceLT, Int.reduceAdd, Int.reduceSub, Int.reduceMul, Int.cast_ofNat_Int, cast_zero_int, cast_one_int, Nat.reducePow, Nat.reduceEqDiff, Nat.reduceMod, Nat.zero_add, Nat.sub_zero, Nat.add_zero, decb g1, decb g3]
      refine vLoop.count mo l.length (fun i e h' => ∃ t : Heap, e 1 = .int .i64 kd ∧ e 6 = .int .i64 (wrst l kd i).1 ∧ e 7 = .int .i64 (wrst l kd i).2 ∧ e 18 = .slice a l.length 0 ∧ e 19 = .int .i64 l.length ∧ e 20 = .int .i64 i ∧ h' = h ++ t) ?_ ?_
      · exact ⟨t, rfl, rfl, rfl, rfl, rfl, rfl, rfl⟩
      · rintro i e _ hi ⟨t, e1, e6, e7, e18, e19, e20, rfl⟩
        simp only [go_sem, Nat.reduceBEq, Nat.reduceAdd, Nat.reduceMul, Nat.reduceSub, Nat.reduceLeDiff, Nat.le_refl, implies_true, Nat.reduceLT, reduceIte, decide_true, decide_false, true_and, and_true, reduceCtorEq, Nat.mul_one, Int.reduceToNat, Int.reduceLE, Int.reduceLT, Int.reduceAdd, Int.reduceSub, Int.reduceMul, Int.cast_ofNat_Int, cast_zero_int, cast_one_int, Nat.reducePow, Nat.reduceEqDiff, Nat.reduceMod, Nat.zero_add, Nat.sub_zero, Nat.add_zero, e1, e6, e7, e18, e19, e20]
        by_cases hlt : i < l.length
        · have hlt' : i < (l.map smp).length := by simpa using hlt
          obtain ⟨id, o, K, hv, hK, _, hd, hb, hrow, hcell⟩ := s.at hlt'
          obtain rfl : a = some ⟨id, o, none⟩ := by simpa using hv
          rw [List.getElem_map] at hrow
          simp only [smp] at hrow
          have gd : l.getD i smp0 = l[i] := getDs hlt
          have ws := wsucc hlt (by omega)
          simp only [go_sem, Nat.reduceBEq, Nat.reduceAdd, Nat.reduceMul, Nat.reduceSub, Nat.reduceLeDiff, Nat.le_refl, implies_true, Nat.reduceLT, reduceIte, decide_true, decide_false, true_and, and_true, reduceCtorEq, Nat.mul_one, Int.reduceToNat, Int.reduceLE, Int.reduceLT, Int.reduceAdd, Int.reduceSub, Int.reduceMul, Int.cast_ofNat_Int, cast_zero_int, cast_one_int, Nat.reducePow, Nat.reduceEqDiff, Nat.reduceMod, Nat.zero_add, Nat.sub_zero, Nat.add_zero, e1, e6, e7, e18, e19, e20, show (i : Int) < l.length by omega, hK, hd, hb, hrow]
          by_cases q1 : l[i].2.2.1 = kd
          · simp only [go_sem, Nat.reduceBEq, Nat.reduceAdd, Nat.reduceMul, Nat.reduceSub, Nat.reduceLeDiff, Nat.le_refl, implies_true, Nat.reduceLT, reduceIte, decide_true, decide_false, true_and, and_true, reduceCtorEq, Nat.mul_one, Int.reduceToNat, Int.reduceLE, Int.reduceLT, Int.reduceAdd, Int.reduceSub, Int.reduceMul, Int.cast_ofNat_Int, cast_zero_int, cast_one_int, Nat.reducePow, Nat.reduceEqDiff, Nat.reduceMod, Nat.zero_add, Nat.sub_zero, Nat.add_zero, e1, e6, e7, e18, e19, e20, show (l[i].2.2.1 == kd) = true by simpa using q1]
            refine ⟨by kernel_rfl, (c_outside _ (g1.ok hlt)).use (fun _ m => m) ?_⟩
            rintro _ _ ⟨rfl, ⟨t2, rfl⟩⟩
            by_cases q2 : (wrst l kd i).2 < off l[i]
            · simp only [go_sem, Nat.reduceBEq, Nat.reduceAdd, Nat.reduceMul, Nat.reduceSub, Nat.reduceLeDiff, Nat.le_refl, implies_true, Nat.reduceLT, reduceIte, decide_true, decide_false, true_and, and_true, reduceCtorEq, Nat.mul_one, Int.reduceToNat, Int.reduceLE, Int.reduceLT, Int.reduceAdd, Int.reduceSub, Int.reduceMul, Int.cast_ofNat_Int, cast_zero_int, cast_one_int, Nat.reducePow, Nat.reduceEqDiff, Nat.reduceMod, Nat.zero_add, Nat.sub_zero, Nat.add_zero, e1, e6, e7, e18, e19, e20, q2, show (l[i].2.2.1 == kd) = true by simpa using q1, List.append_assoc]
              refine ⟨by kernel_rfl, (c_outside _ (g1.ok hlt)).use (fun _ m => m) ?_⟩
              rintro _ _ ⟨rfl, ⟨t3, rfl⟩⟩
              simp only [go_sem, Nat.reduceBEq, Nat.reduceAdd, Nat.reduceMul, Nat.reduceSub, Nat.reduceLeDiff, Nat.le_refl, implies_true, Nat.reduceLT, reduceIte, decide_true, decide_false, true_and, and_true, reduceCtorEq, Nat.mul_one, Int.reduceToNat, Int.reduceLE, Int.reduceLT, Int.reduceAdd, Int.reduceSub, Int.reduceMul, Int.cast_ofNat_Int, cast_zero_int, cast_one_int, Nat.reducePow, Nat.reduceEqDiff, Nat.reduceMod, Nat.zero_add, Nat.sub_zero, Nat.add_zero, e1, e6, e7, e18, e19, e20, List.append_assoc]
              refine ⟨hlt, _, ?_, ?_, congrArg _ ws, rfl⟩ <;> rw [wrst_yes (by rw [gd]; exact ⟨q1, q2⟩)]
              rw [gd]
            · simp only [go_sem, Nat.reduceBEq, Nat.reduceAdd, Nat.reduceMul, Nat.reduceSub, Nat.reduceLeDiff, Nat.le_refl, implies_true, Nat.reduceLT, reduceIte, decide_true, decide_false, true_and, and_true, reduceCtorEq, Nat.mul_one, Int.reduceToNat, Int.reduceLE, Int.reduceLT, Int.reduceAdd, Int.reduceSub, Int.reduceMul, Int.cast_ofNat_Int, cast_zero_int, cast_one_int, Nat.reducePow, Nat.reduceEqDiff, Nat.reduceMod, Nat.zero_add, Nat.sub_zero, Nat.add_zero, e1, e6, e7, e18, e19, e20, q2, show (l[i].2.2.1 == kd) = true by simpa using q1, List.append_assoc]
              refine ⟨hlt, _, ?_, ?_, congrArg _ ws, rfl⟩ <;> rw [wrst_no (by rw [gd]; exact fun hh => q2 hh.2)]
          · simp only [go_sem, Nat.reduceBEq, Nat.reduceAdd, Nat.reduceMul, Nat.reduceSub, Nat.reduceLeDiff, Nat.le_refl, implies_true, Nat.reduceLT, reduceIte, decide_true, decide_false, true_and, and_true, reduceCtorEq, Nat.mul_one, Int.reduceToNat, Int.reduceLE, Int.reduceLT, Int.reduceAdd, Int.reduceSub, Int.reduceMul, Int.cast_ofNat_Int, cast_zero_int, cast_one_int, Nat.reducePow, Nat.reduceEqDiff, Nat.reduceMod, Nat.zero_add, Nat.sub_zero, Nat.add_zero, e1, e6, e7, e18, e19, e20, show (l[i].2.2.1 == kd) = false by simpa using q1]
            refine ⟨hlt, _, ?_, ?_, congrArg _ ws, rfl⟩ <;> rw [wrst_no (by rw [gd]; exact fun hh => q1 hh.1)]
        · obtain rfl : i = l.length := by omega
          simp only [go_sem, Nat.reduceBEq, Nat.reduceAdd, Nat.reduceMul, Nat.reduceSub, Nat.reduceLeDiff, Nat.le_refl, implies_true, Nat.reduceLT, reduceIte, decide_true, decide_false, true_and, and_true, reduceCtorEq, Nat.mul_one, Int.reduceToNat, Int.reduceLE, Int.reduceLT, Int.reduceAdd, Int.reduceSub, Int.reduceMul, Int.cast_ofNat_Int, cast_zero_int, cast_one_int, Nat.reducePow, Nat.reduceEqDiff, Nat.reduceMod, Nat.zero_add, Nat.sub_zero, Nat.add_zero, e1, e6, e7, e18, e19, e20, show ¬ ((l.length : Int) < l.length) by omega]
          by_cases q1 : (wrst l kd l.length).1 < 0
          · simp only [go_sem, Nat.reduceBEq, Nat.reduceAdd, Nat.reduceMul, Nat.reduceSub, Nat.reduceLeDiff, Nat.le_refl, implies_true, Nat.reduceLT, reduceIte, decide_true, decide_false, true_and, and_true, reduceCtorEq, Nat.mul_one, Int.reduceToNat, Int.reduceLE, Int.reduceLT, Int.reduceAdd, Int.reduceSub, Int.reduceMul, Int.cast_ofNat_Int, cast_zero_int, cast_one_int, Nat.reducePow, Nat.reduceEqDiff, Nat.reduceMod, Nat.zero_add, Nat.sub_zero, Nat.add_zero, e1, e6, e7, e18, e19, e20, q1]
            rw [wrstV, if_neg (fun hh => by have := hh.2; omega)]
          · simp only [go_sem, Nat.reduceBEq, Nat.reduceAdd, Nat.reduceMul, Nat.reduceSub, Nat.reduceLeDiff, Nat.le_refl, implies_true, Nat.reduceLT, reduceIte, decide_true, decide_false, true_and, and_true, reduceCtorEq, Nat.mul_one, Int.reduceToNat, Int.reduceLE, Int.reduceLT, Int.reduceAdd, Int.reduceSub, Int.reduceMul, Int.cast_ofNat_Int, cast_zero_int, cast_one_int, Nat.reducePow, Nat.reduceEqDiff, Nat.reduceMod, Nat.zero_add, Nat.sub_zero, Nat.add_zero, e1, e6, e7, e18, e19, e20, q1]
            rw [wrstV, if_pos ⟨ok, by omega⟩]
    · simp only [go_sem, Nat.reduceBEq, Nat.reduceAdd, Nat.reduceMul, Nat.reduceSub, Nat.reduceLeDiff, Nat.le_refl, implies_true, Nat.reduceLT, reduceIte, decide_true, decide_false, true_and, and_true, reduceCtorEq, Nat.mul_one, Int.reduceToNat, Int.reduceLE, Int.reduceLT, Int.reduceAdd, Int.reduceSub, Int.reduceMul, Int.cast_ofNat_Int, cast_zero_int, cast_one_int, Nat.reducePow, Nat.reduceEqDiff, Nat.reduceMod, Nat.zero_add, Nat.sub_zero, Nat.add_zero, decb g1, dect g3]
      exact bad (fun hh => g3 hh.2)
  · simp only [go_sem, Nat.reduceBEq, Nat.reduceAdd, Nat.reduceMul, Nat.reduceSub, Nat.reduceLeDiff, Nat.le_refl, implies_true, Nat.reduceLT, reduceIte, decide_true, decide_false, true_and, and_true, reduceCtorEq, Nat.mul_one, Int.reduceToNat, Int.reduceLE, Int.reduceLT, Int.reduceAdd, Int.reduceSub, Int.reduceMul, Int.cast_ofNat_Int, cast_zero_int, cast_one_int, Nat.reducePow, Nat.reduceEqDiff, Nat.reduceMod, Nat.zero_add, Nat.sub_zero, Nat.add_zero, dect g1]
    exact bad (fun hh => g1 hh.1)
/-- The same, told by the reference from nought. -/
def wrsT (l : List Smp) (kd : Int) (i : Nat) : Int × Int := if (wrst l kd i).1 < 0 then (0, 0) else wrst l kd i
theorem wrsT_two {l : List Smp} {kd : Int} {i : Nat} (h : i ≤ l.length) : (wrsT l kd i).2 = (wrst l kd i).2 := by
  rw [wrsT]; split
  · rename_i q
    rcases wrst_spec (kd := kd) i h with ⟨_, e⟩ | ⟨e, _⟩
    · rw [e]
    · omega
  · rfl
theorem c_sWorstValue (v : Value) (l : List Smp) (kd : Int) (s : Sl h 4 v (l.map smp)) (hmax : l.length ≤ 1048576) :
    vCall [] Try.prog M 19 [v, .int .i64 kd] h (fun r h' => r = wrstV l kd ∧ h <+: h') := by
  obtain ⟨a, hv, _, _⟩ := id s
  rw [List.length_map] at hv
  have bad : ¬ ndOk l kd → Value.tuple #[.int .i64 0, .bool false] = wrstV l kd := fun hn => by rw [wrstV, if_neg (fun hh => hn hh.1)]
  refine body_of mo Try.func19 rfl (by kernel_rfl) (Nat.le_of_ble_eq_true (by kernel_rfl)) rfl ?_
  simp only [go_sem, Nat.reduceBEq, Nat.reduceAdd, Nat.reduceMul, Nat.reduceSub, Nat.reduceLeDiff, Nat.le_refl, implies_true, Nat.reduceLT, reduceIte, decide_true, decide_false, true_and, and_true, reduceCtorEq, Nat.mul_one, Int.reduceToNat, Int.reduceLE, Int.reduceLT, Int.reduceAdd, Int.reduceSub, Int.reduceMul, Int.cast_ofNat_Int, cast_zero_int, cast_one_int, Nat.reducePow, Nat.reduceEqDiff, Nat.reduceMod, Nat.zero_add, Nat.sub_zero, Nat.add_zero]
  refine ⟨by kernel_rfl, (c_l23Good v l s hmax).use (fun _ m => m) ?_⟩
  rintro _ _ ⟨rfl, ⟨t, rfl⟩⟩
  by_cases g1 : smpGood l
  · simp only [go_sem, Nat.reduceBEq, Nat.reduceAdd, Nat.reduceMul, Nat.reduceSub, Nat.reduceLeDiff, Nat.le_refl, implies_true, Nat.reduceLT, reduceIte, decide_true, decide_false, true_and, and_true, reduceCtorEq, Nat.mul_one, Int.reduceToNat, Int.reduceLE, Int.reduceLT, Int.reduceAdd, Int.reduceSub, Int.reduceMul, Int.cast_ofNat_Int, cast_zero_int, cast_one_int, Nat.reducePow, Nat.reduceEqDiff, Nat.reduceMod, Nat.zero_add, Nat.sub_zero, Nat.add_zero, decb g1]
    refine ⟨by kernel_rfl, (c_l23Kind kd).use (fun _ m => m) ?_⟩
    rintro _ _ ⟨rfl, rfl⟩
    by_cases g3 : 1 ≤ kd ∧ kd ≤ 4
    · have ok : ndOk l kd := ⟨g1, g3⟩
      subst hv
      simp only [go_sem, Nat.reduceBEq, Nat.reduceAdd, Nat.reduceMul, Nat.reduceSub, Nat.reduceLeDiff, Nat.le_refl, implies_true, Nat.reduceLT, reduceIte, decide_true, decide_false, true_and, and_true, reduceCtorEq, Nat.mul_one, Int.reduceToNat, Int.reduceLE, Int.reduceLT, Int.reduceAdd, Int.reduceSub, Int.reduceMul, Int.cast_ofNat_Int, cast_zero_int, cast_one_int, Nat.reducePow, Nat.reduceEqDiff, Nat.reduceMod, Nat.zero_add, Nat.sub_zero, Nat.add_zero, decb g1, decb g3]
      refine vLoop.count mo l.length (fun i e h' => ∃ t : Heap, e 0 = .slice a l.length 0 ∧ e 1 = .int .i64 kd ∧ e 6 = .int .i64 (wrsT l kd i).1 ∧ e 7 = .int .i64 (wrsT l kd i).2 ∧ e 8 = .int .i64 i ∧ h' = h ++ t) ?_ ?_
      · exact ⟨t, rfl, rfl, rfl, rfl, rfl, rfl⟩
      · rintro i e _ hi ⟨t, e0, e1, e6, e7, e8, rfl⟩
        simp only [go_sem, Nat.reduceBEq, Nat.reduceAdd, Nat.reduceMul, Nat.reduceSub, Nat.reduceLeDiff, Nat.le_refl, implies_true, Nat.reduceLT, reduceIte, decide_true, decide_false, true_and, and_true, reduceCtorEq, Nat.mul_one, Int.reduceToNat, Int.reduceLE, Int.reduceLT, Int.reduceAdd, Int.reduceSub, Int.reduceMul, Int.cast_ofNat_Int, cast_zero_int, cast_one_int, Nat.reducePow, Nat.reduceEqDiff, Nat.reduceMod, Nat.zero_add, Nat.sub_zero, Nat.add_zero, e0, e1, e6, e7, e8]
        have two := wrsT_two (kd := kd) hi
        by_cases hlt : i < l.length
        · have hlt' : i < (l.map smp).length := by simpa using hlt
          obtain ⟨id, o, K, hv, hK, _, hd, hb, hrow, hcell⟩ := s.at hlt'
          obtain rfl : a = some ⟨id, o, none⟩ := by simpa using hv
          have hc2 := hcell 2 (by omega)
          rw [List.getElem_map] at hrow hc2
          simp only [smp, List.getElem?_cons_zero, List.getElem?_cons_succ] at hrow hc2
          have gd : l.getD i smp0 = l[i] := getDs hlt
          have ws := wsucc hlt (by omega)
          have keep : ¬ ((l.getD i smp0).2.2.1 = kd ∧ (wrst l kd i).2 < off (l.getD i smp0)) → wrsT l kd (i + 1) = wrsT l kd i := fun hn => by rw [wrsT, wrsT, wrst_no hn]
          by_cases q1 : l[i].2.2.1 = kd
          · simp only [go_sem, Nat.reduceBEq, Nat.reduceAdd, Nat.reduceMul, Nat.reduceSub, Nat.reduceLeDiff, Nat.le_refl, implies_true, Nat.reduceLT, reduceIte, decide_true, decide_false, true_and, and_true, reduceCtorEq, Nat.mul_one, Int.reduceToNat, Int.reduceLE, Int.reduceLT, Int.reduceAdd, Int.reduceSub, Int.reduceMul, Int.cast_ofNat_Int, cast_zero_int, cast_one_int, Nat.reducePow, Nat.reduceEqDiff, Nat.reduceMod, Nat.zero_add, Nat.sub_zero, Nat.add_zero, e0, e1, e6, e7, e8, show (i : Int) < l.length by omega, hK, hd, hb, hrow, hc2, show (l[i].2.2.1 == kd) = true by simpa using q1]
            refine ⟨by kernel_rfl, (c_l23Off _ (g1.ok hlt)).use (fun _ m => m) ?_⟩
            rintro _ _ ⟨rfl, ⟨t2, rfl⟩⟩
            by_cases q2 : (wrst l kd i).2 < off l[i]
            · have hy : wrsT l kd (i + 1) = ((i : Int), off l[i]) := by
                rw [wrsT, wrst_yes (by rw [gd]; exact ⟨q1, q2⟩), if_neg (by simp only; omega), gd]
              simp only [go_sem, Nat.reduceBEq, Nat.reduceAdd, Nat.reduceMul, Nat.reduceSub, Nat.reduceLeDiff, Nat.le_refl, implies_true, Nat.reduceLT, reduceIte, decide_true, decide_false, true_and, and_true, reduceCtorEq, Nat.mul_one, Int.reduceToNat, Int.reduceLE, Int.reduceLT, Int.reduceAdd, Int.reduceSub, Int.reduceMul, Int.cast_ofNat_Int, cast_zero_int, cast_one_int, Nat.reducePow, Nat.reduceEqDiff, Nat.reduceMod, Nat.zero_add, Nat.sub_zero, Nat.add_zero, e0, e1, e6, e7, e8, two, q2, show (i : Int) < l.length by omega, hK, hd, hb, hrow, hc2, show (l[i].2.2.1 == kd) = true by simpa using q1, List.append_assoc]
              refine ⟨by kernel_rfl, (c_l23Off _ (g1.ok hlt)).use (fun _ m => m) ?_⟩
              rintro _ _ ⟨rfl, ⟨t3, rfl⟩⟩
              simp only [go_sem, Nat.reduceBEq, Nat.reduceAdd, Nat.reduceMul, Nat.reduceSub, Nat.reduceLeDiff, Nat.le_refl, implies_true, Nat.reduceLT, reduceIte, decide_true, decide_false, true_and, and_true, reduceCtorEq, Nat.mul_one, Int.reduceToNat, Int.reduceLE, Int.reduceLT, Int.reduceAdd, Int.reduceSub, Int.reduceMul, Int.cast_ofNat_Int, cast_zero_int, cast_one_int, Nat.reducePow, Nat.reduceEqDiff, Nat.reduceMod, Nat.zero_add, Nat.sub_zero, Nat.add_zero, e0, e1, e6, e7, e8, List.append_assoc]
              refine ⟨hlt, _, ?_, ?_, congrArg _ ws, rfl⟩ <;> rw [hy]
            · simp only [go_sem, Nat.reduceBEq, Nat.reduceAdd, Nat.reduceMul, Nat.reduceSub, Nat.reduceLeDiff, Nat.le_refl, implies_true, Nat.reduceLT, reduceIte, decide_true, decide_false, true_and, and_true, reduceCtorEq, Nat.mul_one, Int.reduceToNat, Int.reduceLE, Int.reduceLT, Int.reduceAdd, Int.reduceSub, Int.reduceMul, Int.cast_ofNat_Int, cast_zero_int, cast_one_int, Nat.reducePow, Nat.reduceEqDiff, Nat.reduceMod, Nat.zero_add, Nat.sub_zero, Nat.add_zero, e0, e1, e6, e7, e8, two, q2, show (i : Int) < l.length by omega, hK, hd, hb, hrow, hc2, show (l[i].2.2.1 == kd) = true by simpa using q1, List.append_assoc]
              refine ⟨hlt, _, ?_, ?_, congrArg _ ws, rfl⟩ <;> rw [keep (by rw [gd]; exact fun hh => q2 hh.2)]
              rw [two]
          · simp only [go_sem, Nat.reduceBEq, Nat.reduceAdd, Nat.reduceMul, Nat.reduceSub, Nat.reduceLeDiff, Nat.le_refl, implies_true, Nat.reduceLT, reduceIte, decide_true, decide_false, true_and, and_true, reduceCtorEq, Nat.mul_one, Int.reduceToNat, Int.reduceLE, Int.reduceLT, Int.reduceAdd, Int.reduceSub, Int.reduceMul, Int.cast_ofNat_Int, cast_zero_int, cast_one_int, Nat.reducePow, Nat.reduceEqDiff, Nat.reduceMod, Nat.zero_add, Nat.sub_zero, Nat.add_zero, e0, e1, e6, e7, e8, show (i : Int) < l.length by omega, hK, hd, hb, hrow, hc2, show (l[i].2.2.1 == kd) = false by simpa using q1]
            refine ⟨hlt, _, ?_, ?_, congrArg _ ws, rfl⟩ <;> rw [keep (by rw [gd]; exact fun hh => q1 hh.1)]
        · obtain rfl : i = l.length := by omega
          simp only [go_sem, Nat.reduceBEq, Nat.reduceAdd, Nat.reduceMul, Nat.reduceSub, Nat.reduceLeDiff, Nat.le_refl, implies_true, Nat.reduceLT, reduceIte, decide_true, decide_false, true_and, and_true, reduceCtorEq, Nat.mul_one, Int.reduceToNat, Int.reduceLE, Int.reduceLT, Int.reduceAdd, Int.reduceSub, Int.reduceMul, Int.cast_ofNat_Int, cast_zero_int, cast_one_int, Nat.reducePow, Nat.reduceEqDiff, Nat.reduceMod, Nat.zero_add, Nat.sub_zero, Nat.add_zero, e0, e1, e6, e7, e8, show ¬ ((l.length : Int) < l.length) by omega]
          rcases wrst_spec (l := l) (kd := kd) l.length (Nat.le_refl _) with ⟨e1, e2⟩ | ⟨e1, e2, e3, _⟩
          · have h0 : wrsT l kd l.length = (0, 0) := by rw [wrsT, if_pos (by omega)]
            rw [h0, wrstV, if_neg (fun hh => by have := hh.2; omega)]
            rfl
          · have h0 : wrsT l kd l.length = wrst l kd l.length := by rw [wrsT, if_neg (by omega)]
            rw [h0, wrstV, if_pos ⟨ok, e1⟩, decide_eq_true e3]
    · simp only [go_sem, Nat.reduceBEq, Nat.reduceAdd, Nat.reduceMul, Nat.reduceSub, Nat.reduceLeDiff, Nat.le_refl, implies_true, Nat.reduceLT, reduceIte, decide_true, decide_false, true_and, and_true, reduceCtorEq, Nat.mul_one, Int.reduceToNat, Int.reduceLE, Int.reduceLT, Int.reduceAdd, Int.reduceSub, Int.reduceMul, Int.cast_ofNat_Int, cast_zero_int, cast_one_int, Nat.reducePow, Nat.reduceEqDiff, Nat.reduceMod, Nat.zero_add, Nat.sub_zero, Nat.add_zero, decb g1, dect g3]
      exact bad (fun hh => g3 hh.2)
  · simp only [go_sem, Nat.reduceBEq, Nat.reduceAdd, Nat.reduceMul, Nat.reduceSub, Nat.reduceLeDiff, Nat.le_refl, implies_true, Nat.reduceLT, reduceIte, decide_true, decide_false, true_and, and_true, reduceCtorEq, Nat.mul_one, Int.reduceToNat, Int.reduceLE, Int.reduceLT, Int.reduceAdd, Int.reduceSub, Int.reduceMul, Int.cast_ofNat_Int, cast_zero_int, cast_one_int, Nat.reducePow, Nat.reduceEqDiff, Nat.reduceMod, Nat.zero_add, Nat.sub_zero, Nat.add_zero, dect g1]
    exact bad (fun hh => g1 hh.1)
theorem c_IsGoodSampleW (x : Smp) (hx : smpOk x) : vCall [] Try.prog M 20 [.agg #[.int .i64 x.1, .int .i64 x.2.1, .int .i64 x.2.2.1, .int .i64 x.2.2.2]] h (fun r h' => r = .tuple #[.bool (decide (Go.Proofs.Ytfolkgkcaiaifaa.off x = 0)), .bool true] ∧ h <+: h') := by
  refine body_of mo Try.func20 rfl (by kernel_rfl) (Nat.le_of_ble_eq_true (by kernel_rfl)) rfl ?_
  simp only [go_sem, Nat.reduceBEq, Nat.reduceAdd, Nat.reduceMul, Nat.reduceSub, Nat.reduceLeDiff, Nat.le_refl, implies_true, Nat.reduceLT, reduceIte, decide_true, decide_false, true_and, and_true, reduceCtorEq, Nat.mul_one, Int.reduceToNat, Int.reduceLE, Int.reduceLT, Int.reduceAdd, Int.reduceSub, Int.reduceMul, Int.cast_ofNat_Int, cast_zero_int, cast_one_int, Nat.reducePow, Nat.reduceEqDiff, Nat.reduceMod, Nat.zero_add, Nat.sub_zero, Nat.add_zero]
  refine ⟨by kernel_rfl, (c_IsValidSample x).use (fun _ m => m) ?_⟩
  rintro _ _ ⟨rfl, ⟨t, rfl⟩⟩
  simp only [go_sem, Nat.reduceBEq, Nat.reduceAdd, Nat.reduceMul, Nat.reduceSub, Nat.reduceLeDiff, Nat.le_refl, implies_true, Nat.reduceLT, reduceIte, decide_true, decide_false, true_and, and_true, reduceCtorEq, Nat.mul_one, Int.reduceToNat, Int.reduceLE, Int.reduceLT, Int.reduceAdd, Int.reduceSub, Int.reduceMul, Int.cast_ofNat_Int, cast_zero_int, cast_one_int, Nat.reducePow, Nat.reduceEqDiff, Nat.reduceMod, Nat.zero_add, Nat.sub_zero, Nat.add_zero, decide_eq_true hx]
  refine ⟨by kernel_rfl, (c_isGood x hx).use (fun _ m => m) ?_⟩
  rintro _ _ ⟨rfl, ⟨t2, rfl⟩⟩
  simp only [go_sem, Nat.reduceBEq, Nat.reduceAdd, Nat.reduceMul, Nat.reduceSub, Nat.reduceLeDiff, Nat.le_refl, implies_true, Nat.reduceLT, reduceIte, decide_true, decide_false, true_and, and_true, reduceCtorEq, Nat.mul_one, Int.reduceToNat, Int.reduceLE, Int.reduceLT, Int.reduceAdd, Int.reduceSub, Int.reduceMul, Int.cast_ofNat_Int, cast_zero_int, cast_one_int, Nat.reducePow, Nat.reduceEqDiff, Nat.reduceMod, Nat.zero_add, Nat.sub_zero, Nat.add_zero, decide_eq_true hx]
  try all_goals first | exact rfl | exact ⟨rfl, rfl⟩ | exact List.prefix_append _ _ | exact ⟨rfl, List.prefix_append _ _⟩ | assumption | exact ⟨rfl, by assumption⟩ | exact List.prefix_rfl | exact ⟨rfl, List.prefix_rfl⟩ | exact List.IsPrefix.trans (by assumption) (by assumption) | exact ⟨rfl, List.IsPrefix.trans (by assumption) (by assumption)⟩
end
end Go.Proofs.Ytfolkgkcaiaifaa
