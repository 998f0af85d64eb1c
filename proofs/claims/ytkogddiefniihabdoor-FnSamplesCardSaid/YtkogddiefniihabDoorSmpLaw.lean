
/- The law about samples. No condition. -/
import Derived.Test.YtkogddiefniihabDoorDSmp2
import Derived.Test.YtkogddiefniihabDoorPSmpL
import Derived.Test.YtkogddiefniihabDoorBadSamples
import Derived.Test.YtkogddiefniihabDoorGoodShare
import Derived.Test.YtkogddiefniihabDoorH3
namespace Go.Proofs.YtkogddiefniihabDoor
open Go.HH Go.Proofs
set_option linter.unusedSimpArgs false
set_option linter.unusedVariables false

theorem badN_mem {l : List Smp} : ∀ (n i : Nat), i < n → ((i : Int) ∈ badN l n ↔ off (l.getD i smp0) ≠ 0)
  | 0, i, h => by omega
  | n + 1, i, h => by
    have up : ∀ m, ∀ x ∈ badN l m, x < m := by
      intro m
      induction m with
      | zero => intro x hx; cases hx
      | succ m ih =>
        intro x hx
        rw [badN] at hx
        split at hx
        · have := ih x hx; omega
        · rcases List.mem_append.1 hx with h1 | h1
          · have := ih x h1; omega
          · rw [List.mem_singleton.1 h1]; omega
    by_cases hi : i = n
    · subst hi
      rw [badN]
      split
      · rename_i h0
        exact ⟨fun h1 => by have := up i _ h1; omega, fun h1 => absurd h0 h1⟩
      · rename_i h0
        exact ⟨fun _ => h0, fun _ => by simp⟩
    · have ih := badN_mem (l := l) n i (by omega)
      rw [badN]
      split
      · exact ih
      · rw [List.mem_append, ih, List.mem_singleton]
        constructor
        · rintro (h1 | h1)
          · exact h1
          · omega
        · exact fun h1 => .inl h1
theorem bad_dec {l : List Smp} (g : smpGood l) {i : Nat} (hi : i < l.length) : decide ((i : Int) ∈ badSamples l) = !decide (off (l.getD i smp0) = 0) := by
  rw [badSamples, if_pos g]
  by_cases q : off (l.getD i smp0) = 0
  · rw [decide_eq_true q, decide_eq_false (fun h => (badN_mem l.length i hi).1 h q)]; rfl
  · rw [decide_eq_false q, decide_eq_true ((badN_mem l.length i hi).2 q)]; rfl
theorem cnt_all {l : List Smp} (g : smpGood l) : ∀ i, i ≤ l.length → cntAll l 0 3650 i = i ∧ cntGood l 0 3650 i + (badN l i).length = i
  | 0, _ => ⟨rfl, rfl⟩
  | i + 1, hi => by
    obtain ⟨h1, h2⟩ := cnt_all g i (by omega)
    have hd : 0 ≤ (l.getD i smp0).1 ∧ (l.getD i smp0).1 ≤ 3650 := by
      have := (g.1 i (by omega)).1.1
      exact this
    rw [cntAll, if_pos hd, h1, cntGood]
    by_cases h0 : off (l.getD i smp0) = 0
    · rw [if_pos ⟨hd, h0⟩, badN_no h0]; omega
    · rw [if_neg (fun h => h0 h.2), badN_yes h0, List.length_append, List.length_singleton]; omega
/-- The share of good samples over all days. -/
theorem share_all {l : List Smp} (g : smpGood l) (h0 : 0 < l.length) : ∃ x y : Int, share l 0 3650 = .tuple #[.int .i64 x, .int .i64 y, .bool true] ∧ (0 ≤ x ∧ x ≤ 1000) ∧ (0 ≤ y ∧ y ≤ 1000) ∧ x * l.length = (l.length - (badSamples l).length) * y := by
  obtain ⟨c1, c2⟩ := cnt_all g l.length (Nat.le_refl _)
  have hl := g.2
  obtain ⟨A, hA⟩ : ∃ A, A = cntGood l 0 3650 l.length := ⟨_, rfl⟩
  obtain ⟨n, hn⟩ : ∃ n, n = l.length := ⟨_, rfl⟩
  have hb : ((badSamples l).length : Int) = n - A := by rw [badSamples, if_pos g]; omega
  rw [share, if_pos ⟨g, ⟨Int.le_refl _, by decide⟩, ⟨by decide, by decide⟩, by decide, by omega⟩, c1, ← hA, ← hn]
  have hg : 0 < Nat.gcd A n := Nat.gcd_pos_of_pos_right _ (by omega)
  obtain ⟨p, hp⟩ := Nat.gcd_dvd_left A n
  obtain ⟨q, hq⟩ := Nat.gcd_dvd_right A n
  obtain ⟨d, hd⟩ : ∃ d, d = Nat.gcd A n := ⟨_, rfl⟩
  rw [← hd] at hg hp hq
  rw [← hd]
  have pA : p ≤ A := by rw [hp]; exact Nat.le_mul_of_pos_left _ hg
  have qn : q ≤ n := by rw [hq]; exact Nat.le_mul_of_pos_left _ hg
  have t1 : (A : Int).tdiv (d : Int) = (p : Int) := by rw [hp, Int.natCast_mul, Int.mul_tdiv_cancel_left _ (by omega)]
  have t2 : (n : Int).tdiv (d : Int) = (q : Int) := by rw [hq, Int.natCast_mul, Int.mul_tdiv_cancel_left _ (by omega)]
  rw [t1, t2, wrap64 (by omega), wrap64 (by omega)]
  refine ⟨p, q, rfl, by omega, by omega, ?_⟩
  rw [hb, show (n : Int) - (n - A) = A by omega, hp, hq, Int.natCast_mul, Int.natCast_mul, Int.mul_left_comm, Int.mul_assoc]
theorem smpTV_told (x : Smp) : ∃ s pk y, smpTV x = .tuple #[.string s, .bool (decide (smpOk x))] ∧ s.size ≤ 100 ∧ IsPM s pk y ∧ (smpOk x → pk = true ∧ y = x) := by
  obtain ⟨s, ok, hs, zs⟩ := smpTV_size x
  by_cases g : smpOk x
  · rw [smpTV, if_pos g] at hs
    injection hs with hs
    have e : smpB x = s := by have := congrArg (fun a : Array Value => a[0]?) hs; simpa using this
    refine ⟨s, true, x, by rw [smpTV, if_pos g, e, decide_eq_true g], zs, .inl ⟨rfl, g, e⟩, fun _ => ⟨rfl, rfl⟩⟩
  · rw [smpTV, if_neg g] at hs
    injection hs with hs
    have e : (⟨#[]⟩ : ByteArray) = s := by have := congrArg (fun a : Array Value => a[0]?) hs; simpa using this
    obtain ⟨pk, y, hp⟩ := IsPM.ex s
    exact ⟨s, pk, y, by rw [smpTV, if_neg g, e, decide_eq_false g], zs, hp, fun h => absurd h g⟩
theorem smpLen {h : Heap} {v : Value} {l : List Smp} (s : Sl h 4 v (l.map smp)) : ∃ a, v = .slice a l.length 0 := by
  obtain ⟨a, hv, _⟩ := s
  exact ⟨a, by rw [hv, List.length_map]⟩
theorem smpRow {h : Heap} {v : Value} {l : List Smp} (s : Sl h 4 v (l.map smp)) (h0 : 0 < l.length) : ∃ id o k, v = .slice (some ⟨id, o, none⟩) l.length 0 ∧ k.st ≠ .dead ∧ (∀ H, h <+: H → hget H id = some k) ∧
    ∀ i (hi : i < l.length), o + i * 4 + 4 ≤ k.cells.length ∧ (k.cells.drop (o + i * 4)).take 4 = [.int .i64 (l.getD i smp0).1, .int .i64 (l.getD i smp0).2.1, .int .i64 (l.getD i smp0).2.2.1, .int .i64 (l.getD i smp0).2.2.2] := by
  obtain ⟨id, o, k, hv, _, hk, hd, _, _, _⟩ := s.at (i := 0) (by simpa using h0)
  rw [List.length_map] at hv
  refine ⟨id, o, k, hv, hd, fun H hp => by rw [hget_prefix hp (hget_lt hk)]; exact hk, fun i hi => ?_⟩
  obtain ⟨id2, o2, k2, hv2, _, hk2, _, hb2, hrow2, _⟩ := s.at (i := i) (by simpa using hi)
  rw [List.length_map] at hv2
  rw [hv] at hv2
  injection hv2 with q1 q2 q3
  injection q1 with q1
  injection q1 with q4 q5
  subst q4 q5
  obtain rfl : k = k2 := Option.some.inj (hk.symm.trans hk2)
  rw [List.getElem_map] at hrow2
  rw [getDs hi]
  exact ⟨hb2, hrow2⟩
section
variable {h : Heap} {M : Nat → Prop}
theorem c_rIntsW {n m : Nat} (v w : Value) (l : List Int) (s : AI n h v l) (s' : AI m h w l) (hmax : l.length ≤ 1048576) : vCall [] Tryd.prog M 34 [v, w] h (fun r h' => r = .bool true ∧ h = h') := by
  obtain ⟨a, rfl⟩ := s.len
  obtain ⟨b, rfl⟩ := s'.len
  refine body_of mo Tryd.func34 rfl (by kernel_rfl) (Nat.le_of_ble_eq_true (by kernel_rfl)) rfl ?_
  simp only [go_sem, Nat.reduceBEq, Nat.reduceAdd, Nat.reduceMul, Nat.reduceSub, Nat.reduceLeDiff, Nat.le_refl, implies_true, Nat.reduceLT, reduceIte, decide_true, decide_false, true_and, and_true, reduceCtorEq, Nat.mul_one, Int.reduceToNat, Int.reduceLE, Int.reduceLT, Int.reduceAdd, Int.reduceSub, Int.reduceMul, Int.cast_ofNat_Int, cast_zero_int, cast_one_int, Nat.reducePow, Nat.reduceEqDiff, Nat.reduceMod, Nat.zero_add, Nat.sub_zero, Nat.add_zero]
  refine vLoop.count mo l.length (fun i e h' => e 0 = .slice a l.length 0 ∧ e 1 = .slice b l.length 0 ∧ e 5 = .int .i64 i ∧ h' = h) ?_ ?_
  · simp only [go_sem, Nat.reduceBEq, Nat.reduceAdd, Nat.reduceMul, Nat.reduceSub, Nat.reduceLeDiff, Nat.le_refl, implies_true, Nat.reduceLT, reduceIte, decide_true, decide_false, true_and, and_true, reduceCtorEq, Nat.mul_one, Int.reduceToNat, Int.reduceLE, Int.reduceLT, Int.reduceAdd, Int.reduceSub, Int.reduceMul, Int.cast_ofNat_Int, cast_zero_int, cast_one_int, Nat.reducePow, Nat.reduceEqDiff, Nat.reduceMod, Nat.zero_add, Nat.sub_zero, Nat.add_zero]
    try simp
  · rintro i e _ hi ⟨e0, e1, e3, rfl⟩
    simp only [go_sem, Nat.reduceBEq, Nat.reduceAdd, Nat.reduceMul, Nat.reduceSub, Nat.reduceLeDiff, Nat.le_refl, implies_true, Nat.reduceLT, reduceIte, decide_true, decide_false, true_and, and_true, reduceCtorEq, Nat.mul_one, Int.reduceToNat, Int.reduceLE, Int.reduceLT, Int.reduceAdd, Int.reduceSub, Int.reduceMul, Int.cast_ofNat_Int, cast_zero_int, cast_one_int, Nat.reducePow, Nat.reduceEqDiff, Nat.reduceMod, Nat.zero_add, Nat.sub_zero, Nat.add_zero, e0, e1, e3]
    refine .intro (fun h1 => ?_) (fun h1 => ?_)
    · have hlt : i < l.length := by simpa using h1
      obtain ⟨id, off, k, hv, _, _, hk, hd, _, hb, _, hat⟩ := s.at (by omega)
      obtain rfl : a = some ⟨id, off, none⟩ := by simpa using hv
      obtain ⟨id2, off2, k2, hv2, _, _, hk2, hd2, _, hb2, _, hat2⟩ := s'.at (by omega)
      obtain rfl : b = some ⟨id2, off2, none⟩ := by simpa using hv2
      have hz : (i : Int) < l.length := by omega
      simp only [go_sem, Nat.reduceBEq, Nat.reduceAdd, Nat.reduceMul, Nat.reduceSub, Nat.reduceLeDiff, Nat.le_refl, implies_true, Nat.reduceLT, reduceIte, decide_true, decide_false, true_and, and_true, reduceCtorEq, Nat.mul_one, Int.reduceToNat, Int.reduceLE, Int.reduceLT, Int.reduceAdd, Int.reduceSub, Int.reduceMul, Int.cast_ofNat_Int, cast_zero_int, cast_one_int, Nat.reducePow, Nat.reduceEqDiff, Nat.reduceMod, Nat.zero_add, Nat.sub_zero, Nat.add_zero, e0, e1, e3, hk, hk2, hd, hd2, hz, hat _ hlt, hat2 _ hlt]
      try exact ⟨hlt, by rw [wrap64 (by omega)]; rfl⟩
    · simp only [go_sem, Nat.reduceBEq, Nat.reduceAdd, Nat.reduceMul, Nat.reduceSub, Nat.reduceLeDiff, Nat.le_refl, implies_true, Nat.reduceLT, reduceIte, decide_true, decide_false, true_and, and_true, reduceCtorEq, Nat.mul_one, Int.reduceToNat, Int.reduceLE, Int.reduceLT, Int.reduceAdd, Int.reduceSub, Int.reduceMul, Int.cast_ofNat_Int, cast_zero_int, cast_one_int, Nat.reducePow, Nat.reduceEqDiff, Nat.reduceMod, Nat.zero_add, Nat.sub_zero, Nat.add_zero, e0, e1, e3]
theorem c_rHas {n : Nat} (v : Value) (x : Int) (l : List Int) (s : AI n h v l) (hmax : l.length ≤ 1048576) : vCall [] Tryd.prog M 36 [v, .int .i64 x] h (fun r h' => r = .bool (decide (x ∈ l)) ∧ h = h') := by
  obtain ⟨a, rfl⟩ := s.len
  refine body_of mo Tryd.func36 rfl (by kernel_rfl) (Nat.le_of_ble_eq_true (by kernel_rfl)) rfl ?_
  simp only [go_sem, Nat.reduceBEq, Nat.reduceAdd, Nat.reduceMul, Nat.reduceSub, Nat.reduceLeDiff, Nat.le_refl, implies_true, Nat.reduceLT, reduceIte, decide_true, decide_false, true_and, and_true, reduceCtorEq, Nat.mul_one, Int.reduceToNat, Int.reduceLE, Int.reduceLT, Int.reduceAdd, Int.reduceSub, Int.reduceMul, Int.cast_ofNat_Int, cast_zero_int, cast_one_int, Nat.reducePow, Nat.reduceEqDiff, Nat.reduceMod, Nat.zero_add, Nat.sub_zero, Nat.add_zero]
  refine vLoop.count mo l.length (fun i e h' => e 0 = .slice a l.length 0 ∧ e 1 = .int .i64 x ∧ e 5 = .int .i64 i ∧ HeapIs h h' ∧ x ∉ l.take i) ?_ ?_
  · exact ⟨rfl, rfl, rfl, HeapIs.rfl, by simp⟩
  · rintro i e _ hi ⟨e0, e1, e5, hh, hn⟩
    cases hh
    simp only [go_sem, Nat.reduceBEq, Nat.reduceAdd, Nat.reduceMul, Nat.reduceSub, Nat.reduceLeDiff, Nat.le_refl, implies_true, Nat.reduceLT, reduceIte, decide_true, decide_false, true_and, and_true, reduceCtorEq, Nat.mul_one, Int.reduceToNat, Int.reduceLE, Int.reduceLT, Int.reduceAdd, Int.reduceSub, Int.reduceMul, Int.cast_ofNat_Int, cast_zero_int, cast_one_int, Nat.reducePow, Nat.reduceEqDiff, Nat.reduceMod, Nat.zero_add, Nat.sub_zero, Nat.add_zero, e0, e1, e5]
    refine .intro (fun h1 => ?_) (fun h1 => ?_)
    · have hlt : i < l.length := by simpa using h1
      have hz : (i : Int) < l.length := by omega
      obtain ⟨id, off, k, hv, _, _, hk, hd, _, hb, _, hat⟩ := s.at (by omega)
      obtain rfl : a = some ⟨id, off, none⟩ := by simpa using hv
      by_cases g : l[i] = x
      · have hm : decide (x ∈ l) = true := decide_eq_true (by rw [← g]; exact List.getElem_mem _)
        simp only [go_sem, Nat.reduceBEq, Nat.reduceAdd, Nat.reduceMul, Nat.reduceSub, Nat.reduceLeDiff, Nat.le_refl, implies_true, Nat.reduceLT, reduceIte, decide_true, decide_false, true_and, and_true, reduceCtorEq, Nat.mul_one, Int.reduceToNat, Int.reduceLE, Int.reduceLT, Int.reduceAdd, Int.reduceSub, Int.reduceMul, Int.cast_ofNat_Int, cast_zero_int, cast_one_int, Nat.reducePow, Nat.reduceEqDiff, Nat.reduceMod, Nat.zero_add, Nat.sub_zero, Nat.add_zero, e0, e1, e5, hz, hk, hd, hat i hlt, show (l[i] == x) = true by simpa using g, hm]
      · simp only [go_sem, Nat.reduceBEq, Nat.reduceAdd, Nat.reduceMul, Nat.reduceSub, Nat.reduceLeDiff, Nat.le_refl, implies_true, Nat.reduceLT, reduceIte, decide_true, decide_false, true_and, and_true, reduceCtorEq, Nat.mul_one, Int.reduceToNat, Int.reduceLE, Int.reduceLT, Int.reduceAdd, Int.reduceSub, Int.reduceMul, Int.cast_ofNat_Int, cast_zero_int, cast_one_int, Nat.reducePow, Nat.reduceEqDiff, Nat.reduceMod, Nat.zero_add, Nat.sub_zero, Nat.add_zero, e0, e1, e5, hz, hk, hd, hat i hlt, show (l[i] == x) = false by simpa using g]
        refine ⟨hlt, by rw [wrap64 (by omega)]; rfl, HeapIs.rfl, fun hm => ?_⟩
        rw [List.take_add_one, List.getElem?_eq_getElem hlt] at hm
        rcases List.mem_append.1 hm with h2 | h2
        · exact hn h2
        · exact g (List.mem_singleton.1 h2).symm
    · obtain rfl : i = l.length := by have := h1; simp at this; omega
      rw [List.take_length] at hn
      have hm : decide (x ∈ l) = false := decide_eq_false hn
      simp only [go_sem, Nat.reduceBEq, Nat.reduceAdd, Nat.reduceMul, Nat.reduceSub, Nat.reduceLeDiff, Nat.le_refl, implies_true, Nat.reduceLT, reduceIte, decide_true, decide_false, true_and, and_true, reduceCtorEq, Nat.mul_one, Int.reduceToNat, Int.reduceLE, Int.reduceLT, Int.reduceAdd, Int.reduceSub, Int.reduceMul, Int.cast_ofNat_Int, cast_zero_int, cast_one_int, Nat.reducePow, Nat.reduceEqDiff, Nat.reduceMod, Nat.zero_add, Nat.sub_zero, Nat.add_zero, e0, e1, e5, hm]
theorem c_IsGoodSample (x : Smp) (hx : smpOk x) : vCall [] Tryd.prog M 35 [.agg #[.int .i64 x.1, .int .i64 x.2.1, .int .i64 x.2.2.1, .int .i64 x.2.2.2]] h (fun r h' => r = .tuple #[.bool (decide (Go.Proofs.YtkogddiefniihabDoor.off x = 0)), .bool true] ∧ h <+: h') := by
  refine body_of mo Tryd.func35 rfl (by kernel_rfl) (Nat.le_of_ble_eq_true (by kernel_rfl)) rfl ?_
  simp only [go_sem, Nat.reduceBEq, Nat.reduceAdd, Nat.reduceMul, Nat.reduceSub, Nat.reduceLeDiff, Nat.le_refl, implies_true, Nat.reduceLT, reduceIte, decide_true, decide_false, true_and, and_true, reduceCtorEq, Nat.mul_one, Int.reduceToNat, Int.reduceLE, Int.reduceLT, Int.reduceAdd, Int.reduceSub, Int.reduceMul, Int.cast_ofNat_Int, cast_zero_int, cast_one_int, Nat.reducePow, Nat.reduceEqDiff, Nat.reduceMod, Nat.zero_add, Nat.sub_zero, Nat.add_zero]
  refine ⟨by kernel_rfl, (c_IsValidSample x).use (fun _ m => m) ?_⟩
  rintro _ _ ⟨rfl, ⟨t, rfl⟩⟩
  simp only [go_sem, Nat.reduceBEq, Nat.reduceAdd, Nat.reduceMul, Nat.reduceSub, Nat.reduceLeDiff, Nat.le_refl, implies_true, Nat.reduceLT, reduceIte, decide_true, decide_false, true_and, and_true, reduceCtorEq, Nat.mul_one, Int.reduceToNat, Int.reduceLE, Int.reduceLT, Int.reduceAdd, Int.reduceSub, Int.reduceMul, Int.cast_ofNat_Int, cast_zero_int, cast_one_int, Nat.reducePow, Nat.reduceEqDiff, Nat.reduceMod, Nat.zero_add, Nat.sub_zero, Nat.add_zero, decide_eq_true hx]
  refine ⟨by kernel_rfl, (c_isGood x hx).use (fun _ m => m) ?_⟩
  rintro _ _ ⟨rfl, ⟨t2, rfl⟩⟩
  simp only [go_sem, Nat.reduceBEq, Nat.reduceAdd, Nat.reduceMul, Nat.reduceSub, Nat.reduceLeDiff, Nat.le_refl, implies_true, Nat.reduceLT, reduceIte, decide_true, decide_false, true_and, and_true, reduceCtorEq, Nat.mul_one, Int.reduceToNat, Int.reduceLE, Int.reduceLT, Int.reduceAdd, Int.reduceSub, Int.reduceMul, Int.cast_ofNat_Int, cast_zero_int, cast_one_int, Nat.reducePow, Nat.reduceEqDiff, Nat.reduceMod, Nat.zero_add, Nat.sub_zero, Nat.add_zero, decide_eq_true hx]
  try all_goals first | exact rfl | exact ⟨rfl, rfl⟩ | exact List.prefix_append _ _ | exact ⟨rfl, List.prefix_append _ _⟩ | assumption | exact ⟨rfl, by assumption⟩ | exact List.prefix_rfl | exact ⟨rfl, List.prefix_rfl⟩ | exact List.IsPrefix.trans (by assumption) (by assumption) | exact ⟨rfl, List.IsPrefix.trans (by assumption) (by assumption)⟩

theorem c_rBigS (b : Option Addr) (n : Nat) : vCall [] Tryd.prog M 13 [.slice b n 0] h (fun r h' => r = .bool (decide ((65536 : Int) < n)) ∧ h = h') := by
  refine body_of mo Tryd.func13 rfl (by kernel_rfl) (Nat.le_of_ble_eq_true (by kernel_rfl)) rfl ?_
  simp only [go_sem, Nat.reduceBEq, Nat.reduceAdd, Nat.reduceMul, Nat.reduceSub, Nat.reduceLeDiff, Nat.le_refl, implies_true, Nat.reduceLT, reduceIte, decide_true, decide_false, true_and, and_true, reduceCtorEq, Nat.mul_one, Int.reduceToNat, Int.reduceLE, Int.reduceLT, Int.reduceAdd, Int.reduceSub, Int.reduceMul, Int.cast_ofNat_Int, cast_zero_int, cast_one_int, Nat.reducePow, Nat.reduceEqDiff, Nat.reduceMod, Nat.zero_add, Nat.sub_zero, Nat.add_zero]
  all_goals first | exact rfl | exact ⟨rfl, rfl⟩ | exact List.prefix_append _ _ | exact ⟨rfl, List.prefix_append _ _⟩ | assumption | exact ⟨rfl, by assumption⟩ | exact List.prefix_rfl | exact ⟨rfl, List.prefix_rfl⟩ | exact List.IsPrefix.trans (by assumption) (by assumption) | exact ⟨rfl, List.IsPrefix.trans (by assumption) (by assumption)⟩
set_option maxRecDepth 20000 in
theorem l_FnSamples (pw : SmpAt glGA h) (mx : MaxAt glGA h) (b : Option Addr) (n : Nat) (hc : CodeOk h b n) : vCall glGA Tryd.prog M 7 [.slice b n 0] h (fun r _ => r = .bool true) := by
  refine body_of mo Tryd.func7 rfl (by kernel_rfl) (Nat.le_of_ble_eq_true (by kernel_rfl)) rfl ?_
  simp only [go_sem, Nat.reduceBEq, Nat.reduceAdd, Nat.reduceMul, Nat.reduceSub, Nat.reduceLeDiff, Nat.le_refl, implies_true, Nat.reduceLT, reduceIte, decide_true, decide_false, true_and, and_true, reduceCtorEq, Nat.mul_one, Int.reduceToNat, Int.reduceLE, Int.reduceLT, Int.reduceAdd, Int.reduceSub, Int.reduceMul, Int.cast_ofNat_Int, cast_zero_int, cast_one_int, Nat.reducePow, Nat.reduceEqDiff, Nat.reduceMod, Nat.zero_add, Nat.sub_zero, Nat.add_zero]
  refine ⟨by kernel_rfl, ((c_rBigS b n).addG).use (fun _ m => m) ?_⟩
  rintro _ _ ⟨rfl, rfl⟩
  by_cases hb : (65536 : Int) < n
  · simp only [go_sem, Nat.reduceBEq, Nat.reduceAdd, Nat.reduceMul, Nat.reduceSub, Nat.reduceLeDiff, Nat.le_refl, implies_true, Nat.reduceLT, reduceIte, decide_true, decide_false, true_and, and_true, reduceCtorEq, Nat.mul_one, Int.reduceToNat, Int.reduceLE, Int.reduceLT, Int.reduceAdd, Int.reduceSub, Int.reduceMul, Int.cast_ofNat_Int, cast_zero_int, cast_one_int, Nat.reducePow, Nat.reduceEqDiff, Nat.reduceMod, Nat.zero_add, Nat.sub_zero, Nat.add_zero, decbS hb]
  simp only [go_sem, Nat.reduceBEq, Nat.reduceAdd, Nat.reduceMul, Nat.reduceSub, Nat.reduceLeDiff, Nat.le_refl, implies_true, Nat.reduceLT, reduceIte, decide_true, decide_false, true_and, and_true, reduceCtorEq, Nat.mul_one, Int.reduceToNat, Int.reduceLE, Int.reduceLT, Int.reduceAdd, Int.reduceSub, Int.reduceMul, Int.cast_ofNat_Int, cast_zero_int, cast_one_int, Nat.reducePow, Nat.reduceEqDiff, Nat.reduceMod, Nat.zero_add, Nat.sub_zero, Nat.add_zero, dectS hb]
  refine ⟨by kernel_rfl, ((c_DrawSampleText b n hc).addG).use (fun _ m => m) ?_⟩
  rintro _ H1 ⟨⟨x, rfl⟩, P1⟩
  obtain ⟨s, pk, y, hs, zs, hpm, hrel⟩ := smpTV_told x
  have L1 := P1.length_le
  simp only [go_sem, Nat.reduceBEq, Nat.reduceAdd, Nat.reduceMul, Nat.reduceSub, Nat.reduceLeDiff, Nat.le_refl, implies_true, Nat.reduceLT, reduceIte, decide_true, decide_false, true_and, and_true, reduceCtorEq, Nat.mul_one, Int.reduceToNat, Int.reduceLE, Int.reduceLT, Int.reduceAdd, Int.reduceSub, Int.reduceMul, Int.cast_ofNat_Int, cast_zero_int, cast_one_int, Nat.reducePow, Nat.reduceEqDiff, Nat.reduceMod, Nat.zero_add, Nat.sub_zero, Nat.add_zero, own_ge (show h.length ≤ H1.length by omega), hget_set_newW, set_newW, hget_new]
  refine ⟨by kernel_rfl, (c_SampleText (pw.mono (P1.trans (List.prefix_append _ _))) x).use (fun _ m => m) ?_⟩
  rintro _ H2 ⟨rfl, P2⟩
  have b2 := hget_prefix' P2
  rw [hs]
  simp only [go_sem, Nat.reduceBEq, Nat.reduceAdd, Nat.reduceMul, Nat.reduceSub, Nat.reduceLeDiff, Nat.le_refl, implies_true, Nat.reduceLT, reduceIte, decide_true, decide_false, true_and, and_true, reduceCtorEq, Nat.mul_one, Int.reduceToNat, Int.reduceLE, Int.reduceLT, Int.reduceAdd, Int.reduceSub, Int.reduceMul, Int.cast_ofNat_Int, cast_zero_int, cast_one_int, Nat.reducePow, Nat.reduceEqDiff, Nat.reduceMod, Nat.zero_add, Nat.sub_zero, Nat.add_zero, b2]
  refine ⟨by kernel_rfl, ((c_sSampleText x).addG).use (fun _ m => m) ?_⟩
  rintro _ H3 ⟨rfl, P3⟩
  have b3 : hget H3 H1.length = _ := (hget_prefix P3 (hget_lt b2)).trans b2
  rw [hs]
  simp only [go_sem, Nat.reduceBEq, Nat.reduceAdd, Nat.reduceMul, Nat.reduceSub, Nat.reduceLeDiff, Nat.le_refl, implies_true, Nat.reduceLT, reduceIte, decide_true, decide_false, true_and, and_true, reduceCtorEq, Nat.mul_one, Int.reduceToNat, Int.reduceLE, Int.reduceLT, Int.reduceAdd, Int.reduceSub, Int.reduceMul, Int.cast_ofNat_Int, cast_zero_int, cast_one_int, Nat.reducePow, Nat.reduceEqDiff, Nat.reduceMod, Nat.zero_add, Nat.sub_zero, Nat.add_zero, b3, eqsS, Bool.not_true, bne_self_eq_false]
  refine ⟨by kernel_rfl, ((c_IsValidSample x).addG).use (fun _ m => m) ?_⟩
  rintro _ H4 ⟨rfl, P4⟩
  have b4 : hget H4 H1.length = _ := (hget_prefix P4 (hget_lt b3)).trans b3
  simp only [go_sem, Nat.reduceBEq, Nat.reduceAdd, Nat.reduceMul, Nat.reduceSub, Nat.reduceLeDiff, Nat.le_refl, implies_true, Nat.reduceLT, reduceIte, decide_true, decide_false, true_and, and_true, reduceCtorEq, Nat.mul_one, Int.reduceToNat, Int.reduceLE, Int.reduceLT, Int.reduceAdd, Int.reduceSub, Int.reduceMul, Int.cast_ofNat_Int, cast_zero_int, cast_one_int, Nat.reducePow, Nat.reduceEqDiff, Nat.reduceMod, Nat.zero_add, Nat.sub_zero, Nat.add_zero, b4, eqsS, Bool.not_true, bne_self_eq_false]
  have Q4 : h <+: H4 := P1.trans ((List.prefix_append _ _).trans (P2.trans (P3.trans P4)))
  refine ⟨by kernel_rfl, (c_ParseSample (pw.mono Q4) (mx.mono Q4) s pk y (by omega) hpm).use (fun _ m => m) ?_⟩
  rintro _ H5 ⟨rfl, P5⟩
  have b5 : hget H5 H1.length = _ := (hget_prefix P5 (hget_lt b4)).trans b4
  have Q5 := Q4.trans P5
  have L5 := Q5.length_le
  have Q6 : h <+: H5 ++ [⟨[.int .i64 y.1, .int .i64 y.2.1, .int .i64 y.2.2.1, .int .i64 y.2.2.2], 4, .rw⟩] := Q5.trans (List.prefix_append _ _)
  by_cases gx : smpOk x
  · obtain ⟨rfl, rfl⟩ := hrel gx
    have dx : decide (smpOk y) = true := decide_eq_true gx
    simp only [go_sem, Nat.reduceBEq, Nat.reduceAdd, Nat.reduceMul, Nat.reduceSub, Nat.reduceLeDiff, Nat.le_refl, implies_true, Nat.reduceLT, reduceIte, decide_true, decide_false, true_and, and_true, reduceCtorEq, Nat.mul_one, Int.reduceToNat, Int.reduceLE, Int.reduceLT, Int.reduceAdd, Int.reduceSub, Int.reduceMul, Int.cast_ofNat_Int, cast_zero_int, cast_one_int, Nat.reducePow, Nat.reduceEqDiff, Nat.reduceMod, Nat.zero_add, Nat.sub_zero, Nat.add_zero, dx, sag, own_ge (show h.length ≤ H5.length by omega), hget_set_newW, set_newW, hget_new, self_get b5, bne_self_eq_false, beq_self_eq_true, Bool.and_self, Bool.not_true]
    refine ⟨by kernel_rfl, ((c_DrawParseSample b n (hc.mono Q6)).addG).use (fun _ m => m) ?_⟩
    rintro _ H7 ⟨⟨t, rfl, zt⟩, P7⟩
    have Q7 := Q6.trans P7
    obtain ⟨ok2, x2, hx2⟩ := IsPM.ex t
    try simp only [go_sem, Nat.reduceBEq, Nat.reduceAdd, Nat.reduceMul, Nat.reduceSub, Nat.reduceLeDiff, Nat.le_refl, implies_true, Nat.reduceLT, reduceIte, decide_true, decide_false, true_and, and_true, reduceCtorEq, Nat.mul_one, Int.reduceToNat, Int.reduceLE, Int.reduceLT, Int.reduceAdd, Int.reduceSub, Int.reduceMul, Int.cast_ofNat_Int, cast_zero_int, cast_one_int, Nat.reducePow, Nat.reduceEqDiff, Nat.reduceMod, Nat.zero_add, Nat.sub_zero, Nat.add_zero, dx]
    refine ⟨by kernel_rfl, (c_ParseSample (pw.mono Q7) (mx.mono Q7) t ok2 x2 (by omega) hx2).use (fun _ m => m) ?_⟩
    rintro _ H8 ⟨rfl, P8⟩
    have Q8 := Q7.trans P8
    have L8 := Q8.length_le
    simp only [go_sem, Nat.reduceBEq, Nat.reduceAdd, Nat.reduceMul, Nat.reduceSub, Nat.reduceLeDiff, Nat.le_refl, implies_true, Nat.reduceLT, reduceIte, decide_true, decide_false, true_and, and_true, reduceCtorEq, Nat.mul_one, Int.reduceToNat, Int.reduceLE, Int.reduceLT, Int.reduceAdd, Int.reduceSub, Int.reduceMul, Int.cast_ofNat_Int, cast_zero_int, cast_one_int, Nat.reducePow, Nat.reduceEqDiff, Nat.reduceMod, Nat.zero_add, Nat.sub_zero, Nat.add_zero, dx, sag, own_ge (show h.length ≤ H8.length by omega), hget_set_newW, set_newW, hget_new]
    refine ⟨by kernel_rfl, ((c_sParseSample t ok2 x2 (by omega) hx2).addG).use (fun _ m => m) ?_⟩
    rintro _ H9 ⟨rfl, P9⟩
    have b9 := hget_prefix' P9
    have Q9 := Q8.trans ((List.prefix_append _ _).trans P9)
    have L9 := Q9.length_le
    simp only [go_sem, Nat.reduceBEq, Nat.reduceAdd, Nat.reduceMul, Nat.reduceSub, Nat.reduceLeDiff, Nat.le_refl, implies_true, Nat.reduceLT, reduceIte, decide_true, decide_false, true_and, and_true, reduceCtorEq, Nat.mul_one, Int.reduceToNat, Int.reduceLE, Int.reduceLT, Int.reduceAdd, Int.reduceSub, Int.reduceMul, Int.cast_ofNat_Int, cast_zero_int, cast_one_int, Nat.reducePow, Nat.reduceEqDiff, Nat.reduceMod, Nat.zero_add, Nat.sub_zero, Nat.add_zero, dx, sag, own_ge (show h.length ≤ H9.length by omega), hget_set_newW, set_newW, hget_new, self_get b9, b9, bne_self_eq_false, beq_self_eq_true, Bool.and_self, Bool.not_true]
    have Q9a : h <+: H9 ++ [⟨[.int .i64 x2.1, .int .i64 x2.2.1, .int .i64 x2.2.2.1, .int .i64 x2.2.2.2], 4, .rw⟩] := Q9.trans (List.prefix_append _ _)
    refine ⟨by kernel_rfl, ((c_DrawBadSamples b n (hc.mono Q9a)).addG).use (fun _ m => m) ?_⟩
    rintro v HA ⟨⟨l, fl, hl⟩, PA⟩
    have QA := Q9a.trans PA
    obtain ⟨va, rfl⟩ := smpLen fl.sl
    try simp only [go_sem, Nat.reduceBEq, Nat.reduceAdd, Nat.reduceMul, Nat.reduceSub, Nat.reduceLeDiff, Nat.le_refl, implies_true, Nat.reduceLT, reduceIte, decide_true, decide_false, true_and, and_true, reduceCtorEq, Nat.mul_one, Int.reduceToNat, Int.reduceLE, Int.reduceLT, Int.reduceAdd, Int.reduceSub, Int.reduceMul, Int.cast_ofNat_Int, cast_zero_int, cast_one_int, Nat.reducePow, Nat.reduceEqDiff, Nat.reduceMod, Nat.zero_add, Nat.sub_zero, Nat.add_zero, dx]
    refine ⟨by kernel_rfl, ((c_BadSamples _ l fl.sl (by omega)).addG).use (fun _ m => m) ?_⟩
    rintro _ HB ⟨⟨w, rfl, fw⟩, PB⟩
    have QB := QA.trans PB
    obtain ⟨wa, rfl⟩ := fw.ai.len
    try simp only [go_sem, Nat.reduceBEq, Nat.reduceAdd, Nat.reduceMul, Nat.reduceSub, Nat.reduceLeDiff, Nat.le_refl, implies_true, Nat.reduceLT, reduceIte, decide_true, decide_false, true_and, and_true, reduceCtorEq, Nat.mul_one, Int.reduceToNat, Int.reduceLE, Int.reduceLT, Int.reduceAdd, Int.reduceSub, Int.reduceMul, Int.cast_ofNat_Int, cast_zero_int, cast_one_int, Nat.reducePow, Nat.reduceEqDiff, Nat.reduceMod, Nat.zero_add, Nat.sub_zero, Nat.add_zero, dx]
    refine ⟨by kernel_rfl, ((c_sBadSamples _ l (fl.mono PB).sl (by omega)).addG).use (fun _ m => m) ?_⟩
    rintro _ HC ⟨⟨w2, rfl, fw2⟩, PC⟩
    have QC := QB.trans PC
    obtain ⟨wb, rfl⟩ := fw2.ai.len
    have zb := badSamples_len (l := l) (by omega)
    simp only [go_sem, Nat.reduceBEq, Nat.reduceAdd, Nat.reduceMul, Nat.reduceSub, Nat.reduceLeDiff, Nat.le_refl, implies_true, Nat.reduceLT, reduceIte, decide_true, decide_false, true_and, and_true, reduceCtorEq, Nat.mul_one, Int.reduceToNat, Int.reduceLE, Int.reduceLT, Int.reduceAdd, Int.reduceSub, Int.reduceMul, Int.cast_ofNat_Int, cast_zero_int, cast_one_int, Nat.reducePow, Nat.reduceEqDiff, Nat.reduceMod, Nat.zero_add, Nat.sub_zero, Nat.add_zero, dx, bne_self_eq_false]
    refine ⟨by kernel_rfl, ((c_rIntsW _ _ _ (fw.mono PC).ai fw2.ai (by omega)).addG).use (fun _ m => m) ?_⟩
    rintro _ _ ⟨rfl, rfl⟩
    simp only [go_sem, Nat.reduceBEq, Nat.reduceAdd, Nat.reduceMul, Nat.reduceSub, Nat.reduceLeDiff, Nat.le_refl, implies_true, Nat.reduceLT, reduceIte, decide_true, decide_false, true_and, and_true, reduceCtorEq, Nat.mul_one, Int.reduceToNat, Int.reduceLE, Int.reduceLT, Int.reduceAdd, Int.reduceSub, Int.reduceMul, Int.cast_ofNat_Int, cast_zero_int, cast_one_int, Nat.reducePow, Nat.reduceEqDiff, Nat.reduceMod, Nat.zero_add, Nat.sub_zero, Nat.add_zero, dx, bne_self_eq_false, Bool.not_true]
    have sl := (fl.mono (PB.trans PC)).sl
    have al := (fw.mono PC).ai
    clear fl fw fw2
    by_cases gl : smpGood l
    · have dg : decide (smpGood l) = true := decide_eq_true gl
      simp only [go_sem, Nat.reduceBEq, Nat.reduceAdd, Nat.reduceMul, Nat.reduceSub, Nat.reduceLeDiff, Nat.le_refl, implies_true, Nat.reduceLT, reduceIte, decide_true, decide_false, true_and, and_true, reduceCtorEq, Nat.mul_one, Int.reduceToNat, Int.reduceLE, Int.reduceLT, Int.reduceAdd, Int.reduceSub, Int.reduceMul, Int.cast_ofNat_Int, cast_zero_int, cast_one_int, Nat.reducePow, Nat.reduceEqDiff, Nat.reduceMod, Nat.zero_add, Nat.sub_zero, Nat.add_zero, dx, dg]
      refine vLoop.count mo l.length (fun i e h' => e 0 = .slice b n 0 ∧ e 15 = .slice va l.length 0 ∧ e 16 = .slice wa (badSamples l).length 0 ∧ e 17 = .bool true ∧ e 20 = .int .i64 i ∧ HC <+: h') ?_ ?_
      · simp only [go_sem, Nat.reduceBEq, Nat.reduceAdd, Nat.reduceMul, Nat.reduceSub, Nat.reduceLeDiff, Nat.le_refl, implies_true, Nat.reduceLT, reduceIte, decide_true, decide_false, true_and, and_true, reduceCtorEq, Nat.mul_one, Int.reduceToNat, Int.reduceLE, Int.reduceLT, Int.reduceAdd, Int.reduceSub, Int.reduceMul, Int.cast_ofNat_Int, cast_zero_int, cast_one_int, Nat.reducePow, Nat.reduceEqDiff, Nat.reduceMod, Nat.zero_add, Nat.sub_zero, Nat.add_zero]
      · rintro i e HD hi ⟨e0, e15, e16, e17, e20, PD⟩
        by_cases hlt : i < l.length
        · have hz : (i : Int) < l.length := by omega
          obtain ⟨id, off1, k, hv, hd1, hk, rw1⟩ := smpRow sl (by omega)
          obtain rfl : va = some ⟨id, off1, none⟩ := by simpa using hv
          obtain ⟨r1, r2⟩ := rw1 i hlt
          have kD := hk HD PD
          have gi := (gl.1 i hlt).1
          have hm := bad_dec gl hlt
          simp only [go_sem, Nat.reduceBEq, Nat.reduceAdd, Nat.reduceMul, Nat.reduceSub, Nat.reduceLeDiff, Nat.le_refl, implies_true, Nat.reduceLT, reduceIte, decide_true, decide_false, true_and, and_true, reduceCtorEq, Nat.mul_one, Int.reduceToNat, Int.reduceLE, Int.reduceLT, Int.reduceAdd, Int.reduceSub, Int.reduceMul, Int.cast_ofNat_Int, cast_zero_int, cast_one_int, Nat.reducePow, Nat.reduceEqDiff, Nat.reduceMod, Nat.zero_add, Nat.sub_zero, Nat.add_zero, e0, e15, e16, e17, e20, hz, kD, hd1, r1, r2]
          refine ⟨by kernel_rfl, ((c_IsGoodSample _ gi).addG).use (fun _ m => m) ?_⟩
          rintro _ HE ⟨rfl, PE⟩
          simp only [go_sem, Nat.reduceBEq, Nat.reduceAdd, Nat.reduceMul, Nat.reduceSub, Nat.reduceLeDiff, Nat.le_refl, implies_true, Nat.reduceLT, reduceIte, decide_true, decide_false, true_and, and_true, reduceCtorEq, Nat.mul_one, Int.reduceToNat, Int.reduceLE, Int.reduceLT, Int.reduceAdd, Int.reduceSub, Int.reduceMul, Int.cast_ofNat_Int, cast_zero_int, cast_one_int, Nat.reducePow, Nat.reduceEqDiff, Nat.reduceMod, Nat.zero_add, Nat.sub_zero, Nat.add_zero, e0, e15, e16, e17, e20, hz, Bool.not_true]
          refine ⟨by kernel_rfl, ((c_rHas _ (i : Int) _ (al.mono (PD.trans PE)) (by omega)).addG).use (fun _ m => m) ?_⟩
          rintro _ _ ⟨rfl, rfl⟩
          have hq : (decide (Go.Proofs.YtkogddiefniihabDoor.off (l.getD i smp0) = 0) == decide ((i : Int) ∈ badSamples l)) = false := by rw [hm]; cases decide (Go.Proofs.YtkogddiefniihabDoor.off (l.getD i smp0) = 0) <;> rfl
          simp only [go_sem, Nat.reduceBEq, Nat.reduceAdd, Nat.reduceMul, Nat.reduceSub, Nat.reduceLeDiff, Nat.le_refl, implies_true, Nat.reduceLT, reduceIte, decide_true, decide_false, true_and, and_true, reduceCtorEq, Nat.mul_one, Int.reduceToNat, Int.reduceLE, Int.reduceLT, Int.reduceAdd, Int.reduceSub, Int.reduceMul, Int.cast_ofNat_Int, cast_zero_int, cast_one_int, Nat.reducePow, Nat.reduceEqDiff, Nat.reduceMod, Nat.zero_add, Nat.sub_zero, Nat.add_zero, e0, e15, e16, e17, e20, hz, Bool.not_true, hq]
          exact ⟨hlt, by rw [wrap64 (by omega)]; rfl, PD.trans PE⟩
        · obtain rfl : i = l.length := by omega
          have nz : ¬ ((l.length : Int) < l.length) := by omega
          by_cases h0 : 0 < l.length
          · obtain ⟨u1, u2, hu, ub1, ub2, ue⟩ := share_all gl h0
            have zb2 : (badSamples l).length ≤ l.length := by rw [badSamples, if_pos gl]; exact badN_len _
            simp only [go_sem, Nat.reduceBEq, Nat.reduceAdd, Nat.reduceMul, Nat.reduceSub, Nat.reduceLeDiff, Nat.le_refl, implies_true, Nat.reduceLT, reduceIte, decide_true, decide_false, true_and, and_true, reduceCtorEq, Nat.mul_one, Int.reduceToNat, Int.reduceLE, Int.reduceLT, Int.reduceAdd, Int.reduceSub, Int.reduceMul, Int.cast_ofNat_Int, cast_zero_int, cast_one_int, Nat.reducePow, Nat.reduceEqDiff, Nat.reduceMod, Nat.zero_add, Nat.sub_zero, Nat.add_zero, e0, e15, e16, e17, e20, nz, show (0 : Int) < l.length by omega]
            refine ⟨by kernel_rfl, ((c_GoodShare _ l 0 3650 (sl.mono PD) (by omega)).addG).use (fun _ m => m) ?_⟩
            rintro _ HF ⟨rfl, PF⟩
            rw [hu]
            have m1 := Int.mul_le_mul ub1.2 (show (l.length : Int) ≤ 16 by omega) (by omega) (by omega)
            have m2 := Int.mul_nonneg ub1.1 (show (0 : Int) ≤ l.length by omega)
            have w1 : IntKind.i64.wrap (u1 * (l.length : Int)) = u1 * l.length := wrap64 (by omega)
            have w2 : IntKind.i64.wrap ((l.length : Int) - (badSamples l).length) = l.length - (badSamples l).length := wrap64 (by omega)
            have w3 : IntKind.i64.wrap (((l.length : Int) - (badSamples l).length) * u2) = u1 * l.length := by rw [← ue]; exact wrap64 (by omega)
            simp only [go_sem, Nat.reduceBEq, Nat.reduceAdd, Nat.reduceMul, Nat.reduceSub, Nat.reduceLeDiff, Nat.le_refl, implies_true, Nat.reduceLT, reduceIte, decide_true, decide_false, true_and, and_true, reduceCtorEq, Nat.mul_one, Int.reduceToNat, Int.reduceLE, Int.reduceLT, Int.reduceAdd, Int.reduceSub, Int.reduceMul, Int.cast_ofNat_Int, cast_zero_int, cast_one_int, Nat.reducePow, Nat.reduceEqDiff, Nat.reduceMod, Nat.zero_add, Nat.sub_zero, Nat.add_zero, e0, e15, e16, e17, e20, nz, show (0 : Int) < l.length by omega, w1, w2, w3, bne_self_eq_false, Bool.not_true]
            have QZ := QC.trans (PD.trans PF)
            refine ⟨by kernel_rfl, ((c_DrawGoodShare b n (hc.mono QZ)).addG).use (fun _ m => m) ?_⟩
            rintro _ J1 ⟨⟨v3, l3, f3, t3, rfl, q3, hl3⟩, K1⟩
            obtain ⟨a3, rfl⟩ := smpLen q3.sl
            try simp only [go_sem, Nat.reduceBEq, Nat.reduceAdd, Nat.reduceMul, Nat.reduceSub, Nat.reduceLeDiff, Nat.le_refl, implies_true, Nat.reduceLT, reduceIte, decide_true, decide_false, true_and, and_true, reduceCtorEq, Nat.mul_one, Int.reduceToNat, Int.reduceLE, Int.reduceLT, Int.reduceAdd, Int.reduceSub, Int.reduceMul, Int.cast_ofNat_Int, cast_zero_int, cast_one_int, Nat.reducePow, Nat.reduceEqDiff, Nat.reduceMod, Nat.zero_add, Nat.sub_zero, Nat.add_zero, e0, e15]
            refine ⟨by kernel_rfl, ((c_GoodShare _ l3 f3 t3 q3.sl (by omega)).addG).use (fun _ m => m) ?_⟩
            rintro _ J2 ⟨rfl, K2⟩
            obtain ⟨y1, y2, y3, hsh⟩ := share_shape l3 f3 t3
            rw [hsh]
            try simp only [go_sem, Nat.reduceBEq, Nat.reduceAdd, Nat.reduceMul, Nat.reduceSub, Nat.reduceLeDiff, Nat.le_refl, implies_true, Nat.reduceLT, reduceIte, decide_true, decide_false, true_and, and_true, reduceCtorEq, Nat.mul_one, Int.reduceToNat, Int.reduceLE, Int.reduceLT, Int.reduceAdd, Int.reduceSub, Int.reduceMul, Int.cast_ofNat_Int, cast_zero_int, cast_one_int, Nat.reducePow, Nat.reduceEqDiff, Nat.reduceMod, Nat.zero_add, Nat.sub_zero, Nat.add_zero, e0, e15]
            refine ⟨by kernel_rfl, ((c_sGoodShare _ l3 f3 t3 (q3.mono K2).sl (by omega)).addG).use (fun _ m => m) ?_⟩
            rintro _ J3 ⟨rfl, K3⟩
            rw [hsh]
            simp only [go_sem, Nat.reduceBEq, Nat.reduceAdd, Nat.reduceMul, Nat.reduceSub, Nat.reduceLeDiff, Nat.le_refl, implies_true, Nat.reduceLT, reduceIte, decide_true, decide_false, true_and, and_true, reduceCtorEq, Nat.mul_one, Int.reduceToNat, Int.reduceLE, Int.reduceLT, Int.reduceAdd, Int.reduceSub, Int.reduceMul, Int.cast_ofNat_Int, cast_zero_int, cast_one_int, Nat.reducePow, Nat.reduceEqDiff, Nat.reduceMod, Nat.zero_add, Nat.sub_zero, Nat.add_zero, e0, e15, beq_self_eq_true]
          · simp only [go_sem, Nat.reduceBEq, Nat.reduceAdd, Nat.reduceMul, Nat.reduceSub, Nat.reduceLeDiff, Nat.le_refl, implies_true, Nat.reduceLT, reduceIte, decide_true, decide_false, true_and, and_true, reduceCtorEq, Nat.mul_one, Int.reduceToNat, Int.reduceLE, Int.reduceLT, Int.reduceAdd, Int.reduceSub, Int.reduceMul, Int.cast_ofNat_Int, cast_zero_int, cast_one_int, Nat.reducePow, Nat.reduceEqDiff, Nat.reduceMod, Nat.zero_add, Nat.sub_zero, Nat.add_zero, e0, e15, e16, e17, e20, nz, show ¬ (0 : Int) < l.length by omega]
            have QZ := QC.trans PD
            refine ⟨by kernel_rfl, ((c_DrawGoodShare b n (hc.mono QZ)).addG).use (fun _ m => m) ?_⟩
            rintro _ J1 ⟨⟨v3, l3, f3, t3, rfl, q3, hl3⟩, K1⟩
            obtain ⟨a3, rfl⟩ := smpLen q3.sl
            try simp only [go_sem, Nat.reduceBEq, Nat.reduceAdd, Nat.reduceMul, Nat.reduceSub, Nat.reduceLeDiff, Nat.le_refl, implies_true, Nat.reduceLT, reduceIte, decide_true, decide_false, true_and, and_true, reduceCtorEq, Nat.mul_one, Int.reduceToNat, Int.reduceLE, Int.reduceLT, Int.reduceAdd, Int.reduceSub, Int.reduceMul, Int.cast_ofNat_Int, cast_zero_int, cast_one_int, Nat.reducePow, Nat.reduceEqDiff, Nat.reduceMod, Nat.zero_add, Nat.sub_zero, Nat.add_zero, e0, e15]
            refine ⟨by kernel_rfl, ((c_GoodShare _ l3 f3 t3 q3.sl (by omega)).addG).use (fun _ m => m) ?_⟩
            rintro _ J2 ⟨rfl, K2⟩
            obtain ⟨y1, y2, y3, hsh⟩ := share_shape l3 f3 t3
            rw [hsh]
            try simp only [go_sem, Nat.reduceBEq, Nat.reduceAdd, Nat.reduceMul, Nat.reduceSub, Nat.reduceLeDiff, Nat.le_refl, implies_true, Nat.reduceLT, reduceIte, decide_true, decide_false, true_and, and_true, reduceCtorEq, Nat.mul_one, Int.reduceToNat, Int.reduceLE, Int.reduceLT, Int.reduceAdd, Int.reduceSub, Int.reduceMul, Int.cast_ofNat_Int, cast_zero_int, cast_one_int, Nat.reducePow, Nat.reduceEqDiff, Nat.reduceMod, Nat.zero_add, Nat.sub_zero, Nat.add_zero, e0, e15]
            refine ⟨by kernel_rfl, ((c_sGoodShare _ l3 f3 t3 (q3.mono K2).sl (by omega)).addG).use (fun _ m => m) ?_⟩
            rintro _ J3 ⟨rfl, K3⟩
            rw [hsh]
            simp only [go_sem, Nat.reduceBEq, Nat.reduceAdd, Nat.reduceMul, Nat.reduceSub, Nat.reduceLeDiff, Nat.le_refl, implies_true, Nat.reduceLT, reduceIte, decide_true, decide_false, true_and, and_true, reduceCtorEq, Nat.mul_one, Int.reduceToNat, Int.reduceLE, Int.reduceLT, Int.reduceAdd, Int.reduceSub, Int.reduceMul, Int.cast_ofNat_Int, cast_zero_int, cast_one_int, Nat.reducePow, Nat.reduceEqDiff, Nat.reduceMod, Nat.zero_add, Nat.sub_zero, Nat.add_zero, e0, e15, beq_self_eq_true]
    · have dg : decide (smpGood l) = false := decide_eq_false gl
      simp only [go_sem, Nat.reduceBEq, Nat.reduceAdd, Nat.reduceMul, Nat.reduceSub, Nat.reduceLeDiff, Nat.le_refl, implies_true, Nat.reduceLT, reduceIte, decide_true, decide_false, true_and, and_true, reduceCtorEq, Nat.mul_one, Int.reduceToNat, Int.reduceLE, Int.reduceLT, Int.reduceAdd, Int.reduceSub, Int.reduceMul, Int.cast_ofNat_Int, cast_zero_int, cast_one_int, Nat.reducePow, Nat.reduceEqDiff, Nat.reduceMod, Nat.zero_add, Nat.sub_zero, Nat.add_zero, dx, dg]
      refine vLoop.count mo 0 (fun i e h' => e 0 = .slice b n 0 ∧ e 15 = .slice va l.length 0 ∧ e 17 = .bool false ∧ e 20 = .int .i64 0 ∧ HeapIs HC h') ?_ ?_
      · simp only [go_sem, Nat.reduceBEq, Nat.reduceAdd, Nat.reduceMul, Nat.reduceSub, Nat.reduceLeDiff, Nat.le_refl, implies_true, Nat.reduceLT, reduceIte, decide_true, decide_false, true_and, and_true, reduceCtorEq, Nat.mul_one, Int.reduceToNat, Int.reduceLE, Int.reduceLT, Int.reduceAdd, Int.reduceSub, Int.reduceMul, Int.cast_ofNat_Int, cast_zero_int, cast_one_int, Nat.reducePow, Nat.reduceEqDiff, Nat.reduceMod, Nat.zero_add, Nat.sub_zero, Nat.add_zero]
        exact HeapIs.rfl
      · rintro i e HD hi ⟨e0, e15, e17, e20, hh⟩
        cases hh
        have QZ := QC
        by_cases h0 : (0 : Int) < l.length
        · simp only [go_sem, Nat.reduceBEq, Nat.reduceAdd, Nat.reduceMul, Nat.reduceSub, Nat.reduceLeDiff, Nat.le_refl, implies_true, Nat.reduceLT, reduceIte, decide_true, decide_false, true_and, and_true, reduceCtorEq, Nat.mul_one, Int.reduceToNat, Int.reduceLE, Int.reduceLT, Int.reduceAdd, Int.reduceSub, Int.reduceMul, Int.cast_ofNat_Int, cast_zero_int, cast_one_int, Nat.reducePow, Nat.reduceEqDiff, Nat.reduceMod, Nat.zero_add, Nat.sub_zero, Nat.add_zero, e0, e15, e17, e20, h0]
          refine ⟨by kernel_rfl, ((c_DrawGoodShare b n (hc.mono QZ)).addG).use (fun _ m => m) ?_⟩
          rintro _ J1 ⟨⟨v3, l3, f3, t3, rfl, q3, hl3⟩, K1⟩
          obtain ⟨a3, rfl⟩ := smpLen q3.sl
          try simp only [go_sem, Nat.reduceBEq, Nat.reduceAdd, Nat.reduceMul, Nat.reduceSub, Nat.reduceLeDiff, Nat.le_refl, implies_true, Nat.reduceLT, reduceIte, decide_true, decide_false, true_and, and_true, reduceCtorEq, Nat.mul_one, Int.reduceToNat, Int.reduceLE, Int.reduceLT, Int.reduceAdd, Int.reduceSub, Int.reduceMul, Int.cast_ofNat_Int, cast_zero_int, cast_one_int, Nat.reducePow, Nat.reduceEqDiff, Nat.reduceMod, Nat.zero_add, Nat.sub_zero, Nat.add_zero, e0, e15, e17]
          refine ⟨by kernel_rfl, ((c_GoodShare _ l3 f3 t3 q3.sl (by omega)).addG).use (fun _ m => m) ?_⟩
          rintro _ J2 ⟨rfl, K2⟩
          obtain ⟨y1, y2, y3, hsh⟩ := share_shape l3 f3 t3
          rw [hsh]
          try simp only [go_sem, Nat.reduceBEq, Nat.reduceAdd, Nat.reduceMul, Nat.reduceSub, Nat.reduceLeDiff, Nat.le_refl, implies_true, Nat.reduceLT, reduceIte, decide_true, decide_false, true_and, and_true, reduceCtorEq, Nat.mul_one, Int.reduceToNat, Int.reduceLE, Int.reduceLT, Int.reduceAdd, Int.reduceSub, Int.reduceMul, Int.cast_ofNat_Int, cast_zero_int, cast_one_int, Nat.reducePow, Nat.reduceEqDiff, Nat.reduceMod, Nat.zero_add, Nat.sub_zero, Nat.add_zero, e0, e15, e17]
          refine ⟨by kernel_rfl, ((c_sGoodShare _ l3 f3 t3 (q3.mono K2).sl (by omega)).addG).use (fun _ m => m) ?_⟩
          rintro _ J3 ⟨rfl, K3⟩
          rw [hsh]
          simp only [go_sem, Nat.reduceBEq, Nat.reduceAdd, Nat.reduceMul, Nat.reduceSub, Nat.reduceLeDiff, Nat.le_refl, implies_true, Nat.reduceLT, reduceIte, decide_true, decide_false, true_and, and_true, reduceCtorEq, Nat.mul_one, Int.reduceToNat, Int.reduceLE, Int.reduceLT, Int.reduceAdd, Int.reduceSub, Int.reduceMul, Int.cast_ofNat_Int, cast_zero_int, cast_one_int, Nat.reducePow, Nat.reduceEqDiff, Nat.reduceMod, Nat.zero_add, Nat.sub_zero, Nat.add_zero, e0, e15, e17, beq_self_eq_true]
        · simp only [go_sem, Nat.reduceBEq, Nat.reduceAdd, Nat.reduceMul, Nat.reduceSub, Nat.reduceLeDiff, Nat.le_refl, implies_true, Nat.reduceLT, reduceIte, decide_true, decide_false, true_and, and_true, reduceCtorEq, Nat.mul_one, Int.reduceToNat, Int.reduceLE, Int.reduceLT, Int.reduceAdd, Int.reduceSub, Int.reduceMul, Int.cast_ofNat_Int, cast_zero_int, cast_one_int, Nat.reducePow, Nat.reduceEqDiff, Nat.reduceMod, Nat.zero_add, Nat.sub_zero, Nat.add_zero, e0, e15, e17, e20, h0]
          refine ⟨by kernel_rfl, ((c_DrawGoodShare b n (hc.mono QZ)).addG).use (fun _ m => m) ?_⟩
          rintro _ J1 ⟨⟨v3, l3, f3, t3, rfl, q3, hl3⟩, K1⟩
          obtain ⟨a3, rfl⟩ := smpLen q3.sl
          try simp only [go_sem, Nat.reduceBEq, Nat.reduceAdd, Nat.reduceMul, Nat.reduceSub, Nat.reduceLeDiff, Nat.le_refl, implies_true, Nat.reduceLT, reduceIte, decide_true, decide_false, true_and, and_true, reduceCtorEq, Nat.mul_one, Int.reduceToNat, Int.reduceLE, Int.reduceLT, Int.reduceAdd, Int.reduceSub, Int.reduceMul, Int.cast_ofNat_Int, cast_zero_int, cast_one_int, Nat.reducePow, Nat.reduceEqDiff, Nat.reduceMod, Nat.zero_add, Nat.sub_zero, Nat.add_zero, e0, e15, e17]
          refine ⟨by kernel_rfl, ((c_GoodShare _ l3 f3 t3 q3.sl (by omega)).addG).use (fun _ m => m) ?_⟩
          rintro _ J2 ⟨rfl, K2⟩
          obtain ⟨y1, y2, y3, hsh⟩ := share_shape l3 f3 t3
          rw [hsh]
          try simp only [go_sem, Nat.reduceBEq, Nat.reduceAdd, Nat.reduceMul, Nat.reduceSub, Nat.reduceLeDiff, Nat.le_refl, implies_true, Nat.reduceLT, reduceIte, decide_true, decide_false, true_and, and_true, reduceCtorEq, Nat.mul_one, Int.reduceToNat, Int.reduceLE, Int.reduceLT, Int.reduceAdd, Int.reduceSub, Int.reduceMul, Int.cast_ofNat_Int, cast_zero_int, cast_one_int, Nat.reducePow, Nat.reduceEqDiff, Nat.reduceMod, Nat.zero_add, Nat.sub_zero, Nat.add_zero, e0, e15, e17]
          refine ⟨by kernel_rfl, ((c_sGoodShare _ l3 f3 t3 (q3.mono K2).sl (by omega)).addG).use (fun _ m => m) ?_⟩
          rintro _ J3 ⟨rfl, K3⟩
          rw [hsh]
          simp only [go_sem, Nat.reduceBEq, Nat.reduceAdd, Nat.reduceMul, Nat.reduceSub, Nat.reduceLeDiff, Nat.le_refl, implies_true, Nat.reduceLT, reduceIte, decide_true, decide_false, true_and, and_true, reduceCtorEq, Nat.mul_one, Int.reduceToNat, Int.reduceLE, Int.reduceLT, Int.reduceAdd, Int.reduceSub, Int.reduceMul, Int.cast_ofNat_Int, cast_zero_int, cast_one_int, Nat.reducePow, Nat.reduceEqDiff, Nat.reduceMod, Nat.zero_add, Nat.sub_zero, Nat.add_zero, e0, e15, e17, beq_self_eq_true]
  · have dx : decide (smpOk x) = false := decide_eq_false gx
    simp only [go_sem, Nat.reduceBEq, Nat.reduceAdd, Nat.reduceMul, Nat.reduceSub, Nat.reduceLeDiff, Nat.le_refl, implies_true, Nat.reduceLT, reduceIte, decide_true, decide_false, true_and, and_true, reduceCtorEq, Nat.mul_one, Int.reduceToNat, Int.reduceLE, Int.reduceLT, Int.reduceAdd, Int.reduceSub, Int.reduceMul, Int.cast_ofNat_Int, cast_zero_int, cast_one_int, Nat.reducePow, Nat.reduceEqDiff, Nat.reduceMod, Nat.zero_add, Nat.sub_zero, Nat.add_zero, dx, sag, own_ge (show h.length ≤ H5.length by omega), hget_set_newW, set_newW, hget_new]
    refine ⟨by kernel_rfl, ((c_DrawParseSample b n (hc.mono Q6)).addG).use (fun _ m => m) ?_⟩
    rintro _ H7 ⟨⟨t, rfl, zt⟩, P7⟩
    have Q7 := Q6.trans P7
    obtain ⟨ok2, x2, hx2⟩ := IsPM.ex t
    try simp only [go_sem, Nat.reduceBEq, Nat.reduceAdd, Nat.reduceMul, Nat.reduceSub, Nat.reduceLeDiff, Nat.le_refl, implies_true, Nat.reduceLT, reduceIte, decide_true, decide_false, true_and, and_true, reduceCtorEq, Nat.mul_one, Int.reduceToNat, Int.reduceLE, Int.reduceLT, Int.reduceAdd, Int.reduceSub, Int.reduceMul, Int.cast_ofNat_Int, cast_zero_int, cast_one_int, Nat.reducePow, Nat.reduceEqDiff, Nat.reduceMod, Nat.zero_add, Nat.sub_zero, Nat.add_zero, dx]
    refine ⟨by kernel_rfl, (c_ParseSample (pw.mono Q7) (mx.mono Q7) t ok2 x2 (by omega) hx2).use (fun _ m => m) ?_⟩
    rintro _ H8 ⟨rfl, P8⟩
    have Q8 := Q7.trans P8
    have L8 := Q8.length_le
    simp only [go_sem, Nat.reduceBEq, Nat.reduceAdd, Nat.reduceMul, Nat.reduceSub, Nat.reduceLeDiff, Nat.le_refl, implies_true, Nat.reduceLT, reduceIte, decide_true, decide_false, true_and, and_true, reduceCtorEq, Nat.mul_one, Int.reduceToNat, Int.reduceLE, Int.reduceLT, Int.reduceAdd, Int.reduceSub, Int.reduceMul, Int.cast_ofNat_Int, cast_zero_int, cast_one_int, Nat.reducePow, Nat.reduceEqDiff, Nat.reduceMod, Nat.zero_add, Nat.sub_zero, Nat.add_zero, dx, sag, own_ge (show h.length ≤ H8.length by omega), hget_set_newW, set_newW, hget_new]
    refine ⟨by kernel_rfl, ((c_sParseSample t ok2 x2 (by omega) hx2).addG).use (fun _ m => m) ?_⟩
    rintro _ H9 ⟨rfl, P9⟩
    have b9 := hget_prefix' P9
    have Q9 := Q8.trans ((List.prefix_append _ _).trans P9)
    have L9 := Q9.length_le
    simp only [go_sem, Nat.reduceBEq, Nat.reduceAdd, Nat.reduceMul, Nat.reduceSub, Nat.reduceLeDiff, Nat.le_refl, implies_true, Nat.reduceLT, reduceIte, decide_true, decide_false, true_and, and_true, reduceCtorEq, Nat.mul_one, Int.reduceToNat, Int.reduceLE, Int.reduceLT, Int.reduceAdd, Int.reduceSub, Int.reduceMul, Int.cast_ofNat_Int, cast_zero_int, cast_one_int, Nat.reducePow, Nat.reduceEqDiff, Nat.reduceMod, Nat.zero_add, Nat.sub_zero, Nat.add_zero, dx, sag, own_ge (show h.length ≤ H9.length by omega), hget_set_newW, set_newW, hget_new, self_get b9, b9, bne_self_eq_false, beq_self_eq_true, Bool.and_self, Bool.not_true]
    have Q9a : h <+: H9 ++ [⟨[.int .i64 x2.1, .int .i64 x2.2.1, .int .i64 x2.2.2.1, .int .i64 x2.2.2.2], 4, .rw⟩] := Q9.trans (List.prefix_append _ _)
    refine ⟨by kernel_rfl, ((c_DrawBadSamples b n (hc.mono Q9a)).addG).use (fun _ m => m) ?_⟩
    rintro v HA ⟨⟨l, fl, hl⟩, PA⟩
    have QA := Q9a.trans PA
    obtain ⟨va, rfl⟩ := smpLen fl.sl
    try simp only [go_sem, Nat.reduceBEq, Nat.reduceAdd, Nat.reduceMul, Nat.reduceSub, Nat.reduceLeDiff, Nat.le_refl, implies_true, Nat.reduceLT, reduceIte, decide_true, decide_false, true_and, and_true, reduceCtorEq, Nat.mul_one, Int.reduceToNat, Int.reduceLE, Int.reduceLT, Int.reduceAdd, Int.reduceSub, Int.reduceMul, Int.cast_ofNat_Int, cast_zero_int, cast_one_int, Nat.reducePow, Nat.reduceEqDiff, Nat.reduceMod, Nat.zero_add, Nat.sub_zero, Nat.add_zero, dx]
    refine ⟨by kernel_rfl, ((c_BadSamples _ l fl.sl (by omega)).addG).use (fun _ m => m) ?_⟩
    rintro _ HB ⟨⟨w, rfl, fw⟩, PB⟩
    have QB := QA.trans PB
    obtain ⟨wa, rfl⟩ := fw.ai.len
    try simp only [go_sem, Nat.reduceBEq, Nat.reduceAdd, Nat.reduceMul, Nat.reduceSub, Nat.reduceLeDiff, Nat.le_refl, implies_true, Nat.reduceLT, reduceIte, decide_true, decide_false, true_and, and_true, reduceCtorEq, Nat.mul_one, Int.reduceToNat, Int.reduceLE, Int.reduceLT, Int.reduceAdd, Int.reduceSub, Int.reduceMul, Int.cast_ofNat_Int, cast_zero_int, cast_one_int, Nat.reducePow, Nat.reduceEqDiff, Nat.reduceMod, Nat.zero_add, Nat.sub_zero, Nat.add_zero, dx]
    refine ⟨by kernel_rfl, ((c_sBadSamples _ l (fl.mono PB).sl (by omega)).addG).use (fun _ m => m) ?_⟩
    rintro _ HC ⟨⟨w2, rfl, fw2⟩, PC⟩
    have QC := QB.trans PC
    obtain ⟨wb, rfl⟩ := fw2.ai.len
    have zb := badSamples_len (l := l) (by omega)
    simp only [go_sem, Nat.reduceBEq, Nat.reduceAdd, Nat.reduceMul, Nat.reduceSub, Nat.reduceLeDiff, Nat.le_refl, implies_true, Nat.reduceLT, reduceIte, decide_true, decide_false, true_and, and_true, reduceCtorEq, Nat.mul_one, Int.reduceToNat, Int.reduceLE, Int.reduceLT, Int.reduceAdd, Int.reduceSub, Int.reduceMul, Int.cast_ofNat_Int, cast_zero_int, cast_one_int, Nat.reducePow, Nat.reduceEqDiff, Nat.reduceMod, Nat.zero_add, Nat.sub_zero, Nat.add_zero, dx, bne_self_eq_false]
    refine ⟨by kernel_rfl, ((c_rIntsW _ _ _ (fw.mono PC).ai fw2.ai (by omega)).addG).use (fun _ m => m) ?_⟩
    rintro _ _ ⟨rfl, rfl⟩
    simp only [go_sem, Nat.reduceBEq, Nat.reduceAdd, Nat.reduceMul, Nat.reduceSub, Nat.reduceLeDiff, Nat.le_refl, implies_true, Nat.reduceLT, reduceIte, decide_true, decide_false, true_and, and_true, reduceCtorEq, Nat.mul_one, Int.reduceToNat, Int.reduceLE, Int.reduceLT, Int.reduceAdd, Int.reduceSub, Int.reduceMul, Int.cast_ofNat_Int, cast_zero_int, cast_one_int, Nat.reducePow, Nat.reduceEqDiff, Nat.reduceMod, Nat.zero_add, Nat.sub_zero, Nat.add_zero, dx, bne_self_eq_false, Bool.not_true]
    have sl := (fl.mono (PB.trans PC)).sl
    have al := (fw.mono PC).ai
    clear fl fw fw2
    by_cases gl : smpGood l
    · have dg : decide (smpGood l) = true := decide_eq_true gl
      simp only [go_sem, Nat.reduceBEq, Nat.reduceAdd, Nat.reduceMul, Nat.reduceSub, Nat.reduceLeDiff, Nat.le_refl, implies_true, Nat.reduceLT, reduceIte, decide_true, decide_false, true_and, and_true, reduceCtorEq, Nat.mul_one, Int.reduceToNat, Int.reduceLE, Int.reduceLT, Int.reduceAdd, Int.reduceSub, Int.reduceMul, Int.cast_ofNat_Int, cast_zero_int, cast_one_int, Nat.reducePow, Nat.reduceEqDiff, Nat.reduceMod, Nat.zero_add, Nat.sub_zero, Nat.add_zero, dx, dg]
      refine vLoop.count mo l.length (fun i e h' => e 0 = .slice b n 0 ∧ e 15 = .slice va l.length 0 ∧ e 16 = .slice wa (badSamples l).length 0 ∧ e 17 = .bool true ∧ e 20 = .int .i64 i ∧ HC <+: h') ?_ ?_
      · simp only [go_sem, Nat.reduceBEq, Nat.reduceAdd, Nat.reduceMul, Nat.reduceSub, Nat.reduceLeDiff, Nat.le_refl, implies_true, Nat.reduceLT, reduceIte, decide_true, decide_false, true_and, and_true, reduceCtorEq, Nat.mul_one, Int.reduceToNat, Int.reduceLE, Int.reduceLT, Int.reduceAdd, Int.reduceSub, Int.reduceMul, Int.cast_ofNat_Int, cast_zero_int, cast_one_int, Nat.reducePow, Nat.reduceEqDiff, Nat.reduceMod, Nat.zero_add, Nat.sub_zero, Nat.add_zero]
      · rintro i e HD hi ⟨e0, e15, e16, e17, e20, PD⟩
        by_cases hlt : i < l.length
        · have hz : (i : Int) < l.length := by omega
          obtain ⟨id, off1, k, hv, hd1, hk, rw1⟩ := smpRow sl (by omega)
          obtain rfl : va = some ⟨id, off1, none⟩ := by simpa using hv
          obtain ⟨r1, r2⟩ := rw1 i hlt
          have kD := hk HD PD
          have gi := (gl.1 i hlt).1
          have hm := bad_dec gl hlt
          simp only [go_sem, Nat.reduceBEq, Nat.reduceAdd, Nat.reduceMul, Nat.reduceSub, Nat.reduceLeDiff, Nat.le_refl, implies_true, Nat.reduceLT, reduceIte, decide_true, decide_false, true_and, and_true, reduceCtorEq, Nat.mul_one, Int.reduceToNat, Int.reduceLE, Int.reduceLT, Int.reduceAdd, Int.reduceSub, Int.reduceMul, Int.cast_ofNat_Int, cast_zero_int, cast_one_int, Nat.reducePow, Nat.reduceEqDiff, Nat.reduceMod, Nat.zero_add, Nat.sub_zero, Nat.add_zero, e0, e15, e16, e17, e20, hz, kD, hd1, r1, r2]
          refine ⟨by kernel_rfl, ((c_IsGoodSample _ gi).addG).use (fun _ m => m) ?_⟩
          rintro _ HE ⟨rfl, PE⟩
          simp only [go_sem, Nat.reduceBEq, Nat.reduceAdd, Nat.reduceMul, Nat.reduceSub, Nat.reduceLeDiff, Nat.le_refl, implies_true, Nat.reduceLT, reduceIte, decide_true, decide_false, true_and, and_true, reduceCtorEq, Nat.mul_one, Int.reduceToNat, Int.reduceLE, Int.reduceLT, Int.reduceAdd, Int.reduceSub, Int.reduceMul, Int.cast_ofNat_Int, cast_zero_int, cast_one_int, Nat.reducePow, Nat.reduceEqDiff, Nat.reduceMod, Nat.zero_add, Nat.sub_zero, Nat.add_zero, e0, e15, e16, e17, e20, hz, Bool.not_true]
          refine ⟨by kernel_rfl, ((c_rHas _ (i : Int) _ (al.mono (PD.trans PE)) (by omega)).addG).use (fun _ m => m) ?_⟩
          rintro _ _ ⟨rfl, rfl⟩
          have hq : (decide (Go.Proofs.YtkogddiefniihabDoor.off (l.getD i smp0) = 0) == decide ((i : Int) ∈ badSamples l)) = false := by rw [hm]; cases decide (Go.Proofs.YtkogddiefniihabDoor.off (l.getD i smp0) = 0) <;> rfl
          simp only [go_sem, Nat.reduceBEq, Nat.reduceAdd, Nat.reduceMul, Nat.reduceSub, Nat.reduceLeDiff, Nat.le_refl, implies_true, Nat.reduceLT, reduceIte, decide_true, decide_false, true_and, and_true, reduceCtorEq, Nat.mul_one, Int.reduceToNat, Int.reduceLE, Int.reduceLT, Int.reduceAdd, Int.reduceSub, Int.reduceMul, Int.cast_ofNat_Int, cast_zero_int, cast_one_int, Nat.reducePow, Nat.reduceEqDiff, Nat.reduceMod, Nat.zero_add, Nat.sub_zero, Nat.add_zero, e0, e15, e16, e17, e20, hz, Bool.not_true, hq]
          exact ⟨hlt, by rw [wrap64 (by omega)]; rfl, PD.trans PE⟩
        · obtain rfl : i = l.length := by omega
          have nz : ¬ ((l.length : Int) < l.length) := by omega
          by_cases h0 : 0 < l.length
          · obtain ⟨u1, u2, hu, ub1, ub2, ue⟩ := share_all gl h0
            have zb2 : (badSamples l).length ≤ l.length := by rw [badSamples, if_pos gl]; exact badN_len _
            simp only [go_sem, Nat.reduceBEq, Nat.reduceAdd, Nat.reduceMul, Nat.reduceSub, Nat.reduceLeDiff, Nat.le_refl, implies_true, Nat.reduceLT, reduceIte, decide_true, decide_false, true_and, and_true, reduceCtorEq, Nat.mul_one, Int.reduceToNat, Int.reduceLE, Int.reduceLT, Int.reduceAdd, Int.reduceSub, Int.reduceMul, Int.cast_ofNat_Int, cast_zero_int, cast_one_int, Nat.reducePow, Nat.reduceEqDiff, Nat.reduceMod, Nat.zero_add, Nat.sub_zero, Nat.add_zero, e0, e15, e16, e17, e20, nz, show (0 : Int) < l.length by omega]
            refine ⟨by kernel_rfl, ((c_GoodShare _ l 0 3650 (sl.mono PD) (by omega)).addG).use (fun _ m => m) ?_⟩
            rintro _ HF ⟨rfl, PF⟩
            rw [hu]
            have m1 := Int.mul_le_mul ub1.2 (show (l.length : Int) ≤ 16 by omega) (by omega) (by omega)
            have m2 := Int.mul_nonneg ub1.1 (show (0 : Int) ≤ l.length by omega)
            have w1 : IntKind.i64.wrap (u1 * (l.length : Int)) = u1 * l.length := wrap64 (by omega)
            have w2 : IntKind.i64.wrap ((l.length : Int) - (badSamples l).length) = l.length - (badSamples l).length := wrap64 (by omega)
            have w3 : IntKind.i64.wrap (((l.length : Int) - (badSamples l).length) * u2) = u1 * l.length := by rw [← ue]; exact wrap64 (by omega)
            simp only [go_sem, Nat.reduceBEq, Nat.reduceAdd, Nat.reduceMul, Nat.reduceSub, Nat.reduceLeDiff, Nat.le_refl, implies_true, Nat.reduceLT, reduceIte, decide_true, decide_false, true_and, and_true, reduceCtorEq, Nat.mul_one, Int.reduceToNat, Int.reduceLE, Int.reduceLT, Int.reduceAdd, Int.reduceSub, Int.reduceMul, Int.cast_ofNat_Int, cast_zero_int, cast_one_int, Nat.reducePow, Nat.reduceEqDiff, Nat.reduceMod, Nat.zero_add, Nat.sub_zero, Nat.add_zero, e0, e15, e16, e17, e20, nz, show (0 : Int) < l.length by omega, w1, w2, w3, bne_self_eq_false, Bool.not_true]
            have QZ := QC.trans (PD.trans PF)
            refine ⟨by kernel_rfl, ((c_DrawGoodShare b n (hc.mono QZ)).addG).use (fun _ m => m) ?_⟩
            rintro _ J1 ⟨⟨v3, l3, f3, t3, rfl, q3, hl3⟩, K1⟩
            obtain ⟨a3, rfl⟩ := smpLen q3.sl
            try simp only [go_sem, Nat.reduceBEq, Nat.reduceAdd, Nat.reduceMul, Nat.reduceSub, Nat.reduceLeDiff, Nat.le_refl, implies_true, Nat.reduceLT, reduceIte, decide_true, decide_false, true_and, and_true, reduceCtorEq, Nat.mul_one, Int.reduceToNat, Int.reduceLE, Int.reduceLT, Int.reduceAdd, Int.reduceSub, Int.reduceMul, Int.cast_ofNat_Int, cast_zero_int, cast_one_int, Nat.reducePow, Nat.reduceEqDiff, Nat.reduceMod, Nat.zero_add, Nat.sub_zero, Nat.add_zero, e0, e15]
            refine ⟨by kernel_rfl, ((c_GoodShare _ l3 f3 t3 q3.sl (by omega)).addG).use (fun _ m => m) ?_⟩
            rintro _ J2 ⟨rfl, K2⟩
            obtain ⟨y1, y2, y3, hsh⟩ := share_shape l3 f3 t3
            rw [hsh]
            try simp only [go_sem, Nat.reduceBEq, Nat.reduceAdd, Nat.reduceMul, Nat.reduceSub, Nat.reduceLeDiff, Nat.le_refl, implies_true, Nat.reduceLT, reduceIte, decide_true, decide_false, true_and, and_true, reduceCtorEq, Nat.mul_one, Int.reduceToNat, Int.reduceLE, Int.reduceLT, Int.reduceAdd, Int.reduceSub, Int.reduceMul, Int.cast_ofNat_Int, cast_zero_int, cast_one_int, Nat.reducePow, Nat.reduceEqDiff, Nat.reduceMod, Nat.zero_add, Nat.sub_zero, Nat.add_zero, e0, e15]
            refine ⟨by kernel_rfl, ((c_sGoodShare _ l3 f3 t3 (q3.mono K2).sl (by omega)).addG).use (fun _ m => m) ?_⟩
            rintro _ J3 ⟨rfl, K3⟩
            rw [hsh]
            simp only [go_sem, Nat.reduceBEq, Nat.reduceAdd, Nat.reduceMul, Nat.reduceSub, Nat.reduceLeDiff, Nat.le_refl, implies_true, Nat.reduceLT, reduceIte, decide_true, decide_false, true_and, and_true, reduceCtorEq, Nat.mul_one, Int.reduceToNat, Int.reduceLE, Int.reduceLT, Int.reduceAdd, Int.reduceSub, Int.reduceMul, Int.cast_ofNat_Int, cast_zero_int, cast_one_int, Nat.reducePow, Nat.reduceEqDiff, Nat.reduceMod, Nat.zero_add, Nat.sub_zero, Nat.add_zero, e0, e15, beq_self_eq_true]
          · simp only [go_sem, Nat.reduceBEq, Nat.reduceAdd, Nat.reduceMul, Nat.reduceSub, Nat.reduceLeDiff, Nat.le_refl, implies_true, Nat.reduceLT, reduceIte, decide_true, decide_false, true_and, and_true, reduceCtorEq, Nat.mul_one, Int.reduceToNat, Int.reduceLE, Int.reduceLT, Int.reduceAdd, Int.reduceSub, Int.reduceMul, Int.cast_ofNat_Int, cast_zero_int, cast_one_int, Nat.reducePow, Nat.reduceEqDiff, Nat.reduceMod, Nat.zero_add, Nat.sub_zero, Nat.add_zero, e0, e15, e16, e17, e20, nz, show ¬ (0 : Int) < l.length by omega]
            have QZ := QC.trans PD
            refine ⟨by kernel_rfl, ((c_DrawGoodShare b n (hc.mono QZ)).addG).use (fun _ m => m) ?_⟩
            rintro _ J1 ⟨⟨v3, l3, f3, t3, rfl, q3, hl3⟩, K1⟩
            obtain ⟨a3, rfl⟩ := smpLen q3.sl
            try simp only [go_sem, Nat.reduceBEq, Nat.reduceAdd, Nat.reduceMul, Nat.reduceSub, Nat.reduceLeDiff, Nat.le_refl, implies_true, Nat.reduceLT, reduceIte, decide_true, decide_false, true_and, and_true, reduceCtorEq, Nat.mul_one, Int.reduceToNat, Int.reduceLE, Int.reduceLT, Int.reduceAdd, Int.reduceSub, Int.reduceMul, Int.cast_ofNat_Int, cast_zero_int, cast_one_int, Nat.reducePow, Nat.reduceEqDiff, Nat.reduceMod, Nat.zero_add, Nat.sub_zero, Nat.add_zero, e0, e15]
            refine ⟨by kernel_rfl, ((c_GoodShare _ l3 f3 t3 q3.sl (by omega)).addG).use (fun _ m => m) ?_⟩
            rintro _ J2 ⟨rfl, K2⟩
            obtain ⟨y1, y2, y3, hsh⟩ := share_shape l3 f3 t3
            rw [hsh]
            try simp only [go_sem, Nat.reduceBEq, Nat.reduceAdd, Nat.reduceMul, Nat.reduceSub, Nat.reduceLeDiff, Nat.le_refl, implies_true, Nat.reduceLT, reduceIte, decide_true, decide_false, true_and, and_true, reduceCtorEq, Nat.mul_one, Int.reduceToNat, Int.reduceLE, Int.reduceLT, Int.reduceAdd, Int.reduceSub, Int.reduceMul, Int.cast_ofNat_Int, cast_zero_int, cast_one_int, Nat.reducePow, Nat.reduceEqDiff, Nat.reduceMod, Nat.zero_add, Nat.sub_zero, Nat.add_zero, e0, e15]
            refine ⟨by kernel_rfl, ((c_sGoodShare _ l3 f3 t3 (q3.mono K2).sl (by omega)).addG).use (fun _ m => m) ?_⟩
            rintro _ J3 ⟨rfl, K3⟩
            rw [hsh]
            simp only [go_sem, Nat.reduceBEq, Nat.reduceAdd, Nat.reduceMul, Nat.reduceSub, Nat.reduceLeDiff, Nat.le_refl, implies_true, Nat.reduceLT, reduceIte, decide_true, decide_false, true_and, and_true, reduceCtorEq, Nat.mul_one, Int.reduceToNat, Int.reduceLE, Int.reduceLT, Int.reduceAdd, Int.reduceSub, Int.reduceMul, Int.cast_ofNat_Int, cast_zero_int, cast_one_int, Nat.reducePow, Nat.reduceEqDiff, Nat.reduceMod, Nat.zero_add, Nat.sub_zero, Nat.add_zero, e0, e15, beq_self_eq_true]
    · have dg : decide (smpGood l) = false := decide_eq_false gl
      simp only [go_sem, Nat.reduceBEq, Nat.reduceAdd, Nat.reduceMul, Nat.reduceSub, Nat.reduceLeDiff, Nat.le_refl, implies_true, Nat.reduceLT, reduceIte, decide_true, decide_false, true_and, and_true, reduceCtorEq, Nat.mul_one, Int.reduceToNat, Int.reduceLE, Int.reduceLT, Int.reduceAdd, Int.reduceSub, Int.reduceMul, Int.cast_ofNat_Int, cast_zero_int, cast_one_int, Nat.reducePow, Nat.reduceEqDiff, Nat.reduceMod, Nat.zero_add, Nat.sub_zero, Nat.add_zero, dx, dg]
      refine vLoop.count mo 0 (fun i e h' => e 0 = .slice b n 0 ∧ e 15 = .slice va l.length 0 ∧ e 17 = .bool false ∧ e 20 = .int .i64 0 ∧ HeapIs HC h') ?_ ?_
      · simp only [go_sem, Nat.reduceBEq, Nat.reduceAdd, Nat.reduceMul, Nat.reduceSub, Nat.reduceLeDiff, Nat.le_refl, implies_true, Nat.reduceLT, reduceIte, decide_true, decide_false, true_and, and_true, reduceCtorEq, Nat.mul_one, Int.reduceToNat, Int.reduceLE, Int.reduceLT, Int.reduceAdd, Int.reduceSub, Int.reduceMul, Int.cast_ofNat_Int, cast_zero_int, cast_one_int, Nat.reducePow, Nat.reduceEqDiff, Nat.reduceMod, Nat.zero_add, Nat.sub_zero, Nat.add_zero]
        exact HeapIs.rfl
      · rintro i e HD hi ⟨e0, e15, e17, e20, hh⟩
        cases hh
        have QZ := QC
        by_cases h0 : (0 : Int) < l.length
        · simp only [go_sem, Nat.reduceBEq, Nat.reduceAdd, Nat.reduceMul, Nat.reduceSub, Nat.reduceLeDiff, Nat.le_refl, implies_true, Nat.reduceLT, reduceIte, decide_true, decide_false, true_and, and_true, reduceCtorEq, Nat.mul_one, Int.reduceToNat, Int.reduceLE, Int.reduceLT, Int.reduceAdd, Int.reduceSub, Int.reduceMul, Int.cast_ofNat_Int, cast_zero_int, cast_one_int, Nat.reducePow, Nat.reduceEqDiff, Nat.reduceMod, Nat.zero_add, Nat.sub_zero, Nat.add_zero, e0, e15, e17, e20, h0]
          refine ⟨by kernel_rfl, ((c_DrawGoodShare b n (hc.mono QZ)).addG).use (fun _ m => m) ?_⟩
          rintro _ J1 ⟨⟨v3, l3, f3, t3, rfl, q3, hl3⟩, K1⟩
          obtain ⟨a3, rfl⟩ := smpLen q3.sl
          try simp only [go_sem, Nat.reduceBEq, Nat.reduceAdd, Nat.reduceMul, Nat.reduceSub, Nat.reduceLeDiff, Nat.le_refl, implies_true, Nat.reduceLT, reduceIte, decide_true, decide_false, true_and, and_true, reduceCtorEq, Nat.mul_one, Int.reduceToNat, Int.reduceLE, Int.reduceLT, Int.reduceAdd, Int.reduceSub, Int.reduceMul, Int.cast_ofNat_Int, cast_zero_int, cast_one_int, Nat.reducePow, Nat.reduceEqDiff, Nat.reduceMod, Nat.zero_add, Nat.sub_zero, Nat.add_zero, e0, e15, e17]
          refine ⟨by kernel_rfl, ((c_GoodShare _ l3 f3 t3 q3.sl (by omega)).addG).use (fun _ m => m) ?_⟩
          rintro _ J2 ⟨rfl, K2⟩
          obtain ⟨y1, y2, y3, hsh⟩ := share_shape l3 f3 t3
          rw [hsh]
          try simp only [go_sem, Nat.reduceBEq, Nat.reduceAdd, Nat.reduceMul, Nat.reduceSub, Nat.reduceLeDiff, Nat.le_refl, implies_true, Nat.reduceLT, reduceIte, decide_true, decide_false, true_and, and_true, reduceCtorEq, Nat.mul_one, Int.reduceToNat, Int.reduceLE, Int.reduceLT, Int.reduceAdd, Int.reduceSub, Int.reduceMul, Int.cast_ofNat_Int, cast_zero_int, cast_one_int, Nat.reducePow, Nat.reduceEqDiff, Nat.reduceMod, Nat.zero_add, Nat.sub_zero, Nat.add_zero, e0, e15, e17]
          refine ⟨by kernel_rfl, ((c_sGoodShare _ l3 f3 t3 (q3.mono K2).sl (by omega)).addG).use (fun _ m => m) ?_⟩
          rintro _ J3 ⟨rfl, K3⟩
          rw [hsh]
          simp only [go_sem, Nat.reduceBEq, Nat.reduceAdd, Nat.reduceMul, Nat.reduceSub, Nat.reduceLeDiff, Nat.le_refl, implies_true, Nat.reduceLT, reduceIte, decide_true, decide_false, true_and, and_true, reduceCtorEq, Nat.mul_one, Int.reduceToNat, Int.reduceLE, Int.reduceLT, Int.reduceAdd, Int.reduceSub, Int.reduceMul, Int.cast_ofNat_Int, cast_zero_int, cast_one_int, Nat.reducePow, Nat.reduceEqDiff, Nat.reduceMod, Nat.zero_add, Nat.sub_zero, Nat.add_zero, e0, e15, e17, beq_self_eq_true]
        · simp only [go_sem, Nat.reduceBEq, Nat.reduceAdd, Nat.reduceMul, Nat.reduceSub, Nat.reduceLeDiff, Nat.le_refl, implies_true, Nat.reduceLT, reduceIte, decide_true, decide_false, true_and, and_true, reduceCtorEq, Nat.mul_one, Int.reduceToNat, Int.reduceLE, Int.reduceLT, Int.reduceAdd, Int.reduceSub, Int.reduceMul, Int.cast_ofNat_Int, cast_zero_int, cast_one_int, Nat.reducePow, Nat.reduceEqDiff, Nat.reduceMod, Nat.zero_add, Nat.sub_zero, Nat.add_zero, e0, e15, e17, e20, h0]
          refine ⟨by kernel_rfl, ((c_DrawGoodShare b n (hc.mono QZ)).addG).use (fun _ m => m) ?_⟩
          rintro _ J1 ⟨⟨v3, l3, f3, t3, rfl, q3, hl3⟩, K1⟩
          obtain ⟨a3, rfl⟩ := smpLen q3.sl
          try simp only [go_sem, Nat.reduceBEq, Nat.reduceAdd, Nat.reduceMul, Nat.reduceSub, Nat.reduceLeDiff, Nat.le_refl, implies_true, Nat.reduceLT, reduceIte, decide_true, decide_false, true_and, and_true, reduceCtorEq, Nat.mul_one, Int.reduceToNat, Int.reduceLE, Int.reduceLT, Int.reduceAdd, Int.reduceSub, Int.reduceMul, Int.cast_ofNat_Int, cast_zero_int, cast_one_int, Nat.reducePow, Nat.reduceEqDiff, Nat.reduceMod, Nat.zero_add, Nat.sub_zero, Nat.add_zero, e0, e15, e17]
          refine ⟨by kernel_rfl, ((c_GoodShare _ l3 f3 t3 q3.sl (by omega)).addG).use (fun _ m => m) ?_⟩
          rintro _ J2 ⟨rfl, K2⟩
          obtain ⟨y1, y2, y3, hsh⟩ := share_shape l3 f3 t3
          rw [hsh]
          try simp only [go_sem, Nat.reduceBEq, Nat.reduceAdd, Nat.reduceMul, Nat.reduceSub, Nat.reduceLeDiff, Nat.le_refl, implies_true, Nat.reduceLT, reduceIte, decide_true, decide_false, true_and, and_true, reduceCtorEq, Nat.mul_one, Int.reduceToNat, Int.reduceLE, Int.reduceLT, Int.reduceAdd, Int.reduceSub, Int.reduceMul, Int.cast_ofNat_Int, cast_zero_int, cast_one_int, Nat.reducePow, Nat.reduceEqDiff, Nat.reduceMod, Nat.zero_add, Nat.sub_zero, Nat.add_zero, e0, e15, e17]
          refine ⟨by kernel_rfl, ((c_sGoodShare _ l3 f3 t3 (q3.mono K2).sl (by omega)).addG).use (fun _ m => m) ?_⟩
          rintro _ J3 ⟨rfl, K3⟩
          rw [hsh]
          simp only [go_sem, Nat.reduceBEq, Nat.reduceAdd, Nat.reduceMul, Nat.reduceSub, Nat.reduceLeDiff, Nat.le_refl, implies_true, Nat.reduceLT, reduceIte, decide_true, decide_false, true_and, and_true, reduceCtorEq, Nat.mul_one, Int.reduceToNat, Int.reduceLE, Int.reduceLT, Int.reduceAdd, Int.reduceSub, Int.reduceMul, Int.cast_ofNat_Int, cast_zero_int, cast_one_int, Nat.reducePow, Nat.reduceEqDiff, Nat.reduceMod, Nat.zero_add, Nat.sub_zero, Nat.add_zero, e0, e15, e17, beq_self_eq_true]
end
theorem a_FnSamples (m : Int) (h : Heap) (a : List Value) (hp : glHA m <+: h) (ft : FitsAll h [.slice (.int .u8)] a) : vCall glGA Tryd.prog (fun _ => False) 7 a h (fun r _ => r = .bool true) := by
  obtain ⟨v, vs, rfl, f, g⟩ := ft.cons
  obtain rfl := g.nil
  obtain ⟨b, n, rfl, hc⟩ := Fits.code f
  obtain ⟨p, q⟩ := glHA_at hp
  exact l_FnSamples p q b n hc
end Go.Proofs.YtkogddiefniihabDoor
