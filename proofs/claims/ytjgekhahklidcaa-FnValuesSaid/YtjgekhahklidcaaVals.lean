
/- The law of the values: what is stored is found again, and the means of weeks lie between their values. No condition. -/
import Derived.Test.YtjgekhahklidcaaDrawB
import Derived.Test.YtjgekhahklidcaaValueOn
import Derived.Test.YtjgekhahklidcaaCutArchive
import Derived.Test.YtjgekhahklidcaaJoin
import Derived.Test.YtjgekhahklidcaaWeekMeans
namespace Go.Proofs.Ytjgekhahklidcaa
open Go.HH
set_option linter.unusedSimpArgs false
set_option linter.unusedVariables false

theorem store_found {f : Int} {l : List Int} {d y : Int} (h : storeOk f l d y) : valueOn f (stored f l d y) d = .tuple #[.int .i64 y, .bool true] := by
  obtain ⟨h1, h2, h3⟩ := h
  by_cases hd : d = f + l.length
  · have e : (stored f l d y).length = l.length + 1 := by rw [stored, if_pos hd]; simp
    have e2 : (stored f l d y).getD (d - f).toNat 0 = y := by
      rw [stored, if_pos hd, show (d - f).toNat = l.length by omega]; simp
    rw [valueOn, if_pos ⟨h3, h2.1, by rw [e]; omega⟩, e2]
  · have e : (stored f l d y).length = l.length := by rw [stored, if_neg hd]; simp
    have e2 : (stored f l d y).getD (d - f).toNat 0 = y := by
      rw [stored, if_neg hd]
      have : (d - f).toNat < l.length := by omega
      simp [this]
    rw [valueOn, if_pos ⟨h3, h2.1, by rw [e]; omega⟩, e2]
theorem store_len {f : Int} {l : List Int} {d y : Int} (h : storeOk f l d y) : l.length ≤ (stored f l d y).length ∧ (stored f l d y).length ≤ l.length + 1 := by
  unfold stored; split <;> simp
theorem store_other {f : Int} {l : List Int} {d y : Int} {i : Nat} (hi : i < l.length) (h2 : f ≤ d) (hd : f + i ≠ d) (hj : i < (stored f l d y).length) : (stored f l d y)[i] = l[i] := by
  unfold stored at *
  split
  · rw [List.getElem_append_left hi]
  · rw [List.getElem_set_ne]; omega

section
variable {h : Heap} {M : Nat → Prop}
theorem c_rBig (b : Option Addr) (n : Nat) : vCall [] Try.prog M 14 [.slice b n 0] h (fun r h' => r = .bool (decide ((65536 : Int) < n)) ∧ h = h') := by
  refine body_of mo Try.func14 rfl (by kernel_rfl) (Nat.le_of_ble_eq_true (by kernel_rfl)) rfl ?_
  simp only [go_sem, Nat.reduceBEq, Nat.reduceAdd, Nat.reduceMul, Nat.reduceSub, Nat.reduceLeDiff, Nat.le_refl, implies_true, Nat.reduceLT, reduceIte, decide_true, decide_false, true_and, and_true, reduceCtorEq, Nat.mul_one, Int.reduceToNat, Int.reduceLE, Int.reduceLT, Int.reduceAdd, Int.reduceSub, Int.reduceMul, Int.cast_ofNat_Int, cast_zero_int, cast_one_int, Nat.reducePow, Nat.reduceEqDiff, Nat.reduceMod, Nat.zero_add, Nat.sub_zero, Nat.add_zero]
  all_goals first | exact rfl | exact ⟨rfl, rfl⟩ | exact List.prefix_append _ _ | exact ⟨rfl, List.prefix_append _ _⟩ | assumption | exact ⟨rfl, by assumption⟩ | exact List.prefix_rfl | exact ⟨rfl, List.prefix_rfl⟩ | exact List.IsPrefix.trans (by assumption) (by assumption) | exact ⟨rfl, List.IsPrefix.trans (by assumption) (by assumption)⟩
theorem c_rInts {n m : Nat} (v w : Value) (l : List Int) (s : AI n h v l) (s' : AI m h w l) (hmax : l.length ≤ 1048576) : vCall [] Try.prog M 22 [v, w] h (fun r h' => r = .bool true ∧ h = h') := by
  obtain ⟨a, rfl⟩ := s.len
  obtain ⟨b, rfl⟩ := s'.len
  refine body_of mo Try.func22 rfl (by kernel_rfl) (Nat.le_of_ble_eq_true (by kernel_rfl)) rfl ?_
  simp only [go_sem, Nat.reduceBEq, Nat.reduceAdd, Nat.reduceMul, Nat.reduceSub, Nat.reduceLeDiff, Nat.le_refl, implies_true, Nat.reduceLT, reduceIte, decide_true, decide_false, true_and, and_true, reduceCtorEq, Nat.mul_one, Int.reduceToNat, Int.reduceLE, Int.reduceLT, Int.reduceAdd, Int.reduceSub, Int.reduceMul, Int.cast_ofNat_Int, cast_zero_int, cast_one_int, Nat.reducePow, Nat.reduceEqDiff, Nat.reduceMod, Nat.zero_add, Nat.sub_zero, Nat.add_zero]
  refine vLoop.count mo l.length (fun i e h' => e 0 = .slice a l.length 0 ∧ e 1 = .slice b l.length 0 ∧ e 5 = .int .i64 i ∧ h' = h) ?_ ?_
  · simp only [go_sem, Nat.reduceBEq, Nat.reduceAdd, Nat.reduceMul, Nat.reduceSub, Nat.reduceLeDiff, Nat.le_refl, implies_true, Nat.reduceLT, reduceIte, decide_true, decide_false, true_and, and_true, reduceCtorEq, Nat.mul_one, Int.reduceToNat, Int.reduceLE, Int.reduceLT, Int.reduceAdd, Int.reduceSub, Int.reduceMul, Int.cast_ofNat_Int, cast_zero_int, cast_one_int, Nat.reducePow, Nat.reduceEqDiff, Nat.reduceMod, Nat.zero_add, Nat.sub_zero, Nat.add_zero]
    try simp
  · rintro i e _ hi ⟨e0, e1, e3, rfl⟩
    simp only [go_sem, Nat.reduceBEq, Nat.reduceAdd, Nat.reduceMul, Nat.reduceSub, Nat.reduceLeDiff, Nat.le_refl, implies_true, Nat.reduceLT, reduceIte, decide_true, decide_false, true_and, and_true, reduceCtorEq, Nat.mul_one, Int.reduceToNat, Int.reduceLE, Int.reduceLT, Int.reduceAdd, Int.reduceSub, Int.reduceMul, Int.cast_ofNat_Int, cast_zero_int, cast_one_int, Nat.reducePow, Nat.reduceEqDiff, Nat.reduceMod, Nat.zero_add, Nat.sub_zero, Nat.add_zero, e0, e1, e3]
    refine .intro (fun h1 => ?_) (fun h1 => ?_)
    · have hlt : i < l.length := by simpa using h1
      obtain ⟨id, off, k, hv, _, _, hk, hd, _, hb, _, hat⟩ := s.at (by omega)
      obtain rfl : a = some ⟨id, off, none⟩ := by simpa using hv
      obtain ⟨id2, off2, k2, hv2, _, _, hk2, hd2, _, hb2, _, hat2⟩ := s'.at (by omega)
      obtain rfl : b = some ⟨id2, off2, none⟩ := by simpa using hv2
      have hz : (i : Int) < l.length := by omega
      simp only [go_sem, Nat.reduceBEq, Nat.reduceAdd, Nat.reduceMul, Nat.reduceSub, Nat.reduceLeDiff, Nat.le_refl, implies_true, Nat.reduceLT, reduceIte, decide_true, decide_false, true_and, and_true, reduceCtorEq, Nat.mul_one, Int.reduceToNat, Int.reduceLE, Int.reduceLT, Int.reduceAdd, Int.reduceSub, Int.reduceMul, Int.cast_ofNat_Int, cast_zero_int, cast_one_int, Nat.reducePow, Nat.reduceEqDiff, Nat.reduceMod, Nat.zero_add, Nat.sub_zero, Nat.add_zero, e0, e1, e3, hk, hk2, hd, hd2, hz, hat _ hlt, hat2 _ hlt]
      try exact ⟨hlt, by rw [wrap64 (by omega)]; rfl⟩
    · simp only [go_sem, Nat.reduceBEq, Nat.reduceAdd, Nat.reduceMul, Nat.reduceSub, Nat.reduceLeDiff, Nat.le_refl, implies_true, Nat.reduceLT, reduceIte, decide_true, decide_false, true_and, and_true, reduceCtorEq, Nat.mul_one, Int.reduceToNat, Int.reduceLE, Int.reduceLT, Int.reduceAdd, Int.reduceSub, Int.reduceMul, Int.cast_ofNat_Int, cast_zero_int, cast_one_int, Nat.reducePow, Nat.reduceEqDiff, Nat.reduceMod, Nat.zero_add, Nat.sub_zero, Nat.add_zero, e0, e1, e3]
theorem c_rArchives {n m : Nat} (v w : Value) (f : Int) (l : List Int) (s : AA n h v f l) (s' : AA m h w f l) (hmax : l.length ≤ 1048576) : vCall [] Try.prog M 25 [v, w] h (fun r h' => r = .bool true ∧ h <+: h') := by
  obtain ⟨v, rfl, q⟩ := id s
  obtain ⟨a, rfl⟩ := q.len
  obtain ⟨w, rfl, q'⟩ := id s'
  obtain ⟨b, rfl⟩ := q'.len
  refine body_of mo Try.func25 rfl (by kernel_rfl) (Nat.le_of_ble_eq_true (by kernel_rfl)) rfl ?_
  simp only [go_sem, Nat.reduceBEq, Nat.reduceAdd, Nat.reduceMul, Nat.reduceSub, Nat.reduceLeDiff, Nat.le_refl, implies_true, Nat.reduceLT, reduceIte, decide_true, decide_false, true_and, and_true, reduceCtorEq, Nat.mul_one, Int.reduceToNat, Int.reduceLE, Int.reduceLT, Int.reduceAdd, Int.reduceSub, Int.reduceMul, Int.cast_ofNat_Int, cast_zero_int, cast_one_int, Nat.reducePow, Nat.reduceEqDiff, Nat.reduceMod, Nat.zero_add, Nat.sub_zero, Nat.add_zero]
  refine ⟨by kernel_rfl, (c_rInts _ _ l (q.mono (by simp)) (q'.mono (by simp)) hmax).use (fun _ m => m) ?_⟩
  rintro _ _ ⟨rfl, rfl⟩
  simp only [go_sem, Nat.reduceBEq, Nat.reduceAdd, Nat.reduceMul, Nat.reduceSub, Nat.reduceLeDiff, Nat.le_refl, implies_true, Nat.reduceLT, reduceIte, decide_true, decide_false, true_and, and_true, reduceCtorEq, Nat.mul_one, Int.reduceToNat, Int.reduceLE, Int.reduceLT, Int.reduceAdd, Int.reduceSub, Int.reduceMul, Int.cast_ofNat_Int, cast_zero_int, cast_one_int, Nat.reducePow, Nat.reduceEqDiff, Nat.reduceMod, Nat.zero_add, Nat.sub_zero, Nat.add_zero]
theorem c_rSum {n : Nat} (v : Value) (l : List Int) (s : AI n h v l) (hmax : l.length ≤ 1048576) (hb : ∀ x ∈ l, -200000 ≤ x ∧ x ≤ 200000) : vCall [] Try.prog M 41 [v] h (fun r h' => r = .int .i64 l.sum ∧ h = h') := by
  obtain ⟨a, rfl⟩ := s.len
  refine body_of mo Try.func41 rfl (by kernel_rfl) (Nat.le_of_ble_eq_true (by kernel_rfl)) rfl ?_
  simp only [go_sem, Nat.reduceBEq, Nat.reduceAdd, Nat.reduceMul, Nat.reduceSub, Nat.reduceLeDiff, Nat.le_refl, implies_true, Nat.reduceLT, reduceIte, decide_true, decide_false, true_and, and_true, reduceCtorEq, Nat.mul_one, Int.reduceToNat, Int.reduceLE, Int.reduceLT, Int.reduceAdd, Int.reduceSub, Int.reduceMul, Int.cast_ofNat_Int, cast_zero_int, cast_one_int, Nat.reducePow, Nat.reduceEqDiff, Nat.reduceMod, Nat.zero_add, Nat.sub_zero, Nat.add_zero]
  refine vLoop.count mo l.length (fun i e h' => e 0 = .slice a l.length 0 ∧ e 3 = .int .i64 (psum l i) ∧ e 4 = .int .i64 i ∧ h' = h) ?_ ?_
  · simp only [go_sem, Nat.reduceBEq, Nat.reduceAdd, Nat.reduceMul, Nat.reduceSub, Nat.reduceLeDiff, Nat.le_refl, implies_true, Nat.reduceLT, reduceIte, decide_true, decide_false, true_and, and_true, reduceCtorEq, Nat.mul_one, Int.reduceToNat, Int.reduceLE, Int.reduceLT, Int.reduceAdd, Int.reduceSub, Int.reduceMul, Int.cast_ofNat_Int, cast_zero_int, cast_one_int, Nat.reducePow, Nat.reduceEqDiff, Nat.reduceMod, Nat.zero_add, Nat.sub_zero, Nat.add_zero]
    try rfl
  · rintro i e h' hi ⟨e0, e3, e4, rfl⟩
    simp only [go_sem, Nat.reduceBEq, Nat.reduceAdd, Nat.reduceMul, Nat.reduceSub, Nat.reduceLeDiff, Nat.le_refl, implies_true, Nat.reduceLT, reduceIte, decide_true, decide_false, true_and, and_true, reduceCtorEq, Nat.mul_one, Int.reduceToNat, Int.reduceLE, Int.reduceLT, Int.reduceAdd, Int.reduceSub, Int.reduceMul, Int.cast_ofNat_Int, cast_zero_int, cast_one_int, Nat.reducePow, Nat.reduceEqDiff, Nat.reduceMod, Nat.zero_add, Nat.sub_zero, Nat.add_zero, e0, e3, e4]
    refine .intro (fun h1 => ?_) (fun h1 => ?_)
    · have hlt : i < l.length := by simpa using h1
      obtain ⟨id, off, k, hv, _, _, hk, hd, _, _, _, hat⟩ := s.at (Nat.zero_lt_of_lt hlt)
      obtain rfl : a = some ⟨id, off, none⟩ := by simpa using hv
      have hz : (i : Int) < l.length := by omega
      have bb := psum_bound (l := l) (i := i + 1) hlt (fun x hx => hb x (List.mem_of_mem_take hx))
      simp only [go_sem, Nat.reduceBEq, Nat.reduceAdd, Nat.reduceMul, Nat.reduceSub, Nat.reduceLeDiff, Nat.le_refl, implies_true, Nat.reduceLT, reduceIte, decide_true, decide_false, true_and, and_true, reduceCtorEq, Nat.mul_one, Int.reduceToNat, Int.reduceLE, Int.reduceLT, Int.reduceAdd, Int.reduceSub, Int.reduceMul, Int.cast_ofNat_Int, cast_zero_int, cast_one_int, Nat.reducePow, Nat.reduceEqDiff, Nat.reduceMod, Nat.zero_add, Nat.sub_zero, Nat.add_zero, e0, e3, e4, hk, hat i hlt, hz, hd]
      exact ⟨hlt, by rw [← psum_succ hlt, wrap64 (by omega)], by rw [wrap64 (by omega)]; rfl⟩
    · simp only [go_sem, Nat.reduceBEq, Nat.reduceAdd, Nat.reduceMul, Nat.reduceSub, Nat.reduceLeDiff, Nat.le_refl, implies_true, Nat.reduceLT, reduceIte, decide_true, decide_false, true_and, and_true, reduceCtorEq, Nat.mul_one, Int.reduceToNat, Int.reduceLE, Int.reduceLT, Int.reduceAdd, Int.reduceSub, Int.reduceMul, Int.cast_ofNat_Int, cast_zero_int, cast_one_int, Nat.reducePow, Nat.reduceEqDiff, Nat.reduceMod, Nat.zero_add, Nat.sub_zero, Nat.add_zero, e0, e3, e4]
      obtain rfl : i = l.length := by have : ¬ i < l.length := by simpa using h1
                                      omega
      rw [psum, List.take_length]

set_option maxRecDepth 16000 in
set_option maxHeartbeats 8000000 in
theorem l_FnValues (b : Option Addr) (n : Nat) (hc : CodeOk h b n) : vCall [] Try.prog M 5 [.slice b n 0] h (fun r h' => r = .bool true) := by
  refine body_of mo Try.func5 rfl (by kernel_rfl) (Nat.le_of_ble_eq_true (by kernel_rfl)) rfl ?_
  simp only [go_sem, Nat.reduceBEq, Nat.reduceAdd, Nat.reduceMul, Nat.reduceSub, Nat.reduceLeDiff, Nat.le_refl, implies_true, Nat.reduceLT, reduceIte, decide_true, decide_false, true_and, and_true, reduceCtorEq, Nat.mul_one, Int.reduceToNat, Int.reduceLE, Int.reduceLT, Int.reduceAdd, Int.reduceSub, Int.reduceMul, Int.cast_ofNat_Int, cast_zero_int, cast_one_int, Nat.reducePow, Nat.reduceEqDiff, Nat.reduceMod, Nat.zero_add, Nat.sub_zero, Nat.add_zero]
  refine ⟨by kernel_rfl, (c_rBig b n).use (fun _ m => m) ?_⟩
  rintro _ _ ⟨rfl, rfl⟩
  by_cases hbig : (65536 : Int) < n
  · try simp only [go_sem, Nat.reduceBEq, Nat.reduceAdd, Nat.reduceMul, Nat.reduceSub, Nat.reduceLeDiff, Nat.le_refl, implies_true, Nat.reduceLT, reduceIte, decide_true, decide_false, true_and, and_true, reduceCtorEq, Nat.mul_one, Int.reduceToNat, Int.reduceLE, Int.reduceLT, Int.reduceAdd, Int.reduceSub, Int.reduceMul, Int.cast_ofNat_Int, cast_zero_int, cast_one_int, Nat.reducePow, Nat.reduceEqDiff, Nat.reduceMod, Nat.zero_add, Nat.sub_zero, Nat.add_zero, hbig]
  · try simp only [go_sem, Nat.reduceBEq, Nat.reduceAdd, Nat.reduceMul, Nat.reduceSub, Nat.reduceLeDiff, Nat.le_refl, implies_true, Nat.reduceLT, reduceIte, decide_true, decide_false, true_and, and_true, reduceCtorEq, Nat.mul_one, Int.reduceToNat, Int.reduceLE, Int.reduceLT, Int.reduceAdd, Int.reduceSub, Int.reduceMul, Int.cast_ofNat_Int, cast_zero_int, cast_one_int, Nat.reducePow, Nat.reduceEqDiff, Nat.reduceMod, Nat.zero_add, Nat.sub_zero, Nat.add_zero, hbig]
    refine ⟨by kernel_rfl, (c_DrawStoreValue b n hc).use (fun _ m => m) ?_⟩
    rintro _ H1 ⟨⟨f, l, wA, d, y, rfl, sA, hl⟩, P1⟩
    have L1 : h.length ≤ H1.length := by have := P1.length_le; first | omega | (simp only [List.length_append, List.length_cons, List.length_nil] at this; omega)
    have Q1 : h.length + 0 ≤ H1.length := by have := P1.length_le; first | omega | (simp only [List.length_append, List.length_cons, List.length_nil] at this; omega)
    replace hc := hc.mono P1
    obtain ⟨wAw, rfl, ⟨wAi, rfl, _⟩⟩ := id sA
    try simp only [go_sem, Nat.reduceBEq, Nat.reduceAdd, Nat.reduceMul, Nat.reduceSub, Nat.reduceLeDiff, Nat.le_refl, implies_true, Nat.reduceLT, reduceIte, decide_true, decide_false, true_and, and_true, reduceCtorEq, Nat.mul_one, Int.reduceToNat, Int.reduceLE, Int.reduceLT, Int.reduceAdd, Int.reduceSub, Int.reduceMul, Int.cast_ofNat_Int, cast_zero_int, cast_one_int, Nat.reducePow, Nat.reduceEqDiff, Nat.reduceMod, Nat.zero_add, Nat.sub_zero, Nat.add_zero, own_base L1, own_base0 L1, P1]
    have hm : l.length ≤ 1048576 := by omega
    obtain ⟨X, hX⟩ : ∃ X : Int, (if storeOk f l d y then f else 0) = X := ⟨_, rfl⟩
    obtain ⟨Y, hY⟩ : ∃ Y : List Int, (if storeOk f l d y then stored f l d y else []) = Y := ⟨_, rfl⟩
    have hYm : Y.length ≤ 1048576 := by rw [← hY]; split; have := @stored_len f l d y; omega; simp
    refine ⟨by kernel_rfl, (c_StoreValue _ f l d y (sA.mono (by simp)).aa hm).use (fun _ m => m) ?_⟩
    rintro _ H2 ⟨⟨wB, rfl, sB⟩, P2⟩
    have L2 : h.length ≤ H2.length := by have := P2.length_le; first | omega | (simp only [List.length_append, List.length_cons, List.length_nil] at this; omega)
    have Q2 : H1.length + 1 ≤ H2.length := by have := P2.length_le; first | omega | (simp only [List.length_append, List.length_cons, List.length_nil] at this; omega)
    replace hc := hc.mono ((List.prefix_append _ _).trans P2)
    replace sA := sA.mono ((List.prefix_append _ _).trans P2)
    have bA := keep_get (h := H1 ++ _) hget_new P2
    rw [hX, hY] at sB
    obtain ⟨wBw, rfl, ⟨wBi, rfl, _⟩⟩ := id sB
    try simp only [go_sem, Nat.reduceBEq, Nat.reduceAdd, Nat.reduceMul, Nat.reduceSub, Nat.reduceLeDiff, Nat.le_refl, implies_true, Nat.reduceLT, reduceIte, decide_true, decide_false, true_and, and_true, reduceCtorEq, Nat.mul_one, Int.reduceToNat, Int.reduceLE, Int.reduceLT, Int.reduceAdd, Int.reduceSub, Int.reduceMul, Int.cast_ofNat_Int, cast_zero_int, cast_one_int, Nat.reducePow, Nat.reduceEqDiff, Nat.reduceMod, Nat.zero_add, Nat.sub_zero, Nat.add_zero, bA, self_get bA, own_base L2, own_base0 L2, P2]
    refine ⟨by kernel_rfl, (c_sStoreValue _ f l d y (sA.mono (by simp)).aa hm).use (fun _ m => m) ?_⟩
    rintro _ H3 ⟨⟨wC, rfl, sC⟩, P3⟩
    have L3 : h.length ≤ H3.length := by have := P3.length_le; first | omega | (simp only [List.length_append, List.length_cons, List.length_nil] at this; omega)
    have Q3 : H2.length + 1 ≤ H3.length := by have := P3.length_le; first | omega | (simp only [List.length_append, List.length_cons, List.length_nil] at this; omega)
    replace hc := hc.mono ((List.prefix_append _ _).trans P3)
    replace sA := sA.mono ((List.prefix_append _ _).trans P3)
    replace sB := sB.mono ((List.prefix_append _ _).trans P3)
    replace bA := keep_get bA ((List.prefix_append _ _).trans P3)
    have bB := keep_get (h := H2 ++ _) hget_new P3
    rw [hX, hY] at sC
    obtain ⟨wCw, rfl, ⟨wCi, rfl, _⟩⟩ := id sC
    try simp only [go_sem, Nat.reduceBEq, Nat.reduceAdd, Nat.reduceMul, Nat.reduceSub, Nat.reduceLeDiff, Nat.le_refl, implies_true, Nat.reduceLT, reduceIte, decide_true, decide_false, true_and, and_true, reduceCtorEq, Nat.mul_one, Int.reduceToNat, Int.reduceLE, Int.reduceLT, Int.reduceAdd, Int.reduceSub, Int.reduceMul, Int.cast_ofNat_Int, cast_zero_int, cast_one_int, Nat.reducePow, Nat.reduceEqDiff, Nat.reduceMod, Nat.zero_add, Nat.sub_zero, Nat.add_zero, bA, bB, self_get bA, self_get bB, own_base L3, own_base0 L3, P3]
    refine ⟨by kernel_rfl, (c_rArchives _ _ X Y (sB.mono (by simp)).aa (sC.mono (by simp)).aa hYm).use (fun _ m => m) ?_⟩
    rintro _ H4 ⟨rfl, P4⟩
    have L4 : h.length ≤ H4.length := by have := P4.length_le; first | omega | (simp only [List.length_append, List.length_cons, List.length_nil] at this; omega)
    have Q4 : H3.length + 1 ≤ H4.length := by have := P4.length_le; first | omega | (simp only [List.length_append, List.length_cons, List.length_nil] at this; omega)
    replace hc := hc.mono ((List.prefix_append _ _).trans P4)
    replace sA := sA.mono ((List.prefix_append _ _).trans P4)
    replace sB := sB.mono ((List.prefix_append _ _).trans P4)
    replace sC := sC.mono ((List.prefix_append _ _).trans P4)
    replace bA := keep_get bA ((List.prefix_append _ _).trans P4)
    replace bB := keep_get bB ((List.prefix_append _ _).trans P4)
    have bC := keep_get (h := H3 ++ _) hget_new P4
    try simp only [go_sem, Nat.reduceBEq, Nat.reduceAdd, Nat.reduceMul, Nat.reduceSub, Nat.reduceLeDiff, Nat.le_refl, implies_true, Nat.reduceLT, reduceIte, decide_true, decide_false, true_and, and_true, reduceCtorEq, Nat.mul_one, Int.reduceToNat, Int.reduceLE, Int.reduceLT, Int.reduceAdd, Int.reduceSub, Int.reduceMul, Int.cast_ofNat_Int, cast_zero_int, cast_one_int, Nat.reducePow, Nat.reduceEqDiff, Nat.reduceMod, Nat.zero_add, Nat.sub_zero, Nat.add_zero, bA, bB, bC, self_get bA, self_get bB, self_get bC, own_base L4, own_base0 L4, P4, Try.underlying4, and_self, bne_self_eq_false, decide_true]
    by_cases hk : storeOk f l d y
    · rw [if_pos hk] at hX hY
      subst hX hY
      try simp only [go_sem, Nat.reduceBEq, Nat.reduceAdd, Nat.reduceMul, Nat.reduceSub, Nat.reduceLeDiff, Nat.le_refl, implies_true, Nat.reduceLT, reduceIte, decide_true, decide_false, true_and, and_true, reduceCtorEq, Nat.mul_one, Int.reduceToNat, Int.reduceLE, Int.reduceLT, Int.reduceAdd, Int.reduceSub, Int.reduceMul, Int.cast_ofNat_Int, cast_zero_int, cast_one_int, Nat.reducePow, Nat.reduceEqDiff, Nat.reduceMod, Nat.zero_add, Nat.sub_zero, Nat.add_zero, bA, bB, bC, self_get bA, self_get bB, self_get bC, own_base L4, own_base0 L4, decb hk]
      refine ⟨by kernel_rfl, (c_ValueOn _ f (stored f l d y) d (sB.mono (by simp)).aa hYm).use (fun _ m => m) ?_⟩
      rintro _ H5 ⟨hr, P5⟩
      have L5 : h.length ≤ H5.length := by have := P5.length_le; first | omega | (simp only [List.length_append, List.length_cons, List.length_nil] at this; omega)
      have Q5 : H4.length + 0 ≤ H5.length := by have := P5.length_le; first | omega | (simp only [List.length_append, List.length_cons, List.length_nil] at this; omega)
      replace hc := hc.mono P5
      replace sA := sA.mono P5
      replace sB := sB.mono P5
      replace sC := sC.mono P5
      replace bA := keep_get bA P5
      replace bB := keep_get bB P5
      replace bC := keep_get bC P5
      rw [store_found hk] at hr
      subst hr
      obtain ⟨k1, k2⟩ := store_len hk
      have k3 : IntKind.i64.wrap ((l.length : Int) + 1) = l.length + 1 := wrap64 (by omega)
      try simp only [go_sem, Nat.reduceBEq, Nat.reduceAdd, Nat.reduceMul, Nat.reduceSub, Nat.reduceLeDiff, Nat.le_refl, implies_true, Nat.reduceLT, reduceIte, decide_true, decide_false, true_and, and_true, reduceCtorEq, Nat.mul_one, Int.reduceToNat, Int.reduceLE, Int.reduceLT, Int.reduceAdd, Int.reduceSub, Int.reduceMul, Int.cast_ofNat_Int, cast_zero_int, cast_one_int, Nat.reducePow, Nat.reduceEqDiff, Nat.reduceMod, Nat.zero_add, Nat.sub_zero, Nat.add_zero, bA, bB, bC, self_get bA, self_get bB, self_get bC, own_base L5, own_base0 L5, P5, Try.underlying4, and_self, bne_self_eq_false, decide_true, k3, show ¬ (((stored f l d y).length : Int) < l.length) by omega, show ¬ ((l.length : Int) + 1 < (stored f l d y).length) by omega]
      obtain ⟨nA, aA⟩ : ∃ n, AI n H5 (.slice wAi l.length 0) l := by obtain ⟨w, e, s⟩ := sA.aa; cases e; exact ⟨_, s⟩
      obtain ⟨nB, aB⟩ : ∃ n, AI n H5 (.slice wBi (stored f l d y).length 0) (stored f l d y) := by obtain ⟨w, e, s⟩ := sB.aa; cases e; exact ⟨_, s⟩
      refine vLoop.count mo l.length (fun i e h' => e 0 = .slice b n 0 ∧ e 3 = .pointer (some ⟨H1.length, 0, none⟩) ∧ e 4 = .int .i64 d ∧ e 6 = .pointer (some ⟨H2.length, 0, none⟩) ∧ e 12 = .int .i64 i ∧ H5 = h') ?_ ?_
      · simp only [go_sem, Nat.reduceBEq, Nat.reduceAdd, Nat.reduceMul, Nat.reduceSub, Nat.reduceLeDiff, Nat.le_refl, implies_true, Nat.reduceLT, reduceIte, decide_true, decide_false, true_and, and_true, reduceCtorEq, Nat.mul_one, Int.reduceToNat, Int.reduceLE, Int.reduceLT, Int.reduceAdd, Int.reduceSub, Int.reduceMul, Int.cast_ofNat_Int, cast_zero_int, cast_one_int, Nat.reducePow, Nat.reduceEqDiff, Nat.reduceMod, Nat.zero_add, Nat.sub_zero, Nat.add_zero]
        try rfl
      · rintro i e _ hi ⟨e0, e3, e4, e6, e12, rfl⟩
        try simp only [go_sem, Nat.reduceBEq, Nat.reduceAdd, Nat.reduceMul, Nat.reduceSub, Nat.reduceLeDiff, Nat.le_refl, implies_true, Nat.reduceLT, reduceIte, decide_true, decide_false, true_and, and_true, reduceCtorEq, Nat.mul_one, Int.reduceToNat, Int.reduceLE, Int.reduceLT, Int.reduceAdd, Int.reduceSub, Int.reduceMul, Int.cast_ofNat_Int, cast_zero_int, cast_one_int, Nat.reducePow, Nat.reduceEqDiff, Nat.reduceMod, Nat.zero_add, Nat.sub_zero, Nat.add_zero, bA, bB, bC, self_get bA, self_get bB, self_get bC, own_base L5, own_base0 L5, e0, e3, e4, e6, e12]
        refine .intro (fun h1 => ?_) (fun h1 => ?_)
        · have hlt : i < l.length := by simpa using h1
          have hz : (i : Int) < l.length := by omega
          have k4 : IntKind.i64.wrap (f + (i : Int)) = f + i := wrap64 (by have := hk.1.2.2; omega)
          have k5 : IntKind.i64.wrap ((i : Int) + 1) = ((i + 1 : Nat) : Int) := by rw [wrap64 (by omega)]; rfl
          by_cases hd : f + (i : Int) = d
          · try simp only [go_sem, Nat.reduceBEq, Nat.reduceAdd, Nat.reduceMul, Nat.reduceSub, Nat.reduceLeDiff, Nat.le_refl, implies_true, Nat.reduceLT, reduceIte, decide_true, decide_false, true_and, and_true, reduceCtorEq, Nat.mul_one, Int.reduceToNat, Int.reduceLE, Int.reduceLT, Int.reduceAdd, Int.reduceSub, Int.reduceMul, Int.cast_ofNat_Int, cast_zero_int, cast_one_int, Nat.reducePow, Nat.reduceEqDiff, Nat.reduceMod, Nat.zero_add, Nat.sub_zero, Nat.add_zero, e0, e3, e4, e6, e12, bA, bB, k4, k5, show (f + (i : Int) != d) = false by simpa using hd]
            exact hlt
          · obtain ⟨id, off, k, hv, _, _, hk1, hd1, _, hb1, _, hat⟩ := aA.at (by omega)
            obtain rfl : wAi = some ⟨id, off, none⟩ := by simpa using hv
            obtain ⟨id2, off2, k2, hv2, _, _, hk2, hd2, _, hb2, _, hat2⟩ := aB.at (by omega)
            obtain rfl : wBi = some ⟨id2, off2, none⟩ := by simpa using hv2
            have so := store_other (y := y) hlt hk.2.1.1 hd (show i < (stored f l d y).length by omega)
            simp only [go_sem, Nat.reduceBEq, Nat.reduceAdd, Nat.reduceMul, Nat.reduceSub, Nat.reduceLeDiff, Nat.le_refl, implies_true, Nat.reduceLT, reduceIte, decide_true, decide_false, true_and, and_true, reduceCtorEq, Nat.mul_one, Int.reduceToNat, Int.reduceLE, Int.reduceLT, Int.reduceAdd, Int.reduceSub, Int.reduceMul, Int.cast_ofNat_Int, cast_zero_int, cast_one_int, Nat.reducePow, Nat.reduceEqDiff, Nat.reduceMod, Nat.zero_add, Nat.sub_zero, Nat.add_zero, e0, e3, e4, e6, e12, bA, bB, k4, k5, show (f + (i : Int) != d) = true by simpa using hd, hk1, hd1, hk2, hd2, hz, show (i : Int) < (stored f l d y).length by omega, hat _ hlt, hat2 i (by omega), so, bne_self_eq_false]
            try simp only [go_sem, Nat.reduceBEq, Nat.reduceAdd, Nat.reduceMul, Nat.reduceSub, Nat.reduceLeDiff, Nat.le_refl, implies_true, Nat.reduceLT, reduceIte, decide_true, decide_false, true_and, and_true, reduceCtorEq, Nat.mul_one, Int.reduceToNat, Int.reduceLE, Int.reduceLT, Int.reduceAdd, Int.reduceSub, Int.reduceMul, Int.cast_ofNat_Int, cast_zero_int, cast_one_int, Nat.reducePow, Nat.reduceEqDiff, Nat.reduceMod, Nat.zero_add, Nat.sub_zero, Nat.add_zero, e0, e3, e4, e6, e12, bA, bB, k4, k5]
            exact hlt
        · try simp only [go_sem, Nat.reduceBEq, Nat.reduceAdd, Nat.reduceMul, Nat.reduceSub, Nat.reduceLeDiff, Nat.le_refl, implies_true, Nat.reduceLT, reduceIte, decide_true, decide_false, true_and, and_true, reduceCtorEq, Nat.mul_one, Int.reduceToNat, Int.reduceLE, Int.reduceLT, Int.reduceAdd, Int.reduceSub, Int.reduceMul, Int.cast_ofNat_Int, cast_zero_int, cast_one_int, Nat.reducePow, Nat.reduceEqDiff, Nat.reduceMod, Nat.zero_add, Nat.sub_zero, Nat.add_zero, e0]
          refine ⟨by kernel_rfl, (c_DrawCutArchive b n hc).use (fun _ m => m) ?_⟩
          rintro _ H6 ⟨⟨f2, l2, wD, x2, y2, rfl, sD, hl2⟩, P6⟩
          have L6 : h.length ≤ H6.length := by have := P6.length_le; first | omega | (simp only [List.length_append, List.length_cons, List.length_nil] at this; omega)
          have Q6 : H5.length + 0 ≤ H6.length := by have := P6.length_le; first | omega | (simp only [List.length_append, List.length_cons, List.length_nil] at this; omega)
          replace hc := hc.mono P6
          obtain ⟨wDw, rfl, ⟨wDi, rfl, _⟩⟩ := id sD
          try simp only [go_sem, Nat.reduceBEq, Nat.reduceAdd, Nat.reduceMul, Nat.reduceSub, Nat.reduceLeDiff, Nat.le_refl, implies_true, Nat.reduceLT, reduceIte, decide_true, decide_false, true_and, and_true, reduceCtorEq, Nat.mul_one, Int.reduceToNat, Int.reduceLE, Int.reduceLT, Int.reduceAdd, Int.reduceSub, Int.reduceMul, Int.cast_ofNat_Int, cast_zero_int, cast_one_int, Nat.reducePow, Nat.reduceEqDiff, Nat.reduceMod, Nat.zero_add, Nat.sub_zero, Nat.add_zero, own_base L6, own_base0 L6, e0, P6]
          obtain ⟨X2, hX2⟩ : ∃ X : Int, (if cutOk f2 l2 x2 y2 then max x2 f2 else 0) = X := ⟨_, rfl⟩
          obtain ⟨Y2, hY2⟩ : ∃ Y : List Int, (if cutOk f2 l2 x2 y2 then cutN f2 l2 x2 y2 l2.length else []) = Y := ⟨_, rfl⟩
          have hY2m : Y2.length ≤ 1048576 := by rw [← hY2]; split; rename_i hh; have := (cut_good hh).2.1; omega; simp
          refine ⟨by kernel_rfl, (c_CutArchive _ f2 l2 x2 y2 (sD.mono (by simp)).aa (by omega)).use (fun _ m => m) ?_⟩
          rintro _ H7 ⟨⟨wE, rfl, sE⟩, P7⟩
          have L7 : h.length ≤ H7.length := by have := P7.length_le; first | omega | (simp only [List.length_append, List.length_cons, List.length_nil] at this; omega)
          have Q7 : H6.length + 1 ≤ H7.length := by have := P7.length_le; first | omega | (simp only [List.length_append, List.length_cons, List.length_nil] at this; omega)
          replace hc := hc.mono ((List.prefix_append _ _).trans P7)
          replace sD := sD.mono ((List.prefix_append _ _).trans P7)
          have bD := keep_get (h := H6 ++ _) hget_new P7
          rw [hX2, hY2] at sE
          obtain ⟨wEw, rfl, ⟨wEi, rfl, _⟩⟩ := id sE
          try simp only [go_sem, Nat.reduceBEq, Nat.reduceAdd, Nat.reduceMul, Nat.reduceSub, Nat.reduceLeDiff, Nat.le_refl, implies_true, Nat.reduceLT, reduceIte, decide_true, decide_false, true_and, and_true, reduceCtorEq, Nat.mul_one, Int.reduceToNat, Int.reduceLE, Int.reduceLT, Int.reduceAdd, Int.reduceSub, Int.reduceMul, Int.cast_ofNat_Int, cast_zero_int, cast_one_int, Nat.reducePow, Nat.reduceEqDiff, Nat.reduceMod, Nat.zero_add, Nat.sub_zero, Nat.add_zero, bD, self_get bD, own_base L7, own_base0 L7, e0, P7]
          refine ⟨by kernel_rfl, (c_sCutArchive _ f2 l2 x2 y2 (sD.mono (by simp)).aa (by omega)).use (fun _ m => m) ?_⟩
          rintro _ H8 ⟨⟨wF, rfl, sF⟩, P8⟩
          have L8 : h.length ≤ H8.length := by have := P8.length_le; first | omega | (simp only [List.length_append, List.length_cons, List.length_nil] at this; omega)
          have Q8 : H7.length + 1 ≤ H8.length := by have := P8.length_le; first | omega | (simp only [List.length_append, List.length_cons, List.length_nil] at this; omega)
          replace hc := hc.mono ((List.prefix_append _ _).trans P8)
          replace sD := sD.mono ((List.prefix_append _ _).trans P8)
          replace sE := sE.mono ((List.prefix_append _ _).trans P8)
          replace bD := keep_get bD ((List.prefix_append _ _).trans P8)
          have bE := keep_get (h := H7 ++ _) hget_new P8
          rw [hX2, hY2] at sF
          obtain ⟨wFw, rfl, ⟨wFi, rfl, _⟩⟩ := id sF
          try simp only [go_sem, Nat.reduceBEq, Nat.reduceAdd, Nat.reduceMul, Nat.reduceSub, Nat.reduceLeDiff, Nat.le_refl, implies_true, Nat.reduceLT, reduceIte, decide_true, decide_false, true_and, and_true, reduceCtorEq, Nat.mul_one, Int.reduceToNat, Int.reduceLE, Int.reduceLT, Int.reduceAdd, Int.reduceSub, Int.reduceMul, Int.cast_ofNat_Int, cast_zero_int, cast_one_int, Nat.reducePow, Nat.reduceEqDiff, Nat.reduceMod, Nat.zero_add, Nat.sub_zero, Nat.add_zero, bD, bE, self_get bD, self_get bE, own_base L8, own_base0 L8, e0, P8]
          refine ⟨by kernel_rfl, (c_rArchives _ _ X2 Y2 (sE.mono (by simp)).aa (sF.mono (by simp)).aa hY2m).use (fun _ m => m) ?_⟩
          rintro _ H9 ⟨rfl, P9⟩
          have L9 : h.length ≤ H9.length := by have := P9.length_le; first | omega | (simp only [List.length_append, List.length_cons, List.length_nil] at this; omega)
          have Q9 : H8.length + 1 ≤ H9.length := by have := P9.length_le; first | omega | (simp only [List.length_append, List.length_cons, List.length_nil] at this; omega)
          replace hc := hc.mono ((List.prefix_append _ _).trans P9)
          replace sD := sD.mono ((List.prefix_append _ _).trans P9)
          replace sE := sE.mono ((List.prefix_append _ _).trans P9)
          replace sF := sF.mono ((List.prefix_append _ _).trans P9)
          replace bD := keep_get bD ((List.prefix_append _ _).trans P9)
          replace bE := keep_get bE ((List.prefix_append _ _).trans P9)
          have bF := keep_get (h := H8 ++ _) hget_new P9
          try simp only [go_sem, Nat.reduceBEq, Nat.reduceAdd, Nat.reduceMul, Nat.reduceSub, Nat.reduceLeDiff, Nat.le_refl, implies_true, Nat.reduceLT, reduceIte, decide_true, decide_false, true_and, and_true, reduceCtorEq, Nat.mul_one, Int.reduceToNat, Int.reduceLE, Int.reduceLT, Int.reduceAdd, Int.reduceSub, Int.reduceMul, Int.cast_ofNat_Int, cast_zero_int, cast_one_int, Nat.reducePow, Nat.reduceEqDiff, Nat.reduceMod, Nat.zero_add, Nat.sub_zero, Nat.add_zero, bD, bE, bF, self_get bD, self_get bE, self_get bF, own_base L9, own_base0 L9, e0, P9, Try.underlying4, and_self, bne_self_eq_false, decide_true]
          by_cases hcut : cutOk f2 l2 x2 y2
          · rw [if_pos hcut] at hX2 hY2; subst hX2 hY2
            try simp only [go_sem, Nat.reduceBEq, Nat.reduceAdd, Nat.reduceMul, Nat.reduceSub, Nat.reduceLeDiff, Nat.le_refl, implies_true, Nat.reduceLT, reduceIte, decide_true, decide_false, true_and, and_true, reduceCtorEq, Nat.mul_one, Int.reduceToNat, Int.reduceLE, Int.reduceLT, Int.reduceAdd, Int.reduceSub, Int.reduceMul, Int.cast_ofNat_Int, cast_zero_int, cast_one_int, Nat.reducePow, Nat.reduceEqDiff, Nat.reduceMod, Nat.zero_add, Nat.sub_zero, Nat.add_zero, bD, bE, bF, self_get bD, self_get bE, self_get bF, own_base L9, own_base0 L9, e0, decb hcut, Try.underlying4, and_self, bne_self_eq_false, decide_true]
            refine ⟨by kernel_rfl, (c_IsValidArchive _ _ _ (sE.mono (by simp)).aa hY2m).use (fun _ m => m) ?_⟩
            rintro _ H10 ⟨rfl, P10⟩
            have L10 : h.length ≤ H10.length := by have := P10.length_le; first | omega | (simp only [List.length_append, List.length_cons, List.length_nil] at this; omega)
            have Q10 : H9.length + 0 ≤ H10.length := by have := P10.length_le; first | omega | (simp only [List.length_append, List.length_cons, List.length_nil] at this; omega)
            replace hc := hc.mono P10
            replace sD := sD.mono P10
            replace sE := sE.mono P10
            replace sF := sF.mono P10
            replace bD := keep_get bD P10
            replace bE := keep_get bE P10
            replace bF := keep_get bF P10
            try simp only [go_sem, Nat.reduceBEq, Nat.reduceAdd, Nat.reduceMul, Nat.reduceSub, Nat.reduceLeDiff, Nat.le_refl, implies_true, Nat.reduceLT, reduceIte, decide_true, decide_false, true_and, and_true, reduceCtorEq, Nat.mul_one, Int.reduceToNat, Int.reduceLE, Int.reduceLT, Int.reduceAdd, Int.reduceSub, Int.reduceMul, Int.cast_ofNat_Int, cast_zero_int, cast_one_int, Nat.reducePow, Nat.reduceEqDiff, Nat.reduceMod, Nat.zero_add, Nat.sub_zero, Nat.add_zero, bD, bE, bF, self_get bD, self_get bE, self_get bF, own_base L10, own_base0 L10, e0, P10, decb (cut_good hcut), Try.underlying4, and_self, bne_self_eq_false, decide_true]
            refine ⟨by kernel_rfl, (c_DrawJoinArchives b n hc).use (fun _ m => m) ?_⟩
            rintro _ H11 ⟨⟨f3, l3, wI, f3b, l3b, wJ, rfl, sI, hl3, sJ, hl3b⟩, P11⟩
            have L11 : h.length ≤ H11.length := by have := P11.length_le; first | omega | (simp only [List.length_append, List.length_cons, List.length_nil] at this; omega)
            have Q11 : H10.length + 0 ≤ H11.length := by have := P11.length_le; first | omega | (simp only [List.length_append, List.length_cons, List.length_nil] at this; omega)
            replace hc := hc.mono P11
            obtain ⟨wIw, rfl, ⟨wIi, rfl, _⟩⟩ := id sI
            obtain ⟨wJw, rfl, ⟨wJi, rfl, _⟩⟩ := id sJ
            try simp only [go_sem, Nat.reduceBEq, Nat.reduceAdd, Nat.reduceMul, Nat.reduceSub, Nat.reduceLeDiff, Nat.le_refl, implies_true, Nat.reduceLT, reduceIte, decide_true, decide_false, true_and, and_true, reduceCtorEq, Nat.mul_one, Int.reduceToNat, Int.reduceLE, Int.reduceLT, Int.reduceAdd, Int.reduceSub, Int.reduceMul, Int.cast_ofNat_Int, cast_zero_int, cast_one_int, Nat.reducePow, Nat.reduceEqDiff, Nat.reduceMod, Nat.zero_add, Nat.sub_zero, Nat.add_zero, own_base L11, own_base0 L11, e0, P11]
            obtain ⟨X3, hX3⟩ : ∃ X : Int, joinF f3 l3 f3b l3b = X := ⟨_, rfl⟩
            obtain ⟨Y3, hY3⟩ : ∃ Y : List Int, joinL f3 l3 f3b l3b = Y := ⟨_, rfl⟩
            have hY3m : Y3.length ≤ 1048576 := by rw [← hY3]; exact joinL_len
            refine ⟨by kernel_rfl, (c_JoinArchives _ _ f3 l3 f3b l3b (sI.mono (by simp)).aa (sJ.mono (by simp)).aa (by omega) (by omega)).use (fun _ m => m) ?_⟩
            rintro _ H12 ⟨⟨wN, rfl, sN⟩, P12⟩
            have L12 : h.length ≤ H12.length := by have := P12.length_le; first | omega | (simp only [List.length_append, List.length_cons, List.length_nil] at this; omega)
            have Q12 : H11.length + 2 ≤ H12.length := by have := P12.length_le; first | omega | (simp only [List.length_append, List.length_cons, List.length_nil] at this; omega)
            replace hc := hc.mono ((List.prefix_append _ _).trans P12)
            replace sI := sI.mono ((List.prefix_append _ _).trans P12)
            replace sJ := sJ.mono ((List.prefix_append _ _).trans P12)
            have bI := keep_get (h := H11 ++ _) (hget_lit0 (h := H11)) P12
            have bJ := keep_get (h := H11 ++ _) (hget_lit1 (h := H11)) P12
            rw [hX3, hY3] at sN
            obtain ⟨wNw, rfl, ⟨wNi, rfl, _⟩⟩ := id sN
            try simp only [go_sem, Nat.reduceBEq, Nat.reduceAdd, Nat.reduceMul, Nat.reduceSub, Nat.reduceLeDiff, Nat.le_refl, implies_true, Nat.reduceLT, reduceIte, decide_true, decide_false, true_and, and_true, reduceCtorEq, Nat.mul_one, Int.reduceToNat, Int.reduceLE, Int.reduceLT, Int.reduceAdd, Int.reduceSub, Int.reduceMul, Int.cast_ofNat_Int, cast_zero_int, cast_one_int, Nat.reducePow, Nat.reduceEqDiff, Nat.reduceMod, Nat.zero_add, Nat.sub_zero, Nat.add_zero, bI, bJ, self_get bI, self_get bJ, own_base L12, own_base0 L12, e0, P12]
            refine ⟨by kernel_rfl, (c_sJoinArchives _ _ f3 l3 f3b l3b (sI.mono (by simp)).aa (sJ.mono (by simp)).aa (by omega) (by omega)).use (fun _ m => m) ?_⟩
            rintro _ H13 ⟨⟨wO, rfl, sO⟩, P13⟩
            have L13 : h.length ≤ H13.length := by have := P13.length_le; first | omega | (simp only [List.length_append, List.length_cons, List.length_nil] at this; omega)
            have Q13 : H12.length + 1 ≤ H13.length := by have := P13.length_le; first | omega | (simp only [List.length_append, List.length_cons, List.length_nil] at this; omega)
            replace hc := hc.mono ((List.prefix_append _ _).trans P13)
            replace sI := sI.mono ((List.prefix_append _ _).trans P13)
            replace sJ := sJ.mono ((List.prefix_append _ _).trans P13)
            replace sN := sN.mono ((List.prefix_append _ _).trans P13)
            replace bI := keep_get bI ((List.prefix_append _ _).trans P13)
            replace bJ := keep_get bJ ((List.prefix_append _ _).trans P13)
            have bN := keep_get (h := H12 ++ _) hget_new P13
            rw [hX3, hY3] at sO
            obtain ⟨wOw, rfl, ⟨wOi, rfl, _⟩⟩ := id sO
            try simp only [go_sem, Nat.reduceBEq, Nat.reduceAdd, Nat.reduceMul, Nat.reduceSub, Nat.reduceLeDiff, Nat.le_refl, implies_true, Nat.reduceLT, reduceIte, decide_true, decide_false, true_and, and_true, reduceCtorEq, Nat.mul_one, Int.reduceToNat, Int.reduceLE, Int.reduceLT, Int.reduceAdd, Int.reduceSub, Int.reduceMul, Int.cast_ofNat_Int, cast_zero_int, cast_one_int, Nat.reducePow, Nat.reduceEqDiff, Nat.reduceMod, Nat.zero_add, Nat.sub_zero, Nat.add_zero, bI, bJ, bN, self_get bI, self_get bJ, self_get bN, own_base L13, own_base0 L13, e0, P13]
            refine ⟨by kernel_rfl, (c_rArchives _ _ X3 Y3 (sN.mono (by simp)).aa (sO.mono (by simp)).aa hY3m).use (fun _ m => m) ?_⟩
            rintro _ H14 ⟨rfl, P14⟩
            have L14 : h.length ≤ H14.length := by have := P14.length_le; first | omega | (simp only [List.length_append, List.length_cons, List.length_nil] at this; omega)
            have Q14 : H13.length + 1 ≤ H14.length := by have := P14.length_le; first | omega | (simp only [List.length_append, List.length_cons, List.length_nil] at this; omega)
            replace hc := hc.mono ((List.prefix_append _ _).trans P14)
            replace sI := sI.mono ((List.prefix_append _ _).trans P14)
            replace sJ := sJ.mono ((List.prefix_append _ _).trans P14)
            replace sN := sN.mono ((List.prefix_append _ _).trans P14)
            replace sO := sO.mono ((List.prefix_append _ _).trans P14)
            replace bI := keep_get bI ((List.prefix_append _ _).trans P14)
            replace bJ := keep_get bJ ((List.prefix_append _ _).trans P14)
            replace bN := keep_get bN ((List.prefix_append _ _).trans P14)
            have bO := keep_get (h := H13 ++ _) hget_new P14
            try simp only [go_sem, Nat.reduceBEq, Nat.reduceAdd, Nat.reduceMul, Nat.reduceSub, Nat.reduceLeDiff, Nat.le_refl, implies_true, Nat.reduceLT, reduceIte, decide_true, decide_false, true_and, and_true, reduceCtorEq, Nat.mul_one, Int.reduceToNat, Int.reduceLE, Int.reduceLT, Int.reduceAdd, Int.reduceSub, Int.reduceMul, Int.cast_ofNat_Int, cast_zero_int, cast_one_int, Nat.reducePow, Nat.reduceEqDiff, Nat.reduceMod, Nat.zero_add, Nat.sub_zero, Nat.add_zero, bI, bJ, bN, bO, self_get bI, self_get bJ, self_get bN, self_get bO, own_base L14, own_base0 L14, e0, P14, Try.underlying4, and_self, bne_self_eq_false, decide_true]
            by_cases hj : joinOk f3 l3 f3b l3b
            · rw [joinF, if_pos hj] at hX3; rw [joinL, if_pos hj] at hY3; subst hX3 hY3
              have k6 : IntKind.i64.wrap ((l3.length : Int) + l3b.length) = l3.length + l3b.length := wrap64 (by omega)
              try simp only [go_sem, Nat.reduceBEq, Nat.reduceAdd, Nat.reduceMul, Nat.reduceSub, Nat.reduceLeDiff, Nat.le_refl, implies_true, Nat.reduceLT, reduceIte, decide_true, decide_false, true_and, and_true, reduceCtorEq, Nat.mul_one, Int.reduceToNat, Int.reduceLE, Int.reduceLT, Int.reduceAdd, Int.reduceSub, Int.reduceMul, Int.cast_ofNat_Int, cast_zero_int, cast_one_int, Nat.reducePow, Nat.reduceEqDiff, Nat.reduceMod, Nat.zero_add, Nat.sub_zero, Nat.add_zero, bI, bJ, bN, bO, self_get bI, self_get bJ, self_get bN, self_get bO, own_base L14, own_base0 L14, e0, decb hj, List.length_append, Int.natCast_add, k6, Try.underlying4, and_self, bne_self_eq_false, decide_true]
              refine ⟨by kernel_rfl, (c_DrawWeekMeans b n hc).use (fun _ m => m) ?_⟩
              rintro _ H15 ⟨⟨f4, l4, ⟨wG, rfl, sG0⟩, hl4⟩, P15⟩
              have L15 : h.length ≤ H15.length := by have := P15.length_le; first | omega | (simp only [List.length_append, List.length_cons, List.length_nil] at this; omega)
              have Q15 : H14.length + 0 ≤ H15.length := by have := P15.length_le; first | omega | (simp only [List.length_append, List.length_cons, List.length_nil] at this; omega)
              replace hc := hc.mono P15
              have sG : FA _ _ H15 (.agg #[.int .i64 f4, wG]) f4 l4 := ⟨_, rfl, sG0⟩
              obtain ⟨wGi, rfl, _⟩ := id sG0
              try simp only [go_sem, Nat.reduceBEq, Nat.reduceAdd, Nat.reduceMul, Nat.reduceSub, Nat.reduceLeDiff, Nat.le_refl, implies_true, Nat.reduceLT, reduceIte, decide_true, decide_false, true_and, and_true, reduceCtorEq, Nat.mul_one, Int.reduceToNat, Int.reduceLE, Int.reduceLT, Int.reduceAdd, Int.reduceSub, Int.reduceMul, Int.cast_ofNat_Int, cast_zero_int, cast_one_int, Nat.reducePow, Nat.reduceEqDiff, Nat.reduceMod, Nat.zero_add, Nat.sub_zero, Nat.add_zero, own_base L15, own_base0 L15, e0, P15]
              obtain ⟨Z, hZ⟩ : ∃ Z : List Int, weekMeans f4 l4 = Z := ⟨_, rfl⟩
              have hZm : Z.length ≤ 1048576 := by rw [← hZ]; exact weekMeans_len f4 (by omega)
              refine ⟨by kernel_rfl, (c_WeekMeans _ f4 l4 (sG.mono (by simp)).aa (by omega)).use (fun _ m => m) ?_⟩
              rintro _ H16 ⟨⟨wK, rfl, sK⟩, P16⟩
              have L16 : h.length ≤ H16.length := by have := P16.length_le; first | omega | (simp only [List.length_append, List.length_cons, List.length_nil] at this; omega)
              have Q16 : H15.length + 1 ≤ H16.length := by have := P16.length_le; first | omega | (simp only [List.length_append, List.length_cons, List.length_nil] at this; omega)
              replace hc := hc.mono ((List.prefix_append _ _).trans P16)
              replace sG := sG.mono ((List.prefix_append _ _).trans P16)
              have bG := keep_get (h := H15 ++ _) hget_new P16
              rw [hZ] at sK
              obtain ⟨wKi, rfl, _⟩ := id sK
              try simp only [go_sem, Nat.reduceBEq, Nat.reduceAdd, Nat.reduceMul, Nat.reduceSub, Nat.reduceLeDiff, Nat.le_refl, implies_true, Nat.reduceLT, reduceIte, decide_true, decide_false, true_and, and_true, reduceCtorEq, Nat.mul_one, Int.reduceToNat, Int.reduceLE, Int.reduceLT, Int.reduceAdd, Int.reduceSub, Int.reduceMul, Int.cast_ofNat_Int, cast_zero_int, cast_one_int, Nat.reducePow, Nat.reduceEqDiff, Nat.reduceMod, Nat.zero_add, Nat.sub_zero, Nat.add_zero, bG, self_get bG, own_base L16, own_base0 L16, e0, P16, Try.underlying4, and_self, bne_self_eq_false, decide_true]
              refine ⟨by kernel_rfl, (c_sWeekMeans _ f4 l4 (sG.mono (by simp)).aa (by omega)).use (fun _ m => m) ?_⟩
              rintro _ H17 ⟨⟨wL, rfl, sL⟩, P17⟩
              have L17 : h.length ≤ H17.length := by have := P17.length_le; first | omega | (simp only [List.length_append, List.length_cons, List.length_nil] at this; omega)
              have Q17 : H16.length + 0 ≤ H17.length := by have := P17.length_le; first | omega | (simp only [List.length_append, List.length_cons, List.length_nil] at this; omega)
              replace hc := hc.mono P17
              replace sG := sG.mono P17
              replace sK := sK.mono P17
              replace bG := keep_get bG P17
              rw [hZ] at sL
              obtain ⟨wLi, rfl, _⟩ := id sL
              try simp only [go_sem, Nat.reduceBEq, Nat.reduceAdd, Nat.reduceMul, Nat.reduceSub, Nat.reduceLeDiff, Nat.le_refl, implies_true, Nat.reduceLT, reduceIte, decide_true, decide_false, true_and, and_true, reduceCtorEq, Nat.mul_one, Int.reduceToNat, Int.reduceLE, Int.reduceLT, Int.reduceAdd, Int.reduceSub, Int.reduceMul, Int.cast_ofNat_Int, cast_zero_int, cast_one_int, Nat.reducePow, Nat.reduceEqDiff, Nat.reduceMod, Nat.zero_add, Nat.sub_zero, Nat.add_zero, bG, self_get bG, own_base L17, own_base0 L17, e0, P17, Try.underlying4, and_self, bne_self_eq_false, decide_true]
              refine ⟨by kernel_rfl, (c_rInts _ _ Z (sK.mono (by simp)).ai (sL.mono (by simp)).ai hZm).use (fun _ m => m) ?_⟩
              rintro _ _ ⟨rfl, rfl⟩
              try simp only [go_sem, Nat.reduceBEq, Nat.reduceAdd, Nat.reduceMul, Nat.reduceSub, Nat.reduceLeDiff, Nat.le_refl, implies_true, Nat.reduceLT, reduceIte, decide_true, decide_false, true_and, and_true, reduceCtorEq, Nat.mul_one, Int.reduceToNat, Int.reduceLE, Int.reduceLT, Int.reduceAdd, Int.reduceSub, Int.reduceMul, Int.cast_ofNat_Int, cast_zero_int, cast_one_int, Nat.reducePow, Nat.reduceEqDiff, Nat.reduceMod, Nat.zero_add, Nat.sub_zero, Nat.add_zero, bG, self_get bG, own_base L17, own_base0 L17, e0, Try.underlying4, and_self, bne_self_eq_false, decide_true]
              have k7 : IntKind.i64.wrap ((l4.length : Int).tdiv 7) = ((l4.length / 7 : Nat) : Int) := by rw [Int.tdiv_eq_ediv_of_nonneg (by omega), wrap64 (by omega)]; omega
              by_cases hg : arGood f4 l4
              · rw [weekMeans, if_pos hg] at hZ; subst hZ
                try simp only [go_sem, Nat.reduceBEq, Nat.reduceAdd, Nat.reduceMul, Nat.reduceSub, Nat.reduceLeDiff, Nat.le_refl, implies_true, Nat.reduceLT, reduceIte, decide_true, decide_false, true_and, and_true, reduceCtorEq, Nat.mul_one, Int.reduceToNat, Int.reduceLE, Int.reduceLT, Int.reduceAdd, Int.reduceSub, Int.reduceMul, Int.cast_ofNat_Int, cast_zero_int, cast_one_int, Nat.reducePow, Nat.reduceEqDiff, Nat.reduceMod, Nat.zero_add, Nat.sub_zero, Nat.add_zero, bG, self_get bG, own_base L17, own_base0 L17, e0, decb hg, hBin_quo (show (7 : Int) ≠ 0 by omega), k7, means_len, Try.underlying4, and_self, bne_self_eq_false, decide_true]
                obtain ⟨nG, aG⟩ : ∃ n, AI n H17 (.slice wGi l4.length 0) l4 := by obtain ⟨w, e, s⟩ := sG.aa; cases e; exact ⟨_, s⟩
                have aK := sK.ai
                refine vLoop.count mo (l4.length / 7) (fun i e h' => e 0 = .slice b n 0 ∧ e 26 = .pointer (some ⟨H15.length, 0, none⟩) ∧ e 27 = .slice wKi (l4.length / 7) 0 ∧ e 31 = .int .i64 i ∧ H17 = h') ?_ ?_
                · try simp only [go_sem, Nat.reduceBEq, Nat.reduceAdd, Nat.reduceMul, Nat.reduceSub, Nat.reduceLeDiff, Nat.le_refl, implies_true, Nat.reduceLT, reduceIte, decide_true, decide_false, true_and, and_true, reduceCtorEq, Nat.mul_one, Int.reduceToNat, Int.reduceLE, Int.reduceLT, Int.reduceAdd, Int.reduceSub, Int.reduceMul, Int.cast_ofNat_Int, cast_zero_int, cast_one_int, Nat.reducePow, Nat.reduceEqDiff, Nat.reduceMod, Nat.zero_add, Nat.sub_zero, Nat.add_zero, e0]
                  try rfl
                  try simp
                · rintro i e _ hi ⟨e0, e26, e27, e31, rfl⟩
                  try simp only [go_sem, Nat.reduceBEq, Nat.reduceAdd, Nat.reduceMul, Nat.reduceSub, Nat.reduceLeDiff, Nat.le_refl, implies_true, Nat.reduceLT, reduceIte, decide_true, decide_false, true_and, and_true, reduceCtorEq, Nat.mul_one, Int.reduceToNat, Int.reduceLE, Int.reduceLT, Int.reduceAdd, Int.reduceSub, Int.reduceMul, Int.cast_ofNat_Int, cast_zero_int, cast_one_int, Nat.reducePow, Nat.reduceEqDiff, Nat.reduceMod, Nat.zero_add, Nat.sub_zero, Nat.add_zero, bG, self_get bG, own_base L17, own_base0 L17, e0, e26, e27, e31]
                  refine .intro (fun h1 => ?_) (fun h1 => ?_)
                  · have hlt : i < l4.length / 7 := by have := h1; simp at this; omega
                    obtain ⟨g1, g2, g3, g4⟩ := id hg
                    have h7 : 7 * i + 7 ≤ l4.length := by omega
                    have w6 : IntKind.i64.wrap (7 * (i : Int)) = ((7 * i : Nat) : Int) := by rw [wrap64 (by omega)]; rfl
                    have w7 : IntKind.i64.wrap (((7 * i : Nat) : Int) + 7) = ((7 * i + 7 : Nat) : Int) := by rw [wrap64 (by omega)]; rfl
                    obtain ⟨id, off, k, hv, _, hk0, hk1, hd1, hesz, _, _, hat⟩ := aG.at (by omega)
                    obtain rfl : wGi = some ⟨id, off, none⟩ := by simpa using hv
                    have hnn : (0 : Int) ≤ ((7 * i : Nat) : Int) ∧ (0 : Int) ≤ ((7 * i + 7 : Nat) : Int) := by omega
                    have hw : ((l4.drop (7 * i)).take (7 * i + 7 - 7 * i)) = week l4 i := by rw [Nat.add_sub_cancel_left]; rfl
                    have hs := AI.sub aG (a := 7 * i) (c := 7 * i + 7 - 7 * i) (by omega)
                    rw [hw] at hs
                    have hwb : ∀ x ∈ week l4 i, -200000 ≤ x ∧ x ≤ 200000 := fun x hx => by have := g1 x (List.mem_of_mem_drop (List.mem_of_mem_take hx)); omega
                    have hwl : (week l4 i).length = 7 := by simp [week]; omega
                    have hsum := psum_bound (l := week l4 i) (i := 7) (by omega) (fun x hx => hwb x (List.mem_of_mem_take hx))
                    rw [psum, List.take_of_length_le (by omega)] at hsum
                    try simp only [go_sem, Nat.reduceBEq, Nat.reduceAdd, Nat.reduceMul, Nat.reduceSub, Nat.reduceLeDiff, Nat.le_refl, implies_true, Nat.reduceLT, reduceIte, decide_true, decide_false, true_and, and_true, reduceCtorEq, Nat.mul_one, Int.reduceToNat, Int.reduceLE, Int.reduceLT, Int.reduceAdd, Int.reduceSub, Int.reduceMul, Int.cast_ofNat_Int, cast_zero_int, cast_one_int, Nat.reducePow, Nat.reduceEqDiff, Nat.reduceMod, Nat.zero_add, Nat.sub_zero, Nat.add_zero, onSl_more (show 0 < l4.length by omega), e0, e26, e27, e31, bG, w6, w7, hk1, hesz, hnn.1, hnn.2, h7, show 7 * i ≤ 7 * i + 7 by omega]
                    refine ⟨by kernel_rfl, (c_rSum _ (week l4 i) hs (by omega) hwb).use (fun _ m => m) ?_⟩
                    rintro _ _ ⟨rfl, rfl⟩
                    obtain ⟨id2, off2, k2, hv2, _, hk20, hk2, hd2, _, _, _, hat2⟩ := aK.at (by rw [means_len]; omega)
                    obtain rfl : wKi = some ⟨id2, off2, none⟩ := by simpa using hv2
                    have hmn : (means l4 (l4.length / 7))[i]? = some (mean l4 i) := by simp [means, hlt]
                    have hat3 : k2.cells[off2 + i]? = some (.int .i64 (mean l4 i)) := by rw [hat2 i (by rw [means_len]; omega)]; rw [List.getElem?_eq_getElem (by rw [means_len]; omega)] at hmn; rw [Option.some.inj hmn]
                    have hme : mean l4 i = (week l4 i).sum / 7 := rfl
                    have w8 : IntKind.i64.wrap (7 * mean l4 i) = 7 * mean l4 i := wrap64 (by omega)
                    have w9 : IntKind.i64.wrap (7 * mean l4 i + 7) = 7 * mean l4 i + 7 := wrap64 (by omega)
                    have k5 : IntKind.i64.wrap ((i : Int) + 1) = ((i + 1 : Nat) : Int) := by rw [wrap64 (by omega)]; rfl
                    try simp only [go_sem, Nat.reduceBEq, Nat.reduceAdd, Nat.reduceMul, Nat.reduceSub, Nat.reduceLeDiff, Nat.le_refl, implies_true, Nat.reduceLT, reduceIte, decide_true, decide_false, true_and, and_true, reduceCtorEq, Nat.mul_one, Int.reduceToNat, Int.reduceLE, Int.reduceLT, Int.reduceAdd, Int.reduceSub, Int.reduceMul, Int.cast_ofNat_Int, cast_zero_int, cast_one_int, Nat.reducePow, Nat.reduceEqDiff, Nat.reduceMod, Nat.zero_add, Nat.sub_zero, Nat.add_zero, e0, e26, e27, e31, hk2, hd2, hat3, w8, w9, k5, show (i : Int) < ((l4.length / 7 : Nat) : Int) by omega, show ¬ ((week l4 i).sum < 7 * mean l4 i) by omega, show ¬ (7 * mean l4 i + 7 ≤ (week l4 i).sum) by omega]
                    exact hlt
                  · try simp only [go_sem, Nat.reduceBEq, Nat.reduceAdd, Nat.reduceMul, Nat.reduceSub, Nat.reduceLeDiff, Nat.le_refl, implies_true, Nat.reduceLT, reduceIte, decide_true, decide_false, true_and, and_true, reduceCtorEq, Nat.mul_one, Int.reduceToNat, Int.reduceLE, Int.reduceLT, Int.reduceAdd, Int.reduceSub, Int.reduceMul, Int.cast_ofNat_Int, cast_zero_int, cast_one_int, Nat.reducePow, Nat.reduceEqDiff, Nat.reduceMod, Nat.zero_add, Nat.sub_zero, Nat.add_zero, e0, e26, e27, e31]
                    refine ⟨by kernel_rfl, (c_DrawValueOn b n hc).use (fun _ m => m) ?_⟩
                    rintro _ H18 ⟨⟨fv, lv, wV, dv, rfl, sV, hlv⟩, P18⟩
                    have L18 : h.length ≤ H18.length := by have := P18.length_le; first | omega | (simp only [List.length_append, List.length_cons, List.length_nil] at this; omega)
                    have Q18 : H17.length + 0 ≤ H18.length := by have := P18.length_le; first | omega | (simp only [List.length_append, List.length_cons, List.length_nil] at this; omega)
                    replace hc := hc.mono P18
                    obtain ⟨wVw, rfl, ⟨wVi, rfl, _⟩⟩ := id sV
                    try simp only [go_sem, Nat.reduceBEq, Nat.reduceAdd, Nat.reduceMul, Nat.reduceSub, Nat.reduceLeDiff, Nat.le_refl, implies_true, Nat.reduceLT, reduceIte, decide_true, decide_false, true_and, and_true, reduceCtorEq, Nat.mul_one, Int.reduceToNat, Int.reduceLE, Int.reduceLT, Int.reduceAdd, Int.reduceSub, Int.reduceMul, Int.cast_ofNat_Int, cast_zero_int, cast_one_int, Nat.reducePow, Nat.reduceEqDiff, Nat.reduceMod, Nat.zero_add, Nat.sub_zero, Nat.add_zero, own_base L18, own_base0 L18, e0, P18]
                    obtain ⟨vm, vg, hv⟩ := valueOn_shape fv lv dv
                    refine ⟨by kernel_rfl, (c_ValueOn _ fv lv dv (sV.mono (by simp)).aa (by omega)).use (fun _ m => m) ?_⟩
                    rintro _ H19 ⟨hr, P19⟩
                    have L19 : h.length ≤ H19.length := by have := P19.length_le; first | omega | (simp only [List.length_append, List.length_cons, List.length_nil] at this; omega)
                    have Q19 : H18.length + 1 ≤ H19.length := by have := P19.length_le; first | omega | (simp only [List.length_append, List.length_cons, List.length_nil] at this; omega)
                    replace hc := hc.mono ((List.prefix_append _ _).trans P19)
                    replace sV := sV.mono ((List.prefix_append _ _).trans P19)
                    have bV := keep_get (h := H18 ++ _) hget_new P19
                    rw [hv] at hr
                    subst hr
                    try simp only [go_sem, Nat.reduceBEq, Nat.reduceAdd, Nat.reduceMul, Nat.reduceSub, Nat.reduceLeDiff, Nat.le_refl, implies_true, Nat.reduceLT, reduceIte, decide_true, decide_false, true_and, and_true, reduceCtorEq, Nat.mul_one, Int.reduceToNat, Int.reduceLE, Int.reduceLT, Int.reduceAdd, Int.reduceSub, Int.reduceMul, Int.cast_ofNat_Int, cast_zero_int, cast_one_int, Nat.reducePow, Nat.reduceEqDiff, Nat.reduceMod, Nat.zero_add, Nat.sub_zero, Nat.add_zero, bV, self_get bV, own_base L19, own_base0 L19, e0, P19, Try.underlying4, and_self, bne_self_eq_false, decide_true]
                    refine ⟨by kernel_rfl, (c_sValueOn _ fv lv dv (sV.mono (by simp)).aa (by omega)).use (fun _ m => m) ?_⟩
                    rintro _ H20 ⟨hr, P20⟩
                    have L20 : h.length ≤ H20.length := by have := P20.length_le; first | omega | (simp only [List.length_append, List.length_cons, List.length_nil] at this; omega)
                    have Q20 : H19.length + 0 ≤ H20.length := by have := P20.length_le; first | omega | (simp only [List.length_append, List.length_cons, List.length_nil] at this; omega)
                    replace hc := hc.mono P20
                    replace sV := sV.mono P20
                    replace bV := keep_get bV P20
                    rw [hv] at hr
                    subst hr
                    try simp only [go_sem, Nat.reduceBEq, Nat.reduceAdd, Nat.reduceMul, Nat.reduceSub, Nat.reduceLeDiff, Nat.le_refl, implies_true, Nat.reduceLT, reduceIte, decide_true, decide_false, true_and, and_true, reduceCtorEq, Nat.mul_one, Int.reduceToNat, Int.reduceLE, Int.reduceLT, Int.reduceAdd, Int.reduceSub, Int.reduceMul, Int.cast_ofNat_Int, cast_zero_int, cast_one_int, Nat.reducePow, Nat.reduceEqDiff, Nat.reduceMod, Nat.zero_add, Nat.sub_zero, Nat.add_zero, bV, self_get bV, own_base L20, own_base0 L20, e0, P20, Try.underlying4, and_self, bne_self_eq_false, decide_true]
              · rw [weekMeans, if_neg hg] at hZ; subst hZ
                try simp only [go_sem, Nat.reduceBEq, Nat.reduceAdd, Nat.reduceMul, Nat.reduceSub, Nat.reduceLeDiff, Nat.le_refl, implies_true, Nat.reduceLT, reduceIte, decide_true, decide_false, true_and, and_true, reduceCtorEq, Nat.mul_one, Int.reduceToNat, Int.reduceLE, Int.reduceLT, Int.reduceAdd, Int.reduceSub, Int.reduceMul, Int.cast_ofNat_Int, cast_zero_int, cast_one_int, Nat.reducePow, Nat.reduceEqDiff, Nat.reduceMod, Nat.zero_add, Nat.sub_zero, Nat.add_zero, bG, self_get bG, own_base L17, own_base0 L17, e0, dect hg, hBin_quo (show (7 : Int) ≠ 0 by omega), k7, List.length_nil, Try.underlying4, and_self, bne_self_eq_false, decide_true]
                refine vLoop.count mo 0 (fun i e h' => e 0 = .slice b n 0 ∧ e 27 = .slice wKi 0 0 ∧ e 31 = .int .i64 0 ∧ H17 = h') ?_ ?_
                · try simp only [go_sem, Nat.reduceBEq, Nat.reduceAdd, Nat.reduceMul, Nat.reduceSub, Nat.reduceLeDiff, Nat.le_refl, implies_true, Nat.reduceLT, reduceIte, decide_true, decide_false, true_and, and_true, reduceCtorEq, Nat.mul_one, Int.reduceToNat, Int.reduceLE, Int.reduceLT, Int.reduceAdd, Int.reduceSub, Int.reduceMul, Int.cast_ofNat_Int, cast_zero_int, cast_one_int, Nat.reducePow, Nat.reduceEqDiff, Nat.reduceMod, Nat.zero_add, Nat.sub_zero, Nat.add_zero, e0]
                  try rfl
                  try simp
                · rintro i e _ hi ⟨e0, e27, e31, rfl⟩
                  try simp only [go_sem, Nat.reduceBEq, Nat.reduceAdd, Nat.reduceMul, Nat.reduceSub, Nat.reduceLeDiff, Nat.le_refl, implies_true, Nat.reduceLT, reduceIte, decide_true, decide_false, true_and, and_true, reduceCtorEq, Nat.mul_one, Int.reduceToNat, Int.reduceLE, Int.reduceLT, Int.reduceAdd, Int.reduceSub, Int.reduceMul, Int.cast_ofNat_Int, cast_zero_int, cast_one_int, Nat.reducePow, Nat.reduceEqDiff, Nat.reduceMod, Nat.zero_add, Nat.sub_zero, Nat.add_zero, bG, self_get bG, own_base L17, own_base0 L17, e0, e27, e31]
                  refine ⟨by kernel_rfl, (c_DrawValueOn b n hc).use (fun _ m => m) ?_⟩
                  rintro _ H18 ⟨⟨fv, lv, wV, dv, rfl, sV, hlv⟩, P18⟩
                  have L18 : h.length ≤ H18.length := by have := P18.length_le; first | omega | (simp only [List.length_append, List.length_cons, List.length_nil] at this; omega)
                  have Q18 : H17.length + 0 ≤ H18.length := by have := P18.length_le; first | omega | (simp only [List.length_append, List.length_cons, List.length_nil] at this; omega)
                  replace hc := hc.mono P18
                  obtain ⟨wVw, rfl, ⟨wVi, rfl, _⟩⟩ := id sV
                  try simp only [go_sem, Nat.reduceBEq, Nat.reduceAdd, Nat.reduceMul, Nat.reduceSub, Nat.reduceLeDiff, Nat.le_refl, implies_true, Nat.reduceLT, reduceIte, decide_true, decide_false, true_and, and_true, reduceCtorEq, Nat.mul_one, Int.reduceToNat, Int.reduceLE, Int.reduceLT, Int.reduceAdd, Int.reduceSub, Int.reduceMul, Int.cast_ofNat_Int, cast_zero_int, cast_one_int, Nat.reducePow, Nat.reduceEqDiff, Nat.reduceMod, Nat.zero_add, Nat.sub_zero, Nat.add_zero, own_base L18, own_base0 L18, e0, P18]
                  obtain ⟨vm, vg, hv⟩ := valueOn_shape fv lv dv
                  refine ⟨by kernel_rfl, (c_ValueOn _ fv lv dv (sV.mono (by simp)).aa (by omega)).use (fun _ m => m) ?_⟩
                  rintro _ H19 ⟨hr, P19⟩
                  have L19 : h.length ≤ H19.length := by have := P19.length_le; first | omega | (simp only [List.length_append, List.length_cons, List.length_nil] at this; omega)
                  have Q19 : H18.length + 1 ≤ H19.length := by have := P19.length_le; first | omega | (simp only [List.length_append, List.length_cons, List.length_nil] at this; omega)
                  replace hc := hc.mono ((List.prefix_append _ _).trans P19)
                  replace sV := sV.mono ((List.prefix_append _ _).trans P19)
                  have bV := keep_get (h := H18 ++ _) hget_new P19
                  rw [hv] at hr
                  subst hr
                  try simp only [go_sem, Nat.reduceBEq, Nat.reduceAdd, Nat.reduceMul, Nat.reduceSub, Nat.reduceLeDiff, Nat.le_refl, implies_true, Nat.reduceLT, reduceIte, decide_true, decide_false, true_and, and_true, reduceCtorEq, Nat.mul_one, Int.reduceToNat, Int.reduceLE, Int.reduceLT, Int.reduceAdd, Int.reduceSub, Int.reduceMul, Int.cast_ofNat_Int, cast_zero_int, cast_one_int, Nat.reducePow, Nat.reduceEqDiff, Nat.reduceMod, Nat.zero_add, Nat.sub_zero, Nat.add_zero, bV, self_get bV, own_base L19, own_base0 L19, e0, P19, Try.underlying4, and_self, bne_self_eq_false, decide_true]
                  refine ⟨by kernel_rfl, (c_sValueOn _ fv lv dv (sV.mono (by simp)).aa (by omega)).use (fun _ m => m) ?_⟩
                  rintro _ H20 ⟨hr, P20⟩
                  have L20 : h.length ≤ H20.length := by have := P20.length_le; first | omega | (simp only [List.length_append, List.length_cons, List.length_nil] at this; omega)
                  have Q20 : H19.length + 0 ≤ H20.length := by have := P20.length_le; first | omega | (simp only [List.length_append, List.length_cons, List.length_nil] at this; omega)
                  replace hc := hc.mono P20
                  replace sV := sV.mono P20
                  replace bV := keep_get bV P20
                  rw [hv] at hr
                  subst hr
                  try simp only [go_sem, Nat.reduceBEq, Nat.reduceAdd, Nat.reduceMul, Nat.reduceSub, Nat.reduceLeDiff, Nat.le_refl, implies_true, Nat.reduceLT, reduceIte, decide_true, decide_false, true_and, and_true, reduceCtorEq, Nat.mul_one, Int.reduceToNat, Int.reduceLE, Int.reduceLT, Int.reduceAdd, Int.reduceSub, Int.reduceMul, Int.cast_ofNat_Int, cast_zero_int, cast_one_int, Nat.reducePow, Nat.reduceEqDiff, Nat.reduceMod, Nat.zero_add, Nat.sub_zero, Nat.add_zero, bV, self_get bV, own_base L20, own_base0 L20, e0, P20, Try.underlying4, and_self, bne_self_eq_false, decide_true]
            · rw [joinF, if_neg hj] at hX3; rw [joinL, if_neg hj] at hY3; subst hX3 hY3
              try simp only [go_sem, Nat.reduceBEq, Nat.reduceAdd, Nat.reduceMul, Nat.reduceSub, Nat.reduceLeDiff, Nat.le_refl, implies_true, Nat.reduceLT, reduceIte, decide_true, decide_false, true_and, and_true, reduceCtorEq, Nat.mul_one, Int.reduceToNat, Int.reduceLE, Int.reduceLT, Int.reduceAdd, Int.reduceSub, Int.reduceMul, Int.cast_ofNat_Int, cast_zero_int, cast_one_int, Nat.reducePow, Nat.reduceEqDiff, Nat.reduceMod, Nat.zero_add, Nat.sub_zero, Nat.add_zero, bI, bJ, bN, bO, self_get bI, self_get bJ, self_get bN, self_get bO, own_base L14, own_base0 L14, e0, dect hj, Try.underlying4, and_self, bne_self_eq_false, decide_true]
              refine ⟨by kernel_rfl, (c_DrawWeekMeans b n hc).use (fun _ m => m) ?_⟩
              rintro _ H15 ⟨⟨f4, l4, ⟨wG, rfl, sG0⟩, hl4⟩, P15⟩
              have L15 : h.length ≤ H15.length := by have := P15.length_le; first | omega | (simp only [List.length_append, List.length_cons, List.length_nil] at this; omega)
              have Q15 : H14.length + 0 ≤ H15.length := by have := P15.length_le; first | omega | (simp only [List.length_append, List.length_cons, List.length_nil] at this; omega)
              replace hc := hc.mono P15
              have sG : FA _ _ H15 (.agg #[.int .i64 f4, wG]) f4 l4 := ⟨_, rfl, sG0⟩
              obtain ⟨wGi, rfl, _⟩ := id sG0
              try simp only [go_sem, Nat.reduceBEq, Nat.reduceAdd, Nat.reduceMul, Nat.reduceSub, Nat.reduceLeDiff, Nat.le_refl, implies_true, Nat.reduceLT, reduceIte, decide_true, decide_false, true_and, and_true, reduceCtorEq, Nat.mul_one, Int.reduceToNat, Int.reduceLE, Int.reduceLT, Int.reduceAdd, Int.reduceSub, Int.reduceMul, Int.cast_ofNat_Int, cast_zero_int, cast_one_int, Nat.reducePow, Nat.reduceEqDiff, Nat.reduceMod, Nat.zero_add, Nat.sub_zero, Nat.add_zero, own_base L15, own_base0 L15, e0, P15]
              obtain ⟨Z, hZ⟩ : ∃ Z : List Int, weekMeans f4 l4 = Z := ⟨_, rfl⟩
              have hZm : Z.length ≤ 1048576 := by rw [← hZ]; exact weekMeans_len f4 (by omega)
              refine ⟨by kernel_rfl, (c_WeekMeans _ f4 l4 (sG.mono (by simp)).aa (by omega)).use (fun _ m => m) ?_⟩
              rintro _ H16 ⟨⟨wK, rfl, sK⟩, P16⟩
              have L16 : h.length ≤ H16.length := by have := P16.length_le; first | omega | (simp only [List.length_append, List.length_cons, List.length_nil] at this; omega)
              have Q16 : H15.length + 1 ≤ H16.length := by have := P16.length_le; first | omega | (simp only [List.length_append, List.length_cons, List.length_nil] at this; omega)
              replace hc := hc.mono ((List.prefix_append _ _).trans P16)
              replace sG := sG.mono ((List.prefix_append _ _).trans P16)
              have bG := keep_get (h := H15 ++ _) hget_new P16
              rw [hZ] at sK
              obtain ⟨wKi, rfl, _⟩ := id sK
              try simp only [go_sem, Nat.reduceBEq, Nat.reduceAdd, Nat.reduceMul, Nat.reduceSub, Nat.reduceLeDiff, Nat.le_refl, implies_true, Nat.reduceLT, reduceIte, decide_true, decide_false, true_and, and_true, reduceCtorEq, Nat.mul_one, Int.reduceToNat, Int.reduceLE, Int.reduceLT, Int.reduceAdd, Int.reduceSub, Int.reduceMul, Int.cast_ofNat_Int, cast_zero_int, cast_one_int, Nat.reducePow, Nat.reduceEqDiff, Nat.reduceMod, Nat.zero_add, Nat.sub_zero, Nat.add_zero, bG, self_get bG, own_base L16, own_base0 L16, e0, P16, Try.underlying4, and_self, bne_self_eq_false, decide_true]
              refine ⟨by kernel_rfl, (c_sWeekMeans _ f4 l4 (sG.mono (by simp)).aa (by omega)).use (fun _ m => m) ?_⟩
              rintro _ H17 ⟨⟨wL, rfl, sL⟩, P17⟩
              have L17 : h.length ≤ H17.length := by have := P17.length_le; first | omega | (simp only [List.length_append, List.length_cons, List.length_nil] at this; omega)
              have Q17 : H16.length + 0 ≤ H17.length := by have := P17.length_le; first | omega | (simp only [List.length_append, List.length_cons, List.length_nil] at this; omega)
              replace hc := hc.mono P17
              replace sG := sG.mono P17
              replace sK := sK.mono P17
              replace bG := keep_get bG P17
              rw [hZ] at sL
              obtain ⟨wLi, rfl, _⟩ := id sL
              try simp only [go_sem, Nat.reduceBEq, Nat.reduceAdd, Nat.reduceMul, Nat.reduceSub, Nat.reduceLeDiff, Nat.le_refl, implies_true, Nat.reduceLT, reduceIte, decide_true, decide_false, true_and, and_true, reduceCtorEq, Nat.mul_one, Int.reduceToNat, Int.reduceLE, Int.reduceLT, Int.reduceAdd, Int.reduceSub, Int.reduceMul, Int.cast_ofNat_Int, cast_zero_int, cast_one_int, Nat.reducePow, Nat.reduceEqDiff, Nat.reduceMod, Nat.zero_add, Nat.sub_zero, Nat.add_zero, bG, self_get bG, own_base L17, own_base0 L17, e0, P17, Try.underlying4, and_self, bne_self_eq_false, decide_true]
              refine ⟨by kernel_rfl, (c_rInts _ _ Z (sK.mono (by simp)).ai (sL.mono (by simp)).ai hZm).use (fun _ m => m) ?_⟩
              rintro _ _ ⟨rfl, rfl⟩
              try simp only [go_sem, Nat.reduceBEq, Nat.reduceAdd, Nat.reduceMul, Nat.reduceSub, Nat.reduceLeDiff, Nat.le_refl, implies_true, Nat.reduceLT, reduceIte, decide_true, decide_false, true_and, and_true, reduceCtorEq, Nat.mul_one, Int.reduceToNat, Int.reduceLE, Int.reduceLT, Int.reduceAdd, Int.reduceSub, Int.reduceMul, Int.cast_ofNat_Int, cast_zero_int, cast_one_int, Nat.reducePow, Nat.reduceEqDiff, Nat.reduceMod, Nat.zero_add, Nat.sub_zero, Nat.add_zero, bG, self_get bG, own_base L17, own_base0 L17, e0, Try.underlying4, and_self, bne_self_eq_false, decide_true]
              have k7 : IntKind.i64.wrap ((l4.length : Int).tdiv 7) = ((l4.length / 7 : Nat) : Int) := by rw [Int.tdiv_eq_ediv_of_nonneg (by omega), wrap64 (by omega)]; omega
              by_cases hg : arGood f4 l4
              · rw [weekMeans, if_pos hg] at hZ; subst hZ
                try simp only [go_sem, Nat.reduceBEq, Nat.reduceAdd, Nat.reduceMul, Nat.reduceSub, Nat.reduceLeDiff, Nat.le_refl, implies_true, Nat.reduceLT, reduceIte, decide_true, decide_false, true_and, and_true, reduceCtorEq, Nat.mul_one, Int.reduceToNat, Int.reduceLE, Int.reduceLT, Int.reduceAdd, Int.reduceSub, Int.reduceMul, Int.cast_ofNat_Int, cast_zero_int, cast_one_int, Nat.reducePow, Nat.reduceEqDiff, Nat.reduceMod, Nat.zero_add, Nat.sub_zero, Nat.add_zero, bG, self_get bG, own_base L17, own_base0 L17, e0, decb hg, hBin_quo (show (7 : Int) ≠ 0 by omega), k7, means_len, Try.underlying4, and_self, bne_self_eq_false, decide_true]
                obtain ⟨nG, aG⟩ : ∃ n, AI n H17 (.slice wGi l4.length 0) l4 := by obtain ⟨w, e, s⟩ := sG.aa; cases e; exact ⟨_, s⟩
                have aK := sK.ai
                refine vLoop.count mo (l4.length / 7) (fun i e h' => e 0 = .slice b n 0 ∧ e 26 = .pointer (some ⟨H15.length, 0, none⟩) ∧ e 27 = .slice wKi (l4.length / 7) 0 ∧ e 31 = .int .i64 i ∧ H17 = h') ?_ ?_
                · try simp only [go_sem, Nat.reduceBEq, Nat.reduceAdd, Nat.reduceMul, Nat.reduceSub, Nat.reduceLeDiff, Nat.le_refl, implies_true, Nat.reduceLT, reduceIte, decide_true, decide_false, true_and, and_true, reduceCtorEq, Nat.mul_one, Int.reduceToNat, Int.reduceLE, Int.reduceLT, Int.reduceAdd, Int.reduceSub, Int.reduceMul, Int.cast_ofNat_Int, cast_zero_int, cast_one_int, Nat.reducePow, Nat.reduceEqDiff, Nat.reduceMod, Nat.zero_add, Nat.sub_zero, Nat.add_zero, e0]
                  try rfl
                  try simp
                · rintro i e _ hi ⟨e0, e26, e27, e31, rfl⟩
                  try simp only [go_sem, Nat.reduceBEq, Nat.reduceAdd, Nat.reduceMul, Nat.reduceSub, Nat.reduceLeDiff, Nat.le_refl, implies_true, Nat.reduceLT, reduceIte, decide_true, decide_false, true_and, and_true, reduceCtorEq, Nat.mul_one, Int.reduceToNat, Int.reduceLE, Int.reduceLT, Int.reduceAdd, Int.reduceSub, Int.reduceMul, Int.cast_ofNat_Int, cast_zero_int, cast_one_int, Nat.reducePow, Nat.reduceEqDiff, Nat.reduceMod, Nat.zero_add, Nat.sub_zero, Nat.add_zero, bG, self_get bG, own_base L17, own_base0 L17, e0, e26, e27, e31]
                  refine .intro (fun h1 => ?_) (fun h1 => ?_)
                  · have hlt : i < l4.length / 7 := by have := h1; simp at this; omega
                    obtain ⟨g1, g2, g3, g4⟩ := id hg
                    have h7 : 7 * i + 7 ≤ l4.length := by omega
                    have w6 : IntKind.i64.wrap (7 * (i : Int)) = ((7 * i : Nat) : Int) := by rw [wrap64 (by omega)]; rfl
                    have w7 : IntKind.i64.wrap (((7 * i : Nat) : Int) + 7) = ((7 * i + 7 : Nat) : Int) := by rw [wrap64 (by omega)]; rfl
                    obtain ⟨id, off, k, hv, _, hk0, hk1, hd1, hesz, _, _, hat⟩ := aG.at (by omega)
                    obtain rfl : wGi = some ⟨id, off, none⟩ := by simpa using hv
                    have hnn : (0 : Int) ≤ ((7 * i : Nat) : Int) ∧ (0 : Int) ≤ ((7 * i + 7 : Nat) : Int) := by omega
                    have hw : ((l4.drop (7 * i)).take (7 * i + 7 - 7 * i)) = week l4 i := by rw [Nat.add_sub_cancel_left]; rfl
                    have hs := AI.sub aG (a := 7 * i) (c := 7 * i + 7 - 7 * i) (by omega)
                    rw [hw] at hs
                    have hwb : ∀ x ∈ week l4 i, -200000 ≤ x ∧ x ≤ 200000 := fun x hx => by have := g1 x (List.mem_of_mem_drop (List.mem_of_mem_take hx)); omega
                    have hwl : (week l4 i).length = 7 := by simp [week]; omega
                    have hsum := psum_bound (l := week l4 i) (i := 7) (by omega) (fun x hx => hwb x (List.mem_of_mem_take hx))
                    rw [psum, List.take_of_length_le (by omega)] at hsum
                    try simp only [go_sem, Nat.reduceBEq, Nat.reduceAdd, Nat.reduceMul, Nat.reduceSub, Nat.reduceLeDiff, Nat.le_refl, implies_true, Nat.reduceLT, reduceIte, decide_true, decide_false, true_and, and_true, reduceCtorEq, Nat.mul_one, Int.reduceToNat, Int.reduceLE, Int.reduceLT, Int.reduceAdd, Int.reduceSub, Int.reduceMul, Int.cast_ofNat_Int, cast_zero_int, cast_one_int, Nat.reducePow, Nat.reduceEqDiff, Nat.reduceMod, Nat.zero_add, Nat.sub_zero, Nat.add_zero, onSl_more (show 0 < l4.length by omega), e0, e26, e27, e31, bG, w6, w7, hk1, hesz, hnn.1, hnn.2, h7, show 7 * i ≤ 7 * i + 7 by omega]
                    refine ⟨by kernel_rfl, (c_rSum _ (week l4 i) hs (by omega) hwb).use (fun _ m => m) ?_⟩
                    rintro _ _ ⟨rfl, rfl⟩
                    obtain ⟨id2, off2, k2, hv2, _, hk20, hk2, hd2, _, _, _, hat2⟩ := aK.at (by rw [means_len]; omega)
                    obtain rfl : wKi = some ⟨id2, off2, none⟩ := by simpa using hv2
                    have hmn : (means l4 (l4.length / 7))[i]? = some (mean l4 i) := by simp [means, hlt]
                    have hat3 : k2.cells[off2 + i]? = some (.int .i64 (mean l4 i)) := by rw [hat2 i (by rw [means_len]; omega)]; rw [List.getElem?_eq_getElem (by rw [means_len]; omega)] at hmn; rw [Option.some.inj hmn]
                    have hme : mean l4 i = (week l4 i).sum / 7 := rfl
                    have w8 : IntKind.i64.wrap (7 * mean l4 i) = 7 * mean l4 i := wrap64 (by omega)
                    have w9 : IntKind.i64.wrap (7 * mean l4 i + 7) = 7 * mean l4 i + 7 := wrap64 (by omega)
                    have k5 : IntKind.i64.wrap ((i : Int) + 1) = ((i + 1 : Nat) : Int) := by rw [wrap64 (by omega)]; rfl
                    try simp only [go_sem, Nat.reduceBEq, Nat.reduceAdd, Nat.reduceMul, Nat.reduceSub, Nat.reduceLeDiff, Nat.le_refl, implies_true, Nat.reduceLT, reduceIte, decide_true, decide_false, true_and, and_true, reduceCtorEq, Nat.mul_one, Int.reduceToNat, Int.reduceLE, Int.reduceLT, Int.reduceAdd, Int.reduceSub, Int.reduceMul, Int.cast_ofNat_Int, cast_zero_int, cast_one_int, Nat.reducePow, Nat.reduceEqDiff, Nat.reduceMod, Nat.zero_add, Nat.sub_zero, Nat.add_zero, e0, e26, e27, e31, hk2, hd2, hat3, w8, w9, k5, show (i : Int) < ((l4.length / 7 : Nat) : Int) by omega, show ¬ ((week l4 i).sum < 7 * mean l4 i) by omega, show ¬ (7 * mean l4 i + 7 ≤ (week l4 i).sum) by omega]
                    exact hlt
                  · try simp only [go_sem, Nat.reduceBEq, Nat.reduceAdd, Nat.reduceMul, Nat.reduceSub, Nat.reduceLeDiff, Nat.le_refl, implies_true, Nat.reduceLT, reduceIte, decide_true, decide_false, true_and, and_true, reduceCtorEq, Nat.mul_one, Int.reduceToNat, Int.reduceLE, Int.reduceLT, Int.reduceAdd, Int.reduceSub, Int.reduceMul, Int.cast_ofNat_Int, cast_zero_int, cast_one_int, Nat.reducePow, Nat.reduceEqDiff, Nat.reduceMod, Nat.zero_add, Nat.sub_zero, Nat.add_zero, e0, e26, e27, e31]
                    refine ⟨by kernel_rfl, (c_DrawValueOn b n hc).use (fun _ m => m) ?_⟩
                    rintro _ H18 ⟨⟨fv, lv, wV, dv, rfl, sV, hlv⟩, P18⟩
                    have L18 : h.length ≤ H18.length := by have := P18.length_le; first | omega | (simp only [List.length_append, List.length_cons, List.length_nil] at this; omega)
                    have Q18 : H17.length + 0 ≤ H18.length := by have := P18.length_le; first | omega | (simp only [List.length_append, List.length_cons, List.length_nil] at this; omega)
                    replace hc := hc.mono P18
                    obtain ⟨wVw, rfl, ⟨wVi, rfl, _⟩⟩ := id sV
                    try simp only [go_sem, Nat.reduceBEq, Nat.reduceAdd, Nat.reduceMul, Nat.reduceSub, Nat.reduceLeDiff, Nat.le_refl, implies_true, Nat.reduceLT, reduceIte, decide_true, decide_false, true_and, and_true, reduceCtorEq, Nat.mul_one, Int.reduceToNat, Int.reduceLE, Int.reduceLT, Int.reduceAdd, Int.reduceSub, Int.reduceMul, Int.cast_ofNat_Int, cast_zero_int, cast_one_int, Nat.reducePow, Nat.reduceEqDiff, Nat.reduceMod, Nat.zero_add, Nat.sub_zero, Nat.add_zero, own_base L18, own_base0 L18, e0, P18]
                    obtain ⟨vm, vg, hv⟩ := valueOn_shape fv lv dv
                    refine ⟨by kernel_rfl, (c_ValueOn _ fv lv dv (sV.mono (by simp)).aa (by omega)).use (fun _ m => m) ?_⟩
                    rintro _ H19 ⟨hr, P19⟩
                    have L19 : h.length ≤ H19.length := by have := P19.length_le; first | omega | (simp only [List.length_append, List.length_cons, List.length_nil] at this; omega)
                    have Q19 : H18.length + 1 ≤ H19.length := by have := P19.length_le; first | omega | (simp only [List.length_append, List.length_cons, List.length_nil] at this; omega)
                    replace hc := hc.mono ((List.prefix_append _ _).trans P19)
                    replace sV := sV.mono ((List.prefix_append _ _).trans P19)
                    have bV := keep_get (h := H18 ++ _) hget_new P19
                    rw [hv] at hr
                    subst hr
                    try simp only [go_sem, Nat.reduceBEq, Nat.reduceAdd, Nat.reduceMul, Nat.reduceSub, Nat.reduceLeDiff, Nat.le_refl, implies_true, Nat.reduceLT, reduceIte, decide_true, decide_false, true_and, and_true, reduceCtorEq, Nat.mul_one, Int.reduceToNat, Int.reduceLE, Int.reduceLT, Int.reduceAdd, Int.reduceSub, Int.reduceMul, Int.cast_ofNat_Int, cast_zero_int, cast_one_int, Nat.reducePow, Nat.reduceEqDiff, Nat.reduceMod, Nat.zero_add, Nat.sub_zero, Nat.add_zero, bV, self_get bV, own_base L19, own_base0 L19, e0, P19, Try.underlying4, and_self, bne_self_eq_false, decide_true]
                    refine ⟨by kernel_rfl, (c_sValueOn _ fv lv dv (sV.mono (by simp)).aa (by omega)).use (fun _ m => m) ?_⟩
                    rintro _ H20 ⟨hr, P20⟩
                    have L20 : h.length ≤ H20.length := by have := P20.length_le; first | omega | (simp only [List.length_append, List.length_cons, List.length_nil] at this; omega)
                    have Q20 : H19.length + 0 ≤ H20.length := by have := P20.length_le; first | omega | (simp only [List.length_append, List.length_cons, List.length_nil] at this; omega)
                    replace hc := hc.mono P20
                    replace sV := sV.mono P20
                    replace bV := keep_get bV P20
                    rw [hv] at hr
                    subst hr
                    try simp only [go_sem, Nat.reduceBEq, Nat.reduceAdd, Nat.reduceMul, Nat.reduceSub, Nat.reduceLeDiff, Nat.le_refl, implies_true, Nat.reduceLT, reduceIte, decide_true, decide_false, true_and, and_true, reduceCtorEq, Nat.mul_one, Int.reduceToNat, Int.reduceLE, Int.reduceLT, Int.reduceAdd, Int.reduceSub, Int.reduceMul, Int.cast_ofNat_Int, cast_zero_int, cast_one_int, Nat.reducePow, Nat.reduceEqDiff, Nat.reduceMod, Nat.zero_add, Nat.sub_zero, Nat.add_zero, bV, self_get bV, own_base L20, own_base0 L20, e0, P20, Try.underlying4, and_self, bne_self_eq_false, decide_true]
              · rw [weekMeans, if_neg hg] at hZ; subst hZ
                try simp only [go_sem, Nat.reduceBEq, Nat.reduceAdd, Nat.reduceMul, Nat.reduceSub, Nat.reduceLeDiff, Nat.le_refl, implies_true, Nat.reduceLT, reduceIte, decide_true, decide_false, true_and, and_true, reduceCtorEq, Nat.mul_one, Int.reduceToNat, Int.reduceLE, Int.reduceLT, Int.reduceAdd, Int.reduceSub, Int.reduceMul, Int.cast_ofNat_Int, cast_zero_int, cast_one_int, Nat.reducePow, Nat.reduceEqDiff, Nat.reduceMod, Nat.zero_add, Nat.sub_zero, Nat.add_zero, bG, self_get bG, own_base L17, own_base0 L17, e0, dect hg, hBin_quo (show (7 : Int) ≠ 0 by omega), k7, List.length_nil, Try.underlying4, and_self, bne_self_eq_false, decide_true]
                refine vLoop.count mo 0 (fun i e h' => e 0 = .slice b n 0 ∧ e 27 = .slice wKi 0 0 ∧ e 31 = .int .i64 0 ∧ H17 = h') ?_ ?_
                · try simp only [go_sem, Nat.reduceBEq, Nat.reduceAdd, Nat.reduceMul, Nat.reduceSub, Nat.reduceLeDiff, Nat.le_refl, implies_true, Nat.reduceLT, reduceIte, decide_true, decide_false, true_and, and_true, reduceCtorEq, Nat.mul_one, Int.reduceToNat, Int.reduceLE, Int.reduceLT, Int.reduceAdd, Int.reduceSub, Int.reduceMul, Int.cast_ofNat_Int, cast_zero_int, cast_one_int, Nat.reducePow, Nat.reduceEqDiff, Nat.reduceMod, Nat.zero_add, Nat.sub_zero, Nat.add_zero, e0]
                  try rfl
                  try simp
                · rintro i e _ hi ⟨e0, e27, e31, rfl⟩
                  try simp only [go_sem, Nat.reduceBEq, Nat.reduceAdd, Nat.reduceMul, Nat.reduceSub, Nat.reduceLeDiff, Nat.le_refl, implies_true, Nat.reduceLT, reduceIte, decide_true, decide_false, true_and, and_true, reduceCtorEq, Nat.mul_one, Int.reduceToNat, Int.reduceLE, Int.reduceLT, Int.reduceAdd, Int.reduceSub, Int.reduceMul, Int.cast_ofNat_Int, cast_zero_int, cast_one_int, Nat.reducePow, Nat.reduceEqDiff, Nat.reduceMod, Nat.zero_add, Nat.sub_zero, Nat.add_zero, bG, self_get bG, own_base L17, own_base0 L17, e0, e27, e31]
                  refine ⟨by kernel_rfl, (c_DrawValueOn b n hc).use (fun _ m => m) ?_⟩
                  rintro _ H18 ⟨⟨fv, lv, wV, dv, rfl, sV, hlv⟩, P18⟩
                  have L18 : h.length ≤ H18.length := by have := P18.length_le; first | omega | (simp only [List.length_append, List.length_cons, List.length_nil] at this; omega)
                  have Q18 : H17.length + 0 ≤ H18.length := by have := P18.length_le; first | omega | (simp only [List.length_append, List.length_cons, List.length_nil] at this; omega)
                  replace hc := hc.mono P18
                  obtain ⟨wVw, rfl, ⟨wVi, rfl, _⟩⟩ := id sV
                  try simp only [go_sem, Nat.reduceBEq, Nat.reduceAdd, Nat.reduceMul, Nat.reduceSub, Nat.reduceLeDiff, Nat.le_refl, implies_true, Nat.reduceLT, reduceIte, decide_true, decide_false, true_and, and_true, reduceCtorEq, Nat.mul_one, Int.reduceToNat, Int.reduceLE, Int.reduceLT, Int.reduceAdd, Int.reduceSub, Int.reduceMul, Int.cast_ofNat_Int, cast_zero_int, cast_one_int, Nat.reducePow, Nat.reduceEqDiff, Nat.reduceMod, Nat.zero_add, Nat.sub_zero, Nat.add_zero, own_base L18, own_base0 L18, e0, P18]
                  obtain ⟨vm, vg, hv⟩ := valueOn_shape fv lv dv
                  refine ⟨by kernel_rfl, (c_ValueOn _ fv lv dv (sV.mono (by simp)).aa (by omega)).use (fun _ m => m) ?_⟩
                  rintro _ H19 ⟨hr, P19⟩
                  have L19 : h.length ≤ H19.length := by have := P19.length_le; first | omega | (simp only [List.length_append, List.length_cons, List.length_nil] at this; omega)
                  have Q19 : H18.length + 1 ≤ H19.length := by have := P19.length_le; first | omega | (simp only [List.length_append, List.length_cons, List.length_nil] at this; omega)
                  replace hc := hc.mono ((List.prefix_append _ _).trans P19)
                  replace sV := sV.mono ((List.prefix_append _ _).trans P19)
                  have bV := keep_get (h := H18 ++ _) hget_new P19
                  rw [hv] at hr
                  subst hr
                  try simp only [go_sem, Nat.reduceBEq, Nat.reduceAdd, Nat.reduceMul, Nat.reduceSub, Nat.reduceLeDiff, Nat.le_refl, implies_true, Nat.reduceLT, reduceIte, decide_true, decide_false, true_and, and_true, reduceCtorEq, Nat.mul_one, Int.reduceToNat, Int.reduceLE, Int.reduceLT, Int.reduceAdd, Int.reduceSub, Int.reduceMul, Int.cast_ofNat_Int, cast_zero_int, cast_one_int, Nat.reducePow, Nat.reduceEqDiff, Nat.reduceMod, Nat.zero_add, Nat.sub_zero, Nat.add_zero, bV, self_get bV, own_base L19, own_base0 L19, e0, P19, Try.underlying4, and_self, bne_self_eq_false, decide_true]
                  refine ⟨by kernel_rfl, (c_sValueOn _ fv lv dv (sV.mono (by simp)).aa (by omega)).use (fun _ m => m) ?_⟩
                  rintro _ H20 ⟨hr, P20⟩
                  have L20 : h.length ≤ H20.length := by have := P20.length_le; first | omega | (simp only [List.length_append, List.length_cons, List.length_nil] at this; omega)
                  have Q20 : H19.length + 0 ≤ H20.length := by have := P20.length_le; first | omega | (simp only [List.length_append, List.length_cons, List.length_nil] at this; omega)
                  replace hc := hc.mono P20
                  replace sV := sV.mono P20
                  replace bV := keep_get bV P20
                  rw [hv] at hr
                  subst hr
                  try simp only [go_sem, Nat.reduceBEq, Nat.reduceAdd, Nat.reduceMul, Nat.reduceSub, Nat.reduceLeDiff, Nat.le_refl, implies_true, Nat.reduceLT, reduceIte, decide_true, decide_false, true_and, and_true, reduceCtorEq, Nat.mul_one, Int.reduceToNat, Int.reduceLE, Int.reduceLT, Int.reduceAdd, Int.reduceSub, Int.reduceMul, Int.cast_ofNat_Int, cast_zero_int, cast_one_int, Nat.reducePow, Nat.reduceEqDiff, Nat.reduceMod, Nat.zero_add, Nat.sub_zero, Nat.add_zero, bV, self_get bV, own_base L20, own_base0 L20, e0, P20, Try.underlying4, and_self, bne_self_eq_false, decide_true]
          · rw [if_neg hcut] at hX2 hY2; subst hX2 hY2
            try simp only [go_sem, Nat.reduceBEq, Nat.reduceAdd, Nat.reduceMul, Nat.reduceSub, Nat.reduceLeDiff, Nat.le_refl, implies_true, Nat.reduceLT, reduceIte, decide_true, decide_false, true_and, and_true, reduceCtorEq, Nat.mul_one, Int.reduceToNat, Int.reduceLE, Int.reduceLT, Int.reduceAdd, Int.reduceSub, Int.reduceMul, Int.cast_ofNat_Int, cast_zero_int, cast_one_int, Nat.reducePow, Nat.reduceEqDiff, Nat.reduceMod, Nat.zero_add, Nat.sub_zero, Nat.add_zero, bD, bE, bF, self_get bD, self_get bE, self_get bF, own_base L9, own_base0 L9, e0, dect hcut, Try.underlying4, and_self, bne_self_eq_false, decide_true]
            refine ⟨by kernel_rfl, (c_DrawJoinArchives b n hc).use (fun _ m => m) ?_⟩
            rintro _ H10 ⟨⟨f3, l3, wI, f3b, l3b, wJ, rfl, sI, hl3, sJ, hl3b⟩, P10⟩
            have L10 : h.length ≤ H10.length := by have := P10.length_le; first | omega | (simp only [List.length_append, List.length_cons, List.length_nil] at this; omega)
            have Q10 : H9.length + 0 ≤ H10.length := by have := P10.length_le; first | omega | (simp only [List.length_append, List.length_cons, List.length_nil] at this; omega)
            replace hc := hc.mono P10
            obtain ⟨wIw, rfl, ⟨wIi, rfl, _⟩⟩ := id sI
            obtain ⟨wJw, rfl, ⟨wJi, rfl, _⟩⟩ := id sJ
            try simp only [go_sem, Nat.reduceBEq, Nat.reduceAdd, Nat.reduceMul, Nat.reduceSub, Nat.reduceLeDiff, Nat.le_refl, implies_true, Nat.reduceLT, reduceIte, decide_true, decide_false, true_and, and_true, reduceCtorEq, Nat.mul_one, Int.reduceToNat, Int.reduceLE, Int.reduceLT, Int.reduceAdd, Int.reduceSub, Int.reduceMul, Int.cast_ofNat_Int, cast_zero_int, cast_one_int, Nat.reducePow, Nat.reduceEqDiff, Nat.reduceMod, Nat.zero_add, Nat.sub_zero, Nat.add_zero, own_base L10, own_base0 L10, e0, P10]
            obtain ⟨X3, hX3⟩ : ∃ X : Int, joinF f3 l3 f3b l3b = X := ⟨_, rfl⟩
            obtain ⟨Y3, hY3⟩ : ∃ Y : List Int, joinL f3 l3 f3b l3b = Y := ⟨_, rfl⟩
            have hY3m : Y3.length ≤ 1048576 := by rw [← hY3]; exact joinL_len
            refine ⟨by kernel_rfl, (c_JoinArchives _ _ f3 l3 f3b l3b (sI.mono (by simp)).aa (sJ.mono (by simp)).aa (by omega) (by omega)).use (fun _ m => m) ?_⟩
            rintro _ H11 ⟨⟨wN, rfl, sN⟩, P11⟩
            have L11 : h.length ≤ H11.length := by have := P11.length_le; first | omega | (simp only [List.length_append, List.length_cons, List.length_nil] at this; omega)
            have Q11 : H10.length + 2 ≤ H11.length := by have := P11.length_le; first | omega | (simp only [List.length_append, List.length_cons, List.length_nil] at this; omega)
            replace hc := hc.mono ((List.prefix_append _ _).trans P11)
            replace sI := sI.mono ((List.prefix_append _ _).trans P11)
            replace sJ := sJ.mono ((List.prefix_append _ _).trans P11)
            have bI := keep_get (h := H10 ++ _) (hget_lit0 (h := H10)) P11
            have bJ := keep_get (h := H10 ++ _) (hget_lit1 (h := H10)) P11
            rw [hX3, hY3] at sN
            obtain ⟨wNw, rfl, ⟨wNi, rfl, _⟩⟩ := id sN
            try simp only [go_sem, Nat.reduceBEq, Nat.reduceAdd, Nat.reduceMul, Nat.reduceSub, Nat.reduceLeDiff, Nat.le_refl, implies_true, Nat.reduceLT, reduceIte, decide_true, decide_false, true_and, and_true, reduceCtorEq, Nat.mul_one, Int.reduceToNat, Int.reduceLE, Int.reduceLT, Int.reduceAdd, Int.reduceSub, Int.reduceMul, Int.cast_ofNat_Int, cast_zero_int, cast_one_int, Nat.reducePow, Nat.reduceEqDiff, Nat.reduceMod, Nat.zero_add, Nat.sub_zero, Nat.add_zero, bI, bJ, self_get bI, self_get bJ, own_base L11, own_base0 L11, e0, P11]
            refine ⟨by kernel_rfl, (c_sJoinArchives _ _ f3 l3 f3b l3b (sI.mono (by simp)).aa (sJ.mono (by simp)).aa (by omega) (by omega)).use (fun _ m => m) ?_⟩
            rintro _ H12 ⟨⟨wO, rfl, sO⟩, P12⟩
            have L12 : h.length ≤ H12.length := by have := P12.length_le; first | omega | (simp only [List.length_append, List.length_cons, List.length_nil] at this; omega)
            have Q12 : H11.length + 1 ≤ H12.length := by have := P12.length_le; first | omega | (simp only [List.length_append, List.length_cons, List.length_nil] at this; omega)
            replace hc := hc.mono ((List.prefix_append _ _).trans P12)
            replace sI := sI.mono ((List.prefix_append _ _).trans P12)
            replace sJ := sJ.mono ((List.prefix_append _ _).trans P12)
            replace sN := sN.mono ((List.prefix_append _ _).trans P12)
            replace bI := keep_get bI ((List.prefix_append _ _).trans P12)
            replace bJ := keep_get bJ ((List.prefix_append _ _).trans P12)
            have bN := keep_get (h := H11 ++ _) hget_new P12
            rw [hX3, hY3] at sO
            obtain ⟨wOw, rfl, ⟨wOi, rfl, _⟩⟩ := id sO
            try simp only [go_sem, Nat.reduceBEq, Nat.reduceAdd, Nat.reduceMul, Nat.reduceSub, Nat.reduceLeDiff, Nat.le_refl, implies_true, Nat.reduceLT, reduceIte, decide_true, decide_false, true_and, and_true, reduceCtorEq, Nat.mul_one, Int.reduceToNat, Int.reduceLE, Int.reduceLT, Int.reduceAdd, Int.reduceSub, Int.reduceMul, Int.cast_ofNat_Int, cast_zero_int, cast_one_int, Nat.reducePow, Nat.reduceEqDiff, Nat.reduceMod, Nat.zero_add, Nat.sub_zero, Nat.add_zero, bI, bJ, bN, self_get bI, self_get bJ, self_get bN, own_base L12, own_base0 L12, e0, P12]
            refine ⟨by kernel_rfl, (c_rArchives _ _ X3 Y3 (sN.mono (by simp)).aa (sO.mono (by simp)).aa hY3m).use (fun _ m => m) ?_⟩
            rintro _ H13 ⟨rfl, P13⟩
            have L13 : h.length ≤ H13.length := by have := P13.length_le; first | omega | (simp only [List.length_append, List.length_cons, List.length_nil] at this; omega)
            have Q13 : H12.length + 1 ≤ H13.length := by have := P13.length_le; first | omega | (simp only [List.length_append, List.length_cons, List.length_nil] at this; omega)
            replace hc := hc.mono ((List.prefix_append _ _).trans P13)
            replace sI := sI.mono ((List.prefix_append _ _).trans P13)
            replace sJ := sJ.mono ((List.prefix_append _ _).trans P13)
            replace sN := sN.mono ((List.prefix_append _ _).trans P13)
            replace sO := sO.mono ((List.prefix_append _ _).trans P13)
            replace bI := keep_get bI ((List.prefix_append _ _).trans P13)
            replace bJ := keep_get bJ ((List.prefix_append _ _).trans P13)
            replace bN := keep_get bN ((List.prefix_append _ _).trans P13)
            have bO := keep_get (h := H12 ++ _) hget_new P13
            try simp only [go_sem, Nat.reduceBEq, Nat.reduceAdd, Nat.reduceMul, Nat.reduceSub, Nat.reduceLeDiff, Nat.le_refl, implies_true, Nat.reduceLT, reduceIte, decide_true, decide_false, true_and, and_true, reduceCtorEq, Nat.mul_one, Int.reduceToNat, Int.reduceLE, Int.reduceLT, Int.reduceAdd, Int.reduceSub, Int.reduceMul, Int.cast_ofNat_Int, cast_zero_int, cast_one_int, Nat.reducePow, Nat.reduceEqDiff, Nat.reduceMod, Nat.zero_add, Nat.sub_zero, Nat.add_zero, bI, bJ, bN, bO, self_get bI, self_get bJ, self_get bN, self_get bO, own_base L13, own_base0 L13, e0, P13, Try.underlying4, and_self, bne_self_eq_false, decide_true]
            by_cases hj : joinOk f3 l3 f3b l3b
            · rw [joinF, if_pos hj] at hX3; rw [joinL, if_pos hj] at hY3; subst hX3 hY3
              have k6 : IntKind.i64.wrap ((l3.length : Int) + l3b.length) = l3.length + l3b.length := wrap64 (by omega)
              try simp only [go_sem, Nat.reduceBEq, Nat.reduceAdd, Nat.reduceMul, Nat.reduceSub, Nat.reduceLeDiff, Nat.le_refl, implies_true, Nat.reduceLT, reduceIte, decide_true, decide_false, true_and, and_true, reduceCtorEq, Nat.mul_one, Int.reduceToNat, Int.reduceLE, Int.reduceLT, Int.reduceAdd, Int.reduceSub, Int.reduceMul, Int.cast_ofNat_Int, cast_zero_int, cast_one_int, Nat.reducePow, Nat.reduceEqDiff, Nat.reduceMod, Nat.zero_add, Nat.sub_zero, Nat.add_zero, bI, bJ, bN, bO, self_get bI, self_get bJ, self_get bN, self_get bO, own_base L13, own_base0 L13, e0, decb hj, List.length_append, Int.natCast_add, k6, Try.underlying4, and_self, bne_self_eq_false, decide_true]
              refine ⟨by kernel_rfl, (c_DrawWeekMeans b n hc).use (fun _ m => m) ?_⟩
              rintro _ H14 ⟨⟨f4, l4, ⟨wG, rfl, sG0⟩, hl4⟩, P14⟩
              have L14 : h.length ≤ H14.length := by have := P14.length_le; first | omega | (simp only [List.length_append, List.length_cons, List.length_nil] at this; omega)
              have Q14 : H13.length + 0 ≤ H14.length := by have := P14.length_le; first | omega | (simp only [List.length_append, List.length_cons, List.length_nil] at this; omega)
              replace hc := hc.mono P14
              have sG : FA _ _ H14 (.agg #[.int .i64 f4, wG]) f4 l4 := ⟨_, rfl, sG0⟩
              obtain ⟨wGi, rfl, _⟩ := id sG0
              try simp only [go_sem, Nat.reduceBEq, Nat.reduceAdd, Nat.reduceMul, Nat.reduceSub, Nat.reduceLeDiff, Nat.le_refl, implies_true, Nat.reduceLT, reduceIte, decide_true, decide_false, true_and, and_true, reduceCtorEq, Nat.mul_one, Int.reduceToNat, Int.reduceLE, Int.reduceLT, Int.reduceAdd, Int.reduceSub, Int.reduceMul, Int.cast_ofNat_Int, cast_zero_int, cast_one_int, Nat.reducePow, Nat.reduceEqDiff, Nat.reduceMod, Nat.zero_add, Nat.sub_zero, Nat.add_zero, own_base L14, own_base0 L14, e0, P14]
              obtain ⟨Z, hZ⟩ : ∃ Z : List Int, weekMeans f4 l4 = Z := ⟨_, rfl⟩
              have hZm : Z.length ≤ 1048576 := by rw [← hZ]; exact weekMeans_len f4 (by omega)
              refine ⟨by kernel_rfl, (c_WeekMeans _ f4 l4 (sG.mono (by simp)).aa (by omega)).use (fun _ m => m) ?_⟩
              rintro _ H15 ⟨⟨wK, rfl, sK⟩, P15⟩
              have L15 : h.length ≤ H15.length := by have := P15.length_le; first | omega | (simp only [List.length_append, List.length_cons, List.length_nil] at this; omega)
              have Q15 : H14.length + 1 ≤ H15.length := by have := P15.length_le; first | omega | (simp only [List.length_append, List.length_cons, List.length_nil] at this; omega)
              replace hc := hc.mono ((List.prefix_append _ _).trans P15)
              replace sG := sG.mono ((List.prefix_append _ _).trans P15)
              have bG := keep_get (h := H14 ++ _) hget_new P15
              rw [hZ] at sK
              obtain ⟨wKi, rfl, _⟩ := id sK
              try simp only [go_sem, Nat.reduceBEq, Nat.reduceAdd, Nat.reduceMul, Nat.reduceSub, Nat.reduceLeDiff, Nat.le_refl, implies_true, Nat.reduceLT, reduceIte, decide_true, decide_false, true_and, and_true, reduceCtorEq, Nat.mul_one, Int.reduceToNat, Int.reduceLE, Int.reduceLT, Int.reduceAdd, Int.reduceSub, Int.reduceMul, Int.cast_ofNat_Int, cast_zero_int, cast_one_int, Nat.reducePow, Nat.reduceEqDiff, Nat.reduceMod, Nat.zero_add, Nat.sub_zero, Nat.add_zero, bG, self_get bG, own_base L15, own_base0 L15, e0, P15, Try.underlying4, and_self, bne_self_eq_false, decide_true]
              refine ⟨by kernel_rfl, (c_sWeekMeans _ f4 l4 (sG.mono (by simp)).aa (by omega)).use (fun _ m => m) ?_⟩
              rintro _ H16 ⟨⟨wL, rfl, sL⟩, P16⟩
              have L16 : h.length ≤ H16.length := by have := P16.length_le; first | omega | (simp only [List.length_append, List.length_cons, List.length_nil] at this; omega)
              have Q16 : H15.length + 0 ≤ H16.length := by have := P16.length_le; first | omega | (simp only [List.length_append, List.length_cons, List.length_nil] at this; omega)
              replace hc := hc.mono P16
              replace sG := sG.mono P16
              replace sK := sK.mono P16
              replace bG := keep_get bG P16
              rw [hZ] at sL
              obtain ⟨wLi, rfl, _⟩ := id sL
              try simp only [go_sem, Nat.reduceBEq, Nat.reduceAdd, Nat.reduceMul, Nat.reduceSub, Nat.reduceLeDiff, Nat.le_refl, implies_true, Nat.reduceLT, reduceIte, decide_true, decide_false, true_and, and_true, reduceCtorEq, Nat.mul_one, Int.reduceToNat, Int.reduceLE, Int.reduceLT, Int.reduceAdd, Int.reduceSub, Int.reduceMul, Int.cast_ofNat_Int, cast_zero_int, cast_one_int, Nat.reducePow, Nat.reduceEqDiff, Nat.reduceMod, Nat.zero_add, Nat.sub_zero, Nat.add_zero, bG, self_get bG, own_base L16, own_base0 L16, e0, P16, Try.underlying4, and_self, bne_self_eq_false, decide_true]
              refine ⟨by kernel_rfl, (c_rInts _ _ Z (sK.mono (by simp)).ai (sL.mono (by simp)).ai hZm).use (fun _ m => m) ?_⟩
              rintro _ _ ⟨rfl, rfl⟩
              try simp only [go_sem, Nat.reduceBEq, Nat.reduceAdd, Nat.reduceMul, Nat.reduceSub, Nat.reduceLeDiff, Nat.le_refl, implies_true, Nat.reduceLT, reduceIte, decide_true, decide_false, true_and, and_true, reduceCtorEq, Nat.mul_one, Int.reduceToNat, Int.reduceLE, Int.reduceLT, Int.reduceAdd, Int.reduceSub, Int.reduceMul, Int.cast_ofNat_Int, cast_zero_int, cast_one_int, Nat.reducePow, Nat.reduceEqDiff, Nat.reduceMod, Nat.zero_add, Nat.sub_zero, Nat.add_zero, bG, self_get bG, own_base L16, own_base0 L16, e0, Try.underlying4, and_self, bne_self_eq_false, decide_true]
              have k7 : IntKind.i64.wrap ((l4.length : Int).tdiv 7) = ((l4.length / 7 : Nat) : Int) := by rw [Int.tdiv_eq_ediv_of_nonneg (by omega), wrap64 (by omega)]; omega
              by_cases hg : arGood f4 l4
              · rw [weekMeans, if_pos hg] at hZ; subst hZ
                try simp only [go_sem, Nat.reduceBEq, Nat.reduceAdd, Nat.reduceMul, Nat.reduceSub, Nat.reduceLeDiff, Nat.le_refl, implies_true, Nat.reduceLT, reduceIte, decide_true, decide_false, true_and, and_true, reduceCtorEq, Nat.mul_one, Int.reduceToNat, Int.reduceLE, Int.reduceLT, Int.reduceAdd, Int.reduceSub, Int.reduceMul, Int.cast_ofNat_Int, cast_zero_int, cast_one_int, Nat.reducePow, Nat.reduceEqDiff, Nat.reduceMod, Nat.zero_add, Nat.sub_zero, Nat.add_zero, bG, self_get bG, own_base L16, own_base0 L16, e0, decb hg, hBin_quo (show (7 : Int) ≠ 0 by omega), k7, means_len, Try.underlying4, and_self, bne_self_eq_false, decide_true]
                obtain ⟨nG, aG⟩ : ∃ n, AI n H16 (.slice wGi l4.length 0) l4 := by obtain ⟨w, e, s⟩ := sG.aa; cases e; exact ⟨_, s⟩
                have aK := sK.ai
                refine vLoop.count mo (l4.length / 7) (fun i e h' => e 0 = .slice b n 0 ∧ e 26 = .pointer (some ⟨H14.length, 0, none⟩) ∧ e 27 = .slice wKi (l4.length / 7) 0 ∧ e 31 = .int .i64 i ∧ H16 = h') ?_ ?_
                · try simp only [go_sem, Nat.reduceBEq, Nat.reduceAdd, Nat.reduceMul, Nat.reduceSub, Nat.reduceLeDiff, Nat.le_refl, implies_true, Nat.reduceLT, reduceIte, decide_true, decide_false, true_and, and_true, reduceCtorEq, Nat.mul_one, Int.reduceToNat, Int.reduceLE, Int.reduceLT, Int.reduceAdd, Int.reduceSub, Int.reduceMul, Int.cast_ofNat_Int, cast_zero_int, cast_one_int, Nat.reducePow, Nat.reduceEqDiff, Nat.reduceMod, Nat.zero_add, Nat.sub_zero, Nat.add_zero, e0]
                  try rfl
                  try simp
                · rintro i e _ hi ⟨e0, e26, e27, e31, rfl⟩
                  try simp only [go_sem, Nat.reduceBEq, Nat.reduceAdd, Nat.reduceMul, Nat.reduceSub, Nat.reduceLeDiff, Nat.le_refl, implies_true, Nat.reduceLT, reduceIte, decide_true, decide_false, true_and, and_true, reduceCtorEq, Nat.mul_one, Int.reduceToNat, Int.reduceLE, Int.reduceLT, Int.reduceAdd, Int.reduceSub, Int.reduceMul, Int.cast_ofNat_Int, cast_zero_int, cast_one_int, Nat.reducePow, Nat.reduceEqDiff, Nat.reduceMod, Nat.zero_add, Nat.sub_zero, Nat.add_zero, bG, self_get bG, own_base L16, own_base0 L16, e0, e26, e27, e31]
                  refine .intro (fun h1 => ?_) (fun h1 => ?_)
                  · have hlt : i < l4.length / 7 := by have := h1; simp at this; omega
                    obtain ⟨g1, g2, g3, g4⟩ := id hg
                    have h7 : 7 * i + 7 ≤ l4.length := by omega
                    have w6 : IntKind.i64.wrap (7 * (i : Int)) = ((7 * i : Nat) : Int) := by rw [wrap64 (by omega)]; rfl
                    have w7 : IntKind.i64.wrap (((7 * i : Nat) : Int) + 7) = ((7 * i + 7 : Nat) : Int) := by rw [wrap64 (by omega)]; rfl
                    obtain ⟨id, off, k, hv, _, hk0, hk1, hd1, hesz, _, _, hat⟩ := aG.at (by omega)
                    obtain rfl : wGi = some ⟨id, off, none⟩ := by simpa using hv
                    have hnn : (0 : Int) ≤ ((7 * i : Nat) : Int) ∧ (0 : Int) ≤ ((7 * i + 7 : Nat) : Int) := by omega
                    have hw : ((l4.drop (7 * i)).take (7 * i + 7 - 7 * i)) = week l4 i := by rw [Nat.add_sub_cancel_left]; rfl
                    have hs := AI.sub aG (a := 7 * i) (c := 7 * i + 7 - 7 * i) (by omega)
                    rw [hw] at hs
                    have hwb : ∀ x ∈ week l4 i, -200000 ≤ x ∧ x ≤ 200000 := fun x hx => by have := g1 x (List.mem_of_mem_drop (List.mem_of_mem_take hx)); omega
                    have hwl : (week l4 i).length = 7 := by simp [week]; omega
                    have hsum := psum_bound (l := week l4 i) (i := 7) (by omega) (fun x hx => hwb x (List.mem_of_mem_take hx))
                    rw [psum, List.take_of_length_le (by omega)] at hsum
                    try simp only [go_sem, Nat.reduceBEq, Nat.reduceAdd, Nat.reduceMul, Nat.reduceSub, Nat.reduceLeDiff, Nat.le_refl, implies_true, Nat.reduceLT, reduceIte, decide_true, decide_false, true_and, and_true, reduceCtorEq, Nat.mul_one, Int.reduceToNat, Int.reduceLE, Int.reduceLT, Int.reduceAdd, Int.reduceSub, Int.reduceMul, Int.cast_ofNat_Int, cast_zero_int, cast_one_int, Nat.reducePow, Nat.reduceEqDiff, Nat.reduceMod, Nat.zero_add, Nat.sub_zero, Nat.add_zero, onSl_more (show 0 < l4.length by omega), e0, e26, e27, e31, bG, w6, w7, hk1, hesz, hnn.1, hnn.2, h7, show 7 * i ≤ 7 * i + 7 by omega]
                    refine ⟨by kernel_rfl, (c_rSum _ (week l4 i) hs (by omega) hwb).use (fun _ m => m) ?_⟩
                    rintro _ _ ⟨rfl, rfl⟩
                    obtain ⟨id2, off2, k2, hv2, _, hk20, hk2, hd2, _, _, _, hat2⟩ := aK.at (by rw [means_len]; omega)
                    obtain rfl : wKi = some ⟨id2, off2, none⟩ := by simpa using hv2
                    have hmn : (means l4 (l4.length / 7))[i]? = some (mean l4 i) := by simp [means, hlt]
                    have hat3 : k2.cells[off2 + i]? = some (.int .i64 (mean l4 i)) := by rw [hat2 i (by rw [means_len]; omega)]; rw [List.getElem?_eq_getElem (by rw [means_len]; omega)] at hmn; rw [Option.some.inj hmn]
                    have hme : mean l4 i = (week l4 i).sum / 7 := rfl
                    have w8 : IntKind.i64.wrap (7 * mean l4 i) = 7 * mean l4 i := wrap64 (by omega)
                    have w9 : IntKind.i64.wrap (7 * mean l4 i + 7) = 7 * mean l4 i + 7 := wrap64 (by omega)
                    have k5 : IntKind.i64.wrap ((i : Int) + 1) = ((i + 1 : Nat) : Int) := by rw [wrap64 (by omega)]; rfl
                    try simp only [go_sem, Nat.reduceBEq, Nat.reduceAdd, Nat.reduceMul, Nat.reduceSub, Nat.reduceLeDiff, Nat.le_refl, implies_true, Nat.reduceLT, reduceIte, decide_true, decide_false, true_and, and_true, reduceCtorEq, Nat.mul_one, Int.reduceToNat, Int.reduceLE, Int.reduceLT, Int.reduceAdd, Int.reduceSub, Int.reduceMul, Int.cast_ofNat_Int, cast_zero_int, cast_one_int, Nat.reducePow, Nat.reduceEqDiff, Nat.reduceMod, Nat.zero_add, Nat.sub_zero, Nat.add_zero, e0, e26, e27, e31, hk2, hd2, hat3, w8, w9, k5, show (i : Int) < ((l4.length / 7 : Nat) : Int) by omega, show ¬ ((week l4 i).sum < 7 * mean l4 i) by omega, show ¬ (7 * mean l4 i + 7 ≤ (week l4 i).sum) by omega]
                    exact hlt
                  · try simp only [go_sem, Nat.reduceBEq, Nat.reduceAdd, Nat.reduceMul, Nat.reduceSub, Nat.reduceLeDiff, Nat.le_refl, implies_true, Nat.reduceLT, reduceIte, decide_true, decide_false, true_and, and_true, reduceCtorEq, Nat.mul_one, Int.reduceToNat, Int.reduceLE, Int.reduceLT, Int.reduceAdd, Int.reduceSub, Int.reduceMul, Int.cast_ofNat_Int, cast_zero_int, cast_one_int, Nat.reducePow, Nat.reduceEqDiff, Nat.reduceMod, Nat.zero_add, Nat.sub_zero, Nat.add_zero, e0, e26, e27, e31]
                    refine ⟨by kernel_rfl, (c_DrawValueOn b n hc).use (fun _ m => m) ?_⟩
                    rintro _ H17 ⟨⟨fv, lv, wV, dv, rfl, sV, hlv⟩, P17⟩
                    have L17 : h.length ≤ H17.length := by have := P17.length_le; first | omega | (simp only [List.length_append, List.length_cons, List.length_nil] at this; omega)
                    have Q17 : H16.length + 0 ≤ H17.length := by have := P17.length_le; first | omega | (simp only [List.length_append, List.length_cons, List.length_nil] at this; omega)
                    replace hc := hc.mono P17
                    obtain ⟨wVw, rfl, ⟨wVi, rfl, _⟩⟩ := id sV
                    try simp only [go_sem, Nat.reduceBEq, Nat.reduceAdd, Nat.reduceMul, Nat.reduceSub, Nat.reduceLeDiff, Nat.le_refl, implies_true, Nat.reduceLT, reduceIte, decide_true, decide_false, true_and, and_true, reduceCtorEq, Nat.mul_one, Int.reduceToNat, Int.reduceLE, Int.reduceLT, Int.reduceAdd, Int.reduceSub, Int.reduceMul, Int.cast_ofNat_Int, cast_zero_int, cast_one_int, Nat.reducePow, Nat.reduceEqDiff, Nat.reduceMod, Nat.zero_add, Nat.sub_zero, Nat.add_zero, own_base L17, own_base0 L17, e0, P17]
                    obtain ⟨vm, vg, hv⟩ := valueOn_shape fv lv dv
                    refine ⟨by kernel_rfl, (c_ValueOn _ fv lv dv (sV.mono (by simp)).aa (by omega)).use (fun _ m => m) ?_⟩
                    rintro _ H18 ⟨hr, P18⟩
                    have L18 : h.length ≤ H18.length := by have := P18.length_le; first | omega | (simp only [List.length_append, List.length_cons, List.length_nil] at this; omega)
                    have Q18 : H17.length + 1 ≤ H18.length := by have := P18.length_le; first | omega | (simp only [List.length_append, List.length_cons, List.length_nil] at this; omega)
                    replace hc := hc.mono ((List.prefix_append _ _).trans P18)
                    replace sV := sV.mono ((List.prefix_append _ _).trans P18)
                    have bV := keep_get (h := H17 ++ _) hget_new P18
                    rw [hv] at hr
                    subst hr
                    try simp only [go_sem, Nat.reduceBEq, Nat.reduceAdd, Nat.reduceMul, Nat.reduceSub, Nat.reduceLeDiff, Nat.le_refl, implies_true, Nat.reduceLT, reduceIte, decide_true, decide_false, true_and, and_true, reduceCtorEq, Nat.mul_one, Int.reduceToNat, Int.reduceLE, Int.reduceLT, Int.reduceAdd, Int.reduceSub, Int.reduceMul, Int.cast_ofNat_Int, cast_zero_int, cast_one_int, Nat.reducePow, Nat.reduceEqDiff, Nat.reduceMod, Nat.zero_add, Nat.sub_zero, Nat.add_zero, bV, self_get bV, own_base L18, own_base0 L18, e0, P18, Try.underlying4, and_self, bne_self_eq_false, decide_true]
                    refine ⟨by kernel_rfl, (c_sValueOn _ fv lv dv (sV.mono (by simp)).aa (by omega)).use (fun _ m => m) ?_⟩
                    rintro _ H19 ⟨hr, P19⟩
                    have L19 : h.length ≤ H19.length := by have := P19.length_le; first | omega | (simp only [List.length_append, List.length_cons, List.length_nil] at this; omega)
                    have Q19 : H18.length + 0 ≤ H19.length := by have := P19.length_le; first | omega | (simp only [List.length_append, List.length_cons, List.length_nil] at this; omega)
                    replace hc := hc.mono P19
                    replace sV := sV.mono P19
                    replace bV := keep_get bV P19
                    rw [hv] at hr
                    subst hr
                    try simp only [go_sem, Nat.reduceBEq, Nat.reduceAdd, Nat.reduceMul, Nat.reduceSub, Nat.reduceLeDiff, Nat.le_refl, implies_true, Nat.reduceLT, reduceIte, decide_true, decide_false, true_and, and_true, reduceCtorEq, Nat.mul_one, Int.reduceToNat, Int.reduceLE, Int.reduceLT, Int.reduceAdd, Int.reduceSub, Int.reduceMul, Int.cast_ofNat_Int, cast_zero_int, cast_one_int, Nat.reducePow, Nat.reduceEqDiff, Nat.reduceMod, Nat.zero_add, Nat.sub_zero, Nat.add_zero, bV, self_get bV, own_base L19, own_base0 L19, e0, P19, Try.underlying4, and_self, bne_self_eq_false, decide_true]
              · rw [weekMeans, if_neg hg] at hZ; subst hZ
                try simp only [go_sem, Nat.reduceBEq, Nat.reduceAdd, Nat.reduceMul, Nat.reduceSub, Nat.reduceLeDiff, Nat.le_refl, implies_true, Nat.reduceLT, reduceIte, decide_true, decide_false, true_and, and_true, reduceCtorEq, Nat.mul_one, Int.reduceToNat, Int.reduceLE, Int.reduceLT, Int.reduceAdd, Int.reduceSub, Int.reduceMul, Int.cast_ofNat_Int, cast_zero_int, cast_one_int, Nat.reducePow, Nat.reduceEqDiff, Nat.reduceMod, Nat.zero_add, Nat.sub_zero, Nat.add_zero, bG, self_get bG, own_base L16, own_base0 L16, e0, dect hg, hBin_quo (show (7 : Int) ≠ 0 by omega), k7, List.length_nil, Try.underlying4, and_self, bne_self_eq_false, decide_true]
                refine vLoop.count mo 0 (fun i e h' => e 0 = .slice b n 0 ∧ e 27 = .slice wKi 0 0 ∧ e 31 = .int .i64 0 ∧ H16 = h') ?_ ?_
                · try simp only [go_sem, Nat.reduceBEq, Nat.reduceAdd, Nat.reduceMul, Nat.reduceSub, Nat.reduceLeDiff, Nat.le_refl, implies_true, Nat.reduceLT, reduceIte, decide_true, decide_false, true_and, and_true, reduceCtorEq, Nat.mul_one, Int.reduceToNat, Int.reduceLE, Int.reduceLT, Int.reduceAdd, Int.reduceSub, Int.reduceMul, Int.cast_ofNat_Int, cast_zero_int, cast_one_int, Nat.reducePow, Nat.reduceEqDiff, Nat.reduceMod, Nat.zero_add, Nat.sub_zero, Nat.add_zero, e0]
                  try rfl
                  try simp
                · rintro i e _ hi ⟨e0, e27, e31, rfl⟩
                  try simp only [go_sem, Nat.reduceBEq, Nat.reduceAdd, Nat.reduceMul, Nat.reduceSub, Nat.reduceLeDiff, Nat.le_refl, implies_true, Nat.reduceLT, reduceIte, decide_true, decide_false, true_and, and_true, reduceCtorEq, Nat.mul_one, Int.reduceToNat, Int.reduceLE, Int.reduceLT, Int.reduceAdd, Int.reduceSub, Int.reduceMul, Int.cast_ofNat_Int, cast_zero_int, cast_one_int, Nat.reducePow, Nat.reduceEqDiff, Nat.reduceMod, Nat.zero_add, Nat.sub_zero, Nat.add_zero, bG, self_get bG, own_base L16, own_base0 L16, e0, e27, e31]
                  refine ⟨by kernel_rfl, (c_DrawValueOn b n hc).use (fun _ m => m) ?_⟩
                  rintro _ H17 ⟨⟨fv, lv, wV, dv, rfl, sV, hlv⟩, P17⟩
                  have L17 : h.length ≤ H17.length := by have := P17.length_le; first | omega | (simp only [List.length_append, List.length_cons, List.length_nil] at this; omega)
                  have Q17 : H16.length + 0 ≤ H17.length := by have := P17.length_le; first | omega | (simp only [List.length_append, List.length_cons, List.length_nil] at this; omega)
                  replace hc := hc.mono P17
                  obtain ⟨wVw, rfl, ⟨wVi, rfl, _⟩⟩ := id sV
                  try simp only [go_sem, Nat.reduceBEq, Nat.reduceAdd, Nat.reduceMul, Nat.reduceSub, Nat.reduceLeDiff, Nat.le_refl, implies_true, Nat.reduceLT, reduceIte, decide_true, decide_false, true_and, and_true, reduceCtorEq, Nat.mul_one, Int.reduceToNat, Int.reduceLE, Int.reduceLT, Int.reduceAdd, Int.reduceSub, Int.reduceMul, Int.cast_ofNat_Int, cast_zero_int, cast_one_int, Nat.reducePow, Nat.reduceEqDiff, Nat.reduceMod, Nat.zero_add, Nat.sub_zero, Nat.add_zero, own_base L17, own_base0 L17, e0, P17]
                  obtain ⟨vm, vg, hv⟩ := valueOn_shape fv lv dv
                  refine ⟨by kernel_rfl, (c_ValueOn _ fv lv dv (sV.mono (by simp)).aa (by omega)).use (fun _ m => m) ?_⟩
                  rintro _ H18 ⟨hr, P18⟩
                  have L18 : h.length ≤ H18.length := by have := P18.length_le; first | omega | (simp only [List.length_append, List.length_cons, List.length_nil] at this; omega)
                  have Q18 : H17.length + 1 ≤ H18.length := by have := P18.length_le; first | omega | (simp only [List.length_append, List.length_cons, List.length_nil] at this; omega)
                  replace hc := hc.mono ((List.prefix_append _ _).trans P18)
                  replace sV := sV.mono ((List.prefix_append _ _).trans P18)
                  have bV := keep_get (h := H17 ++ _) hget_new P18
                  rw [hv] at hr
                  subst hr
                  try simp only [go_sem, Nat.reduceBEq, Nat.reduceAdd, Nat.reduceMul, Nat.reduceSub, Nat.reduceLeDiff, Nat.le_refl, implies_true, Nat.reduceLT, reduceIte, decide_true, decide_false, true_and, and_true, reduceCtorEq, Nat.mul_one, Int.reduceToNat, Int.reduceLE, Int.reduceLT, Int.reduceAdd, Int.reduceSub, Int.reduceMul, Int.cast_ofNat_Int, cast_zero_int, cast_one_int, Nat.reducePow, Nat.reduceEqDiff, Nat.reduceMod, Nat.zero_add, Nat.sub_zero, Nat.add_zero, bV, self_get bV, own_base L18, own_base0 L18, e0, P18, Try.underlying4, and_self, bne_self_eq_false, decide_true]
                  refine ⟨by kernel_rfl, (c_sValueOn _ fv lv dv (sV.mono (by simp)).aa (by omega)).use (fun _ m => m) ?_⟩
                  rintro _ H19 ⟨hr, P19⟩
                  have L19 : h.length ≤ H19.length := by have := P19.length_le; first | omega | (simp only [List.length_append, List.length_cons, List.length_nil] at this; omega)
                  have Q19 : H18.length + 0 ≤ H19.length := by have := P19.length_le; first | omega | (simp only [List.length_append, List.length_cons, List.length_nil] at this; omega)
                  replace hc := hc.mono P19
                  replace sV := sV.mono P19
                  replace bV := keep_get bV P19
                  rw [hv] at hr
                  subst hr
                  try simp only [go_sem, Nat.reduceBEq, Nat.reduceAdd, Nat.reduceMul, Nat.reduceSub, Nat.reduceLeDiff, Nat.le_refl, implies_true, Nat.reduceLT, reduceIte, decide_true, decide_false, true_and, and_true, reduceCtorEq, Nat.mul_one, Int.reduceToNat, Int.reduceLE, Int.reduceLT, Int.reduceAdd, Int.reduceSub, Int.reduceMul, Int.cast_ofNat_Int, cast_zero_int, cast_one_int, Nat.reducePow, Nat.reduceEqDiff, Nat.reduceMod, Nat.zero_add, Nat.sub_zero, Nat.add_zero, bV, self_get bV, own_base L19, own_base0 L19, e0, P19, Try.underlying4, and_self, bne_self_eq_false, decide_true]
            · rw [joinF, if_neg hj] at hX3; rw [joinL, if_neg hj] at hY3; subst hX3 hY3
              try simp only [go_sem, Nat.reduceBEq, Nat.reduceAdd, Nat.reduceMul, Nat.reduceSub, Nat.reduceLeDiff, Nat.le_refl, implies_true, Nat.reduceLT, reduceIte, decide_true, decide_false, true_and, and_true, reduceCtorEq, Nat.mul_one, Int.reduceToNat, Int.reduceLE, Int.reduceLT, Int.reduceAdd, Int.reduceSub, Int.reduceMul, Int.cast_ofNat_Int, cast_zero_int, cast_one_int, Nat.reducePow, Nat.reduceEqDiff, Nat.reduceMod, Nat.zero_add, Nat.sub_zero, Nat.add_zero, bI, bJ, bN, bO, self_get bI, self_get bJ, self_get bN, self_get bO, own_base L13, own_base0 L13, e0, dect hj, Try.underlying4, and_self, bne_self_eq_false, decide_true]
              refine ⟨by kernel_rfl, (c_DrawWeekMeans b n hc).use (fun _ m => m) ?_⟩
              rintro _ H14 ⟨⟨f4, l4, ⟨wG, rfl, sG0⟩, hl4⟩, P14⟩
              have L14 : h.length ≤ H14.length := by have := P14.length_le; first | omega | (simp only [List.length_append, List.length_cons, List.length_nil] at this; omega)
              have Q14 : H13.length + 0 ≤ H14.length := by have := P14.length_le; first | omega | (simp only [List.length_append, List.length_cons, List.length_nil] at this; omega)
              replace hc := hc.mono P14
              have sG : FA _ _ H14 (.agg #[.int .i64 f4, wG]) f4 l4 := ⟨_, rfl, sG0⟩
              obtain ⟨wGi, rfl, _⟩ := id sG0
              try simp only [go_sem, Nat.reduceBEq, Nat.reduceAdd, Nat.reduceMul, Nat.reduceSub, Nat.reduceLeDiff, Nat.le_refl, implies_true, Nat.reduceLT, reduceIte, decide_true, decide_false, true_and, and_true, reduceCtorEq, Nat.mul_one, Int.reduceToNat, Int.reduceLE, Int.reduceLT, Int.reduceAdd, Int.reduceSub, Int.reduceMul, Int.cast_ofNat_Int, cast_zero_int, cast_one_int, Nat.reducePow, Nat.reduceEqDiff, Nat.reduceMod, Nat.zero_add, Nat.sub_zero, Nat.add_zero, own_base L14, own_base0 L14, e0, P14]
              obtain ⟨Z, hZ⟩ : ∃ Z : List Int, weekMeans f4 l4 = Z := ⟨_, rfl⟩
              have hZm : Z.length ≤ 1048576 := by rw [← hZ]; exact weekMeans_len f4 (by omega)
              refine ⟨by kernel_rfl, (c_WeekMeans _ f4 l4 (sG.mono (by simp)).aa (by omega)).use (fun _ m => m) ?_⟩
              rintro _ H15 ⟨⟨wK, rfl, sK⟩, P15⟩
              have L15 : h.length ≤ H15.length := by have := P15.length_le; first | omega | (simp only [List.length_append, List.length_cons, List.length_nil] at this; omega)
              have Q15 : H14.length + 1 ≤ H15.length := by have := P15.length_le; first | omega | (simp only [List.length_append, List.length_cons, List.length_nil] at this; omega)
              replace hc := hc.mono ((List.prefix_append _ _).trans P15)
              replace sG := sG.mono ((List.prefix_append _ _).trans P15)
              have bG := keep_get (h := H14 ++ _) hget_new P15
              rw [hZ] at sK
              obtain ⟨wKi, rfl, _⟩ := id sK
              try simp only [go_sem, Nat.reduceBEq, Nat.reduceAdd, Nat.reduceMul, Nat.reduceSub, Nat.reduceLeDiff, Nat.le_refl, implies_true, Nat.reduceLT, reduceIte, decide_true, decide_false, true_and, and_true, reduceCtorEq, Nat.mul_one, Int.reduceToNat, Int.reduceLE, Int.reduceLT, Int.reduceAdd, Int.reduceSub, Int.reduceMul, Int.cast_ofNat_Int, cast_zero_int, cast_one_int, Nat.reducePow, Nat.reduceEqDiff, Nat.reduceMod, Nat.zero_add, Nat.sub_zero, Nat.add_zero, bG, self_get bG, own_base L15, own_base0 L15, e0, P15, Try.underlying4, and_self, bne_self_eq_false, decide_true]
              refine ⟨by kernel_rfl, (c_sWeekMeans _ f4 l4 (sG.mono (by simp)).aa (by omega)).use (fun _ m => m) ?_⟩
              rintro _ H16 ⟨⟨wL, rfl, sL⟩, P16⟩
              have L16 : h.length ≤ H16.length := by have := P16.length_le; first | omega | (simp only [List.length_append, List.length_cons, List.length_nil] at this; omega)
              have Q16 : H15.length + 0 ≤ H16.length := by have := P16.length_le; first | omega | (simp only [List.length_append, List.length_cons, List.length_nil] at this; omega)
              replace hc := hc.mono P16
              replace sG := sG.mono P16
              replace sK := sK.mono P16
              replace bG := keep_get bG P16
              rw [hZ] at sL
              obtain ⟨wLi, rfl, _⟩ := id sL
              try simp only [go_sem, Nat.reduceBEq, Nat.reduceAdd, Nat.reduceMul, Nat.reduceSub, Nat.reduceLeDiff, Nat.le_refl, implies_true, Nat.reduceLT, reduceIte, decide_true, decide_false, true_and, and_true, reduceCtorEq, Nat.mul_one, Int.reduceToNat, Int.reduceLE, Int.reduceLT, Int.reduceAdd, Int.reduceSub, Int.reduceMul, Int.cast_ofNat_Int, cast_zero_int, cast_one_int, Nat.reducePow, Nat.reduceEqDiff, Nat.reduceMod, Nat.zero_add, Nat.sub_zero, Nat.add_zero, bG, self_get bG, own_base L16, own_base0 L16, e0, P16, Try.underlying4, and_self, bne_self_eq_false, decide_true]
              refine ⟨by kernel_rfl, (c_rInts _ _ Z (sK.mono (by simp)).ai (sL.mono (by simp)).ai hZm).use (fun _ m => m) ?_⟩
              rintro _ _ ⟨rfl, rfl⟩
              try simp only [go_sem, Nat.reduceBEq, Nat.reduceAdd, Nat.reduceMul, Nat.reduceSub, Nat.reduceLeDiff, Nat.le_refl, implies_true, Nat.reduceLT, reduceIte, decide_true, decide_false, true_and, and_true, reduceCtorEq, Nat.mul_one, Int.reduceToNat, Int.reduceLE, Int.reduceLT, Int.reduceAdd, Int.reduceSub, Int.reduceMul, Int.cast_ofNat_Int, cast_zero_int, cast_one_int, Nat.reducePow, Nat.reduceEqDiff, Nat.reduceMod, Nat.zero_add, Nat.sub_zero, Nat.add_zero, bG, self_get bG, own_base L16, own_base0 L16, e0, Try.underlying4, and_self, bne_self_eq_false, decide_true]
              have k7 : IntKind.i64.wrap ((l4.length : Int).tdiv 7) = ((l4.length / 7 : Nat) : Int) := by rw [Int.tdiv_eq_ediv_of_nonneg (by omega), wrap64 (by omega)]; omega
              by_cases hg : arGood f4 l4
              · rw [weekMeans, if_pos hg] at hZ; subst hZ
                try simp only [go_sem, Nat.reduceBEq, Nat.reduceAdd, Nat.reduceMul, Nat.reduceSub, Nat.reduceLeDiff, Nat.le_refl, implies_true, Nat.reduceLT, reduceIte, decide_true, decide_false, true_and, and_true, reduceCtorEq, Nat.mul_one, Int.reduceToNat, Int.reduceLE, Int.reduceLT, Int.reduceAdd, Int.reduceSub, Int.reduceMul, Int.cast_ofNat_Int, cast_zero_int, cast_one_int, Nat.reducePow, Nat.reduceEqDiff, Nat.reduceMod, Nat.zero_add, Nat.sub_zero, Nat.add_zero, bG, self_get bG, own_base L16, own_base0 L16, e0, decb hg, hBin_quo (show (7 : Int) ≠ 0 by omega), k7, means_len, Try.underlying4, and_self, bne_self_eq_false, decide_true]
                obtain ⟨nG, aG⟩ : ∃ n, AI n H16 (.slice wGi l4.length 0) l4 := by obtain ⟨w, e, s⟩ := sG.aa; cases e; exact ⟨_, s⟩
                have aK := sK.ai
                refine vLoop.count mo (l4.length / 7) (fun i e h' => e 0 = .slice b n 0 ∧ e 26 = .pointer (some ⟨H14.length, 0, none⟩) ∧ e 27 = .slice wKi (l4.length / 7) 0 ∧ e 31 = .int .i64 i ∧ H16 = h') ?_ ?_
                · try simp only [go_sem, Nat.reduceBEq, Nat.reduceAdd, Nat.reduceMul, Nat.reduceSub, Nat.reduceLeDiff, Nat.le_refl, implies_true, Nat.reduceLT, reduceIte, decide_true, decide_false, true_and, and_true, reduceCtorEq, Nat.mul_one, Int.reduceToNat, Int.reduceLE, Int.reduceLT, Int.reduceAdd, Int.reduceSub, Int.reduceMul, Int.cast_ofNat_Int, cast_zero_int, cast_one_int, Nat.reducePow, Nat.reduceEqDiff, Nat.reduceMod, Nat.zero_add, Nat.sub_zero, Nat.add_zero, e0]
                  try rfl
                  try simp
                · rintro i e _ hi ⟨e0, e26, e27, e31, rfl⟩
                  try simp only [go_sem, Nat.reduceBEq, Nat.reduceAdd, Nat.reduceMul, Nat.reduceSub, Nat.reduceLeDiff, Nat.le_refl, implies_true, Nat.reduceLT, reduceIte, decide_true, decide_false, true_and, and_true, reduceCtorEq, Nat.mul_one, Int.reduceToNat, Int.reduceLE, Int.reduceLT, Int.reduceAdd, Int.reduceSub, Int.reduceMul, Int.cast_ofNat_Int, cast_zero_int, cast_one_int, Nat.reducePow, Nat.reduceEqDiff, Nat.reduceMod, Nat.zero_add, Nat.sub_zero, Nat.add_zero, bG, self_get bG, own_base L16, own_base0 L16, e0, e26, e27, e31]
                  refine .intro (fun h1 => ?_) (fun h1 => ?_)
                  · have hlt : i < l4.length / 7 := by have := h1; simp at this; omega
                    obtain ⟨g1, g2, g3, g4⟩ := id hg
                    have h7 : 7 * i + 7 ≤ l4.length := by omega
                    have w6 : IntKind.i64.wrap (7 * (i : Int)) = ((7 * i : Nat) : Int) := by rw [wrap64 (by omega)]; rfl
                    have w7 : IntKind.i64.wrap (((7 * i : Nat) : Int) + 7) = ((7 * i + 7 : Nat) : Int) := by rw [wrap64 (by omega)]; rfl
                    obtain ⟨id, off, k, hv, _, hk0, hk1, hd1, hesz, _, _, hat⟩ := aG.at (by omega)
                    obtain rfl : wGi = some ⟨id, off, none⟩ := by simpa using hv
                    have hnn : (0 : Int) ≤ ((7 * i : Nat) : Int) ∧ (0 : Int) ≤ ((7 * i + 7 : Nat) : Int) := by omega
                    have hw : ((l4.drop (7 * i)).take (7 * i + 7 - 7 * i)) = week l4 i := by rw [Nat.add_sub_cancel_left]; rfl
                    have hs := AI.sub aG (a := 7 * i) (c := 7 * i + 7 - 7 * i) (by omega)
                    rw [hw] at hs
                    have hwb : ∀ x ∈ week l4 i, -200000 ≤ x ∧ x ≤ 200000 := fun x hx => by have := g1 x (List.mem_of_mem_drop (List.mem_of_mem_take hx)); omega
                    have hwl : (week l4 i).length = 7 := by simp [week]; omega
                    have hsum := psum_bound (l := week l4 i) (i := 7) (by omega) (fun x hx => hwb x (List.mem_of_mem_take hx))
                    rw [psum, List.take_of_length_le (by omega)] at hsum
                    try simp only [go_sem, Nat.reduceBEq, Nat.reduceAdd, Nat.reduceMul, Nat.reduceSub, Nat.reduceLeDiff, Nat.le_refl, implies_true, Nat.reduceLT, reduceIte, decide_true, decide_false, true_and, and_true, reduceCtorEq, Nat.mul_one, Int.reduceToNat, Int.reduceLE, Int.reduceLT, Int.reduceAdd, Int.reduceSub, Int.reduceMul, Int.cast_ofNat_Int, cast_zero_int, cast_one_int, Nat.reducePow, Nat.reduceEqDiff, Nat.reduceMod, Nat.zero_add, Nat.sub_zero, Nat.add_zero, onSl_more (show 0 < l4.length by omega), e0, e26, e27, e31, bG, w6, w7, hk1, hesz, hnn.1, hnn.2, h7, show 7 * i ≤ 7 * i + 7 by omega]
                    refine ⟨by kernel_rfl, (c_rSum _ (week l4 i) hs (by omega) hwb).use (fun _ m => m) ?_⟩
                    rintro _ _ ⟨rfl, rfl⟩
                    obtain ⟨id2, off2, k2, hv2, _, hk20, hk2, hd2, _, _, _, hat2⟩ := aK.at (by rw [means_len]; omega)
                    obtain rfl : wKi = some ⟨id2, off2, none⟩ := by simpa using hv2
                    have hmn : (means l4 (l4.length / 7))[i]? = some (mean l4 i) := by simp [means, hlt]
                    have hat3 : k2.cells[off2 + i]? = some (.int .i64 (mean l4 i)) := by rw [hat2 i (by rw [means_len]; omega)]; rw [List.getElem?_eq_getElem (by rw [means_len]; omega)] at hmn; rw [Option.some.inj hmn]
                    have hme : mean l4 i = (week l4 i).sum / 7 := rfl
                    have w8 : IntKind.i64.wrap (7 * mean l4 i) = 7 * mean l4 i := wrap64 (by omega)
                    have w9 : IntKind.i64.wrap (7 * mean l4 i + 7) = 7 * mean l4 i + 7 := wrap64 (by omega)
                    have k5 : IntKind.i64.wrap ((i : Int) + 1) = ((i + 1 : Nat) : Int) := by rw [wrap64 (by omega)]; rfl
                    try simp only [go_sem, Nat.reduceBEq, Nat.reduceAdd, Nat.reduceMul, Nat.reduceSub, Nat.reduceLeDiff, Nat.le_refl, implies_true, Nat.reduceLT, reduceIte, decide_true, decide_false, true_and, and_true, reduceCtorEq, Nat.mul_one, Int.reduceToNat, Int.reduceLE, Int.reduceLT, Int.reduceAdd, Int.reduceSub, Int.reduceMul, Int.cast_ofNat_Int, cast_zero_int, cast_one_int, Nat.reducePow, Nat.reduceEqDiff, Nat.reduceMod, Nat.zero_add, Nat.sub_zero, Nat.add_zero, e0, e26, e27, e31, hk2, hd2, hat3, w8, w9, k5, show (i : Int) < ((l4.length / 7 : Nat) : Int) by omega, show ¬ ((week l4 i).sum < 7 * mean l4 i) by omega, show ¬ (7 * mean l4 i + 7 ≤ (week l4 i).sum) by omega]
                    exact hlt
                  · try simp only [go_sem, Nat.reduceBEq, Nat.reduceAdd, Nat.reduceMul, Nat.reduceSub, Nat.reduceLeDiff, Nat.le_refl, implies_true, Nat.reduceLT, reduceIte, decide_true, decide_false, true_and, and_true, reduceCtorEq, Nat.mul_one, Int.reduceToNat, Int.reduceLE, Int.reduceLT, Int.reduceAdd, Int.reduceSub, Int.reduceMul, Int.cast_ofNat_Int, cast_zero_int, cast_one_int, Nat.reducePow, Nat.reduceEqDiff, Nat.reduceMod, Nat.zero_add, Nat.sub_zero, Nat.add_zero, e0, e26, e27, e31]
                    refine ⟨by kernel_rfl, (c_DrawValueOn b n hc).use (fun _ m => m) ?_⟩
                    rintro _ H17 ⟨⟨fv, lv, wV, dv, rfl, sV, hlv⟩, P17⟩
                    have L17 : h.length ≤ H17.length := by have := P17.length_le; first | omega | (simp only [List.length_append, List.length_cons, List.length_nil] at this; omega)
                    have Q17 : H16.length + 0 ≤ H17.length := by have := P17.length_le; first | omega | (simp only [List.length_append, List.length_cons, List.length_nil] at this; omega)
                    replace hc := hc.mono P17
                    obtain ⟨wVw, rfl, ⟨wVi, rfl, _⟩⟩ := id sV
                    try simp only [go_sem, Nat.reduceBEq, Nat.reduceAdd, Nat.reduceMul, Nat.reduceSub, Nat.reduceLeDiff, Nat.le_refl, implies_true, Nat.reduceLT, reduceIte, decide_true, decide_false, true_and, and_true, reduceCtorEq, Nat.mul_one, Int.reduceToNat, Int.reduceLE, Int.reduceLT, Int.reduceAdd, Int.reduceSub, Int.reduceMul, Int.cast_ofNat_Int, cast_zero_int, cast_one_int, Nat.reducePow, Nat.reduceEqDiff, Nat.reduceMod, Nat.zero_add, Nat.sub_zero, Nat.add_zero, own_base L17, own_base0 L17, e0, P17]
                    obtain ⟨vm, vg, hv⟩ := valueOn_shape fv lv dv
                    refine ⟨by kernel_rfl, (c_ValueOn _ fv lv dv (sV.mono (by simp)).aa (by omega)).use (fun _ m => m) ?_⟩
                    rintro _ H18 ⟨hr, P18⟩
                    have L18 : h.length ≤ H18.length := by have := P18.length_le; first | omega | (simp only [List.length_append, List.length_cons, List.length_nil] at this; omega)
                    have Q18 : H17.length + 1 ≤ H18.length := by have := P18.length_le; first | omega | (simp only [List.length_append, List.length_cons, List.length_nil] at this; omega)
                    replace hc := hc.mono ((List.prefix_append _ _).trans P18)
                    replace sV := sV.mono ((List.prefix_append _ _).trans P18)
                    have bV := keep_get (h := H17 ++ _) hget_new P18
                    rw [hv] at hr
                    subst hr
                    try simp only [go_sem, Nat.reduceBEq, Nat.reduceAdd, Nat.reduceMul, Nat.reduceSub, Nat.reduceLeDiff, Nat.le_refl, implies_true, Nat.reduceLT, reduceIte, decide_true, decide_false, true_and, and_true, reduceCtorEq, Nat.mul_one, Int.reduceToNat, Int.reduceLE, Int.reduceLT, Int.reduceAdd, Int.reduceSub, Int.reduceMul, Int.cast_ofNat_Int, cast_zero_int, cast_one_int, Nat.reducePow, Nat.reduceEqDiff, Nat.reduceMod, Nat.zero_add, Nat.sub_zero, Nat.add_zero, bV, self_get bV, own_base L18, own_base0 L18, e0, P18, Try.underlying4, and_self, bne_self_eq_false, decide_true]
                    refine ⟨by kernel_rfl, (c_sValueOn _ fv lv dv (sV.mono (by simp)).aa (by omega)).use (fun _ m => m) ?_⟩
                    rintro _ H19 ⟨hr, P19⟩
                    have L19 : h.length ≤ H19.length := by have := P19.length_le; first | omega | (simp only [List.length_append, List.length_cons, List.length_nil] at this; omega)
                    have Q19 : H18.length + 0 ≤ H19.length := by have := P19.length_le; first | omega | (simp only [List.length_append, List.length_cons, List.length_nil] at this; omega)
                    replace hc := hc.mono P19
                    replace sV := sV.mono P19
                    replace bV := keep_get bV P19
                    rw [hv] at hr
                    subst hr
                    try simp only [go_sem, Nat.reduceBEq, Nat.reduceAdd, Nat.reduceMul, Nat.reduceSub, Nat.reduceLeDiff, Nat.le_refl, implies_true, Nat.reduceLT, reduceIte, decide_true, decide_false, true_and, and_true, reduceCtorEq, Nat.mul_one, Int.reduceToNat, Int.reduceLE, Int.reduceLT, Int.reduceAdd, Int.reduceSub, Int.reduceMul, Int.cast_ofNat_Int, cast_zero_int, cast_one_int, Nat.reducePow, Nat.reduceEqDiff, Nat.reduceMod, Nat.zero_add, Nat.sub_zero, Nat.add_zero, bV, self_get bV, own_base L19, own_base0 L19, e0, P19, Try.underlying4, and_self, bne_self_eq_false, decide_true]
              · rw [weekMeans, if_neg hg] at hZ; subst hZ
                try simp only [go_sem, Nat.reduceBEq, Nat.reduceAdd, Nat.reduceMul, Nat.reduceSub, Nat.reduceLeDiff, Nat.le_refl, implies_true, Nat.reduceLT, reduceIte, decide_true, decide_false, true_and, and_true, reduceCtorEq, Nat.mul_one, Int.reduceToNat, Int.reduceLE, Int.reduceLT, Int.reduceAdd, Int.reduceSub, Int.reduceMul, Int.cast_ofNat_Int, cast_zero_int, cast_one_int, Nat.reducePow, Nat.reduceEqDiff, Nat.reduceMod, Nat.zero_add, Nat.sub_zero, Nat.add_zero, bG, self_get bG, own_base L16, own_base0 L16, e0, dect hg, hBin_quo (show (7 : Int) ≠ 0 by omega), k7, List.length_nil, Try.underlying4, and_self, bne_self_eq_false, decide_true]
                refine vLoop.count mo 0 (fun i e h' => e 0 = .slice b n 0 ∧ e 27 = .slice wKi 0 0 ∧ e 31 = .int .i64 0 ∧ H16 = h') ?_ ?_
                · try simp only [go_sem, Nat.reduceBEq, Nat.reduceAdd, Nat.reduceMul, Nat.reduceSub, Nat.reduceLeDiff, Nat.le_refl, implies_true, Nat.reduceLT, reduceIte, decide_true, decide_false, true_and, and_true, reduceCtorEq, Nat.mul_one, Int.reduceToNat, Int.reduceLE, Int.reduceLT, Int.reduceAdd, Int.reduceSub, Int.reduceMul, Int.cast_ofNat_Int, cast_zero_int, cast_one_int, Nat.reducePow, Nat.reduceEqDiff, Nat.reduceMod, Nat.zero_add, Nat.sub_zero, Nat.add_zero, e0]
                  try rfl
                  try simp
                · rintro i e _ hi ⟨e0, e27, e31, rfl⟩
                  try simp only [go_sem, Nat.reduceBEq, Nat.reduceAdd, Nat.reduceMul, Nat.reduceSub, Nat.reduceLeDiff, Nat.le_refl, implies_true, Nat.reduceLT, reduceIte, decide_true, decide_false, true_and, and_true, reduceCtorEq, Nat.mul_one, Int.reduceToNat, Int.reduceLE, Int.reduceLT, Int.reduceAdd, Int.reduceSub, Int.reduceMul, Int.cast_ofNat_Int, cast_zero_int, cast_one_int, Nat.reducePow, Nat.reduceEqDiff, Nat.reduceMod, Nat.zero_add, Nat.sub_zero, Nat.add_zero, bG, self_get bG, own_base L16, own_base0 L16, e0, e27, e31]
                  refine ⟨by kernel_rfl, (c_DrawValueOn b n hc).use (fun _ m => m) ?_⟩
                  rintro _ H17 ⟨⟨fv, lv, wV, dv, rfl, sV, hlv⟩, P17⟩
                  have L17 : h.length ≤ H17.length := by have := P17.length_le; first | omega | (simp only [List.length_append, List.length_cons, List.length_nil] at this; omega)
                  have Q17 : H16.length + 0 ≤ H17.length := by have := P17.length_le; first | omega | (simp only [List.length_append, List.length_cons, List.length_nil] at this; omega)
                  replace hc := hc.mono P17
                  obtain ⟨wVw, rfl, ⟨wVi, rfl, _⟩⟩ := id sV
                  try simp only [go_sem, Nat.reduceBEq, Nat.reduceAdd, Nat.reduceMul, Nat.reduceSub, Nat.reduceLeDiff, Nat.le_refl, implies_true, Nat.reduceLT, reduceIte, decide_true, decide_false, true_and, and_true, reduceCtorEq, Nat.mul_one, Int.reduceToNat, Int.reduceLE, Int.reduceLT, Int.reduceAdd, Int.reduceSub, Int.reduceMul, Int.cast_ofNat_Int, cast_zero_int, cast_one_int, Nat.reducePow, Nat.reduceEqDiff, Nat.reduceMod, Nat.zero_add, Nat.sub_zero, Nat.add_zero, own_base L17, own_base0 L17, e0, P17]
                  obtain ⟨vm, vg, hv⟩ := valueOn_shape fv lv dv
                  refine ⟨by kernel_rfl, (c_ValueOn _ fv lv dv (sV.mono (by simp)).aa (by omega)).use (fun _ m => m) ?_⟩
                  rintro _ H18 ⟨hr, P18⟩
                  have L18 : h.length ≤ H18.length := by have := P18.length_le; first | omega | (simp only [List.length_append, List.length_cons, List.length_nil] at this; omega)
                  have Q18 : H17.length + 1 ≤ H18.length := by have := P18.length_le; first | omega | (simp only [List.length_append, List.length_cons, List.length_nil] at this; omega)
                  replace hc := hc.mono ((List.prefix_append _ _).trans P18)
                  replace sV := sV.mono ((List.prefix_append _ _).trans P18)
                  have bV := keep_get (h := H17 ++ _) hget_new P18
                  rw [hv] at hr
                  subst hr
                  try simp only [go_sem, Nat.reduceBEq, Nat.reduceAdd, Nat.reduceMul, Nat.reduceSub, Nat.reduceLeDiff, Nat.le_refl, implies_true, Nat.reduceLT, reduceIte, decide_true, decide_false, true_and, and_true, reduceCtorEq, Nat.mul_one, Int.reduceToNat, Int.reduceLE, Int.reduceLT, Int.reduceAdd, Int.reduceSub, Int.reduceMul, Int.cast_ofNat_Int, cast_zero_int, cast_one_int, Nat.reducePow, Nat.reduceEqDiff, Nat.reduceMod, Nat.zero_add, Nat.sub_zero, Nat.add_zero, bV, self_get bV, own_base L18, own_base0 L18, e0, P18, Try.underlying4, and_self, bne_self_eq_false, decide_true]
                  refine ⟨by kernel_rfl, (c_sValueOn _ fv lv dv (sV.mono (by simp)).aa (by omega)).use (fun _ m => m) ?_⟩
                  rintro _ H19 ⟨hr, P19⟩
                  have L19 : h.length ≤ H19.length := by have := P19.length_le; first | omega | (simp only [List.length_append, List.length_cons, List.length_nil] at this; omega)
                  have Q19 : H18.length + 0 ≤ H19.length := by have := P19.length_le; first | omega | (simp only [List.length_append, List.length_cons, List.length_nil] at this; omega)
                  replace hc := hc.mono P19
                  replace sV := sV.mono P19
                  replace bV := keep_get bV P19
                  rw [hv] at hr
                  subst hr
                  try simp only [go_sem, Nat.reduceBEq, Nat.reduceAdd, Nat.reduceMul, Nat.reduceSub, Nat.reduceLeDiff, Nat.le_refl, implies_true, Nat.reduceLT, reduceIte, decide_true, decide_false, true_and, and_true, reduceCtorEq, Nat.mul_one, Int.reduceToNat, Int.reduceLE, Int.reduceLT, Int.reduceAdd, Int.reduceSub, Int.reduceMul, Int.cast_ofNat_Int, cast_zero_int, cast_one_int, Nat.reducePow, Nat.reduceEqDiff, Nat.reduceMod, Nat.zero_add, Nat.sub_zero, Nat.add_zero, bV, self_get bV, own_base L19, own_base0 L19, e0, P19, Try.underlying4, and_self, bne_self_eq_false, decide_true]
    · rw [if_neg hk] at hX hY
      subst hX hY
      try simp only [go_sem, Nat.reduceBEq, Nat.reduceAdd, Nat.reduceMul, Nat.reduceSub, Nat.reduceLeDiff, Nat.le_refl, implies_true, Nat.reduceLT, reduceIte, decide_true, decide_false, true_and, and_true, reduceCtorEq, Nat.mul_one, Int.reduceToNat, Int.reduceLE, Int.reduceLT, Int.reduceAdd, Int.reduceSub, Int.reduceMul, Int.cast_ofNat_Int, cast_zero_int, cast_one_int, Nat.reducePow, Nat.reduceEqDiff, Nat.reduceMod, Nat.zero_add, Nat.sub_zero, Nat.add_zero, bA, bB, bC, self_get bA, self_get bB, self_get bC, own_base L4, own_base0 L4, dect hk, Try.underlying4, and_self, bne_self_eq_false, decide_true]
      refine ⟨by kernel_rfl, (c_DrawCutArchive b n hc).use (fun _ m => m) ?_⟩
      rintro _ H5 ⟨⟨f2, l2, wD, x2, y2, rfl, sD, hl2⟩, P5⟩
      have L5 : h.length ≤ H5.length := by have := P5.length_le; first | omega | (simp only [List.length_append, List.length_cons, List.length_nil] at this; omega)
      have Q5 : H4.length + 0 ≤ H5.length := by have := P5.length_le; first | omega | (simp only [List.length_append, List.length_cons, List.length_nil] at this; omega)
      replace hc := hc.mono P5
      obtain ⟨wDw, rfl, ⟨wDi, rfl, _⟩⟩ := id sD
      try simp only [go_sem, Nat.reduceBEq, Nat.reduceAdd, Nat.reduceMul, Nat.reduceSub, Nat.reduceLeDiff, Nat.le_refl, implies_true, Nat.reduceLT, reduceIte, decide_true, decide_false, true_and, and_true, reduceCtorEq, Nat.mul_one, Int.reduceToNat, Int.reduceLE, Int.reduceLT, Int.reduceAdd, Int.reduceSub, Int.reduceMul, Int.cast_ofNat_Int, cast_zero_int, cast_one_int, Nat.reducePow, Nat.reduceEqDiff, Nat.reduceMod, Nat.zero_add, Nat.sub_zero, Nat.add_zero, own_base L5, own_base0 L5, P5]
      obtain ⟨X2, hX2⟩ : ∃ X : Int, (if cutOk f2 l2 x2 y2 then max x2 f2 else 0) = X := ⟨_, rfl⟩
      obtain ⟨Y2, hY2⟩ : ∃ Y : List Int, (if cutOk f2 l2 x2 y2 then cutN f2 l2 x2 y2 l2.length else []) = Y := ⟨_, rfl⟩
      have hY2m : Y2.length ≤ 1048576 := by rw [← hY2]; split; rename_i hh; have := (cut_good hh).2.1; omega; simp
      refine ⟨by kernel_rfl, (c_CutArchive _ f2 l2 x2 y2 (sD.mono (by simp)).aa (by omega)).use (fun _ m => m) ?_⟩
      rintro _ H6 ⟨⟨wE, rfl, sE⟩, P6⟩
      have L6 : h.length ≤ H6.length := by have := P6.length_le; first | omega | (simp only [List.length_append, List.length_cons, List.length_nil] at this; omega)
      have Q6 : H5.length + 1 ≤ H6.length := by have := P6.length_le; first | omega | (simp only [List.length_append, List.length_cons, List.length_nil] at this; omega)
      replace hc := hc.mono ((List.prefix_append _ _).trans P6)
      replace sD := sD.mono ((List.prefix_append _ _).trans P6)
      have bD := keep_get (h := H5 ++ _) hget_new P6
      rw [hX2, hY2] at sE
      obtain ⟨wEw, rfl, ⟨wEi, rfl, _⟩⟩ := id sE
      try simp only [go_sem, Nat.reduceBEq, Nat.reduceAdd, Nat.reduceMul, Nat.reduceSub, Nat.reduceLeDiff, Nat.le_refl, implies_true, Nat.reduceLT, reduceIte, decide_true, decide_false, true_and, and_true, reduceCtorEq, Nat.mul_one, Int.reduceToNat, Int.reduceLE, Int.reduceLT, Int.reduceAdd, Int.reduceSub, Int.reduceMul, Int.cast_ofNat_Int, cast_zero_int, cast_one_int, Nat.reducePow, Nat.reduceEqDiff, Nat.reduceMod, Nat.zero_add, Nat.sub_zero, Nat.add_zero, bD, self_get bD, own_base L6, own_base0 L6, P6]
      refine ⟨by kernel_rfl, (c_sCutArchive _ f2 l2 x2 y2 (sD.mono (by simp)).aa (by omega)).use (fun _ m => m) ?_⟩
      rintro _ H7 ⟨⟨wF, rfl, sF⟩, P7⟩
      have L7 : h.length ≤ H7.length := by have := P7.length_le; first | omega | (simp only [List.length_append, List.length_cons, List.length_nil] at this; omega)
      have Q7 : H6.length + 1 ≤ H7.length := by have := P7.length_le; first | omega | (simp only [List.length_append, List.length_cons, List.length_nil] at this; omega)
      replace hc := hc.mono ((List.prefix_append _ _).trans P7)
      replace sD := sD.mono ((List.prefix_append _ _).trans P7)
      replace sE := sE.mono ((List.prefix_append _ _).trans P7)
      replace bD := keep_get bD ((List.prefix_append _ _).trans P7)
      have bE := keep_get (h := H6 ++ _) hget_new P7
      rw [hX2, hY2] at sF
      obtain ⟨wFw, rfl, ⟨wFi, rfl, _⟩⟩ := id sF
      try simp only [go_sem, Nat.reduceBEq, Nat.reduceAdd, Nat.reduceMul, Nat.reduceSub, Nat.reduceLeDiff, Nat.le_refl, implies_true, Nat.reduceLT, reduceIte, decide_true, decide_false, true_and, and_true, reduceCtorEq, Nat.mul_one, Int.reduceToNat, Int.reduceLE, Int.reduceLT, Int.reduceAdd, Int.reduceSub, Int.reduceMul, Int.cast_ofNat_Int, cast_zero_int, cast_one_int, Nat.reducePow, Nat.reduceEqDiff, Nat.reduceMod, Nat.zero_add, Nat.sub_zero, Nat.add_zero, bD, bE, self_get bD, self_get bE, own_base L7, own_base0 L7, P7]
      refine ⟨by kernel_rfl, (c_rArchives _ _ X2 Y2 (sE.mono (by simp)).aa (sF.mono (by simp)).aa hY2m).use (fun _ m => m) ?_⟩
      rintro _ H8 ⟨rfl, P8⟩
      have L8 : h.length ≤ H8.length := by have := P8.length_le; first | omega | (simp only [List.length_append, List.length_cons, List.length_nil] at this; omega)
      have Q8 : H7.length + 1 ≤ H8.length := by have := P8.length_le; first | omega | (simp only [List.length_append, List.length_cons, List.length_nil] at this; omega)
      replace hc := hc.mono ((List.prefix_append _ _).trans P8)
      replace sD := sD.mono ((List.prefix_append _ _).trans P8)
      replace sE := sE.mono ((List.prefix_append _ _).trans P8)
      replace sF := sF.mono ((List.prefix_append _ _).trans P8)
      replace bD := keep_get bD ((List.prefix_append _ _).trans P8)
      replace bE := keep_get bE ((List.prefix_append _ _).trans P8)
      have bF := keep_get (h := H7 ++ _) hget_new P8
      try simp only [go_sem, Nat.reduceBEq, Nat.reduceAdd, Nat.reduceMul, Nat.reduceSub, Nat.reduceLeDiff, Nat.le_refl, implies_true, Nat.reduceLT, reduceIte, decide_true, decide_false, true_and, and_true, reduceCtorEq, Nat.mul_one, Int.reduceToNat, Int.reduceLE, Int.reduceLT, Int.reduceAdd, Int.reduceSub, Int.reduceMul, Int.cast_ofNat_Int, cast_zero_int, cast_one_int, Nat.reducePow, Nat.reduceEqDiff, Nat.reduceMod, Nat.zero_add, Nat.sub_zero, Nat.add_zero, bD, bE, bF, self_get bD, self_get bE, self_get bF, own_base L8, own_base0 L8, P8, Try.underlying4, and_self, bne_self_eq_false, decide_true]
      by_cases hcut : cutOk f2 l2 x2 y2
      · rw [if_pos hcut] at hX2 hY2; subst hX2 hY2
        try simp only [go_sem, Nat.reduceBEq, Nat.reduceAdd, Nat.reduceMul, Nat.reduceSub, Nat.reduceLeDiff, Nat.le_refl, implies_true, Nat.reduceLT, reduceIte, decide_true, decide_false, true_and, and_true, reduceCtorEq, Nat.mul_one, Int.reduceToNat, Int.reduceLE, Int.reduceLT, Int.reduceAdd, Int.reduceSub, Int.reduceMul, Int.cast_ofNat_Int, cast_zero_int, cast_one_int, Nat.reducePow, Nat.reduceEqDiff, Nat.reduceMod, Nat.zero_add, Nat.sub_zero, Nat.add_zero, bD, bE, bF, self_get bD, self_get bE, self_get bF, own_base L8, own_base0 L8, decb hcut, Try.underlying4, and_self, bne_self_eq_false, decide_true]
        refine ⟨by kernel_rfl, (c_IsValidArchive _ _ _ (sE.mono (by simp)).aa hY2m).use (fun _ m => m) ?_⟩
        rintro _ H9 ⟨rfl, P9⟩
        have L9 : h.length ≤ H9.length := by have := P9.length_le; first | omega | (simp only [List.length_append, List.length_cons, List.length_nil] at this; omega)
        have Q9 : H8.length + 0 ≤ H9.length := by have := P9.length_le; first | omega | (simp only [List.length_append, List.length_cons, List.length_nil] at this; omega)
        replace hc := hc.mono P9
        replace sD := sD.mono P9
        replace sE := sE.mono P9
        replace sF := sF.mono P9
        replace bD := keep_get bD P9
        replace bE := keep_get bE P9
        replace bF := keep_get bF P9
        try simp only [go_sem, Nat.reduceBEq, Nat.reduceAdd, Nat.reduceMul, Nat.reduceSub, Nat.reduceLeDiff, Nat.le_refl, implies_true, Nat.reduceLT, reduceIte, decide_true, decide_false, true_and, and_true, reduceCtorEq, Nat.mul_one, Int.reduceToNat, Int.reduceLE, Int.reduceLT, Int.reduceAdd, Int.reduceSub, Int.reduceMul, Int.cast_ofNat_Int, cast_zero_int, cast_one_int, Nat.reducePow, Nat.reduceEqDiff, Nat.reduceMod, Nat.zero_add, Nat.sub_zero, Nat.add_zero, bD, bE, bF, self_get bD, self_get bE, self_get bF, own_base L9, own_base0 L9, P9, decb (cut_good hcut), Try.underlying4, and_self, bne_self_eq_false, decide_true]
        refine ⟨by kernel_rfl, (c_DrawJoinArchives b n hc).use (fun _ m => m) ?_⟩
        rintro _ H10 ⟨⟨f3, l3, wI, f3b, l3b, wJ, rfl, sI, hl3, sJ, hl3b⟩, P10⟩
        have L10 : h.length ≤ H10.length := by have := P10.length_le; first | omega | (simp only [List.length_append, List.length_cons, List.length_nil] at this; omega)
        have Q10 : H9.length + 0 ≤ H10.length := by have := P10.length_le; first | omega | (simp only [List.length_append, List.length_cons, List.length_nil] at this; omega)
        replace hc := hc.mono P10
        obtain ⟨wIw, rfl, ⟨wIi, rfl, _⟩⟩ := id sI
        obtain ⟨wJw, rfl, ⟨wJi, rfl, _⟩⟩ := id sJ
        try simp only [go_sem, Nat.reduceBEq, Nat.reduceAdd, Nat.reduceMul, Nat.reduceSub, Nat.reduceLeDiff, Nat.le_refl, implies_true, Nat.reduceLT, reduceIte, decide_true, decide_false, true_and, and_true, reduceCtorEq, Nat.mul_one, Int.reduceToNat, Int.reduceLE, Int.reduceLT, Int.reduceAdd, Int.reduceSub, Int.reduceMul, Int.cast_ofNat_Int, cast_zero_int, cast_one_int, Nat.reducePow, Nat.reduceEqDiff, Nat.reduceMod, Nat.zero_add, Nat.sub_zero, Nat.add_zero, own_base L10, own_base0 L10, P10]
        obtain ⟨X3, hX3⟩ : ∃ X : Int, joinF f3 l3 f3b l3b = X := ⟨_, rfl⟩
        obtain ⟨Y3, hY3⟩ : ∃ Y : List Int, joinL f3 l3 f3b l3b = Y := ⟨_, rfl⟩
        have hY3m : Y3.length ≤ 1048576 := by rw [← hY3]; exact joinL_len
        refine ⟨by kernel_rfl, (c_JoinArchives _ _ f3 l3 f3b l3b (sI.mono (by simp)).aa (sJ.mono (by simp)).aa (by omega) (by omega)).use (fun _ m => m) ?_⟩
        rintro _ H11 ⟨⟨wN, rfl, sN⟩, P11⟩
        have L11 : h.length ≤ H11.length := by have := P11.length_le; first | omega | (simp only [List.length_append, List.length_cons, List.length_nil] at this; omega)
        have Q11 : H10.length + 2 ≤ H11.length := by have := P11.length_le; first | omega | (simp only [List.length_append, List.length_cons, List.length_nil] at this; omega)
        replace hc := hc.mono ((List.prefix_append _ _).trans P11)
        replace sI := sI.mono ((List.prefix_append _ _).trans P11)
        replace sJ := sJ.mono ((List.prefix_append _ _).trans P11)
        have bI := keep_get (h := H10 ++ _) (hget_lit0 (h := H10)) P11
        have bJ := keep_get (h := H10 ++ _) (hget_lit1 (h := H10)) P11
        rw [hX3, hY3] at sN
        obtain ⟨wNw, rfl, ⟨wNi, rfl, _⟩⟩ := id sN
        try simp only [go_sem, Nat.reduceBEq, Nat.reduceAdd, Nat.reduceMul, Nat.reduceSub, Nat.reduceLeDiff, Nat.le_refl, implies_true, Nat.reduceLT, reduceIte, decide_true, decide_false, true_and, and_true, reduceCtorEq, Nat.mul_one, Int.reduceToNat, Int.reduceLE, Int.reduceLT, Int.reduceAdd, Int.reduceSub, Int.reduceMul, Int.cast_ofNat_Int, cast_zero_int, cast_one_int, Nat.reducePow, Nat.reduceEqDiff, Nat.reduceMod, Nat.zero_add, Nat.sub_zero, Nat.add_zero, bI, bJ, self_get bI, self_get bJ, own_base L11, own_base0 L11, P11]
        refine ⟨by kernel_rfl, (c_sJoinArchives _ _ f3 l3 f3b l3b (sI.mono (by simp)).aa (sJ.mono (by simp)).aa (by omega) (by omega)).use (fun _ m => m) ?_⟩
        rintro _ H12 ⟨⟨wO, rfl, sO⟩, P12⟩
        have L12 : h.length ≤ H12.length := by have := P12.length_le; first | omega | (simp only [List.length_append, List.length_cons, List.length_nil] at this; omega)
        have Q12 : H11.length + 1 ≤ H12.length := by have := P12.length_le; first | omega | (simp only [List.length_append, List.length_cons, List.length_nil] at this; omega)
        replace hc := hc.mono ((List.prefix_append _ _).trans P12)
        replace sI := sI.mono ((List.prefix_append _ _).trans P12)
        replace sJ := sJ.mono ((List.prefix_append _ _).trans P12)
        replace sN := sN.mono ((List.prefix_append _ _).trans P12)
        replace bI := keep_get bI ((List.prefix_append _ _).trans P12)
        replace bJ := keep_get bJ ((List.prefix_append _ _).trans P12)
        have bN := keep_get (h := H11 ++ _) hget_new P12
        rw [hX3, hY3] at sO
        obtain ⟨wOw, rfl, ⟨wOi, rfl, _⟩⟩ := id sO
        try simp only [go_sem, Nat.reduceBEq, Nat.reduceAdd, Nat.reduceMul, Nat.reduceSub, Nat.reduceLeDiff, Nat.le_refl, implies_true, Nat.reduceLT, reduceIte, decide_true, decide_false, true_and, and_true, reduceCtorEq, Nat.mul_one, Int.reduceToNat, Int.reduceLE, Int.reduceLT, Int.reduceAdd, Int.reduceSub, Int.reduceMul, Int.cast_ofNat_Int, cast_zero_int, cast_one_int, Nat.reducePow, Nat.reduceEqDiff, Nat.reduceMod, Nat.zero_add, Nat.sub_zero, Nat.add_zero, bI, bJ, bN, self_get bI, self_get bJ, self_get bN, own_base L12, own_base0 L12, P12]
        refine ⟨by kernel_rfl, (c_rArchives _ _ X3 Y3 (sN.mono (by simp)).aa (sO.mono (by simp)).aa hY3m).use (fun _ m => m) ?_⟩
        rintro _ H13 ⟨rfl, P13⟩
        have L13 : h.length ≤ H13.length := by have := P13.length_le; first | omega | (simp only [List.length_append, List.length_cons, List.length_nil] at this; omega)
        have Q13 : H12.length + 1 ≤ H13.length := by have := P13.length_le; first | omega | (simp only [List.length_append, List.length_cons, List.length_nil] at this; omega)
        replace hc := hc.mono ((List.prefix_append _ _).trans P13)
        replace sI := sI.mono ((List.prefix_append _ _).trans P13)
        replace sJ := sJ.mono ((List.prefix_append _ _).trans P13)
        replace sN := sN.mono ((List.prefix_append _ _).trans P13)
        replace sO := sO.mono ((List.prefix_append _ _).trans P13)
        replace bI := keep_get bI ((List.prefix_append _ _).trans P13)
        replace bJ := keep_get bJ ((List.prefix_append _ _).trans P13)
        replace bN := keep_get bN ((List.prefix_append _ _).trans P13)
        have bO := keep_get (h := H12 ++ _) hget_new P13
        try simp only [go_sem, Nat.reduceBEq, Nat.reduceAdd, Nat.reduceMul, Nat.reduceSub, Nat.reduceLeDiff, Nat.le_refl, implies_true, Nat.reduceLT, reduceIte, decide_true, decide_false, true_and, and_true, reduceCtorEq, Nat.mul_one, Int.reduceToNat, Int.reduceLE, Int.reduceLT, Int.reduceAdd, Int.reduceSub, Int.reduceMul, Int.cast_ofNat_Int, cast_zero_int, cast_one_int, Nat.reducePow, Nat.reduceEqDiff, Nat.reduceMod, Nat.zero_add, Nat.sub_zero, Nat.add_zero, bI, bJ, bN, bO, self_get bI, self_get bJ, self_get bN, self_get bO, own_base L13, own_base0 L13, P13, Try.underlying4, and_self, bne_self_eq_false, decide_true]
        by_cases hj : joinOk f3 l3 f3b l3b
        · rw [joinF, if_pos hj] at hX3; rw [joinL, if_pos hj] at hY3; subst hX3 hY3
          have k6 : IntKind.i64.wrap ((l3.length : Int) + l3b.length) = l3.length + l3b.length := wrap64 (by omega)
          try simp only [go_sem, Nat.reduceBEq, Nat.reduceAdd, Nat.reduceMul, Nat.reduceSub, Nat.reduceLeDiff, Nat.le_refl, implies_true, Nat.reduceLT, reduceIte, decide_true, decide_false, true_and, and_true, reduceCtorEq, Nat.mul_one, Int.reduceToNat, Int.reduceLE, Int.reduceLT, Int.reduceAdd, Int.reduceSub, Int.reduceMul, Int.cast_ofNat_Int, cast_zero_int, cast_one_int, Nat.reducePow, Nat.reduceEqDiff, Nat.reduceMod, Nat.zero_add, Nat.sub_zero, Nat.add_zero, bI, bJ, bN, bO, self_get bI, self_get bJ, self_get bN, self_get bO, own_base L13, own_base0 L13, decb hj, List.length_append, Int.natCast_add, k6, Try.underlying4, and_self, bne_self_eq_false, decide_true]
          refine ⟨by kernel_rfl, (c_DrawWeekMeans b n hc).use (fun _ m => m) ?_⟩
          rintro _ H14 ⟨⟨f4, l4, ⟨wG, rfl, sG0⟩, hl4⟩, P14⟩
          have L14 : h.length ≤ H14.length := by have := P14.length_le; first | omega | (simp only [List.length_append, List.length_cons, List.length_nil] at this; omega)
          have Q14 : H13.length + 0 ≤ H14.length := by have := P14.length_le; first | omega | (simp only [List.length_append, List.length_cons, List.length_nil] at this; omega)
          replace hc := hc.mono P14
          have sG : FA _ _ H14 (.agg #[.int .i64 f4, wG]) f4 l4 := ⟨_, rfl, sG0⟩
          obtain ⟨wGi, rfl, _⟩ := id sG0
          try simp only [go_sem, Nat.reduceBEq, Nat.reduceAdd, Nat.reduceMul, Nat.reduceSub, Nat.reduceLeDiff, Nat.le_refl, implies_true, Nat.reduceLT, reduceIte, decide_true, decide_false, true_and, and_true, reduceCtorEq, Nat.mul_one, Int.reduceToNat, Int.reduceLE, Int.reduceLT, Int.reduceAdd, Int.reduceSub, Int.reduceMul, Int.cast_ofNat_Int, cast_zero_int, cast_one_int, Nat.reducePow, Nat.reduceEqDiff, Nat.reduceMod, Nat.zero_add, Nat.sub_zero, Nat.add_zero, own_base L14, own_base0 L14, P14]
          obtain ⟨Z, hZ⟩ : ∃ Z : List Int, weekMeans f4 l4 = Z := ⟨_, rfl⟩
          have hZm : Z.length ≤ 1048576 := by rw [← hZ]; exact weekMeans_len f4 (by omega)
          refine ⟨by kernel_rfl, (c_WeekMeans _ f4 l4 (sG.mono (by simp)).aa (by omega)).use (fun _ m => m) ?_⟩
          rintro _ H15 ⟨⟨wK, rfl, sK⟩, P15⟩
          have L15 : h.length ≤ H15.length := by have := P15.length_le; first | omega | (simp only [List.length_append, List.length_cons, List.length_nil] at this; omega)
          have Q15 : H14.length + 1 ≤ H15.length := by have := P15.length_le; first | omega | (simp only [List.length_append, List.length_cons, List.length_nil] at this; omega)
          replace hc := hc.mono ((List.prefix_append _ _).trans P15)
          replace sG := sG.mono ((List.prefix_append _ _).trans P15)
          have bG := keep_get (h := H14 ++ _) hget_new P15
          rw [hZ] at sK
          obtain ⟨wKi, rfl, _⟩ := id sK
          try simp only [go_sem, Nat.reduceBEq, Nat.reduceAdd, Nat.reduceMul, Nat.reduceSub, Nat.reduceLeDiff, Nat.le_refl, implies_true, Nat.reduceLT, reduceIte, decide_true, decide_false, true_and, and_true, reduceCtorEq, Nat.mul_one, Int.reduceToNat, Int.reduceLE, Int.reduceLT, Int.reduceAdd, Int.reduceSub, Int.reduceMul, Int.cast_ofNat_Int, cast_zero_int, cast_one_int, Nat.reducePow, Nat.reduceEqDiff, Nat.reduceMod, Nat.zero_add, Nat.sub_zero, Nat.add_zero, bG, self_get bG, own_base L15, own_base0 L15, P15, Try.underlying4, and_self, bne_self_eq_false, decide_true]
          refine ⟨by kernel_rfl, (c_sWeekMeans _ f4 l4 (sG.mono (by simp)).aa (by omega)).use (fun _ m => m) ?_⟩
          rintro _ H16 ⟨⟨wL, rfl, sL⟩, P16⟩
          have L16 : h.length ≤ H16.length := by have := P16.length_le; first | omega | (simp only [List.length_append, List.length_cons, List.length_nil] at this; omega)
          have Q16 : H15.length + 0 ≤ H16.length := by have := P16.length_le; first | omega | (simp only [List.length_append, List.length_cons, List.length_nil] at this; omega)
          replace hc := hc.mono P16
          replace sG := sG.mono P16
          replace sK := sK.mono P16
          replace bG := keep_get bG P16
          rw [hZ] at sL
          obtain ⟨wLi, rfl, _⟩ := id sL
          try simp only [go_sem, Nat.reduceBEq, Nat.reduceAdd, Nat.reduceMul, Nat.reduceSub, Nat.reduceLeDiff, Nat.le_refl, implies_true, Nat.reduceLT, reduceIte, decide_true, decide_false, true_and, and_true, reduceCtorEq, Nat.mul_one, Int.reduceToNat, Int.reduceLE, Int.reduceLT, Int.reduceAdd, Int.reduceSub, Int.reduceMul, Int.cast_ofNat_Int, cast_zero_int, cast_one_int, Nat.reducePow, Nat.reduceEqDiff, Nat.reduceMod, Nat.zero_add, Nat.sub_zero, Nat.add_zero, bG, self_get bG, own_base L16, own_base0 L16, P16, Try.underlying4, and_self, bne_self_eq_false, decide_true]
          refine ⟨by kernel_rfl, (c_rInts _ _ Z (sK.mono (by simp)).ai (sL.mono (by simp)).ai hZm).use (fun _ m => m) ?_⟩
          rintro _ _ ⟨rfl, rfl⟩
          try simp only [go_sem, Nat.reduceBEq, Nat.reduceAdd, Nat.reduceMul, Nat.reduceSub, Nat.reduceLeDiff, Nat.le_refl, implies_true, Nat.reduceLT, reduceIte, decide_true, decide_false, true_and, and_true, reduceCtorEq, Nat.mul_one, Int.reduceToNat, Int.reduceLE, Int.reduceLT, Int.reduceAdd, Int.reduceSub, Int.reduceMul, Int.cast_ofNat_Int, cast_zero_int, cast_one_int, Nat.reducePow, Nat.reduceEqDiff, Nat.reduceMod, Nat.zero_add, Nat.sub_zero, Nat.add_zero, bG, self_get bG, own_base L16, own_base0 L16, Try.underlying4, and_self, bne_self_eq_false, decide_true]
          have k7 : IntKind.i64.wrap ((l4.length : Int).tdiv 7) = ((l4.length / 7 : Nat) : Int) := by rw [Int.tdiv_eq_ediv_of_nonneg (by omega), wrap64 (by omega)]; omega
          by_cases hg : arGood f4 l4
          · rw [weekMeans, if_pos hg] at hZ; subst hZ
            try simp only [go_sem, Nat.reduceBEq, Nat.reduceAdd, Nat.reduceMul, Nat.reduceSub, Nat.reduceLeDiff, Nat.le_refl, implies_true, Nat.reduceLT, reduceIte, decide_true, decide_false, true_and, and_true, reduceCtorEq, Nat.mul_one, Int.reduceToNat, Int.reduceLE, Int.reduceLT, Int.reduceAdd, Int.reduceSub, Int.reduceMul, Int.cast_ofNat_Int, cast_zero_int, cast_one_int, Nat.reducePow, Nat.reduceEqDiff, Nat.reduceMod, Nat.zero_add, Nat.sub_zero, Nat.add_zero, bG, self_get bG, own_base L16, own_base0 L16, decb hg, hBin_quo (show (7 : Int) ≠ 0 by omega), k7, means_len, Try.underlying4, and_self, bne_self_eq_false, decide_true]
            obtain ⟨nG, aG⟩ : ∃ n, AI n H16 (.slice wGi l4.length 0) l4 := by obtain ⟨w, e, s⟩ := sG.aa; cases e; exact ⟨_, s⟩
            have aK := sK.ai
            refine vLoop.count mo (l4.length / 7) (fun i e h' => e 0 = .slice b n 0 ∧ e 26 = .pointer (some ⟨H14.length, 0, none⟩) ∧ e 27 = .slice wKi (l4.length / 7) 0 ∧ e 31 = .int .i64 i ∧ H16 = h') ?_ ?_
            · try simp only [go_sem, Nat.reduceBEq, Nat.reduceAdd, Nat.reduceMul, Nat.reduceSub, Nat.reduceLeDiff, Nat.le_refl, implies_true, Nat.reduceLT, reduceIte, decide_true, decide_false, true_and, and_true, reduceCtorEq, Nat.mul_one, Int.reduceToNat, Int.reduceLE, Int.reduceLT, Int.reduceAdd, Int.reduceSub, Int.reduceMul, Int.cast_ofNat_Int, cast_zero_int, cast_one_int, Nat.reducePow, Nat.reduceEqDiff, Nat.reduceMod, Nat.zero_add, Nat.sub_zero, Nat.add_zero]
              try rfl
              try simp
            · rintro i e _ hi ⟨e0, e26, e27, e31, rfl⟩
              try simp only [go_sem, Nat.reduceBEq, Nat.reduceAdd, Nat.reduceMul, Nat.reduceSub, Nat.reduceLeDiff, Nat.le_refl, implies_true, Nat.reduceLT, reduceIte, decide_true, decide_false, true_and, and_true, reduceCtorEq, Nat.mul_one, Int.reduceToNat, Int.reduceLE, Int.reduceLT, Int.reduceAdd, Int.reduceSub, Int.reduceMul, Int.cast_ofNat_Int, cast_zero_int, cast_one_int, Nat.reducePow, Nat.reduceEqDiff, Nat.reduceMod, Nat.zero_add, Nat.sub_zero, Nat.add_zero, bG, self_get bG, own_base L16, own_base0 L16, e0, e26, e27, e31]
              refine .intro (fun h1 => ?_) (fun h1 => ?_)
              · have hlt : i < l4.length / 7 := by have := h1; simp at this; omega
                obtain ⟨g1, g2, g3, g4⟩ := id hg
                have h7 : 7 * i + 7 ≤ l4.length := by omega
                have w6 : IntKind.i64.wrap (7 * (i : Int)) = ((7 * i : Nat) : Int) := by rw [wrap64 (by omega)]; rfl
                have w7 : IntKind.i64.wrap (((7 * i : Nat) : Int) + 7) = ((7 * i + 7 : Nat) : Int) := by rw [wrap64 (by omega)]; rfl
                obtain ⟨id, off, k, hv, _, hk0, hk1, hd1, hesz, _, _, hat⟩ := aG.at (by omega)
                obtain rfl : wGi = some ⟨id, off, none⟩ := by simpa using hv
                have hnn : (0 : Int) ≤ ((7 * i : Nat) : Int) ∧ (0 : Int) ≤ ((7 * i + 7 : Nat) : Int) := by omega
                have hw : ((l4.drop (7 * i)).take (7 * i + 7 - 7 * i)) = week l4 i := by rw [Nat.add_sub_cancel_left]; rfl
                have hs := AI.sub aG (a := 7 * i) (c := 7 * i + 7 - 7 * i) (by omega)
                rw [hw] at hs
                have hwb : ∀ x ∈ week l4 i, -200000 ≤ x ∧ x ≤ 200000 := fun x hx => by have := g1 x (List.mem_of_mem_drop (List.mem_of_mem_take hx)); omega
                have hwl : (week l4 i).length = 7 := by simp [week]; omega
                have hsum := psum_bound (l := week l4 i) (i := 7) (by omega) (fun x hx => hwb x (List.mem_of_mem_take hx))
                rw [psum, List.take_of_length_le (by omega)] at hsum
                try simp only [go_sem, Nat.reduceBEq, Nat.reduceAdd, Nat.reduceMul, Nat.reduceSub, Nat.reduceLeDiff, Nat.le_refl, implies_true, Nat.reduceLT, reduceIte, decide_true, decide_false, true_and, and_true, reduceCtorEq, Nat.mul_one, Int.reduceToNat, Int.reduceLE, Int.reduceLT, Int.reduceAdd, Int.reduceSub, Int.reduceMul, Int.cast_ofNat_Int, cast_zero_int, cast_one_int, Nat.reducePow, Nat.reduceEqDiff, Nat.reduceMod, Nat.zero_add, Nat.sub_zero, Nat.add_zero, onSl_more (show 0 < l4.length by omega), e0, e26, e27, e31, bG, w6, w7, hk1, hesz, hnn.1, hnn.2, h7, show 7 * i ≤ 7 * i + 7 by omega]
                refine ⟨by kernel_rfl, (c_rSum _ (week l4 i) hs (by omega) hwb).use (fun _ m => m) ?_⟩
                rintro _ _ ⟨rfl, rfl⟩
                obtain ⟨id2, off2, k2, hv2, _, hk20, hk2, hd2, _, _, _, hat2⟩ := aK.at (by rw [means_len]; omega)
                obtain rfl : wKi = some ⟨id2, off2, none⟩ := by simpa using hv2
                have hmn : (means l4 (l4.length / 7))[i]? = some (mean l4 i) := by simp [means, hlt]
                have hat3 : k2.cells[off2 + i]? = some (.int .i64 (mean l4 i)) := by rw [hat2 i (by rw [means_len]; omega)]; rw [List.getElem?_eq_getElem (by rw [means_len]; omega)] at hmn; rw [Option.some.inj hmn]
                have hme : mean l4 i = (week l4 i).sum / 7 := rfl
                have w8 : IntKind.i64.wrap (7 * mean l4 i) = 7 * mean l4 i := wrap64 (by omega)
                have w9 : IntKind.i64.wrap (7 * mean l4 i + 7) = 7 * mean l4 i + 7 := wrap64 (by omega)
                have k5 : IntKind.i64.wrap ((i : Int) + 1) = ((i + 1 : Nat) : Int) := by rw [wrap64 (by omega)]; rfl
                try simp only [go_sem, Nat.reduceBEq, Nat.reduceAdd, Nat.reduceMul, Nat.reduceSub, Nat.reduceLeDiff, Nat.le_refl, implies_true, Nat.reduceLT, reduceIte, decide_true, decide_false, true_and, and_true, reduceCtorEq, Nat.mul_one, Int.reduceToNat, Int.reduceLE, Int.reduceLT, Int.reduceAdd, Int.reduceSub, Int.reduceMul, Int.cast_ofNat_Int, cast_zero_int, cast_one_int, Nat.reducePow, Nat.reduceEqDiff, Nat.reduceMod, Nat.zero_add, Nat.sub_zero, Nat.add_zero, e0, e26, e27, e31, hk2, hd2, hat3, w8, w9, k5, show (i : Int) < ((l4.length / 7 : Nat) : Int) by omega, show ¬ ((week l4 i).sum < 7 * mean l4 i) by omega, show ¬ (7 * mean l4 i + 7 ≤ (week l4 i).sum) by omega]
                exact hlt
              · try simp only [go_sem, Nat.reduceBEq, Nat.reduceAdd, Nat.reduceMul, Nat.reduceSub, Nat.reduceLeDiff, Nat.le_refl, implies_true, Nat.reduceLT, reduceIte, decide_true, decide_false, true_and, and_true, reduceCtorEq, Nat.mul_one, Int.reduceToNat, Int.reduceLE, Int.reduceLT, Int.reduceAdd, Int.reduceSub, Int.reduceMul, Int.cast_ofNat_Int, cast_zero_int, cast_one_int, Nat.reducePow, Nat.reduceEqDiff, Nat.reduceMod, Nat.zero_add, Nat.sub_zero, Nat.add_zero, e0, e26, e27, e31]
                refine ⟨by kernel_rfl, (c_DrawValueOn b n hc).use (fun _ m => m) ?_⟩
                rintro _ H17 ⟨⟨fv, lv, wV, dv, rfl, sV, hlv⟩, P17⟩
                have L17 : h.length ≤ H17.length := by have := P17.length_le; first | omega | (simp only [List.length_append, List.length_cons, List.length_nil] at this; omega)
                have Q17 : H16.length + 0 ≤ H17.length := by have := P17.length_le; first | omega | (simp only [List.length_append, List.length_cons, List.length_nil] at this; omega)
                replace hc := hc.mono P17
                obtain ⟨wVw, rfl, ⟨wVi, rfl, _⟩⟩ := id sV
                try simp only [go_sem, Nat.reduceBEq, Nat.reduceAdd, Nat.reduceMul, Nat.reduceSub, Nat.reduceLeDiff, Nat.le_refl, implies_true, Nat.reduceLT, reduceIte, decide_true, decide_false, true_and, and_true, reduceCtorEq, Nat.mul_one, Int.reduceToNat, Int.reduceLE, Int.reduceLT, Int.reduceAdd, Int.reduceSub, Int.reduceMul, Int.cast_ofNat_Int, cast_zero_int, cast_one_int, Nat.reducePow, Nat.reduceEqDiff, Nat.reduceMod, Nat.zero_add, Nat.sub_zero, Nat.add_zero, own_base L17, own_base0 L17, e0, P17]
                obtain ⟨vm, vg, hv⟩ := valueOn_shape fv lv dv
                refine ⟨by kernel_rfl, (c_ValueOn _ fv lv dv (sV.mono (by simp)).aa (by omega)).use (fun _ m => m) ?_⟩
                rintro _ H18 ⟨hr, P18⟩
                have L18 : h.length ≤ H18.length := by have := P18.length_le; first | omega | (simp only [List.length_append, List.length_cons, List.length_nil] at this; omega)
                have Q18 : H17.length + 1 ≤ H18.length := by have := P18.length_le; first | omega | (simp only [List.length_append, List.length_cons, List.length_nil] at this; omega)
                replace hc := hc.mono ((List.prefix_append _ _).trans P18)
                replace sV := sV.mono ((List.prefix_append _ _).trans P18)
                have bV := keep_get (h := H17 ++ _) hget_new P18
                rw [hv] at hr
                subst hr
                try simp only [go_sem, Nat.reduceBEq, Nat.reduceAdd, Nat.reduceMul, Nat.reduceSub, Nat.reduceLeDiff, Nat.le_refl, implies_true, Nat.reduceLT, reduceIte, decide_true, decide_false, true_and, and_true, reduceCtorEq, Nat.mul_one, Int.reduceToNat, Int.reduceLE, Int.reduceLT, Int.reduceAdd, Int.reduceSub, Int.reduceMul, Int.cast_ofNat_Int, cast_zero_int, cast_one_int, Nat.reducePow, Nat.reduceEqDiff, Nat.reduceMod, Nat.zero_add, Nat.sub_zero, Nat.add_zero, bV, self_get bV, own_base L18, own_base0 L18, e0, P18, Try.underlying4, and_self, bne_self_eq_false, decide_true]
                refine ⟨by kernel_rfl, (c_sValueOn _ fv lv dv (sV.mono (by simp)).aa (by omega)).use (fun _ m => m) ?_⟩
                rintro _ H19 ⟨hr, P19⟩
                have L19 : h.length ≤ H19.length := by have := P19.length_le; first | omega | (simp only [List.length_append, List.length_cons, List.length_nil] at this; omega)
                have Q19 : H18.length + 0 ≤ H19.length := by have := P19.length_le; first | omega | (simp only [List.length_append, List.length_cons, List.length_nil] at this; omega)
                replace hc := hc.mono P19
                replace sV := sV.mono P19
                replace bV := keep_get bV P19
                rw [hv] at hr
                subst hr
                try simp only [go_sem, Nat.reduceBEq, Nat.reduceAdd, Nat.reduceMul, Nat.reduceSub, Nat.reduceLeDiff, Nat.le_refl, implies_true, Nat.reduceLT, reduceIte, decide_true, decide_false, true_and, and_true, reduceCtorEq, Nat.mul_one, Int.reduceToNat, Int.reduceLE, Int.reduceLT, Int.reduceAdd, Int.reduceSub, Int.reduceMul, Int.cast_ofNat_Int, cast_zero_int, cast_one_int, Nat.reducePow, Nat.reduceEqDiff, Nat.reduceMod, Nat.zero_add, Nat.sub_zero, Nat.add_zero, bV, self_get bV, own_base L19, own_base0 L19, e0, P19, Try.underlying4, and_self, bne_self_eq_false, decide_true]
          · rw [weekMeans, if_neg hg] at hZ; subst hZ
            try simp only [go_sem, Nat.reduceBEq, Nat.reduceAdd, Nat.reduceMul, Nat.reduceSub, Nat.reduceLeDiff, Nat.le_refl, implies_true, Nat.reduceLT, reduceIte, decide_true, decide_false, true_and, and_true, reduceCtorEq, Nat.mul_one, Int.reduceToNat, Int.reduceLE, Int.reduceLT, Int.reduceAdd, Int.reduceSub, Int.reduceMul, Int.cast_ofNat_Int, cast_zero_int, cast_one_int, Nat.reducePow, Nat.reduceEqDiff, Nat.reduceMod, Nat.zero_add, Nat.sub_zero, Nat.add_zero, bG, self_get bG, own_base L16, own_base0 L16, dect hg, hBin_quo (show (7 : Int) ≠ 0 by omega), k7, List.length_nil, Try.underlying4, and_self, bne_self_eq_false, decide_true]
            refine vLoop.count mo 0 (fun i e h' => e 0 = .slice b n 0 ∧ e 27 = .slice wKi 0 0 ∧ e 31 = .int .i64 0 ∧ H16 = h') ?_ ?_
            · try simp only [go_sem, Nat.reduceBEq, Nat.reduceAdd, Nat.reduceMul, Nat.reduceSub, Nat.reduceLeDiff, Nat.le_refl, implies_true, Nat.reduceLT, reduceIte, decide_true, decide_false, true_and, and_true, reduceCtorEq, Nat.mul_one, Int.reduceToNat, Int.reduceLE, Int.reduceLT, Int.reduceAdd, Int.reduceSub, Int.reduceMul, Int.cast_ofNat_Int, cast_zero_int, cast_one_int, Nat.reducePow, Nat.reduceEqDiff, Nat.reduceMod, Nat.zero_add, Nat.sub_zero, Nat.add_zero]
              try rfl
              try simp
            · rintro i e _ hi ⟨e0, e27, e31, rfl⟩
              try simp only [go_sem, Nat.reduceBEq, Nat.reduceAdd, Nat.reduceMul, Nat.reduceSub, Nat.reduceLeDiff, Nat.le_refl, implies_true, Nat.reduceLT, reduceIte, decide_true, decide_false, true_and, and_true, reduceCtorEq, Nat.mul_one, Int.reduceToNat, Int.reduceLE, Int.reduceLT, Int.reduceAdd, Int.reduceSub, Int.reduceMul, Int.cast_ofNat_Int, cast_zero_int, cast_one_int, Nat.reducePow, Nat.reduceEqDiff, Nat.reduceMod, Nat.zero_add, Nat.sub_zero, Nat.add_zero, bG, self_get bG, own_base L16, own_base0 L16, e0, e27, e31]
              refine ⟨by kernel_rfl, (c_DrawValueOn b n hc).use (fun _ m => m) ?_⟩
              rintro _ H17 ⟨⟨fv, lv, wV, dv, rfl, sV, hlv⟩, P17⟩
              have L17 : h.length ≤ H17.length := by have := P17.length_le; first | omega | (simp only [List.length_append, List.length_cons, List.length_nil] at this; omega)
              have Q17 : H16.length + 0 ≤ H17.length := by have := P17.length_le; first | omega | (simp only [List.length_append, List.length_cons, List.length_nil] at this; omega)
              replace hc := hc.mono P17
              obtain ⟨wVw, rfl, ⟨wVi, rfl, _⟩⟩ := id sV
              try simp only [go_sem, Nat.reduceBEq, Nat.reduceAdd, Nat.reduceMul, Nat.reduceSub, Nat.reduceLeDiff, Nat.le_refl, implies_true, Nat.reduceLT, reduceIte, decide_true, decide_false, true_and, and_true, reduceCtorEq, Nat.mul_one, Int.reduceToNat, Int.reduceLE, Int.reduceLT, Int.reduceAdd, Int.reduceSub, Int.reduceMul, Int.cast_ofNat_Int, cast_zero_int, cast_one_int, Nat.reducePow, Nat.reduceEqDiff, Nat.reduceMod, Nat.zero_add, Nat.sub_zero, Nat.add_zero, own_base L17, own_base0 L17, e0, P17]
              obtain ⟨vm, vg, hv⟩ := valueOn_shape fv lv dv
              refine ⟨by kernel_rfl, (c_ValueOn _ fv lv dv (sV.mono (by simp)).aa (by omega)).use (fun _ m => m) ?_⟩
              rintro _ H18 ⟨hr, P18⟩
              have L18 : h.length ≤ H18.length := by have := P18.length_le; first | omega | (simp only [List.length_append, List.length_cons, List.length_nil] at this; omega)
              have Q18 : H17.length + 1 ≤ H18.length := by have := P18.length_le; first | omega | (simp only [List.length_append, List.length_cons, List.length_nil] at this; omega)
              replace hc := hc.mono ((List.prefix_append _ _).trans P18)
              replace sV := sV.mono ((List.prefix_append _ _).trans P18)
              have bV := keep_get (h := H17 ++ _) hget_new P18
              rw [hv] at hr
              subst hr
              try simp only [go_sem, Nat.reduceBEq, Nat.reduceAdd, Nat.reduceMul, Nat.reduceSub, Nat.reduceLeDiff, Nat.le_refl, implies_true, Nat.reduceLT, reduceIte, decide_true, decide_false, true_and, and_true, reduceCtorEq, Nat.mul_one, Int.reduceToNat, Int.reduceLE, Int.reduceLT, Int.reduceAdd, Int.reduceSub, Int.reduceMul, Int.cast_ofNat_Int, cast_zero_int, cast_one_int, Nat.reducePow, Nat.reduceEqDiff, Nat.reduceMod, Nat.zero_add, Nat.sub_zero, Nat.add_zero, bV, self_get bV, own_base L18, own_base0 L18, e0, P18, Try.underlying4, and_self, bne_self_eq_false, decide_true]
              refine ⟨by kernel_rfl, (c_sValueOn _ fv lv dv (sV.mono (by simp)).aa (by omega)).use (fun _ m => m) ?_⟩
              rintro _ H19 ⟨hr, P19⟩
              have L19 : h.length ≤ H19.length := by have := P19.length_le; first | omega | (simp only [List.length_append, List.length_cons, List.length_nil] at this; omega)
              have Q19 : H18.length + 0 ≤ H19.length := by have := P19.length_le; first | omega | (simp only [List.length_append, List.length_cons, List.length_nil] at this; omega)
              replace hc := hc.mono P19
              replace sV := sV.mono P19
              replace bV := keep_get bV P19
              rw [hv] at hr
              subst hr
              try simp only [go_sem, Nat.reduceBEq, Nat.reduceAdd, Nat.reduceMul, Nat.reduceSub, Nat.reduceLeDiff, Nat.le_refl, implies_true, Nat.reduceLT, reduceIte, decide_true, decide_false, true_and, and_true, reduceCtorEq, Nat.mul_one, Int.reduceToNat, Int.reduceLE, Int.reduceLT, Int.reduceAdd, Int.reduceSub, Int.reduceMul, Int.cast_ofNat_Int, cast_zero_int, cast_one_int, Nat.reducePow, Nat.reduceEqDiff, Nat.reduceMod, Nat.zero_add, Nat.sub_zero, Nat.add_zero, bV, self_get bV, own_base L19, own_base0 L19, e0, P19, Try.underlying4, and_self, bne_self_eq_false, decide_true]
        · rw [joinF, if_neg hj] at hX3; rw [joinL, if_neg hj] at hY3; subst hX3 hY3
          try simp only [go_sem, Nat.reduceBEq, Nat.reduceAdd, Nat.reduceMul, Nat.reduceSub, Nat.reduceLeDiff, Nat.le_refl, implies_true, Nat.reduceLT, reduceIte, decide_true, decide_false, true_and, and_true, reduceCtorEq, Nat.mul_one, Int.reduceToNat, Int.reduceLE, Int.reduceLT, Int.reduceAdd, Int.reduceSub, Int.reduceMul, Int.cast_ofNat_Int, cast_zero_int, cast_one_int, Nat.reducePow, Nat.reduceEqDiff, Nat.reduceMod, Nat.zero_add, Nat.sub_zero, Nat.add_zero, bI, bJ, bN, bO, self_get bI, self_get bJ, self_get bN, self_get bO, own_base L13, own_base0 L13, dect hj, Try.underlying4, and_self, bne_self_eq_false, decide_true]
          refine ⟨by kernel_rfl, (c_DrawWeekMeans b n hc).use (fun _ m => m) ?_⟩
          rintro _ H14 ⟨⟨f4, l4, ⟨wG, rfl, sG0⟩, hl4⟩, P14⟩
          have L14 : h.length ≤ H14.length := by have := P14.length_le; first | omega | (simp only [List.length_append, List.length_cons, List.length_nil] at this; omega)
          have Q14 : H13.length + 0 ≤ H14.length := by have := P14.length_le; first | omega | (simp only [List.length_append, List.length_cons, List.length_nil] at this; omega)
          replace hc := hc.mono P14
          have sG : FA _ _ H14 (.agg #[.int .i64 f4, wG]) f4 l4 := ⟨_, rfl, sG0⟩
          obtain ⟨wGi, rfl, _⟩ := id sG0
          try simp only [go_sem, Nat.reduceBEq, Nat.reduceAdd, Nat.reduceMul, Nat.reduceSub, Nat.reduceLeDiff, Nat.le_refl, implies_true, Nat.reduceLT, reduceIte, decide_true, decide_false, true_and, and_true, reduceCtorEq, Nat.mul_one, Int.reduceToNat, Int.reduceLE, Int.reduceLT, Int.reduceAdd, Int.reduceSub, Int.reduceMul, Int.cast_ofNat_Int, cast_zero_int, cast_one_int, Nat.reducePow, Nat.reduceEqDiff, Nat.reduceMod, Nat.zero_add, Nat.sub_zero, Nat.add_zero, own_base L14, own_base0 L14, P14]
          obtain ⟨Z, hZ⟩ : ∃ Z : List Int, weekMeans f4 l4 = Z := ⟨_, rfl⟩
          have hZm : Z.length ≤ 1048576 := by rw [← hZ]; exact weekMeans_len f4 (by omega)
          refine ⟨by kernel_rfl, (c_WeekMeans _ f4 l4 (sG.mono (by simp)).aa (by omega)).use (fun _ m => m) ?_⟩
          rintro _ H15 ⟨⟨wK, rfl, sK⟩, P15⟩
          have L15 : h.length ≤ H15.length := by have := P15.length_le; first | omega | (simp only [List.length_append, List.length_cons, List.length_nil] at this; omega)
          have Q15 : H14.length + 1 ≤ H15.length := by have := P15.length_le; first | omega | (simp only [List.length_append, List.length_cons, List.length_nil] at this; omega)
          replace hc := hc.mono ((List.prefix_append _ _).trans P15)
          replace sG := sG.mono ((List.prefix_append _ _).trans P15)
          have bG := keep_get (h := H14 ++ _) hget_new P15
          rw [hZ] at sK
          obtain ⟨wKi, rfl, _⟩ := id sK
          try simp only [go_sem, Nat.reduceBEq, Nat.reduceAdd, Nat.reduceMul, Nat.reduceSub, Nat.reduceLeDiff, Nat.le_refl, implies_true, Nat.reduceLT, reduceIte, decide_true, decide_false, true_and, and_true, reduceCtorEq, Nat.mul_one, Int.reduceToNat, Int.reduceLE, Int.reduceLT, Int.reduceAdd, Int.reduceSub, Int.reduceMul, Int.cast_ofNat_Int, cast_zero_int, cast_one_int, Nat.reducePow, Nat.reduceEqDiff, Nat.reduceMod, Nat.zero_add, Nat.sub_zero, Nat.add_zero, bG, self_get bG, own_base L15, own_base0 L15, P15, Try.underlying4, and_self, bne_self_eq_false, decide_true]
          refine ⟨by kernel_rfl, (c_sWeekMeans _ f4 l4 (sG.mono (by simp)).aa (by omega)).use (fun _ m => m) ?_⟩
          rintro _ H16 ⟨⟨wL, rfl, sL⟩, P16⟩
          have L16 : h.length ≤ H16.length := by have := P16.length_le; first | omega | (simp only [List.length_append, List.length_cons, List.length_nil] at this; omega)
          have Q16 : H15.length + 0 ≤ H16.length := by have := P16.length_le; first | omega | (simp only [List.length_append, List.length_cons, List.length_nil] at this; omega)
          replace hc := hc.mono P16
          replace sG := sG.mono P16
          replace sK := sK.mono P16
          replace bG := keep_get bG P16
          rw [hZ] at sL
          obtain ⟨wLi, rfl, _⟩ := id sL
          try simp only [go_sem, Nat.reduceBEq, Nat.reduceAdd, Nat.reduceMul, Nat.reduceSub, Nat.reduceLeDiff, Nat.le_refl, implies_true, Nat.reduceLT, reduceIte, decide_true, decide_false, true_and, and_true, reduceCtorEq, Nat.mul_one, Int.reduceToNat, Int.reduceLE, Int.reduceLT, Int.reduceAdd, Int.reduceSub, Int.reduceMul, Int.cast_ofNat_Int, cast_zero_int, cast_one_int, Nat.reducePow, Nat.reduceEqDiff, Nat.reduceMod, Nat.zero_add, Nat.sub_zero, Nat.add_zero, bG, self_get bG, own_base L16, own_base0 L16, P16, Try.underlying4, and_self, bne_self_eq_false, decide_true]
          refine ⟨by kernel_rfl, (c_rInts _ _ Z (sK.mono (by simp)).ai (sL.mono (by simp)).ai hZm).use (fun _ m => m) ?_⟩
          rintro _ _ ⟨rfl, rfl⟩
          try simp only [go_sem, Nat.reduceBEq, Nat.reduceAdd, Nat.reduceMul, Nat.reduceSub, Nat.reduceLeDiff, Nat.le_refl, implies_true, Nat.reduceLT, reduceIte, decide_true, decide_false, true_and, and_true, reduceCtorEq, Nat.mul_one, Int.reduceToNat, Int.reduceLE, Int.reduceLT, Int.reduceAdd, Int.reduceSub, Int.reduceMul, Int.cast_ofNat_Int, cast_zero_int, cast_one_int, Nat.reducePow, Nat.reduceEqDiff, Nat.reduceMod, Nat.zero_add, Nat.sub_zero, Nat.add_zero, bG, self_get bG, own_base L16, own_base0 L16, Try.underlying4, and_self, bne_self_eq_false, decide_true]
          have k7 : IntKind.i64.wrap ((l4.length : Int).tdiv 7) = ((l4.length / 7 : Nat) : Int) := by rw [Int.tdiv_eq_ediv_of_nonneg (by omega), wrap64 (by omega)]; omega
          by_cases hg : arGood f4 l4
          · rw [weekMeans, if_pos hg] at hZ; subst hZ
            try simp only [go_sem, Nat.reduceBEq, Nat.reduceAdd, Nat.reduceMul, Nat.reduceSub, Nat.reduceLeDiff, Nat.le_refl, implies_true, Nat.reduceLT, reduceIte, decide_true, decide_false, true_and, and_true, reduceCtorEq, Nat.mul_one, Int.reduceToNat, Int.reduceLE, Int.reduceLT, Int.reduceAdd, Int.reduceSub, Int.reduceMul, Int.cast_ofNat_Int, cast_zero_int, cast_one_int, Nat.reducePow, Nat.reduceEqDiff, Nat.reduceMod, Nat.zero_add, Nat.sub_zero, Nat.add_zero, bG, self_get bG, own_base L16, own_base0 L16, decb hg, hBin_quo (show (7 : Int) ≠ 0 by omega), k7, means_len, Try.underlying4, and_self, bne_self_eq_false, decide_true]
            obtain ⟨nG, aG⟩ : ∃ n, AI n H16 (.slice wGi l4.length 0) l4 := by obtain ⟨w, e, s⟩ := sG.aa; cases e; exact ⟨_, s⟩
            have aK := sK.ai
            refine vLoop.count mo (l4.length / 7) (fun i e h' => e 0 = .slice b n 0 ∧ e 26 = .pointer (some ⟨H14.length, 0, none⟩) ∧ e 27 = .slice wKi (l4.length / 7) 0 ∧ e 31 = .int .i64 i ∧ H16 = h') ?_ ?_
            · try simp only [go_sem, Nat.reduceBEq, Nat.reduceAdd, Nat.reduceMul, Nat.reduceSub, Nat.reduceLeDiff, Nat.le_refl, implies_true, Nat.reduceLT, reduceIte, decide_true, decide_false, true_and, and_true, reduceCtorEq, Nat.mul_one, Int.reduceToNat, Int.reduceLE, Int.reduceLT, Int.reduceAdd, Int.reduceSub, Int.reduceMul, Int.cast_ofNat_Int, cast_zero_int, cast_one_int, Nat.reducePow, Nat.reduceEqDiff, Nat.reduceMod, Nat.zero_add, Nat.sub_zero, Nat.add_zero]
              try rfl
              try simp
            · rintro i e _ hi ⟨e0, e26, e27, e31, rfl⟩
              try simp only [go_sem, Nat.reduceBEq, Nat.reduceAdd, Nat.reduceMul, Nat.reduceSub, Nat.reduceLeDiff, Nat.le_refl, implies_true, Nat.reduceLT, reduceIte, decide_true, decide_false, true_and, and_true, reduceCtorEq, Nat.mul_one, Int.reduceToNat, Int.reduceLE, Int.reduceLT, Int.reduceAdd, Int.reduceSub, Int.reduceMul, Int.cast_ofNat_Int, cast_zero_int, cast_one_int, Nat.reducePow, Nat.reduceEqDiff, Nat.reduceMod, Nat.zero_add, Nat.sub_zero, Nat.add_zero, bG, self_get bG, own_base L16, own_base0 L16, e0, e26, e27, e31]
              refine .intro (fun h1 => ?_) (fun h1 => ?_)
              · have hlt : i < l4.length / 7 := by have := h1; simp at this; omega
                obtain ⟨g1, g2, g3, g4⟩ := id hg
                have h7 : 7 * i + 7 ≤ l4.length := by omega
                have w6 : IntKind.i64.wrap (7 * (i : Int)) = ((7 * i : Nat) : Int) := by rw [wrap64 (by omega)]; rfl
                have w7 : IntKind.i64.wrap (((7 * i : Nat) : Int) + 7) = ((7 * i + 7 : Nat) : Int) := by rw [wrap64 (by omega)]; rfl
                obtain ⟨id, off, k, hv, _, hk0, hk1, hd1, hesz, _, _, hat⟩ := aG.at (by omega)
                obtain rfl : wGi = some ⟨id, off, none⟩ := by simpa using hv
                have hnn : (0 : Int) ≤ ((7 * i : Nat) : Int) ∧ (0 : Int) ≤ ((7 * i + 7 : Nat) : Int) := by omega
                have hw : ((l4.drop (7 * i)).take (7 * i + 7 - 7 * i)) = week l4 i := by rw [Nat.add_sub_cancel_left]; rfl
                have hs := AI.sub aG (a := 7 * i) (c := 7 * i + 7 - 7 * i) (by omega)
                rw [hw] at hs
                have hwb : ∀ x ∈ week l4 i, -200000 ≤ x ∧ x ≤ 200000 := fun x hx => by have := g1 x (List.mem_of_mem_drop (List.mem_of_mem_take hx)); omega
                have hwl : (week l4 i).length = 7 := by simp [week]; omega
                have hsum := psum_bound (l := week l4 i) (i := 7) (by omega) (fun x hx => hwb x (List.mem_of_mem_take hx))
                rw [psum, List.take_of_length_le (by omega)] at hsum
                try simp only [go_sem, Nat.reduceBEq, Nat.reduceAdd, Nat.reduceMul, Nat.reduceSub, Nat.reduceLeDiff, Nat.le_refl, implies_true, Nat.reduceLT, reduceIte, decide_true, decide_false, true_and, and_true, reduceCtorEq, Nat.mul_one, Int.reduceToNat, Int.reduceLE, Int.reduceLT, Int.reduceAdd, Int.reduceSub, Int.reduceMul, Int.cast_ofNat_Int, cast_zero_int, cast_one_int, Nat.reducePow, Nat.reduceEqDiff, Nat.reduceMod, Nat.zero_add, Nat.sub_zero, Nat.add_zero, onSl_more (show 0 < l4.length by omega), e0, e26, e27, e31, bG, w6, w7, hk1, hesz, hnn.1, hnn.2, h7, show 7 * i ≤ 7 * i + 7 by omega]
                refine ⟨by kernel_rfl, (c_rSum _ (week l4 i) hs (by omega) hwb).use (fun _ m => m) ?_⟩
                rintro _ _ ⟨rfl, rfl⟩
                obtain ⟨id2, off2, k2, hv2, _, hk20, hk2, hd2, _, _, _, hat2⟩ := aK.at (by rw [means_len]; omega)
                obtain rfl : wKi = some ⟨id2, off2, none⟩ := by simpa using hv2
                have hmn : (means l4 (l4.length / 7))[i]? = some (mean l4 i) := by simp [means, hlt]
                have hat3 : k2.cells[off2 + i]? = some (.int .i64 (mean l4 i)) := by rw [hat2 i (by rw [means_len]; omega)]; rw [List.getElem?_eq_getElem (by rw [means_len]; omega)] at hmn; rw [Option.some.inj hmn]
                have hme : mean l4 i = (week l4 i).sum / 7 := rfl
                have w8 : IntKind.i64.wrap (7 * mean l4 i) = 7 * mean l4 i := wrap64 (by omega)
                have w9 : IntKind.i64.wrap (7 * mean l4 i + 7) = 7 * mean l4 i + 7 := wrap64 (by omega)
                have k5 : IntKind.i64.wrap ((i : Int) + 1) = ((i + 1 : Nat) : Int) := by rw [wrap64 (by omega)]; rfl
                try simp only [go_sem, Nat.reduceBEq, Nat.reduceAdd, Nat.reduceMul, Nat.reduceSub, Nat.reduceLeDiff, Nat.le_refl, implies_true, Nat.reduceLT, reduceIte, decide_true, decide_false, true_and, and_true, reduceCtorEq, Nat.mul_one, Int.reduceToNat, Int.reduceLE, Int.reduceLT, Int.reduceAdd, Int.reduceSub, Int.reduceMul, Int.cast_ofNat_Int, cast_zero_int, cast_one_int, Nat.reducePow, Nat.reduceEqDiff, Nat.reduceMod, Nat.zero_add, Nat.sub_zero, Nat.add_zero, e0, e26, e27, e31, hk2, hd2, hat3, w8, w9, k5, show (i : Int) < ((l4.length / 7 : Nat) : Int) by omega, show ¬ ((week l4 i).sum < 7 * mean l4 i) by omega, show ¬ (7 * mean l4 i + 7 ≤ (week l4 i).sum) by omega]
                exact hlt
              · try simp only [go_sem, Nat.reduceBEq, Nat.reduceAdd, Nat.reduceMul, Nat.reduceSub, Nat.reduceLeDiff, Nat.le_refl, implies_true, Nat.reduceLT, reduceIte, decide_true, decide_false, true_and, and_true, reduceCtorEq, Nat.mul_one, Int.reduceToNat, Int.reduceLE, Int.reduceLT, Int.reduceAdd, Int.reduceSub, Int.reduceMul, Int.cast_ofNat_Int, cast_zero_int, cast_one_int, Nat.reducePow, Nat.reduceEqDiff, Nat.reduceMod, Nat.zero_add, Nat.sub_zero, Nat.add_zero, e0, e26, e27, e31]
                refine ⟨by kernel_rfl, (c_DrawValueOn b n hc).use (fun _ m => m) ?_⟩
                rintro _ H17 ⟨⟨fv, lv, wV, dv, rfl, sV, hlv⟩, P17⟩
                have L17 : h.length ≤ H17.length := by have := P17.length_le; first | omega | (simp only [List.length_append, List.length_cons, List.length_nil] at this; omega)
                have Q17 : H16.length + 0 ≤ H17.length := by have := P17.length_le; first | omega | (simp only [List.length_append, List.length_cons, List.length_nil] at this; omega)
                replace hc := hc.mono P17
                obtain ⟨wVw, rfl, ⟨wVi, rfl, _⟩⟩ := id sV
                try simp only [go_sem, Nat.reduceBEq, Nat.reduceAdd, Nat.reduceMul, Nat.reduceSub, Nat.reduceLeDiff, Nat.le_refl, implies_true, Nat.reduceLT, reduceIte, decide_true, decide_false, true_and, and_true, reduceCtorEq, Nat.mul_one, Int.reduceToNat, Int.reduceLE, Int.reduceLT, Int.reduceAdd, Int.reduceSub, Int.reduceMul, Int.cast_ofNat_Int, cast_zero_int, cast_one_int, Nat.reducePow, Nat.reduceEqDiff, Nat.reduceMod, Nat.zero_add, Nat.sub_zero, Nat.add_zero, own_base L17, own_base0 L17, e0, P17]
                obtain ⟨vm, vg, hv⟩ := valueOn_shape fv lv dv
                refine ⟨by kernel_rfl, (c_ValueOn _ fv lv dv (sV.mono (by simp)).aa (by omega)).use (fun _ m => m) ?_⟩
                rintro _ H18 ⟨hr, P18⟩
                have L18 : h.length ≤ H18.length := by have := P18.length_le; first | omega | (simp only [List.length_append, List.length_cons, List.length_nil] at this; omega)
                have Q18 : H17.length + 1 ≤ H18.length := by have := P18.length_le; first | omega | (simp only [List.length_append, List.length_cons, List.length_nil] at this; omega)
                replace hc := hc.mono ((List.prefix_append _ _).trans P18)
                replace sV := sV.mono ((List.prefix_append _ _).trans P18)
                have bV := keep_get (h := H17 ++ _) hget_new P18
                rw [hv] at hr
                subst hr
                try simp only [go_sem, Nat.reduceBEq, Nat.reduceAdd, Nat.reduceMul, Nat.reduceSub, Nat.reduceLeDiff, Nat.le_refl, implies_true, Nat.reduceLT, reduceIte, decide_true, decide_false, true_and, and_true, reduceCtorEq, Nat.mul_one, Int.reduceToNat, Int.reduceLE, Int.reduceLT, Int.reduceAdd, Int.reduceSub, Int.reduceMul, Int.cast_ofNat_Int, cast_zero_int, cast_one_int, Nat.reducePow, Nat.reduceEqDiff, Nat.reduceMod, Nat.zero_add, Nat.sub_zero, Nat.add_zero, bV, self_get bV, own_base L18, own_base0 L18, e0, P18, Try.underlying4, and_self, bne_self_eq_false, decide_true]
                refine ⟨by kernel_rfl, (c_sValueOn _ fv lv dv (sV.mono (by simp)).aa (by omega)).use (fun _ m => m) ?_⟩
                rintro _ H19 ⟨hr, P19⟩
                have L19 : h.length ≤ H19.length := by have := P19.length_le; first | omega | (simp only [List.length_append, List.length_cons, List.length_nil] at this; omega)
                have Q19 : H18.length + 0 ≤ H19.length := by have := P19.length_le; first | omega | (simp only [List.length_append, List.length_cons, List.length_nil] at this; omega)
                replace hc := hc.mono P19
                replace sV := sV.mono P19
                replace bV := keep_get bV P19
                rw [hv] at hr
                subst hr
                try simp only [go_sem, Nat.reduceBEq, Nat.reduceAdd, Nat.reduceMul, Nat.reduceSub, Nat.reduceLeDiff, Nat.le_refl, implies_true, Nat.reduceLT, reduceIte, decide_true, decide_false, true_and, and_true, reduceCtorEq, Nat.mul_one, Int.reduceToNat, Int.reduceLE, Int.reduceLT, Int.reduceAdd, Int.reduceSub, Int.reduceMul, Int.cast_ofNat_Int, cast_zero_int, cast_one_int, Nat.reducePow, Nat.reduceEqDiff, Nat.reduceMod, Nat.zero_add, Nat.sub_zero, Nat.add_zero, bV, self_get bV, own_base L19, own_base0 L19, e0, P19, Try.underlying4, and_self, bne_self_eq_false, decide_true]
          · rw [weekMeans, if_neg hg] at hZ; subst hZ
            try simp only [go_sem, Nat.reduceBEq, Nat.reduceAdd, Nat.reduceMul, Nat.reduceSub, Nat.reduceLeDiff, Nat.le_refl, implies_true, Nat.reduceLT, reduceIte, decide_true, decide_false, true_and, and_true, reduceCtorEq, Nat.mul_one, Int.reduceToNat, Int.reduceLE, Int.reduceLT, Int.reduceAdd, Int.reduceSub, Int.reduceMul, Int.cast_ofNat_Int, cast_zero_int, cast_one_int, Nat.reducePow, Nat.reduceEqDiff, Nat.reduceMod, Nat.zero_add, Nat.sub_zero, Nat.add_zero, bG, self_get bG, own_base L16, own_base0 L16, dect hg, hBin_quo (show (7 : Int) ≠ 0 by omega), k7, List.length_nil, Try.underlying4, and_self, bne_self_eq_false, decide_true]
            refine vLoop.count mo 0 (fun i e h' => e 0 = .slice b n 0 ∧ e 27 = .slice wKi 0 0 ∧ e 31 = .int .i64 0 ∧ H16 = h') ?_ ?_
            · try simp only [go_sem, Nat.reduceBEq, Nat.reduceAdd, Nat.reduceMul, Nat.reduceSub, Nat.reduceLeDiff, Nat.le_refl, implies_true, Nat.reduceLT, reduceIte, decide_true, decide_false, true_and, and_true, reduceCtorEq, Nat.mul_one, Int.reduceToNat, Int.reduceLE, Int.reduceLT, Int.reduceAdd, Int.reduceSub, Int.reduceMul, Int.cast_ofNat_Int, cast_zero_int, cast_one_int, Nat.reducePow, Nat.reduceEqDiff, Nat.reduceMod, Nat.zero_add, Nat.sub_zero, Nat.add_zero]
              try rfl
              try simp
            · rintro i e _ hi ⟨e0, e27, e31, rfl⟩
              try simp only [go_sem, Nat.reduceBEq, Nat.reduceAdd, Nat.reduceMul, Nat.reduceSub, Nat.reduceLeDiff, Nat.le_refl, implies_true, Nat.reduceLT, reduceIte, decide_true, decide_false, true_and, and_true, reduceCtorEq, Nat.mul_one, Int.reduceToNat, Int.reduceLE, Int.reduceLT, Int.reduceAdd, Int.reduceSub, Int.reduceMul, Int.cast_ofNat_Int, cast_zero_int, cast_one_int, Nat.reducePow, Nat.reduceEqDiff, Nat.reduceMod, Nat.zero_add, Nat.sub_zero, Nat.add_zero, bG, self_get bG, own_base L16, own_base0 L16, e0, e27, e31]
              refine ⟨by kernel_rfl, (c_DrawValueOn b n hc).use (fun _ m => m) ?_⟩
              rintro _ H17 ⟨⟨fv, lv, wV, dv, rfl, sV, hlv⟩, P17⟩
              have L17 : h.length ≤ H17.length := by have := P17.length_le; first | omega | (simp only [List.length_append, List.length_cons, List.length_nil] at this; omega)
              have Q17 : H16.length + 0 ≤ H17.length := by have := P17.length_le; first | omega | (simp only [List.length_append, List.length_cons, List.length_nil] at this; omega)
              replace hc := hc.mono P17
              obtain ⟨wVw, rfl, ⟨wVi, rfl, _⟩⟩ := id sV
              try simp only [go_sem, Nat.reduceBEq, Nat.reduceAdd, Nat.reduceMul, Nat.reduceSub, Nat.reduceLeDiff, Nat.le_refl, implies_true, Nat.reduceLT, reduceIte, decide_true, decide_false, true_and, and_true, reduceCtorEq, Nat.mul_one, Int.reduceToNat, Int.reduceLE, Int.reduceLT, Int.reduceAdd, Int.reduceSub, Int.reduceMul, Int.cast_ofNat_Int, cast_zero_int, cast_one_int, Nat.reducePow, Nat.reduceEqDiff, Nat.reduceMod, Nat.zero_add, Nat.sub_zero, Nat.add_zero, own_base L17, own_base0 L17, e0, P17]
              obtain ⟨vm, vg, hv⟩ := valueOn_shape fv lv dv
              refine ⟨by kernel_rfl, (c_ValueOn _ fv lv dv (sV.mono (by simp)).aa (by omega)).use (fun _ m => m) ?_⟩
              rintro _ H18 ⟨hr, P18⟩
              have L18 : h.length ≤ H18.length := by have := P18.length_le; first | omega | (simp only [List.length_append, List.length_cons, List.length_nil] at this; omega)
              have Q18 : H17.length + 1 ≤ H18.length := by have := P18.length_le; first | omega | (simp only [List.length_append, List.length_cons, List.length_nil] at this; omega)
              replace hc := hc.mono ((List.prefix_append _ _).trans P18)
              replace sV := sV.mono ((List.prefix_append _ _).trans P18)
              have bV := keep_get (h := H17 ++ _) hget_new P18
              rw [hv] at hr
              subst hr
              try simp only [go_sem, Nat.reduceBEq, Nat.reduceAdd, Nat.reduceMul, Nat.reduceSub, Nat.reduceLeDiff, Nat.le_refl, implies_true, Nat.reduceLT, reduceIte, decide_true, decide_false, true_and, and_true, reduceCtorEq, Nat.mul_one, Int.reduceToNat, Int.reduceLE, Int.reduceLT, Int.reduceAdd, Int.reduceSub, Int.reduceMul, Int.cast_ofNat_Int, cast_zero_int, cast_one_int, Nat.reducePow, Nat.reduceEqDiff, Nat.reduceMod, Nat.zero_add, Nat.sub_zero, Nat.add_zero, bV, self_get bV, own_base L18, own_base0 L18, e0, P18, Try.underlying4, and_self, bne_self_eq_false, decide_true]
              refine ⟨by kernel_rfl, (c_sValueOn _ fv lv dv (sV.mono (by simp)).aa (by omega)).use (fun _ m => m) ?_⟩
              rintro _ H19 ⟨hr, P19⟩
              have L19 : h.length ≤ H19.length := by have := P19.length_le; first | omega | (simp only [List.length_append, List.length_cons, List.length_nil] at this; omega)
              have Q19 : H18.length + 0 ≤ H19.length := by have := P19.length_le; first | omega | (simp only [List.length_append, List.length_cons, List.length_nil] at this; omega)
              replace hc := hc.mono P19
              replace sV := sV.mono P19
              replace bV := keep_get bV P19
              rw [hv] at hr
              subst hr
              try simp only [go_sem, Nat.reduceBEq, Nat.reduceAdd, Nat.reduceMul, Nat.reduceSub, Nat.reduceLeDiff, Nat.le_refl, implies_true, Nat.reduceLT, reduceIte, decide_true, decide_false, true_and, and_true, reduceCtorEq, Nat.mul_one, Int.reduceToNat, Int.reduceLE, Int.reduceLT, Int.reduceAdd, Int.reduceSub, Int.reduceMul, Int.cast_ofNat_Int, cast_zero_int, cast_one_int, Nat.reducePow, Nat.reduceEqDiff, Nat.reduceMod, Nat.zero_add, Nat.sub_zero, Nat.add_zero, bV, self_get bV, own_base L19, own_base0 L19, e0, P19, Try.underlying4, and_self, bne_self_eq_false, decide_true]
      · rw [if_neg hcut] at hX2 hY2; subst hX2 hY2
        try simp only [go_sem, Nat.reduceBEq, Nat.reduceAdd, Nat.reduceMul, Nat.reduceSub, Nat.reduceLeDiff, Nat.le_refl, implies_true, Nat.reduceLT, reduceIte, decide_true, decide_false, true_and, and_true, reduceCtorEq, Nat.mul_one, Int.reduceToNat, Int.reduceLE, Int.reduceLT, Int.reduceAdd, Int.reduceSub, Int.reduceMul, Int.cast_ofNat_Int, cast_zero_int, cast_one_int, Nat.reducePow, Nat.reduceEqDiff, Nat.reduceMod, Nat.zero_add, Nat.sub_zero, Nat.add_zero, bD, bE, bF, self_get bD, self_get bE, self_get bF, own_base L8, own_base0 L8, dect hcut, Try.underlying4, and_self, bne_self_eq_false, decide_true]
        refine ⟨by kernel_rfl, (c_DrawJoinArchives b n hc).use (fun _ m => m) ?_⟩
        rintro _ H9 ⟨⟨f3, l3, wI, f3b, l3b, wJ, rfl, sI, hl3, sJ, hl3b⟩, P9⟩
        have L9 : h.length ≤ H9.length := by have := P9.length_le; first | omega | (simp only [List.length_append, List.length_cons, List.length_nil] at this; omega)
        have Q9 : H8.length + 0 ≤ H9.length := by have := P9.length_le; first | omega | (simp only [List.length_append, List.length_cons, List.length_nil] at this; omega)
        replace hc := hc.mono P9
        obtain ⟨wIw, rfl, ⟨wIi, rfl, _⟩⟩ := id sI
        obtain ⟨wJw, rfl, ⟨wJi, rfl, _⟩⟩ := id sJ
        try simp only [go_sem, Nat.reduceBEq, Nat.reduceAdd, Nat.reduceMul, Nat.reduceSub, Nat.reduceLeDiff, Nat.le_refl, implies_true, Nat.reduceLT, reduceIte, decide_true, decide_false, true_and, and_true, reduceCtorEq, Nat.mul_one, Int.reduceToNat, Int.reduceLE, Int.reduceLT, Int.reduceAdd, Int.reduceSub, Int.reduceMul, Int.cast_ofNat_Int, cast_zero_int, cast_one_int, Nat.reducePow, Nat.reduceEqDiff, Nat.reduceMod, Nat.zero_add, Nat.sub_zero, Nat.add_zero, own_base L9, own_base0 L9, P9]
        obtain ⟨X3, hX3⟩ : ∃ X : Int, joinF f3 l3 f3b l3b = X := ⟨_, rfl⟩
        obtain ⟨Y3, hY3⟩ : ∃ Y : List Int, joinL f3 l3 f3b l3b = Y := ⟨_, rfl⟩
        have hY3m : Y3.length ≤ 1048576 := by rw [← hY3]; exact joinL_len
        refine ⟨by kernel_rfl, (c_JoinArchives _ _ f3 l3 f3b l3b (sI.mono (by simp)).aa (sJ.mono (by simp)).aa (by omega) (by omega)).use (fun _ m => m) ?_⟩
        rintro _ H10 ⟨⟨wN, rfl, sN⟩, P10⟩
        have L10 : h.length ≤ H10.length := by have := P10.length_le; first | omega | (simp only [List.length_append, List.length_cons, List.length_nil] at this; omega)
        have Q10 : H9.length + 2 ≤ H10.length := by have := P10.length_le; first | omega | (simp only [List.length_append, List.length_cons, List.length_nil] at this; omega)
        replace hc := hc.mono ((List.prefix_append _ _).trans P10)
        replace sI := sI.mono ((List.prefix_append _ _).trans P10)
        replace sJ := sJ.mono ((List.prefix_append _ _).trans P10)
        have bI := keep_get (h := H9 ++ _) (hget_lit0 (h := H9)) P10
        have bJ := keep_get (h := H9 ++ _) (hget_lit1 (h := H9)) P10
        rw [hX3, hY3] at sN
        obtain ⟨wNw, rfl, ⟨wNi, rfl, _⟩⟩ := id sN
        try simp only [go_sem, Nat.reduceBEq, Nat.reduceAdd, Nat.reduceMul, Nat.reduceSub, Nat.reduceLeDiff, Nat.le_refl, implies_true, Nat.reduceLT, reduceIte, decide_true, decide_false, true_and, and_true, reduceCtorEq, Nat.mul_one, Int.reduceToNat, Int.reduceLE, Int.reduceLT, Int.reduceAdd, Int.reduceSub, Int.reduceMul, Int.cast_ofNat_Int, cast_zero_int, cast_one_int, Nat.reducePow, Nat.reduceEqDiff, Nat.reduceMod, Nat.zero_add, Nat.sub_zero, Nat.add_zero, bI, bJ, self_get bI, self_get bJ, own_base L10, own_base0 L10, P10]
        refine ⟨by kernel_rfl, (c_sJoinArchives _ _ f3 l3 f3b l3b (sI.mono (by simp)).aa (sJ.mono (by simp)).aa (by omega) (by omega)).use (fun _ m => m) ?_⟩
        rintro _ H11 ⟨⟨wO, rfl, sO⟩, P11⟩
        have L11 : h.length ≤ H11.length := by have := P11.length_le; first | omega | (simp only [List.length_append, List.length_cons, List.length_nil] at this; omega)
        have Q11 : H10.length + 1 ≤ H11.length := by have := P11.length_le; first | omega | (simp only [List.length_append, List.length_cons, List.length_nil] at this; omega)
        replace hc := hc.mono ((List.prefix_append _ _).trans P11)
        replace sI := sI.mono ((List.prefix_append _ _).trans P11)
        replace sJ := sJ.mono ((List.prefix_append _ _).trans P11)
        replace sN := sN.mono ((List.prefix_append _ _).trans P11)
        replace bI := keep_get bI ((List.prefix_append _ _).trans P11)
        replace bJ := keep_get bJ ((List.prefix_append _ _).trans P11)
        have bN := keep_get (h := H10 ++ _) hget_new P11
        rw [hX3, hY3] at sO
        obtain ⟨wOw, rfl, ⟨wOi, rfl, _⟩⟩ := id sO
        try simp only [go_sem, Nat.reduceBEq, Nat.reduceAdd, Nat.reduceMul, Nat.reduceSub, Nat.reduceLeDiff, Nat.le_refl, implies_true, Nat.reduceLT, reduceIte, decide_true, decide_false, true_and, and_true, reduceCtorEq, Nat.mul_one, Int.reduceToNat, Int.reduceLE, Int.reduceLT, Int.reduceAdd, Int.reduceSub, Int.reduceMul, Int.cast_ofNat_Int, cast_zero_int, cast_one_int, Nat.reducePow, Nat.reduceEqDiff, Nat.reduceMod, Nat.zero_add, Nat.sub_zero, Nat.add_zero, bI, bJ, bN, self_get bI, self_get bJ, self_get bN, own_base L11, own_base0 L11, P11]
        refine ⟨by kernel_rfl, (c_rArchives _ _ X3 Y3 (sN.mono (by simp)).aa (sO.mono (by simp)).aa hY3m).use (fun _ m => m) ?_⟩
        rintro _ H12 ⟨rfl, P12⟩
        have L12 : h.length ≤ H12.length := by have := P12.length_le; first | omega | (simp only [List.length_append, List.length_cons, List.length_nil] at this; omega)
        have Q12 : H11.length + 1 ≤ H12.length := by have := P12.length_le; first | omega | (simp only [List.length_append, List.length_cons, List.length_nil] at this; omega)
        replace hc := hc.mono ((List.prefix_append _ _).trans P12)
        replace sI := sI.mono ((List.prefix_append _ _).trans P12)
        replace sJ := sJ.mono ((List.prefix_append _ _).trans P12)
        replace sN := sN.mono ((List.prefix_append _ _).trans P12)
        replace sO := sO.mono ((List.prefix_append _ _).trans P12)
        replace bI := keep_get bI ((List.prefix_append _ _).trans P12)
        replace bJ := keep_get bJ ((List.prefix_append _ _).trans P12)
        replace bN := keep_get bN ((List.prefix_append _ _).trans P12)
        have bO := keep_get (h := H11 ++ _) hget_new P12
        try simp only [go_sem, Nat.reduceBEq, Nat.reduceAdd, Nat.reduceMul, Nat.reduceSub, Nat.reduceLeDiff, Nat.le_refl, implies_true, Nat.reduceLT, reduceIte, decide_true, decide_false, true_and, and_true, reduceCtorEq, Nat.mul_one, Int.reduceToNat, Int.reduceLE, Int.reduceLT, Int.reduceAdd, Int.reduceSub, Int.reduceMul, Int.cast_ofNat_Int, cast_zero_int, cast_one_int, Nat.reducePow, Nat.reduceEqDiff, Nat.reduceMod, Nat.zero_add, Nat.sub_zero, Nat.add_zero, bI, bJ, bN, bO, self_get bI, self_get bJ, self_get bN, self_get bO, own_base L12, own_base0 L12, P12, Try.underlying4, and_self, bne_self_eq_false, decide_true]
        by_cases hj : joinOk f3 l3 f3b l3b
        · rw [joinF, if_pos hj] at hX3; rw [joinL, if_pos hj] at hY3; subst hX3 hY3
          have k6 : IntKind.i64.wrap ((l3.length : Int) + l3b.length) = l3.length + l3b.length := wrap64 (by omega)
          try simp only [go_sem, Nat.reduceBEq, Nat.reduceAdd, Nat.reduceMul, Nat.reduceSub, Nat.reduceLeDiff, Nat.le_refl, implies_true, Nat.reduceLT, reduceIte, decide_true, decide_false, true_and, and_true, reduceCtorEq, Nat.mul_one, Int.reduceToNat, Int.reduceLE, Int.reduceLT, Int.reduceAdd, Int.reduceSub, Int.reduceMul, Int.cast_ofNat_Int, cast_zero_int, cast_one_int, Nat.reducePow, Nat.reduceEqDiff, Nat.reduceMod, Nat.zero_add, Nat.sub_zero, Nat.add_zero, bI, bJ, bN, bO, self_get bI, self_get bJ, self_get bN, self_get bO, own_base L12, own_base0 L12, decb hj, List.length_append, Int.natCast_add, k6, Try.underlying4, and_self, bne_self_eq_false, decide_true]
          refine ⟨by kernel_rfl, (c_DrawWeekMeans b n hc).use (fun _ m => m) ?_⟩
          rintro _ H13 ⟨⟨f4, l4, ⟨wG, rfl, sG0⟩, hl4⟩, P13⟩
          have L13 : h.length ≤ H13.length := by have := P13.length_le; first | omega | (simp only [List.length_append, List.length_cons, List.length_nil] at this; omega)
          have Q13 : H12.length + 0 ≤ H13.length := by have := P13.length_le; first | omega | (simp only [List.length_append, List.length_cons, List.length_nil] at this; omega)
          replace hc := hc.mono P13
          have sG : FA _ _ H13 (.agg #[.int .i64 f4, wG]) f4 l4 := ⟨_, rfl, sG0⟩
          obtain ⟨wGi, rfl, _⟩ := id sG0
          try simp only [go_sem, Nat.reduceBEq, Nat.reduceAdd, Nat.reduceMul, Nat.reduceSub, Nat.reduceLeDiff, Nat.le_refl, implies_true, Nat.reduceLT, reduceIte, decide_true, decide_false, true_and, and_true, reduceCtorEq, Nat.mul_one, Int.reduceToNat, Int.reduceLE, Int.reduceLT, Int.reduceAdd, Int.reduceSub, Int.reduceMul, Int.cast_ofNat_Int, cast_zero_int, cast_one_int, Nat.reducePow, Nat.reduceEqDiff, Nat.reduceMod, Nat.zero_add, Nat.sub_zero, Nat.add_zero, own_base L13, own_base0 L13, P13]
          obtain ⟨Z, hZ⟩ : ∃ Z : List Int, weekMeans f4 l4 = Z := ⟨_, rfl⟩
          have hZm : Z.length ≤ 1048576 := by rw [← hZ]; exact weekMeans_len f4 (by omega)
          refine ⟨by kernel_rfl, (c_WeekMeans _ f4 l4 (sG.mono (by simp)).aa (by omega)).use (fun _ m => m) ?_⟩
          rintro _ H14 ⟨⟨wK, rfl, sK⟩, P14⟩
          have L14 : h.length ≤ H14.length := by have := P14.length_le; first | omega | (simp only [List.length_append, List.length_cons, List.length_nil] at this; omega)
          have Q14 : H13.length + 1 ≤ H14.length := by have := P14.length_le; first | omega | (simp only [List.length_append, List.length_cons, List.length_nil] at this; omega)
          replace hc := hc.mono ((List.prefix_append _ _).trans P14)
          replace sG := sG.mono ((List.prefix_append _ _).trans P14)
          have bG := keep_get (h := H13 ++ _) hget_new P14
          rw [hZ] at sK
          obtain ⟨wKi, rfl, _⟩ := id sK
          try simp only [go_sem, Nat.reduceBEq, Nat.reduceAdd, Nat.reduceMul, Nat.reduceSub, Nat.reduceLeDiff, Nat.le_refl, implies_true, Nat.reduceLT, reduceIte, decide_true, decide_false, true_and, and_true, reduceCtorEq, Nat.mul_one, Int.reduceToNat, Int.reduceLE, Int.reduceLT, Int.reduceAdd, Int.reduceSub, Int.reduceMul, Int.cast_ofNat_Int, cast_zero_int, cast_one_int, Nat.reducePow, Nat.reduceEqDiff, Nat.reduceMod, Nat.zero_add, Nat.sub_zero, Nat.add_zero, bG, self_get bG, own_base L14, own_base0 L14, P14, Try.underlying4, and_self, bne_self_eq_false, decide_true]
          refine ⟨by kernel_rfl, (c_sWeekMeans _ f4 l4 (sG.mono (by simp)).aa (by omega)).use (fun _ m => m) ?_⟩
          rintro _ H15 ⟨⟨wL, rfl, sL⟩, P15⟩
          have L15 : h.length ≤ H15.length := by have := P15.length_le; first | omega | (simp only [List.length_append, List.length_cons, List.length_nil] at this; omega)
          have Q15 : H14.length + 0 ≤ H15.length := by have := P15.length_le; first | omega | (simp only [List.length_append, List.length_cons, List.length_nil] at this; omega)
          replace hc := hc.mono P15
          replace sG := sG.mono P15
          replace sK := sK.mono P15
          replace bG := keep_get bG P15
          rw [hZ] at sL
          obtain ⟨wLi, rfl, _⟩ := id sL
          try simp only [go_sem, Nat.reduceBEq, Nat.reduceAdd, Nat.reduceMul, Nat.reduceSub, Nat.reduceLeDiff, Nat.le_refl, implies_true, Nat.reduceLT, reduceIte, decide_true, decide_false, true_and, and_true, reduceCtorEq, Nat.mul_one, Int.reduceToNat, Int.reduceLE, Int.reduceLT, Int.reduceAdd, Int.reduceSub, Int.reduceMul, Int.cast_ofNat_Int, cast_zero_int, cast_one_int, Nat.reducePow, Nat.reduceEqDiff, Nat.reduceMod, Nat.zero_add, Nat.sub_zero, Nat.add_zero, bG, self_get bG, own_base L15, own_base0 L15, P15, Try.underlying4, and_self, bne_self_eq_false, decide_true]
          refine ⟨by kernel_rfl, (c_rInts _ _ Z (sK.mono (by simp)).ai (sL.mono (by simp)).ai hZm).use (fun _ m => m) ?_⟩
          rintro _ _ ⟨rfl, rfl⟩
          try simp only [go_sem, Nat.reduceBEq, Nat.reduceAdd, Nat.reduceMul, Nat.reduceSub, Nat.reduceLeDiff, Nat.le_refl, implies_true, Nat.reduceLT, reduceIte, decide_true, decide_false, true_and, and_true, reduceCtorEq, Nat.mul_one, Int.reduceToNat, Int.reduceLE, Int.reduceLT, Int.reduceAdd, Int.reduceSub, Int.reduceMul, Int.cast_ofNat_Int, cast_zero_int, cast_one_int, Nat.reducePow, Nat.reduceEqDiff, Nat.reduceMod, Nat.zero_add, Nat.sub_zero, Nat.add_zero, bG, self_get bG, own_base L15, own_base0 L15, Try.underlying4, and_self, bne_self_eq_false, decide_true]
          have k7 : IntKind.i64.wrap ((l4.length : Int).tdiv 7) = ((l4.length / 7 : Nat) : Int) := by rw [Int.tdiv_eq_ediv_of_nonneg (by omega), wrap64 (by omega)]; omega
          by_cases hg : arGood f4 l4
          · rw [weekMeans, if_pos hg] at hZ; subst hZ
            try simp only [go_sem, Nat.reduceBEq, Nat.reduceAdd, Nat.reduceMul, Nat.reduceSub, Nat.reduceLeDiff, Nat.le_refl, implies_true, Nat.reduceLT, reduceIte, decide_true, decide_false, true_and, and_true, reduceCtorEq, Nat.mul_one, Int.reduceToNat, Int.reduceLE, Int.reduceLT, Int.reduceAdd, Int.reduceSub, Int.reduceMul, Int.cast_ofNat_Int, cast_zero_int, cast_one_int, Nat.reducePow, Nat.reduceEqDiff, Nat.reduceMod, Nat.zero_add, Nat.sub_zero, Nat.add_zero, bG, self_get bG, own_base L15, own_base0 L15, decb hg, hBin_quo (show (7 : Int) ≠ 0 by omega), k7, means_len, Try.underlying4, and_self, bne_self_eq_false, decide_true]
            obtain ⟨nG, aG⟩ : ∃ n, AI n H15 (.slice wGi l4.length 0) l4 := by obtain ⟨w, e, s⟩ := sG.aa; cases e; exact ⟨_, s⟩
            have aK := sK.ai
            refine vLoop.count mo (l4.length / 7) (fun i e h' => e 0 = .slice b n 0 ∧ e 26 = .pointer (some ⟨H13.length, 0, none⟩) ∧ e 27 = .slice wKi (l4.length / 7) 0 ∧ e 31 = .int .i64 i ∧ H15 = h') ?_ ?_
            · try simp only [go_sem, Nat.reduceBEq, Nat.reduceAdd, Nat.reduceMul, Nat.reduceSub, Nat.reduceLeDiff, Nat.le_refl, implies_true, Nat.reduceLT, reduceIte, decide_true, decide_false, true_and, and_true, reduceCtorEq, Nat.mul_one, Int.reduceToNat, Int.reduceLE, Int.reduceLT, Int.reduceAdd, Int.reduceSub, Int.reduceMul, Int.cast_ofNat_Int, cast_zero_int, cast_one_int, Nat.reducePow, Nat.reduceEqDiff, Nat.reduceMod, Nat.zero_add, Nat.sub_zero, Nat.add_zero]
              try rfl
              try simp
            · rintro i e _ hi ⟨e0, e26, e27, e31, rfl⟩
              try simp only [go_sem, Nat.reduceBEq, Nat.reduceAdd, Nat.reduceMul, Nat.reduceSub, Nat.reduceLeDiff, Nat.le_refl, implies_true, Nat.reduceLT, reduceIte, decide_true, decide_false, true_and, and_true, reduceCtorEq, Nat.mul_one, Int.reduceToNat, Int.reduceLE, Int.reduceLT, Int.reduceAdd, Int.reduceSub, Int.reduceMul, Int.cast_ofNat_Int, cast_zero_int, cast_one_int, Nat.reducePow, Nat.reduceEqDiff, Nat.reduceMod, Nat.zero_add, Nat.sub_zero, Nat.add_zero, bG, self_get bG, own_base L15, own_base0 L15, e0, e26, e27, e31]
              refine .intro (fun h1 => ?_) (fun h1 => ?_)
              · have hlt : i < l4.length / 7 := by have := h1; simp at this; omega
                obtain ⟨g1, g2, g3, g4⟩ := id hg
                have h7 : 7 * i + 7 ≤ l4.length := by omega
                have w6 : IntKind.i64.wrap (7 * (i : Int)) = ((7 * i : Nat) : Int) := by rw [wrap64 (by omega)]; rfl
                have w7 : IntKind.i64.wrap (((7 * i : Nat) : Int) + 7) = ((7 * i + 7 : Nat) : Int) := by rw [wrap64 (by omega)]; rfl
                obtain ⟨id, off, k, hv, _, hk0, hk1, hd1, hesz, _, _, hat⟩ := aG.at (by omega)
                obtain rfl : wGi = some ⟨id, off, none⟩ := by simpa using hv
                have hnn : (0 : Int) ≤ ((7 * i : Nat) : Int) ∧ (0 : Int) ≤ ((7 * i + 7 : Nat) : Int) := by omega
                have hw : ((l4.drop (7 * i)).take (7 * i + 7 - 7 * i)) = week l4 i := by rw [Nat.add_sub_cancel_left]; rfl
                have hs := AI.sub aG (a := 7 * i) (c := 7 * i + 7 - 7 * i) (by omega)
                rw [hw] at hs
                have hwb : ∀ x ∈ week l4 i, -200000 ≤ x ∧ x ≤ 200000 := fun x hx => by have := g1 x (List.mem_of_mem_drop (List.mem_of_mem_take hx)); omega
                have hwl : (week l4 i).length = 7 := by simp [week]; omega
                have hsum := psum_bound (l := week l4 i) (i := 7) (by omega) (fun x hx => hwb x (List.mem_of_mem_take hx))
                rw [psum, List.take_of_length_le (by omega)] at hsum
                try simp only [go_sem, Nat.reduceBEq, Nat.reduceAdd, Nat.reduceMul, Nat.reduceSub, Nat.reduceLeDiff, Nat.le_refl, implies_true, Nat.reduceLT, reduceIte, decide_true, decide_false, true_and, and_true, reduceCtorEq, Nat.mul_one, Int.reduceToNat, Int.reduceLE, Int.reduceLT, Int.reduceAdd, Int.reduceSub, Int.reduceMul, Int.cast_ofNat_Int, cast_zero_int, cast_one_int, Nat.reducePow, Nat.reduceEqDiff, Nat.reduceMod, Nat.zero_add, Nat.sub_zero, Nat.add_zero, onSl_more (show 0 < l4.length by omega), e0, e26, e27, e31, bG, w6, w7, hk1, hesz, hnn.1, hnn.2, h7, show 7 * i ≤ 7 * i + 7 by omega]
                refine ⟨by kernel_rfl, (c_rSum _ (week l4 i) hs (by omega) hwb).use (fun _ m => m) ?_⟩
                rintro _ _ ⟨rfl, rfl⟩
                obtain ⟨id2, off2, k2, hv2, _, hk20, hk2, hd2, _, _, _, hat2⟩ := aK.at (by rw [means_len]; omega)
                obtain rfl : wKi = some ⟨id2, off2, none⟩ := by simpa using hv2
                have hmn : (means l4 (l4.length / 7))[i]? = some (mean l4 i) := by simp [means, hlt]
                have hat3 : k2.cells[off2 + i]? = some (.int .i64 (mean l4 i)) := by rw [hat2 i (by rw [means_len]; omega)]; rw [List.getElem?_eq_getElem (by rw [means_len]; omega)] at hmn; rw [Option.some.inj hmn]
                have hme : mean l4 i = (week l4 i).sum / 7 := rfl
                have w8 : IntKind.i64.wrap (7 * mean l4 i) = 7 * mean l4 i := wrap64 (by omega)
                have w9 : IntKind.i64.wrap (7 * mean l4 i + 7) = 7 * mean l4 i + 7 := wrap64 (by omega)
                have k5 : IntKind.i64.wrap ((i : Int) + 1) = ((i + 1 : Nat) : Int) := by rw [wrap64 (by omega)]; rfl
                try simp only [go_sem, Nat.reduceBEq, Nat.reduceAdd, Nat.reduceMul, Nat.reduceSub, Nat.reduceLeDiff, Nat.le_refl, implies_true, Nat.reduceLT, reduceIte, decide_true, decide_false, true_and, and_true, reduceCtorEq, Nat.mul_one, Int.reduceToNat, Int.reduceLE, Int.reduceLT, Int.reduceAdd, Int.reduceSub, Int.reduceMul, Int.cast_ofNat_Int, cast_zero_int, cast_one_int, Nat.reducePow, Nat.reduceEqDiff, Nat.reduceMod, Nat.zero_add, Nat.sub_zero, Nat.add_zero, e0, e26, e27, e31, hk2, hd2, hat3, w8, w9, k5, show (i : Int) < ((l4.length / 7 : Nat) : Int) by omega, show ¬ ((week l4 i).sum < 7 * mean l4 i) by omega, show ¬ (7 * mean l4 i + 7 ≤ (week l4 i).sum) by omega]
                exact hlt
              · try simp only [go_sem, Nat.reduceBEq, Nat.reduceAdd, Nat.reduceMul, Nat.reduceSub, Nat.reduceLeDiff, Nat.le_refl, implies_true, Nat.reduceLT, reduceIte, decide_true, decide_false, true_and, and_true, reduceCtorEq, Nat.mul_one, Int.reduceToNat, Int.reduceLE, Int.reduceLT, Int.reduceAdd, Int.reduceSub, Int.reduceMul, Int.cast_ofNat_Int, cast_zero_int, cast_one_int, Nat.reducePow, Nat.reduceEqDiff, Nat.reduceMod, Nat.zero_add, Nat.sub_zero, Nat.add_zero, e0, e26, e27, e31]
                refine ⟨by kernel_rfl, (c_DrawValueOn b n hc).use (fun _ m => m) ?_⟩
                rintro _ H16 ⟨⟨fv, lv, wV, dv, rfl, sV, hlv⟩, P16⟩
                have L16 : h.length ≤ H16.length := by have := P16.length_le; first | omega | (simp only [List.length_append, List.length_cons, List.length_nil] at this; omega)
                have Q16 : H15.length + 0 ≤ H16.length := by have := P16.length_le; first | omega | (simp only [List.length_append, List.length_cons, List.length_nil] at this; omega)
                replace hc := hc.mono P16
                obtain ⟨wVw, rfl, ⟨wVi, rfl, _⟩⟩ := id sV
                try simp only [go_sem, Nat.reduceBEq, Nat.reduceAdd, Nat.reduceMul, Nat.reduceSub, Nat.reduceLeDiff, Nat.le_refl, implies_true, Nat.reduceLT, reduceIte, decide_true, decide_false, true_and, and_true, reduceCtorEq, Nat.mul_one, Int.reduceToNat, Int.reduceLE, Int.reduceLT, Int.reduceAdd, Int.reduceSub, Int.reduceMul, Int.cast_ofNat_Int, cast_zero_int, cast_one_int, Nat.reducePow, Nat.reduceEqDiff, Nat.reduceMod, Nat.zero_add, Nat.sub_zero, Nat.add_zero, own_base L16, own_base0 L16, e0, P16]
                obtain ⟨vm, vg, hv⟩ := valueOn_shape fv lv dv
                refine ⟨by kernel_rfl, (c_ValueOn _ fv lv dv (sV.mono (by simp)).aa (by omega)).use (fun _ m => m) ?_⟩
                rintro _ H17 ⟨hr, P17⟩
                have L17 : h.length ≤ H17.length := by have := P17.length_le; first | omega | (simp only [List.length_append, List.length_cons, List.length_nil] at this; omega)
                have Q17 : H16.length + 1 ≤ H17.length := by have := P17.length_le; first | omega | (simp only [List.length_append, List.length_cons, List.length_nil] at this; omega)
                replace hc := hc.mono ((List.prefix_append _ _).trans P17)
                replace sV := sV.mono ((List.prefix_append _ _).trans P17)
                have bV := keep_get (h := H16 ++ _) hget_new P17
                rw [hv] at hr
                subst hr
                try simp only [go_sem, Nat.reduceBEq, Nat.reduceAdd, Nat.reduceMul, Nat.reduceSub, Nat.reduceLeDiff, Nat.le_refl, implies_true, Nat.reduceLT, reduceIte, decide_true, decide_false, true_and, and_true, reduceCtorEq, Nat.mul_one, Int.reduceToNat, Int.reduceLE, Int.reduceLT, Int.reduceAdd, Int.reduceSub, Int.reduceMul, Int.cast_ofNat_Int, cast_zero_int, cast_one_int, Nat.reducePow, Nat.reduceEqDiff, Nat.reduceMod, Nat.zero_add, Nat.sub_zero, Nat.add_zero, bV, self_get bV, own_base L17, own_base0 L17, e0, P17, Try.underlying4, and_self, bne_self_eq_false, decide_true]
                refine ⟨by kernel_rfl, (c_sValueOn _ fv lv dv (sV.mono (by simp)).aa (by omega)).use (fun _ m => m) ?_⟩
                rintro _ H18 ⟨hr, P18⟩
                have L18 : h.length ≤ H18.length := by have := P18.length_le; first | omega | (simp only [List.length_append, List.length_cons, List.length_nil] at this; omega)
                have Q18 : H17.length + 0 ≤ H18.length := by have := P18.length_le; first | omega | (simp only [List.length_append, List.length_cons, List.length_nil] at this; omega)
                replace hc := hc.mono P18
                replace sV := sV.mono P18
                replace bV := keep_get bV P18
                rw [hv] at hr
                subst hr
                try simp only [go_sem, Nat.reduceBEq, Nat.reduceAdd, Nat.reduceMul, Nat.reduceSub, Nat.reduceLeDiff, Nat.le_refl, implies_true, Nat.reduceLT, reduceIte, decide_true, decide_false, true_and, and_true, reduceCtorEq, Nat.mul_one, Int.reduceToNat, Int.reduceLE, Int.reduceLT, Int.reduceAdd, Int.reduceSub, Int.reduceMul, Int.cast_ofNat_Int, cast_zero_int, cast_one_int, Nat.reducePow, Nat.reduceEqDiff, Nat.reduceMod, Nat.zero_add, Nat.sub_zero, Nat.add_zero, bV, self_get bV, own_base L18, own_base0 L18, e0, P18, Try.underlying4, and_self, bne_self_eq_false, decide_true]
          · rw [weekMeans, if_neg hg] at hZ; subst hZ
            try simp only [go_sem, Nat.reduceBEq, Nat.reduceAdd, Nat.reduceMul, Nat.reduceSub, Nat.reduceLeDiff, Nat.le_refl, implies_true, Nat.reduceLT, reduceIte, decide_true, decide_false, true_and, and_true, reduceCtorEq, Nat.mul_one, Int.reduceToNat, Int.reduceLE, Int.reduceLT, Int.reduceAdd, Int.reduceSub, Int.reduceMul, Int.cast_ofNat_Int, cast_zero_int, cast_one_int, Nat.reducePow, Nat.reduceEqDiff, Nat.reduceMod, Nat.zero_add, Nat.sub_zero, Nat.add_zero, bG, self_get bG, own_base L15, own_base0 L15, dect hg, hBin_quo (show (7 : Int) ≠ 0 by omega), k7, List.length_nil, Try.underlying4, and_self, bne_self_eq_false, decide_true]
            refine vLoop.count mo 0 (fun i e h' => e 0 = .slice b n 0 ∧ e 27 = .slice wKi 0 0 ∧ e 31 = .int .i64 0 ∧ H15 = h') ?_ ?_
            · try simp only [go_sem, Nat.reduceBEq, Nat.reduceAdd, Nat.reduceMul, Nat.reduceSub, Nat.reduceLeDiff, Nat.le_refl, implies_true, Nat.reduceLT, reduceIte, decide_true, decide_false, true_and, and_true, reduceCtorEq, Nat.mul_one, Int.reduceToNat, Int.reduceLE, Int.reduceLT, Int.reduceAdd, Int.reduceSub, Int.reduceMul, Int.cast_ofNat_Int, cast_zero_int, cast_one_int, Nat.reducePow, Nat.reduceEqDiff, Nat.reduceMod, Nat.zero_add, Nat.sub_zero, Nat.add_zero]
              try rfl
              try simp
            · rintro i e _ hi ⟨e0, e27, e31, rfl⟩
              try simp only [go_sem, Nat.reduceBEq, Nat.reduceAdd, Nat.reduceMul, Nat.reduceSub, Nat.reduceLeDiff, Nat.le_refl, implies_true, Nat.reduceLT, reduceIte, decide_true, decide_false, true_and, and_true, reduceCtorEq, Nat.mul_one, Int.reduceToNat, Int.reduceLE, Int.reduceLT, Int.reduceAdd, Int.reduceSub, Int.reduceMul, Int.cast_ofNat_Int, cast_zero_int, cast_one_int, Nat.reducePow, Nat.reduceEqDiff, Nat.reduceMod, Nat.zero_add, Nat.sub_zero, Nat.add_zero, bG, self_get bG, own_base L15, own_base0 L15, e0, e27, e31]
              refine ⟨by kernel_rfl, (c_DrawValueOn b n hc).use (fun _ m => m) ?_⟩
              rintro _ H16 ⟨⟨fv, lv, wV, dv, rfl, sV, hlv⟩, P16⟩
              have L16 : h.length ≤ H16.length := by have := P16.length_le; first | omega | (simp only [List.length_append, List.length_cons, List.length_nil] at this; omega)
              have Q16 : H15.length + 0 ≤ H16.length := by have := P16.length_le; first | omega | (simp only [List.length_append, List.length_cons, List.length_nil] at this; omega)
              replace hc := hc.mono P16
              obtain ⟨wVw, rfl, ⟨wVi, rfl, _⟩⟩ := id sV
              try simp only [go_sem, Nat.reduceBEq, Nat.reduceAdd, Nat.reduceMul, Nat.reduceSub, Nat.reduceLeDiff, Nat.le_refl, implies_true, Nat.reduceLT, reduceIte, decide_true, decide_false, true_and, and_true, reduceCtorEq, Nat.mul_one, Int.reduceToNat, Int.reduceLE, Int.reduceLT, Int.reduceAdd, Int.reduceSub, Int.reduceMul, Int.cast_ofNat_Int, cast_zero_int, cast_one_int, Nat.reducePow, Nat.reduceEqDiff, Nat.reduceMod, Nat.zero_add, Nat.sub_zero, Nat.add_zero, own_base L16, own_base0 L16, e0, P16]
              obtain ⟨vm, vg, hv⟩ := valueOn_shape fv lv dv
              refine ⟨by kernel_rfl, (c_ValueOn _ fv lv dv (sV.mono (by simp)).aa (by omega)).use (fun _ m => m) ?_⟩
              rintro _ H17 ⟨hr, P17⟩
              have L17 : h.length ≤ H17.length := by have := P17.length_le; first | omega | (simp only [List.length_append, List.length_cons, List.length_nil] at this; omega)
              have Q17 : H16.length + 1 ≤ H17.length := by have := P17.length_le; first | omega | (simp only [List.length_append, List.length_cons, List.length_nil] at this; omega)
              replace hc := hc.mono ((List.prefix_append _ _).trans P17)
              replace sV := sV.mono ((List.prefix_append _ _).trans P17)
              have bV := keep_get (h := H16 ++ _) hget_new P17
              rw [hv] at hr
              subst hr
              try simp only [go_sem, Nat.reduceBEq, Nat.reduceAdd, Nat.reduceMul, Nat.reduceSub, Nat.reduceLeDiff, Nat.le_refl, implies_true, Nat.reduceLT, reduceIte, decide_true, decide_false, true_and, and_true, reduceCtorEq, Nat.mul_one, Int.reduceToNat, Int.reduceLE, Int.reduceLT, Int.reduceAdd, Int.reduceSub, Int.reduceMul, Int.cast_ofNat_Int, cast_zero_int, cast_one_int, Nat.reducePow, Nat.reduceEqDiff, Nat.reduceMod, Nat.zero_add, Nat.sub_zero, Nat.add_zero, bV, self_get bV, own_base L17, own_base0 L17, e0, P17, Try.underlying4, and_self, bne_self_eq_false, decide_true]
              refine ⟨by kernel_rfl, (c_sValueOn _ fv lv dv (sV.mono (by simp)).aa (by omega)).use (fun _ m => m) ?_⟩
              rintro _ H18 ⟨hr, P18⟩
              have L18 : h.length ≤ H18.length := by have := P18.length_le; first | omega | (simp only [List.length_append, List.length_cons, List.length_nil] at this; omega)
              have Q18 : H17.length + 0 ≤ H18.length := by have := P18.length_le; first | omega | (simp only [List.length_append, List.length_cons, List.length_nil] at this; omega)
              replace hc := hc.mono P18
              replace sV := sV.mono P18
              replace bV := keep_get bV P18
              rw [hv] at hr
              subst hr
              try simp only [go_sem, Nat.reduceBEq, Nat.reduceAdd, Nat.reduceMul, Nat.reduceSub, Nat.reduceLeDiff, Nat.le_refl, implies_true, Nat.reduceLT, reduceIte, decide_true, decide_false, true_and, and_true, reduceCtorEq, Nat.mul_one, Int.reduceToNat, Int.reduceLE, Int.reduceLT, Int.reduceAdd, Int.reduceSub, Int.reduceMul, Int.cast_ofNat_Int, cast_zero_int, cast_one_int, Nat.reducePow, Nat.reduceEqDiff, Nat.reduceMod, Nat.zero_add, Nat.sub_zero, Nat.add_zero, bV, self_get bV, own_base L18, own_base0 L18, e0, P18, Try.underlying4, and_self, bne_self_eq_false, decide_true]
        · rw [joinF, if_neg hj] at hX3; rw [joinL, if_neg hj] at hY3; subst hX3 hY3
          try simp only [go_sem, Nat.reduceBEq, Nat.reduceAdd, Nat.reduceMul, Nat.reduceSub, Nat.reduceLeDiff, Nat.le_refl, implies_true, Nat.reduceLT, reduceIte, decide_true, decide_false, true_and, and_true, reduceCtorEq, Nat.mul_one, Int.reduceToNat, Int.reduceLE, Int.reduceLT, Int.reduceAdd, Int.reduceSub, Int.reduceMul, Int.cast_ofNat_Int, cast_zero_int, cast_one_int, Nat.reducePow, Nat.reduceEqDiff, Nat.reduceMod, Nat.zero_add, Nat.sub_zero, Nat.add_zero, bI, bJ, bN, bO, self_get bI, self_get bJ, self_get bN, self_get bO, own_base L12, own_base0 L12, dect hj, Try.underlying4, and_self, bne_self_eq_false, decide_true]
          refine ⟨by kernel_rfl, (c_DrawWeekMeans b n hc).use (fun _ m => m) ?_⟩
          rintro _ H13 ⟨⟨f4, l4, ⟨wG, rfl, sG0⟩, hl4⟩, P13⟩
          have L13 : h.length ≤ H13.length := by have := P13.length_le; first | omega | (simp only [List.length_append, List.length_cons, List.length_nil] at this; omega)
          have Q13 : H12.length + 0 ≤ H13.length := by have := P13.length_le; first | omega | (simp only [List.length_append, List.length_cons, List.length_nil] at this; omega)
          replace hc := hc.mono P13
          have sG : FA _ _ H13 (.agg #[.int .i64 f4, wG]) f4 l4 := ⟨_, rfl, sG0⟩
          obtain ⟨wGi, rfl, _⟩ := id sG0
          try simp only [go_sem, Nat.reduceBEq, Nat.reduceAdd, Nat.reduceMul, Nat.reduceSub, Nat.reduceLeDiff, Nat.le_refl, implies_true, Nat.reduceLT, reduceIte, decide_true, decide_false, true_and, and_true, reduceCtorEq, Nat.mul_one, Int.reduceToNat, Int.reduceLE, Int.reduceLT, Int.reduceAdd, Int.reduceSub, Int.reduceMul, Int.cast_ofNat_Int, cast_zero_int, cast_one_int, Nat.reducePow, Nat.reduceEqDiff, Nat.reduceMod, Nat.zero_add, Nat.sub_zero, Nat.add_zero, own_base L13, own_base0 L13, P13]
          obtain ⟨Z, hZ⟩ : ∃ Z : List Int, weekMeans f4 l4 = Z := ⟨_, rfl⟩
          have hZm : Z.length ≤ 1048576 := by rw [← hZ]; exact weekMeans_len f4 (by omega)
          refine ⟨by kernel_rfl, (c_WeekMeans _ f4 l4 (sG.mono (by simp)).aa (by omega)).use (fun _ m => m) ?_⟩
          rintro _ H14 ⟨⟨wK, rfl, sK⟩, P14⟩
          have L14 : h.length ≤ H14.length := by have := P14.length_le; first | omega | (simp only [List.length_append, List.length_cons, List.length_nil] at this; omega)
          have Q14 : H13.length + 1 ≤ H14.length := by have := P14.length_le; first | omega | (simp only [List.length_append, List.length_cons, List.length_nil] at this; omega)
          replace hc := hc.mono ((List.prefix_append _ _).trans P14)
          replace sG := sG.mono ((List.prefix_append _ _).trans P14)
          have bG := keep_get (h := H13 ++ _) hget_new P14
          rw [hZ] at sK
          obtain ⟨wKi, rfl, _⟩ := id sK
          try simp only [go_sem, Nat.reduceBEq, Nat.reduceAdd, Nat.reduceMul, Nat.reduceSub, Nat.reduceLeDiff, Nat.le_refl, implies_true, Nat.reduceLT, reduceIte, decide_true, decide_false, true_and, and_true, reduceCtorEq, Nat.mul_one, Int.reduceToNat, Int.reduceLE, Int.reduceLT, Int.reduceAdd, Int.reduceSub, Int.reduceMul, Int.cast_ofNat_Int, cast_zero_int, cast_one_int, Nat.reducePow, Nat.reduceEqDiff, Nat.reduceMod, Nat.zero_add, Nat.sub_zero, Nat.add_zero, bG, self_get bG, own_base L14, own_base0 L14, P14, Try.underlying4, and_self, bne_self_eq_false, decide_true]
          refine ⟨by kernel_rfl, (c_sWeekMeans _ f4 l4 (sG.mono (by simp)).aa (by omega)).use (fun _ m => m) ?_⟩
          rintro _ H15 ⟨⟨wL, rfl, sL⟩, P15⟩
          have L15 : h.length ≤ H15.length := by have := P15.length_le; first | omega | (simp only [List.length_append, List.length_cons, List.length_nil] at this; omega)
          have Q15 : H14.length + 0 ≤ H15.length := by have := P15.length_le; first | omega | (simp only [List.length_append, List.length_cons, List.length_nil] at this; omega)
          replace hc := hc.mono P15
          replace sG := sG.mono P15
          replace sK := sK.mono P15
          replace bG := keep_get bG P15
          rw [hZ] at sL
          obtain ⟨wLi, rfl, _⟩ := id sL
          try simp only [go_sem, Nat.reduceBEq, Nat.reduceAdd, Nat.reduceMul, Nat.reduceSub, Nat.reduceLeDiff, Nat.le_refl, implies_true, Nat.reduceLT, reduceIte, decide_true, decide_false, true_and, and_true, reduceCtorEq, Nat.mul_one, Int.reduceToNat, Int.reduceLE, Int.reduceLT, Int.reduceAdd, Int.reduceSub, Int.reduceMul, Int.cast_ofNat_Int, cast_zero_int, cast_one_int, Nat.reducePow, Nat.reduceEqDiff, Nat.reduceMod, Nat.zero_add, Nat.sub_zero, Nat.add_zero, bG, self_get bG, own_base L15, own_base0 L15, P15, Try.underlying4, and_self, bne_self_eq_false, decide_true]
          refine ⟨by kernel_rfl, (c_rInts _ _ Z (sK.mono (by simp)).ai (sL.mono (by simp)).ai hZm).use (fun _ m => m) ?_⟩
          rintro _ _ ⟨rfl, rfl⟩
          try simp only [go_sem, Nat.reduceBEq, Nat.reduceAdd, Nat.reduceMul, Nat.reduceSub, Nat.reduceLeDiff, Nat.le_refl, implies_true, Nat.reduceLT, reduceIte, decide_true, decide_false, true_and, and_true, reduceCtorEq, Nat.mul_one, Int.reduceToNat, Int.reduceLE, Int.reduceLT, Int.reduceAdd, Int.reduceSub, Int.reduceMul, Int.cast_ofNat_Int, cast_zero_int, cast_one_int, Nat.reducePow, Nat.reduceEqDiff, Nat.reduceMod, Nat.zero_add, Nat.sub_zero, Nat.add_zero, bG, self_get bG, own_base L15, own_base0 L15, Try.underlying4, and_self, bne_self_eq_false, decide_true]
          have k7 : IntKind.i64.wrap ((l4.length : Int).tdiv 7) = ((l4.length / 7 : Nat) : Int) := by rw [Int.tdiv_eq_ediv_of_nonneg (by omega), wrap64 (by omega)]; omega
          by_cases hg : arGood f4 l4
          · rw [weekMeans, if_pos hg] at hZ; subst hZ
            try simp only [go_sem, Nat.reduceBEq, Nat.reduceAdd, Nat.reduceMul, Nat.reduceSub, Nat.reduceLeDiff, Nat.le_refl, implies_true, Nat.reduceLT, reduceIte, decide_true, decide_false, true_and, and_true, reduceCtorEq, Nat.mul_one, Int.reduceToNat, Int.reduceLE, Int.reduceLT, Int.reduceAdd, Int.reduceSub, Int.reduceMul, Int.cast_ofNat_Int, cast_zero_int, cast_one_int, Nat.reducePow, Nat.reduceEqDiff, Nat.reduceMod, Nat.zero_add, Nat.sub_zero, Nat.add_zero, bG, self_get bG, own_base L15, own_base0 L15, decb hg, hBin_quo (show (7 : Int) ≠ 0 by omega), k7, means_len, Try.underlying4, and_self, bne_self_eq_false, decide_true]
            obtain ⟨nG, aG⟩ : ∃ n, AI n H15 (.slice wGi l4.length 0) l4 := by obtain ⟨w, e, s⟩ := sG.aa; cases e; exact ⟨_, s⟩
            have aK := sK.ai
            refine vLoop.count mo (l4.length / 7) (fun i e h' => e 0 = .slice b n 0 ∧ e 26 = .pointer (some ⟨H13.length, 0, none⟩) ∧ e 27 = .slice wKi (l4.length / 7) 0 ∧ e 31 = .int .i64 i ∧ H15 = h') ?_ ?_
            · try simp only [go_sem, Nat.reduceBEq, Nat.reduceAdd, Nat.reduceMul, Nat.reduceSub, Nat.reduceLeDiff, Nat.le_refl, implies_true, Nat.reduceLT, reduceIte, decide_true, decide_false, true_and, and_true, reduceCtorEq, Nat.mul_one, Int.reduceToNat, Int.reduceLE, Int.reduceLT, Int.reduceAdd, Int.reduceSub, Int.reduceMul, Int.cast_ofNat_Int, cast_zero_int, cast_one_int, Nat.reducePow, Nat.reduceEqDiff, Nat.reduceMod, Nat.zero_add, Nat.sub_zero, Nat.add_zero]
              try rfl
              try simp
            · rintro i e _ hi ⟨e0, e26, e27, e31, rfl⟩
              try simp only [go_sem, Nat.reduceBEq, Nat.reduceAdd, Nat.reduceMul, Nat.reduceSub, Nat.reduceLeDiff, Nat.le_refl, implies_true, Nat.reduceLT, reduceIte, decide_true, decide_false, true_and, and_true, reduceCtorEq, Nat.mul_one, Int.reduceToNat, Int.reduceLE, Int.reduceLT, Int.reduceAdd, Int.reduceSub, Int.reduceMul, Int.cast_ofNat_Int, cast_zero_int, cast_one_int, Nat.reducePow, Nat.reduceEqDiff, Nat.reduceMod, Nat.zero_add, Nat.sub_zero, Nat.add_zero, bG, self_get bG, own_base L15, own_base0 L15, e0, e26, e27, e31]
              refine .intro (fun h1 => ?_) (fun h1 => ?_)
              · have hlt : i < l4.length / 7 := by have := h1; simp at this; omega
                obtain ⟨g1, g2, g3, g4⟩ := id hg
                have h7 : 7 * i + 7 ≤ l4.length := by omega
                have w6 : IntKind.i64.wrap (7 * (i : Int)) = ((7 * i : Nat) : Int) := by rw [wrap64 (by omega)]; rfl
                have w7 : IntKind.i64.wrap (((7 * i : Nat) : Int) + 7) = ((7 * i + 7 : Nat) : Int) := by rw [wrap64 (by omega)]; rfl
                obtain ⟨id, off, k, hv, _, hk0, hk1, hd1, hesz, _, _, hat⟩ := aG.at (by omega)
                obtain rfl : wGi = some ⟨id, off, none⟩ := by simpa using hv
                have hnn : (0 : Int) ≤ ((7 * i : Nat) : Int) ∧ (0 : Int) ≤ ((7 * i + 7 : Nat) : Int) := by omega
                have hw : ((l4.drop (7 * i)).take (7 * i + 7 - 7 * i)) = week l4 i := by rw [Nat.add_sub_cancel_left]; rfl
                have hs := AI.sub aG (a := 7 * i) (c := 7 * i + 7 - 7 * i) (by omega)
                rw [hw] at hs
                have hwb : ∀ x ∈ week l4 i, -200000 ≤ x ∧ x ≤ 200000 := fun x hx => by have := g1 x (List.mem_of_mem_drop (List.mem_of_mem_take hx)); omega
                have hwl : (week l4 i).length = 7 := by simp [week]; omega
                have hsum := psum_bound (l := week l4 i) (i := 7) (by omega) (fun x hx => hwb x (List.mem_of_mem_take hx))
                rw [psum, List.take_of_length_le (by omega)] at hsum
                try simp only [go_sem, Nat.reduceBEq, Nat.reduceAdd, Nat.reduceMul, Nat.reduceSub, Nat.reduceLeDiff, Nat.le_refl, implies_true, Nat.reduceLT, reduceIte, decide_true, decide_false, true_and, and_true, reduceCtorEq, Nat.mul_one, Int.reduceToNat, Int.reduceLE, Int.reduceLT, Int.reduceAdd, Int.reduceSub, Int.reduceMul, Int.cast_ofNat_Int, cast_zero_int, cast_one_int, Nat.reducePow, Nat.reduceEqDiff, Nat.reduceMod, Nat.zero_add, Nat.sub_zero, Nat.add_zero, onSl_more (show 0 < l4.length by omega), e0, e26, e27, e31, bG, w6, w7, hk1, hesz, hnn.1, hnn.2, h7, show 7 * i ≤ 7 * i + 7 by omega]
                refine ⟨by kernel_rfl, (c_rSum _ (week l4 i) hs (by omega) hwb).use (fun _ m => m) ?_⟩
                rintro _ _ ⟨rfl, rfl⟩
                obtain ⟨id2, off2, k2, hv2, _, hk20, hk2, hd2, _, _, _, hat2⟩ := aK.at (by rw [means_len]; omega)
                obtain rfl : wKi = some ⟨id2, off2, none⟩ := by simpa using hv2
                have hmn : (means l4 (l4.length / 7))[i]? = some (mean l4 i) := by simp [means, hlt]
                have hat3 : k2.cells[off2 + i]? = some (.int .i64 (mean l4 i)) := by rw [hat2 i (by rw [means_len]; omega)]; rw [List.getElem?_eq_getElem (by rw [means_len]; omega)] at hmn; rw [Option.some.inj hmn]
                have hme : mean l4 i = (week l4 i).sum / 7 := rfl
                have w8 : IntKind.i64.wrap (7 * mean l4 i) = 7 * mean l4 i := wrap64 (by omega)
                have w9 : IntKind.i64.wrap (7 * mean l4 i + 7) = 7 * mean l4 i + 7 := wrap64 (by omega)
                have k5 : IntKind.i64.wrap ((i : Int) + 1) = ((i + 1 : Nat) : Int) := by rw [wrap64 (by omega)]; rfl
                try simp only [go_sem, Nat.reduceBEq, Nat.reduceAdd, Nat.reduceMul, Nat.reduceSub, Nat.reduceLeDiff, Nat.le_refl, implies_true, Nat.reduceLT, reduceIte, decide_true, decide_false, true_and, and_true, reduceCtorEq, Nat.mul_one, Int.reduceToNat, Int.reduceLE, Int.reduceLT, Int.reduceAdd, Int.reduceSub, Int.reduceMul, Int.cast_ofNat_Int, cast_zero_int, cast_one_int, Nat.reducePow, Nat.reduceEqDiff, Nat.reduceMod, Nat.zero_add, Nat.sub_zero, Nat.add_zero, e0, e26, e27, e31, hk2, hd2, hat3, w8, w9, k5, show (i : Int) < ((l4.length / 7 : Nat) : Int) by omega, show ¬ ((week l4 i).sum < 7 * mean l4 i) by omega, show ¬ (7 * mean l4 i + 7 ≤ (week l4 i).sum) by omega]
                exact hlt
              · try simp only [go_sem, Nat.reduceBEq, Nat.reduceAdd, Nat.reduceMul, Nat.reduceSub, Nat.reduceLeDiff, Nat.le_refl, implies_true, Nat.reduceLT, reduceIte, decide_true, decide_false, true_and, and_true, reduceCtorEq, Nat.mul_one, Int.reduceToNat, Int.reduceLE, Int.reduceLT, Int.reduceAdd, Int.reduceSub, Int.reduceMul, Int.cast_ofNat_Int, cast_zero_int, cast_one_int, Nat.reducePow, Nat.reduceEqDiff, Nat.reduceMod, Nat.zero_add, Nat.sub_zero, Nat.add_zero, e0, e26, e27, e31]
                refine ⟨by kernel_rfl, (c_DrawValueOn b n hc).use (fun _ m => m) ?_⟩
                rintro _ H16 ⟨⟨fv, lv, wV, dv, rfl, sV, hlv⟩, P16⟩
                have L16 : h.length ≤ H16.length := by have := P16.length_le; first | omega | (simp only [List.length_append, List.length_cons, List.length_nil] at this; omega)
                have Q16 : H15.length + 0 ≤ H16.length := by have := P16.length_le; first | omega | (simp only [List.length_append, List.length_cons, List.length_nil] at this; omega)
                replace hc := hc.mono P16
                obtain ⟨wVw, rfl, ⟨wVi, rfl, _⟩⟩ := id sV
                try simp only [go_sem, Nat.reduceBEq, Nat.reduceAdd, Nat.reduceMul, Nat.reduceSub, Nat.reduceLeDiff, Nat.le_refl, implies_true, Nat.reduceLT, reduceIte, decide_true, decide_false, true_and, and_true, reduceCtorEq, Nat.mul_one, Int.reduceToNat, Int.reduceLE, Int.reduceLT, Int.reduceAdd, Int.reduceSub, Int.reduceMul, Int.cast_ofNat_Int, cast_zero_int, cast_one_int, Nat.reducePow, Nat.reduceEqDiff, Nat.reduceMod, Nat.zero_add, Nat.sub_zero, Nat.add_zero, own_base L16, own_base0 L16, e0, P16]
                obtain ⟨vm, vg, hv⟩ := valueOn_shape fv lv dv
                refine ⟨by kernel_rfl, (c_ValueOn _ fv lv dv (sV.mono (by simp)).aa (by omega)).use (fun _ m => m) ?_⟩
                rintro _ H17 ⟨hr, P17⟩
                have L17 : h.length ≤ H17.length := by have := P17.length_le; first | omega | (simp only [List.length_append, List.length_cons, List.length_nil] at this; omega)
                have Q17 : H16.length + 1 ≤ H17.length := by have := P17.length_le; first | omega | (simp only [List.length_append, List.length_cons, List.length_nil] at this; omega)
                replace hc := hc.mono ((List.prefix_append _ _).trans P17)
                replace sV := sV.mono ((List.prefix_append _ _).trans P17)
                have bV := keep_get (h := H16 ++ _) hget_new P17
                rw [hv] at hr
                subst hr
                try simp only [go_sem, Nat.reduceBEq, Nat.reduceAdd, Nat.reduceMul, Nat.reduceSub, Nat.reduceLeDiff, Nat.le_refl, implies_true, Nat.reduceLT, reduceIte, decide_true, decide_false, true_and, and_true, reduceCtorEq, Nat.mul_one, Int.reduceToNat, Int.reduceLE, Int.reduceLT, Int.reduceAdd, Int.reduceSub, Int.reduceMul, Int.cast_ofNat_Int, cast_zero_int, cast_one_int, Nat.reducePow, Nat.reduceEqDiff, Nat.reduceMod, Nat.zero_add, Nat.sub_zero, Nat.add_zero, bV, self_get bV, own_base L17, own_base0 L17, e0, P17, Try.underlying4, and_self, bne_self_eq_false, decide_true]
                refine ⟨by kernel_rfl, (c_sValueOn _ fv lv dv (sV.mono (by simp)).aa (by omega)).use (fun _ m => m) ?_⟩
                rintro _ H18 ⟨hr, P18⟩
                have L18 : h.length ≤ H18.length := by have := P18.length_le; first | omega | (simp only [List.length_append, List.length_cons, List.length_nil] at this; omega)
                have Q18 : H17.length + 0 ≤ H18.length := by have := P18.length_le; first | omega | (simp only [List.length_append, List.length_cons, List.length_nil] at this; omega)
                replace hc := hc.mono P18
                replace sV := sV.mono P18
                replace bV := keep_get bV P18
                rw [hv] at hr
                subst hr
                try simp only [go_sem, Nat.reduceBEq, Nat.reduceAdd, Nat.reduceMul, Nat.reduceSub, Nat.reduceLeDiff, Nat.le_refl, implies_true, Nat.reduceLT, reduceIte, decide_true, decide_false, true_and, and_true, reduceCtorEq, Nat.mul_one, Int.reduceToNat, Int.reduceLE, Int.reduceLT, Int.reduceAdd, Int.reduceSub, Int.reduceMul, Int.cast_ofNat_Int, cast_zero_int, cast_one_int, Nat.reducePow, Nat.reduceEqDiff, Nat.reduceMod, Nat.zero_add, Nat.sub_zero, Nat.add_zero, bV, self_get bV, own_base L18, own_base0 L18, e0, P18, Try.underlying4, and_self, bne_self_eq_false, decide_true]
          · rw [weekMeans, if_neg hg] at hZ; subst hZ
            try simp only [go_sem, Nat.reduceBEq, Nat.reduceAdd, Nat.reduceMul, Nat.reduceSub, Nat.reduceLeDiff, Nat.le_refl, implies_true, Nat.reduceLT, reduceIte, decide_true, decide_false, true_and, and_true, reduceCtorEq, Nat.mul_one, Int.reduceToNat, Int.reduceLE, Int.reduceLT, Int.reduceAdd, Int.reduceSub, Int.reduceMul, Int.cast_ofNat_Int, cast_zero_int, cast_one_int, Nat.reducePow, Nat.reduceEqDiff, Nat.reduceMod, Nat.zero_add, Nat.sub_zero, Nat.add_zero, bG, self_get bG, own_base L15, own_base0 L15, dect hg, hBin_quo (show (7 : Int) ≠ 0 by omega), k7, List.length_nil, Try.underlying4, and_self, bne_self_eq_false, decide_true]
            refine vLoop.count mo 0 (fun i e h' => e 0 = .slice b n 0 ∧ e 27 = .slice wKi 0 0 ∧ e 31 = .int .i64 0 ∧ H15 = h') ?_ ?_
            · try simp only [go_sem, Nat.reduceBEq, Nat.reduceAdd, Nat.reduceMul, Nat.reduceSub, Nat.reduceLeDiff, Nat.le_refl, implies_true, Nat.reduceLT, reduceIte, decide_true, decide_false, true_and, and_true, reduceCtorEq, Nat.mul_one, Int.reduceToNat, Int.reduceLE, Int.reduceLT, Int.reduceAdd, Int.reduceSub, Int.reduceMul, Int.cast_ofNat_Int, cast_zero_int, cast_one_int, Nat.reducePow, Nat.reduceEqDiff, Nat.reduceMod, Nat.zero_add, Nat.sub_zero, Nat.add_zero]
              try rfl
              try simp
            · rintro i e _ hi ⟨e0, e27, e31, rfl⟩
              try simp only [go_sem, Nat.reduceBEq, Nat.reduceAdd, Nat.reduceMul, Nat.reduceSub, Nat.reduceLeDiff, Nat.le_refl, implies_true, Nat.reduceLT, reduceIte, decide_true, decide_false, true_and, and_true, reduceCtorEq, Nat.mul_one, Int.reduceToNat, Int.reduceLE, Int.reduceLT, Int.reduceAdd, Int.reduceSub, Int.reduceMul, Int.cast_ofNat_Int, cast_zero_int, cast_one_int, Nat.reducePow, Nat.reduceEqDiff, Nat.reduceMod, Nat.zero_add, Nat.sub_zero, Nat.add_zero, bG, self_get bG, own_base L15, own_base0 L15, e0, e27, e31]
              refine ⟨by kernel_rfl, (c_DrawValueOn b n hc).use (fun _ m => m) ?_⟩
              rintro _ H16 ⟨⟨fv, lv, wV, dv, rfl, sV, hlv⟩, P16⟩
              have L16 : h.length ≤ H16.length := by have := P16.length_le; first | omega | (simp only [List.length_append, List.length_cons, List.length_nil] at this; omega)
              have Q16 : H15.length + 0 ≤ H16.length := by have := P16.length_le; first | omega | (simp only [List.length_append, List.length_cons, List.length_nil] at this; omega)
              replace hc := hc.mono P16
              obtain ⟨wVw, rfl, ⟨wVi, rfl, _⟩⟩ := id sV
              try simp only [go_sem, Nat.reduceBEq, Nat.reduceAdd, Nat.reduceMul, Nat.reduceSub, Nat.reduceLeDiff, Nat.le_refl, implies_true, Nat.reduceLT, reduceIte, decide_true, decide_false, true_and, and_true, reduceCtorEq, Nat.mul_one, Int.reduceToNat, Int.reduceLE, Int.reduceLT, Int.reduceAdd, Int.reduceSub, Int.reduceMul, Int.cast_ofNat_Int, cast_zero_int, cast_one_int, Nat.reducePow, Nat.reduceEqDiff, Nat.reduceMod, Nat.zero_add, Nat.sub_zero, Nat.add_zero, own_base L16, own_base0 L16, e0, P16]
              obtain ⟨vm, vg, hv⟩ := valueOn_shape fv lv dv
              refine ⟨by kernel_rfl, (c_ValueOn _ fv lv dv (sV.mono (by simp)).aa (by omega)).use (fun _ m => m) ?_⟩
              rintro _ H17 ⟨hr, P17⟩
              have L17 : h.length ≤ H17.length := by have := P17.length_le; first | omega | (simp only [List.length_append, List.length_cons, List.length_nil] at this; omega)
              have Q17 : H16.length + 1 ≤ H17.length := by have := P17.length_le; first | omega | (simp only [List.length_append, List.length_cons, List.length_nil] at this; omega)
              replace hc := hc.mono ((List.prefix_append _ _).trans P17)
              replace sV := sV.mono ((List.prefix_append _ _).trans P17)
              have bV := keep_get (h := H16 ++ _) hget_new P17
              rw [hv] at hr
              subst hr
              try simp only [go_sem, Nat.reduceBEq, Nat.reduceAdd, Nat.reduceMul, Nat.reduceSub, Nat.reduceLeDiff, Nat.le_refl, implies_true, Nat.reduceLT, reduceIte, decide_true, decide_false, true_and, and_true, reduceCtorEq, Nat.mul_one, Int.reduceToNat, Int.reduceLE, Int.reduceLT, Int.reduceAdd, Int.reduceSub, Int.reduceMul, Int.cast_ofNat_Int, cast_zero_int, cast_one_int, Nat.reducePow, Nat.reduceEqDiff, Nat.reduceMod, Nat.zero_add, Nat.sub_zero, Nat.add_zero, bV, self_get bV, own_base L17, own_base0 L17, e0, P17, Try.underlying4, and_self, bne_self_eq_false, decide_true]
              refine ⟨by kernel_rfl, (c_sValueOn _ fv lv dv (sV.mono (by simp)).aa (by omega)).use (fun _ m => m) ?_⟩
              rintro _ H18 ⟨hr, P18⟩
              have L18 : h.length ≤ H18.length := by have := P18.length_le; first | omega | (simp only [List.length_append, List.length_cons, List.length_nil] at this; omega)
              have Q18 : H17.length + 0 ≤ H18.length := by have := P18.length_le; first | omega | (simp only [List.length_append, List.length_cons, List.length_nil] at this; omega)
              replace hc := hc.mono P18
              replace sV := sV.mono P18
              replace bV := keep_get bV P18
              rw [hv] at hr
              subst hr
              try simp only [go_sem, Nat.reduceBEq, Nat.reduceAdd, Nat.reduceMul, Nat.reduceSub, Nat.reduceLeDiff, Nat.le_refl, implies_true, Nat.reduceLT, reduceIte, decide_true, decide_false, true_and, and_true, reduceCtorEq, Nat.mul_one, Int.reduceToNat, Int.reduceLE, Int.reduceLT, Int.reduceAdd, Int.reduceSub, Int.reduceMul, Int.cast_ofNat_Int, cast_zero_int, cast_one_int, Nat.reducePow, Nat.reduceEqDiff, Nat.reduceMod, Nat.zero_add, Nat.sub_zero, Nat.add_zero, bV, self_get bV, own_base L18, own_base0 L18, e0, P18, Try.underlying4, and_self, bne_self_eq_false, decide_true]
end

theorem a_FnValues (h : Heap) (a : List Value) (ft : FitsAll h [.slice (.int .u8)] a) : vCall [] Try.prog (fun _ => False) 5 a h (fun r _ => r = .bool true) := by
  obtain ⟨v, vs, rfl, f, g⟩ := ft.cons
  obtain rfl := g.nil
  obtain ⟨b, n, rfl, hc⟩ := Fits.code f
  exact l_FnValues b n hc
end Go.Proofs.Ytjgekhahklidcaa
