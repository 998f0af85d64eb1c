
/- Slices of slices of numbers: how the laws copy and measure them. No condition. -/
import Derived.Test.YtppedjbbkhblcaaArchive
namespace Go.Proofs.Ytppedjbbkhblcaa
open Go.HH
set_option linter.unusedSimpArgs false
set_option linter.unusedVariables false

/-- 'v' shows the rows 'L', all of it in blocks below 'n'. -/
def AS (n : Nat) (h : Heap) (v : Value) (L : List (List Int)) : Prop :=
  ∃ a, v = .slice a L.length 0 ∧ (0 < L.length → ∃ id off k, a = some ⟨id, off, none⟩ ∧ id < n ∧ hget h id = some k ∧ k.st ≠ .dead ∧ k.esz = 1 ∧ ∀ (i : Nat) (hi : i < L.length), ∃ w, k.cells[off + i]? = some w ∧ AI n h w L[i])
/-- 'v' is a slice of its own, and so are its rows. -/
def FS (lo hi : Nat) (h : Heap) (v : Value) (L : List (List Int)) : Prop :=
  ∃ a, v = .slice a L.length 0 ∧ (0 < L.length → ∃ (id : Nat) (cells : List Value), a = some ⟨id, 0, none⟩ ∧ lo ≤ id ∧ id < hi ∧ hget h id = some ⟨cells, 1, .rw⟩ ∧ ∀ (i : Nat) (hi' : i < L.length), ∃ w, cells[i]? = some w ∧ FI (id + 1) hi h w L[i])
theorem AS.agr {n lo hi : Nat} {h h' : Heap} {v : Value} {L : List (List Int)} (s : AS n h v L) (a : Agr lo hi h h') (hn : n ≤ lo) : AS n h' v L := by
  obtain ⟨p, e, F⟩ := s
  refine ⟨p, e, fun h0 => ?_⟩
  obtain ⟨id, off, k, e1, e2, e3, e4, e5, e6⟩ := F h0
  exact ⟨id, off, k, e1, e2, by rw [a.2 id (hget_lt e3) (by omega)]; exact e3, e4, e5, fun i hi => by
    obtain ⟨w, x, y⟩ := e6 i hi
    exact ⟨w, x, y.agr a hn⟩⟩
theorem AS.mono {n : Nat} {h h' : Heap} {v : Value} {L : List (List Int)} (s : AS n h v L) (hp : h <+: h') : AS n h' v L := by
  obtain ⟨p, e, F⟩ := s
  refine ⟨p, e, fun h0 => ?_⟩
  obtain ⟨id, off, k, e1, e2, e3, e4, e5, e6⟩ := F h0
  exact ⟨id, off, k, e1, e2, by rw [hget_prefix hp (hget_lt e3)]; exact e3, e4, e5, fun i hi => by
    obtain ⟨w, x, y⟩ := e6 i hi
    exact ⟨w, x, y.mono hp⟩⟩
theorem FS.mono {lo hi : Nat} {h h' : Heap} {v : Value} {L : List (List Int)} (s : FS lo hi h v L) (hp : h <+: h') : FS lo hi h' v L := by
  obtain ⟨p, e, F⟩ := s
  refine ⟨p, e, fun h0 => ?_⟩
  obtain ⟨id, cells, e1, e2, e3, e4, e6⟩ := F h0
  exact ⟨id, cells, e1, e2, e3, by rw [hget_prefix hp (hget_lt e4)]; exact e4, fun i hi => by
    obtain ⟨w, x, y⟩ := e6 i hi
    exact ⟨w, x, y.mono hp⟩⟩
theorem FS.as {lo hi : Nat} {h : Heap} {v : Value} {L : List (List Int)} (s : FS lo hi h v L) : AS hi h v L := by
  obtain ⟨p, e, F⟩ := s
  refine ⟨p, e, fun h0 => ?_⟩
  obtain ⟨id, cells, e1, e2, e3, e4, e6⟩ := F h0
  exact ⟨id, 0, _, e1, e3, e4, by simp, rfl, fun i hi => by
    obtain ⟨w, x, y⟩ := e6 i hi
    exact ⟨w, by simpa using x, y.ai⟩⟩
theorem AS.len {n : Nat} {h : Heap} {v : Value} {L : List (List Int)} (s : AS n h v L) : ∃ a, v = .slice a L.length 0 := by
  obtain ⟨a, e, _⟩ := s; exact ⟨a, e⟩
theorem AS.at {n : Nat} {h : Heap} {v : Value} {L : List (List Int)} (s : AS n h v L) (h0 : 0 < L.length) :
    ∃ id off k, v = .slice (some ⟨id, off, none⟩) L.length 0 ∧ id < n ∧ (∀ t, hget (h ++ t) id = some k) ∧ hget h id = some k ∧ k.st ≠ .dead ∧ k.esz = 1 ∧ ∀ (i : Nat) (hi : i < L.length), ∃ w, k.cells[off + i]? = some w ∧ AI n h w L[i] := by
  obtain ⟨a, e, f⟩ := s
  obtain ⟨id, off, k, rfl, e2, e3, e4, e5, e6⟩ := f h0
  exact ⟨id, off, k, e, e2, fun t => by rw [hget_prefix (List.prefix_append _ _) (hget_lt e3)]; exact e3, e3, e4, e5, e6⟩
theorem rows_choose {α β : Type} {P : α → β → Prop} : ∀ {rows : List α}, (∀ r ∈ rows, ∃ x, P r x) → ∃ l : List β, l.length = rows.length ∧ ∀ (i : Nat) (h1 : i < rows.length) (h2 : i < l.length), P rows[i] l[i]
  | [], _ => ⟨[], rfl, fun i h1 => by simp at h1⟩
  | r :: rs, h => by
    obtain ⟨x, hx⟩ := h r (by simp)
    obtain ⟨l, hl, hp⟩ := rows_choose (rows := rs) (fun r hr => h r (by simp [hr]))
    refine ⟨x :: l, by simp [hl], fun i h1 h2 => ?_⟩
    cases i with
    | zero => exact hx
    | succ i => exact hp i (by simpa using h1) (by simpa using h2)
theorem flat_ones {rows : List (List Value)} (hr : ∀ r ∈ rows, r.length = 1) (i : Nat) (hi : i < rows.length) : ∃ w, rows[i] = [w] ∧ rows.flatten[i]? = some w := by
  induction rows generalizing i with
  | nil => simp at hi
  | cons r rs ih =>
    have h1 := hr r (by simp)
    obtain ⟨w, rfl⟩ : ∃ w, r = [w] := by
      match r, h1 with
      | [w], _ => exact ⟨w, rfl⟩
    cases i with
    | zero => exact ⟨w, rfl, rfl⟩
    | succ i =>
      obtain ⟨w', e1, e2⟩ := ih (fun r hr' => hr r (by simp [hr'])) i (by simpa using hi)
      exact ⟨w', by simpa using e1, by simpa using e2⟩
theorem Fits.as {h : Heap} {v : Value} (f : FitV h (.slice (.slice (.int .i64))) v) : ∃ L, AS h.length h v L ∧ L.length ≤ 9223372036854775807 ∧ ∀ r ∈ L, r.length ≤ 9223372036854775807 := by
  rcases f.slice with rfl | ⟨id, rows, rfl, hg, hl, hf⟩
  · exact ⟨[], ⟨none, rfl, fun h0 => by simp at h0⟩, by simp, by simp⟩
  · have h1 : ∀ r ∈ rows, ∃ l : List Int, ∃ w, r = [w] ∧ AI h.length h w l ∧ l.length ≤ 9223372036854775807 := fun r hr => by
      obtain ⟨w, e, fw⟩ := Fits.oneSlice (hf r hr)
      obtain ⟨l, s, hl⟩ := Fits.ai fw
      exact ⟨l, w, e, s, hl⟩
    obtain ⟨L, hL, hP⟩ := rows_choose h1
    have hone : ∀ r ∈ rows, r.length = 1 := fun r hr => by
      obtain ⟨_, w, rfl, _⟩ := h1 r hr; rfl
    refine ⟨L, ⟨_, by rw [hL], fun h0 => ⟨id, 0, _, rfl, hget_lt hg, hg, by simp, rfl, fun i hi => ?_⟩⟩, by rw [hL]; exact hl, fun r hr => ?_⟩
    · have hi' : i < rows.length := by omega
      obtain ⟨w, e, s, _⟩ := hP i hi' hi
      obtain ⟨w', e', s'⟩ := flat_ones hone i hi'
      rw [e] at e'
      obtain rfl : w = w' := by simpa using e'
      exact ⟨w, by simpa using s', s⟩
    · obtain ⟨i, hi, rfl⟩ := List.mem_iff_getElem.1 hr
      obtain ⟨w, e, s, hl⟩ := hP i (by omega) hi
      exact hl
theorem setRange_one {cells : List Value} {i : Nat} {v : Value} (hi : i < cells.length) : cells.set i v = setRange cells i [v] := by
  rw [setRange, List.set_eq_take_append_cons_drop, if_pos hi]; simp
theorem Agr.head {h t t' : Heap} {B B' : Blk} : Agr h.length (h.length + 1) (h ++ B :: t) (h ++ B' :: (t ++ t')) := by
  refine ⟨by simp, fun i hi ho => ?_⟩
  simp only [List.length_append, List.length_cons] at hi
  unfold hget
  rcases ho with ho | ho
  · rw [List.getElem?_append_left ho, List.getElem?_append_left ho]
  · rw [List.getElem?_append_right (by omega), List.getElem?_append_right (by omega), show i - h.length = i - h.length - 1 + 1 by omega, List.getElem?_cons_succ, List.getElem?_cons_succ, List.getElem?_append_left (by omega)]
/-- How many numbers the first rows hold. -/
def tot (L : List (List Int)) : Nat → Nat
  | 0 => 0
  | i + 1 => tot L i + (L.getD i []).length
theorem tot_succ {L : List (List Int)} {i : Nat} (hi : i < L.length) : tot L (i + 1) = tot L i + L[i].length := by
  rw [tot]; simp [List.getD, hi]
theorem tot_mono {L : List (List Int)} {i j : Nat} (h : i ≤ j) : tot L i ≤ tot L j := by
  induction h with
  | refl => exact Nat.le_refl _
  | step _ ih => exact Nat.le_trans ih (by rw [tot]; omega)
theorem tot_row {L : List (List Int)} {i : Nat} (hi : i < L.length) : L[i].length ≤ tot L L.length := by
  have := tot_mono (L := L) (show i + 1 ≤ L.length by omega)
  rw [tot_succ hi] at this; omega

section
variable {h : Heap} {M : Nat → Prop}

theorem c_szIntSS {n : Nat} (v : Value) (L : List (List Int)) (s : AS n h v L) (hmax : L.length ≤ 9223372036854775807) (hrow : ∀ r ∈ L, r.length ≤ 9223372036854775807) :
    vCall [] Try.prog M 15 [v, .int .i64 1048576] h (fun r h' => (∃ k, r = .int .i64 k ∧ (0 ≤ k → L.length + tot L L.length ≤ 1048576)) ∧ h <+: h') := by
  obtain ⟨a, rfl⟩ := s.len
  refine body_of mo Try.func15 rfl (by kernel_rfl) (Nat.le_of_ble_eq_true (by kernel_rfl)) rfl ?_
  simp only [go_sem, Nat.reduceBEq, Nat.reduceAdd, Nat.reduceMul, Nat.reduceSub, Nat.reduceLeDiff, Nat.le_refl, implies_true, Nat.reduceLT, reduceIte, decide_true, decide_false, true_and, and_true, reduceCtorEq, Nat.mul_one, Int.reduceToNat, Int.reduceLE, Int.reduceLT, Int.reduceAdd, Int.reduceSub, Int.reduceMul, Int.cast_ofNat_Int, cast_zero_int, cast_one_int, Nat.reducePow, Nat.reduceEqDiff, Nat.reduceMod, Nat.zero_add, Nat.sub_zero, Nat.add_zero]
  have e1 : IntKind.i64.wrap (1048576 - (L.length : Int)) = 1048576 - L.length := wrap64 (by omega)
  rw [e1]
  by_cases h1 : (1048576 : Int) - L.length < 0
  · simp only [go_sem, Nat.reduceBEq, Nat.reduceAdd, Nat.reduceMul, Nat.reduceSub, Nat.reduceLeDiff, Nat.le_refl, implies_true, Nat.reduceLT, reduceIte, decide_true, decide_false, true_and, and_true, reduceCtorEq, Nat.mul_one, Int.reduceToNat, Int.reduceLE, Int.reduceLT, Int.reduceAdd, Int.reduceSub, Int.reduceMul, Int.cast_ofNat_Int, cast_zero_int, cast_one_int, Nat.reducePow, Nat.reduceEqDiff, Nat.reduceMod, Nat.zero_add, Nat.sub_zero, Nat.add_zero, h1]
    exact ⟨_, rfl, by omega⟩
  · simp only [go_sem, Nat.reduceBEq, Nat.reduceAdd, Nat.reduceMul, Nat.reduceSub, Nat.reduceLeDiff, Nat.le_refl, implies_true, Nat.reduceLT, reduceIte, decide_true, decide_false, true_and, and_true, reduceCtorEq, Nat.mul_one, Int.reduceToNat, Int.reduceLE, Int.reduceLT, Int.reduceAdd, Int.reduceSub, Int.reduceMul, Int.cast_ofNat_Int, cast_zero_int, cast_one_int, Nat.reducePow, Nat.reduceEqDiff, Nat.reduceMod, Nat.zero_add, Nat.sub_zero, Nat.add_zero, h1]
    refine vLoop.count mo L.length (fun i e h' => ∃ t : Heap, e 0 = .slice a L.length 0 ∧ e 1 = .int .i64 (1048576 - L.length - tot L i) ∧ e 5 = .int .i64 i ∧ h' = h ++ t ∧ L.length + tot L i ≤ 1048576) ?_ ?_
    · exact ⟨[], rfl, by simp [upd, env0, tot], rfl, by simp, by simp [tot]; omega⟩
    · rintro i e _ hi ⟨t, e0, e1, e5, rfl, hb⟩
      simp only [go_sem, Nat.reduceBEq, Nat.reduceAdd, Nat.reduceMul, Nat.reduceSub, Nat.reduceLeDiff, Nat.le_refl, implies_true, Nat.reduceLT, reduceIte, decide_true, decide_false, true_and, and_true, reduceCtorEq, Nat.mul_one, Int.reduceToNat, Int.reduceLE, Int.reduceLT, Int.reduceAdd, Int.reduceSub, Int.reduceMul, Int.cast_ofNat_Int, cast_zero_int, cast_one_int, Nat.reducePow, Nat.reduceEqDiff, Nat.reduceMod, Nat.zero_add, Nat.sub_zero, Nat.add_zero, e0, e1, e5]
      refine .intro (fun h1 => ?_) (fun h1 => ?_)
      · have hlt : i < L.length := by simpa using h1
        obtain ⟨id, off, k, hv, _, hk, _, hd, _, hat⟩ := s.at (Nat.zero_lt_of_lt hlt)
        obtain rfl : a = some ⟨id, off, none⟩ := by simpa using hv
        obtain ⟨w, hw, sw⟩ := hat i hlt
        have hz : (i : Int) < L.length := by omega
        simp only [go_sem, Nat.reduceBEq, Nat.reduceAdd, Nat.reduceMul, Nat.reduceSub, Nat.reduceLeDiff, Nat.le_refl, implies_true, Nat.reduceLT, reduceIte, decide_true, decide_false, true_and, and_true, reduceCtorEq, Nat.mul_one, Int.reduceToNat, Int.reduceLE, Int.reduceLT, Int.reduceAdd, Int.reduceSub, Int.reduceMul, Int.cast_ofNat_Int, cast_zero_int, cast_one_int, Nat.reducePow, Nat.reduceEqDiff, Nat.reduceMod, Nat.zero_add, Nat.sub_zero, Nat.add_zero, e0, e1, e5, hk, hw, hz, hd]
        have hr := hrow _ (List.getElem_mem hlt)
        refine ⟨by kernel_rfl, (c_szIntS w L[i] (sw.mono (List.prefix_append _ _)) _ (by omega) hr).use (fun _ m => m) ?_⟩
        rintro _ _ ⟨rfl, rfl⟩
        have ht := tot_succ hlt
        by_cases h3 : (1048576 : Int) - L.length - tot L i - L[i].length < 0
        · simp only [go_sem, Nat.reduceBEq, Nat.reduceAdd, Nat.reduceMul, Nat.reduceSub, Nat.reduceLeDiff, Nat.le_refl, implies_true, Nat.reduceLT, reduceIte, decide_true, decide_false, true_and, and_true, reduceCtorEq, Nat.mul_one, Int.reduceToNat, Int.reduceLE, Int.reduceLT, Int.reduceAdd, Int.reduceSub, Int.reduceMul, Int.cast_ofNat_Int, cast_zero_int, cast_one_int, Nat.reducePow, Nat.reduceEqDiff, Nat.reduceMod, Nat.zero_add, Nat.sub_zero, Nat.add_zero, h3]
          exact ⟨_, rfl, by omega⟩
        · simp only [go_sem, Nat.reduceBEq, Nat.reduceAdd, Nat.reduceMul, Nat.reduceSub, Nat.reduceLeDiff, Nat.le_refl, implies_true, Nat.reduceLT, reduceIte, decide_true, decide_false, true_and, and_true, reduceCtorEq, Nat.mul_one, Int.reduceToNat, Int.reduceLE, Int.reduceLT, Int.reduceAdd, Int.reduceSub, Int.reduceMul, Int.cast_ofNat_Int, cast_zero_int, cast_one_int, Nat.reducePow, Nat.reduceEqDiff, Nat.reduceMod, Nat.zero_add, Nat.sub_zero, Nat.add_zero, h3, e0, e5]
          exact ⟨hlt, t, by congr 1; omega, by rw [wrap64 (by omega)]; rfl, rfl, by omega⟩
      · simp only [go_sem, Nat.reduceBEq, Nat.reduceAdd, Nat.reduceMul, Nat.reduceSub, Nat.reduceLeDiff, Nat.le_refl, implies_true, Nat.reduceLT, reduceIte, decide_true, decide_false, true_and, and_true, reduceCtorEq, Nat.mul_one, Int.reduceToNat, Int.reduceLE, Int.reduceLT, Int.reduceAdd, Int.reduceSub, Int.reduceMul, Int.cast_ofNat_Int, cast_zero_int, cast_one_int, Nat.reducePow, Nat.reduceEqDiff, Nat.reduceMod, Nat.zero_add, Nat.sub_zero, Nat.add_zero, e0, e1, e5]
        obtain rfl : i = L.length := by have : ¬ i < L.length := by simpa using h1
                                        omega
        exact ⟨_, rfl, fun _ => hb⟩

theorem c_toIntSS {n : Nat} (v : Value) (L : List (List Int)) (s : AS n h v L) (hmax : L.length + tot L L.length ≤ 1048576) : vCall [] Try.prog M 17 [v] h (fun r h' => FS h.length h'.length h' r L ∧ h <+: h') := by
  obtain ⟨a, rfl⟩ := s.len
  refine body_of mo Try.func17 rfl (by kernel_rfl) (Nat.le_of_ble_eq_true (by kernel_rfl)) rfl ?_
  simp only [go_sem, Nat.reduceBEq, Nat.reduceAdd, Nat.reduceMul, Nat.reduceSub, Nat.reduceLeDiff, Nat.le_refl, implies_true, Nat.reduceLT, reduceIte, decide_true, decide_false, true_and, and_true, reduceCtorEq, Nat.mul_one, Int.reduceToNat, Int.reduceLE, Int.reduceLT, Int.reduceAdd, Int.reduceSub, Int.reduceMul, Int.cast_ofNat_Int, cast_zero_int, cast_one_int, Nat.reducePow, Nat.reduceEqDiff, Nat.reduceMod, Nat.zero_add, Nat.sub_zero, Nat.add_zero]
  refine ⟨by omega, by omega, ?_⟩
  refine vLoop.count mo L.length (fun i e h' => ∃ (t : Heap) (cells : List Value), e 0 = .slice a L.length 0 ∧ e 3 = .slice (some ⟨h.length, 0, none⟩) L.length 0 ∧ e 4 = .int .i64 i ∧
    h' = h ++ ⟨cells, 1, .rw⟩ :: t ∧ cells.length = L.length ∧ ∀ (j : Nat) (hj : j < L.length), j < i → ∃ w, cells[j]? = some w ∧ FI (h.length + 1) h'.length h' w L[j]) ?_ ?_
  · refine ⟨[], _, rfl, rfl, rfl, rfl, ?_, fun j hj h0 => absurd h0 (by omega)⟩
    simp [zeros]
  · rintro i e _ hi ⟨t, cells, e0, e3, e4, rfl, hcl, hrows⟩
    simp only [go_sem, Nat.reduceBEq, Nat.reduceAdd, Nat.reduceMul, Nat.reduceSub, Nat.reduceLeDiff, Nat.le_refl, implies_true, Nat.reduceLT, reduceIte, decide_true, decide_false, true_and, and_true, reduceCtorEq, Nat.mul_one, Int.reduceToNat, Int.reduceLE, Int.reduceLT, Int.reduceAdd, Int.reduceSub, Int.reduceMul, Int.cast_ofNat_Int, cast_zero_int, cast_one_int, Nat.reducePow, Nat.reduceEqDiff, Nat.reduceMod, Nat.zero_add, Nat.sub_zero, Nat.add_zero, e0, e3, e4]
    refine .intro (fun h1 => ?_) (fun h1 => ?_)
    · have hlt : i < L.length := by simpa using h1
      obtain ⟨id, off, k, hv, _, hk, _, hd, _, hat⟩ := s.at (Nat.zero_lt_of_lt hlt)
      obtain rfl : a = some ⟨id, off, none⟩ := by simpa using hv
      obtain ⟨w, hw, sw⟩ := hat i hlt
      have hz : (i : Int) < L.length := by omega
      simp only [go_sem, Nat.reduceBEq, Nat.reduceAdd, Nat.reduceMul, Nat.reduceSub, Nat.reduceLeDiff, Nat.le_refl, implies_true, Nat.reduceLT, reduceIte, decide_true, decide_false, true_and, and_true, reduceCtorEq, Nat.mul_one, Int.reduceToNat, Int.reduceLE, Int.reduceLT, Int.reduceAdd, Int.reduceSub, Int.reduceMul, Int.cast_ofNat_Int, cast_zero_int, cast_one_int, Nat.reducePow, Nat.reduceEqDiff, Nat.reduceMod, Nat.zero_add, Nat.sub_zero, Nat.add_zero, e0, e3, e4, hk, hw, hz, hd]
      have hr := tot_row hlt
      refine ⟨by kernel_rfl, (c_toIntS w L[i] (sw.mono (List.prefix_append _ _)) (by omega)).use (fun _ m => m) ?_⟩
      rintro w1 _ ⟨s1, ⟨t1, rfl⟩⟩
      obtain ⟨aw, rfl⟩ := s1.ai.len
      simp only [go_sem, Nat.reduceBEq, Nat.reduceAdd, Nat.reduceMul, Nat.reduceSub, Nat.reduceLeDiff, Nat.le_refl, implies_true, Nat.reduceLT, reduceIte, decide_true, decide_false, true_and, and_true, reduceCtorEq, Nat.mul_one, Int.reduceToNat, Int.reduceLE, Int.reduceLT, Int.reduceAdd, Int.reduceSub, Int.reduceMul, Int.cast_ofNat_Int, cast_zero_int, cast_one_int, Nat.reducePow, Nat.reduceEqDiff, Nat.reduceMod, Nat.zero_add, Nat.sub_zero, Nat.add_zero, e0, e3, e4, hz, hcl]
      refine ⟨by omega, hlt, _, _, by rw [wrap64 (by omega)]; rfl, rfl, by rw [setRange_length (by simp; omega)]; exact hcl, fun j hj hji => ?_⟩
      have es : setRange cells i [.slice aw L[i].length 0] = cells.set i (.slice aw L[i].length 0) := (setRange_one (by omega)).symm
      rw [es]
      by_cases hj' : j = i
      · subst hj'
        refine ⟨_, List.getElem?_set_self (by omega), ?_⟩
        refine (s1.agr (Agr.head (B := ⟨cells, 1, .rw⟩) (t := t ++ t1) (t' := []) |> fun ag => by simpa using ag) (.inr ?_)).wide ?_ ?_ <;> simp <;> omega
      · rw [List.getElem?_set_ne (Ne.symm hj')]
        obtain ⟨w', q1, q2⟩ := hrows j hj (by omega)
        refine ⟨w', q1, (q2.agr (Agr.head (t' := t1)) (.inr (Nat.le_refl _))).wide (Nat.le_refl _) ?_⟩
        simp
    · simp only [go_sem, Nat.reduceBEq, Nat.reduceAdd, Nat.reduceMul, Nat.reduceSub, Nat.reduceLeDiff, Nat.le_refl, implies_true, Nat.reduceLT, reduceIte, decide_true, decide_false, true_and, and_true, reduceCtorEq, Nat.mul_one, Int.reduceToNat, Int.reduceLE, Int.reduceLT, Int.reduceAdd, Int.reduceSub, Int.reduceMul, Int.cast_ofNat_Int, cast_zero_int, cast_one_int, Nat.reducePow, Nat.reduceEqDiff, Nat.reduceMod, Nat.zero_add, Nat.sub_zero, Nat.add_zero, e0, e3, e4]
      obtain rfl : i = L.length := by have : ¬ i < L.length := by simpa using h1
                                      omega
      refine ⟨_, rfl, fun h0 => ⟨h.length, cells, rfl, Nat.le_refl _, by simp, by rw [hget_app0]; rfl, fun j hj => ?_⟩⟩
      obtain ⟨w, hw, sw⟩ := hrows j hj hj
      exact ⟨w, hw, by simpa using sw⟩

theorem c_eqRows {n m : Nat} (v w : Value) (L : List (List Int)) (s : AS n h v L) (s' : AS m h w L) (hmax : L.length + tot L L.length ≤ 1048576) : vCall [] Try.prog M 20 [v, w] h (fun r h' => r = .bool true ∧ h <+: h') := by
  obtain ⟨a, rfl⟩ := s.len
  obtain ⟨b, rfl⟩ := s'.len
  refine body_of mo Try.func20 rfl (by kernel_rfl) (Nat.le_of_ble_eq_true (by kernel_rfl)) rfl ?_
  simp only [go_sem, Nat.reduceBEq, Nat.reduceAdd, Nat.reduceMul, Nat.reduceSub, Nat.reduceLeDiff, Nat.le_refl, implies_true, Nat.reduceLT, reduceIte, decide_true, decide_false, true_and, and_true, reduceCtorEq, Nat.mul_one, Int.reduceToNat, Int.reduceLE, Int.reduceLT, Int.reduceAdd, Int.reduceSub, Int.reduceMul, Int.cast_ofNat_Int, cast_zero_int, cast_one_int, Nat.reducePow, Nat.reduceEqDiff, Nat.reduceMod, Nat.zero_add, Nat.sub_zero, Nat.add_zero]
  refine vLoop.count mo L.length (fun i e h' => ∃ t : Heap, e 0 = .slice a L.length 0 ∧ e 1 = .slice b L.length 0 ∧ e 5 = .int .i64 i ∧ h' = h ++ t) ?_ ?_
  · exact ⟨[], rfl, rfl, rfl, by simp⟩
  · rintro i e _ hi ⟨t, e0, e1, e5, rfl⟩
    simp only [go_sem, Nat.reduceBEq, Nat.reduceAdd, Nat.reduceMul, Nat.reduceSub, Nat.reduceLeDiff, Nat.le_refl, implies_true, Nat.reduceLT, reduceIte, decide_true, decide_false, true_and, and_true, reduceCtorEq, Nat.mul_one, Int.reduceToNat, Int.reduceLE, Int.reduceLT, Int.reduceAdd, Int.reduceSub, Int.reduceMul, Int.cast_ofNat_Int, cast_zero_int, cast_one_int, Nat.reducePow, Nat.reduceEqDiff, Nat.reduceMod, Nat.zero_add, Nat.sub_zero, Nat.add_zero, e0, e1, e5]
    refine .intro (fun h1 => ?_) (fun h1 => ?_)
    · have hlt : i < L.length := by simpa using h1
      have hz : (i : Int) < L.length := by omega
      obtain ⟨id, off, k, hv, _, hk, _, hd, _, hat⟩ := s.at (Nat.zero_lt_of_lt hlt)
      obtain rfl : a = some ⟨id, off, none⟩ := by simpa using hv
      obtain ⟨w1, hw1, sw1⟩ := hat i hlt
      obtain ⟨id2, off2, k2, hv2, _, hk2, _, hd2, _, hat2⟩ := s'.at (Nat.zero_lt_of_lt hlt)
      obtain rfl : b = some ⟨id2, off2, none⟩ := by simpa using hv2
      obtain ⟨w2, hw2, sw2⟩ := hat2 i hlt
      have hr := tot_row hlt
      simp only [go_sem, Nat.reduceBEq, Nat.reduceAdd, Nat.reduceMul, Nat.reduceSub, Nat.reduceLeDiff, Nat.le_refl, implies_true, Nat.reduceLT, reduceIte, decide_true, decide_false, true_and, and_true, reduceCtorEq, Nat.mul_one, Int.reduceToNat, Int.reduceLE, Int.reduceLT, Int.reduceAdd, Int.reduceSub, Int.reduceMul, Int.cast_ofNat_Int, cast_zero_int, cast_one_int, Nat.reducePow, Nat.reduceEqDiff, Nat.reduceMod, Nat.zero_add, Nat.sub_zero, Nat.add_zero, e0, e1, e5, hz, hk, hw1, hd, hk2, hw2, hd2]
      refine ⟨by kernel_rfl, (c_eqIntS _ _ L[i] L[i] (sw1.mono (List.prefix_append _ _)) (sw2.mono (List.prefix_append _ _)) (by omega) (by omega)).use (fun _ m => m) ?_⟩
      rintro _ _ ⟨rfl, ⟨t2, rfl⟩⟩
      simp only [go_sem, Nat.reduceBEq, Nat.reduceAdd, Nat.reduceMul, Nat.reduceSub, Nat.reduceLeDiff, Nat.le_refl, implies_true, Nat.reduceLT, reduceIte, decide_true, decide_false, true_and, and_true, reduceCtorEq, Nat.mul_one, Int.reduceToNat, Int.reduceLE, Int.reduceLT, Int.reduceAdd, Int.reduceSub, Int.reduceMul, Int.cast_ofNat_Int, cast_zero_int, cast_one_int, Nat.reducePow, Nat.reduceEqDiff, Nat.reduceMod, Nat.zero_add, Nat.sub_zero, Nat.add_zero, e0, e1, e5]
      exact ⟨hlt, t ++ t2, by rw [wrap64 (by omega)]; rfl, rfl⟩
    · simp only [go_sem, Nat.reduceBEq, Nat.reduceAdd, Nat.reduceMul, Nat.reduceSub, Nat.reduceLeDiff, Nat.le_refl, implies_true, Nat.reduceLT, reduceIte, decide_true, decide_false, true_and, and_true, reduceCtorEq, Nat.mul_one, Int.reduceToNat, Int.reduceLE, Int.reduceLT, Int.reduceAdd, Int.reduceSub, Int.reduceMul, Int.cast_ofNat_Int, cast_zero_int, cast_one_int, Nat.reducePow, Nat.reduceEqDiff, Nat.reduceMod, Nat.zero_add, Nat.sub_zero, Nat.add_zero, e0, e1, e5]

theorem c_markRows {lo hi : Nat} (v : Value) (L : List (List Int)) (s : FS lo hi h v L) (hM : ∀ i, lo ≤ i → i < hi → M i) (hmax : L.length + tot L L.length ≤ 1048576) :
    vCall [] Try.prog M 21 [v, .int .i64 1] h (fun r h' => r = .int .i64 (1 + tot L L.length) ∧ Agr lo hi h h') := by
  obtain ⟨a, rfl, F⟩ := id s
  refine body_of mo Try.func21 rfl (by kernel_rfl) (Nat.le_of_ble_eq_true (by kernel_rfl)) rfl ?_
  simp only [go_sem, Nat.reduceBEq, Nat.reduceAdd, Nat.reduceMul, Nat.reduceSub, Nat.reduceLeDiff, Nat.le_refl, implies_true, Nat.reduceLT, reduceIte, decide_true, decide_false, true_and, and_true, reduceCtorEq, Nat.mul_one, Int.reduceToNat, Int.reduceLE, Int.reduceLT, Int.reduceAdd, Int.reduceSub, Int.reduceMul, Int.cast_ofNat_Int, cast_zero_int, cast_one_int, Nat.reducePow, Nat.reduceEqDiff, Nat.reduceMod, Nat.zero_add, Nat.sub_zero, Nat.add_zero]
  refine vLoop.count mo L.length (fun i e h' => e 0 = .slice a L.length 0 ∧ e 1 = .int .i64 (1 + tot L i) ∧ e 5 = .int .i64 i ∧ Agr lo hi h h' ∧
    (0 < L.length → ∃ (id : Nat) (cells : List Value), a = some ⟨id, 0, none⟩ ∧ lo ≤ id ∧ id < hi ∧ hget h' id = some ⟨cells, 1, .rw⟩ ∧ ∀ (j : Nat) (hj : j < L.length), ∃ w l, cells[j]? = some w ∧ FI (id + 1) hi h' w l ∧ l.length = L[j].length)) ?_ ?_
  · refine ⟨rfl, by simp [upd, env0, tot], rfl, Agr.refl, fun h0 => ?_⟩
    obtain ⟨id, cells, e1, e2, e3, e4, e5⟩ := F h0
    exact ⟨id, cells, e1, e2, e3, e4, fun j hj => by
      obtain ⟨w, q1, q2⟩ := e5 j hj
      exact ⟨w, _, q1, q2, rfl⟩⟩
  · rintro i e H hiL ⟨e0, e1, e5, hag, G⟩
    simp only [go_sem, Nat.reduceBEq, Nat.reduceAdd, Nat.reduceMul, Nat.reduceSub, Nat.reduceLeDiff, Nat.le_refl, implies_true, Nat.reduceLT, reduceIte, decide_true, decide_false, true_and, and_true, reduceCtorEq, Nat.mul_one, Int.reduceToNat, Int.reduceLE, Int.reduceLT, Int.reduceAdd, Int.reduceSub, Int.reduceMul, Int.cast_ofNat_Int, cast_zero_int, cast_one_int, Nat.reducePow, Nat.reduceEqDiff, Nat.reduceMod, Nat.zero_add, Nat.sub_zero, Nat.add_zero, e0, e1, e5]
    refine .intro (fun h1 => ?_) (fun h1 => ?_)
    · have hlt : i < L.length := by simpa using h1
      have hz : (i : Int) < L.length := by omega
      have G := G (by omega)
      obtain ⟨id, cells, rfl, b1, b2, b3, b4⟩ := G
      obtain ⟨w, l, q1, q2, q3⟩ := b4 i hlt
      have hr := tot_row hlt
      have ht := tot_succ hlt
      have hm := tot_mono (L := L) hiL
      have hM' : ∀ j, id + 1 ≤ j → j < hi → own h.length M j := fun j x y => Or.inr (hM j (by omega) y)
      simp only [go_sem, Nat.reduceBEq, Nat.reduceAdd, Nat.reduceMul, Nat.reduceSub, Nat.reduceLeDiff, Nat.le_refl, implies_true, Nat.reduceLT, reduceIte, decide_true, decide_false, true_and, and_true, reduceCtorEq, Nat.mul_one, Int.reduceToNat, Int.reduceLE, Int.reduceLT, Int.reduceAdd, Int.reduceSub, Int.reduceMul, Int.cast_ofNat_Int, cast_zero_int, cast_one_int, Nat.reducePow, Nat.reduceEqDiff, Nat.reduceMod, Nat.zero_add, Nat.sub_zero, Nat.add_zero, e0, e1, e5, hz, b3, q1]
      obtain ⟨p, p', u1, u2, u3, u4, q2⟩ : ∃ p p', id + 1 ≤ p ∧ p' ≤ hi ∧ p' ≤ p + 1 ∧ (0 < l.length ∨ p' ≤ p) ∧ FI p p' H w l := by
        obtain ⟨aw, ew, fw⟩ := q2
        by_cases hl0 : 0 < l.length
        · obtain ⟨p, x1, x2, x3, x4⟩ := fw hl0
          exact ⟨p, p + 1, x2, x3, Nat.le_refl _, .inl hl0, aw, ew, fun _ => ⟨p, x1, Nat.le_refl _, Nat.lt_succ_self _, x4⟩⟩
        · exact ⟨id + 1, id + 1, Nat.le_refl _, b2, by omega, .inr (Nat.le_refl _), aw, ew, fun h => absurd h hl0⟩
      refine ⟨by kernel_rfl, (c_markIntS _ l q2 (fun j x y => hM' j (by omega) (by omega)) _ (by omega) (by omega)).use (fun _ m => m) ?_⟩
      rintro _ H2 ⟨rfl, z2, hag2⟩
      clear F s
      try simp only [go_sem, Nat.reduceBEq, Nat.reduceAdd, Nat.reduceMul, Nat.reduceSub, Nat.reduceLeDiff, Nat.le_refl, implies_true, Nat.reduceLT, reduceIte, decide_true, decide_false, true_and, and_true, reduceCtorEq, Nat.mul_one, Int.reduceToNat, Int.reduceLE, Int.reduceLT, Int.reduceAdd, Int.reduceSub, Int.reduceMul, Int.cast_ofNat_Int, cast_zero_int, cast_one_int, Nat.reducePow, Nat.reduceEqDiff, Nat.reduceMod, Nat.zero_add, Nat.sub_zero, Nat.add_zero, e0, e1, e5]
      refine ⟨hlt, by congr 1; omega, by rw [wrap64 (by omega)]; rfl, hag.trans (hag2.wide (by omega) u2), fun _ => ⟨id, cells, rfl, b1, b2, ?_, fun j hj => ?_⟩⟩
      · rw [hag2.2 id (hget_lt b3) (by omega)]; exact b3
      · obtain ⟨w', l', p1, p2, p3⟩ := b4 j hj
        obtain ⟨aw, rfl, fw⟩ := p2
        by_cases hl0 : 0 < l'.length
        · obtain ⟨pj, rfl, x2, x3, x4⟩ := fw hl0
          by_cases hpj : pj < p ∨ p' ≤ pj
          · exact ⟨_, l', p1, ⟨_, rfl, fun _ => ⟨pj, rfl, x2, x3, by rw [hag2.2 pj (hget_lt x4) hpj]; exact x4⟩⟩, p3⟩
          · obtain ⟨ai, ei, fi⟩ := q2
            obtain ⟨ai', ei', fi'⟩ := z2
            by_cases hl1 : 0 < l.length
            · obtain ⟨pi, rfl, y2, y3, y4⟩ := fi hl1
              obtain ⟨pi', rfl, y2', y3', y4'⟩ := fi' (by rw [marks_len]; exact hl1)
              obtain rfl : pj = pi := by omega
              obtain rfl : pj = pi' := by omega
              rw [x4] at y4
              have hll : l'.length = l.length := by
                have : (l'.map iv).length = (l.map iv).length := by
                  have y5 := Option.some.inj y4
                  rw [Blk.mk.injEq] at y5
                  rw [y5.1]
                simpa using this
              refine ⟨_, marks (1 + (tot L i : Int)) l.length, p1, ⟨_, by rw [hll, marks_len], fun _ => ⟨pj, rfl, x2, x3, y4'⟩⟩, by rw [marks_len]; omega⟩
            · exact absurd u4 (by omega)
        · exact ⟨_, l', p1, ⟨_, rfl, fun h => absurd h hl0⟩, p3⟩
    · simp only [go_sem, Nat.reduceBEq, Nat.reduceAdd, Nat.reduceMul, Nat.reduceSub, Nat.reduceLeDiff, Nat.le_refl, implies_true, Nat.reduceLT, reduceIte, decide_true, decide_false, true_and, and_true, reduceCtorEq, Nat.mul_one, Int.reduceToNat, Int.reduceLE, Int.reduceLT, Int.reduceAdd, Int.reduceSub, Int.reduceMul, Int.cast_ofNat_Int, cast_zero_int, cast_one_int, Nat.reducePow, Nat.reduceEqDiff, Nat.reduceMod, Nat.zero_add, Nat.sub_zero, Nat.add_zero, e0, e1, e5]
      obtain rfl : i = L.length := by have : ¬ i < L.length := by simpa using h1
                                      omega
      exact ⟨rfl, hag⟩
end
end Go.Proofs.Ytppedjbbkhblcaa
