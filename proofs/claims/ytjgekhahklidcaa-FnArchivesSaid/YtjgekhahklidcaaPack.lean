
/- The runs of an archive. No condition. -/
import Derived.Test.YtjgekhahklidcaaIntss
namespace Go.Proofs.Ytjgekhahklidcaa
open Go.HH
set_option linter.unusedSimpArgs false
set_option linter.unusedVariables false

/-- The runs of the first values. -/
abbrev Run := Int × Nat
def newAt (l : List Int) (i : Nat) : Prop := i = 0 ∨ l.getD (i - 1) 0 ≠ l.getD i 0
instance {l : List Int} {i : Nat} : Decidable (newAt l i) := by unfold newAt; infer_instance
def incL (rs : List Run) : List Run := rs.set (rs.length - 1) ((rs.getD (rs.length - 1) (0, 0)).1, (rs.getD (rs.length - 1) (0, 0)).2 + 1)
def runs (l : List Int) : Nat → List Run
  | 0 => []
  | i + 1 => if newAt l i then runs l i ++ [(l.getD i 0, 1)] else incL (runs l i)
theorem runs_new {l : List Int} {i : Nat} (h : newAt l i) : runs l (i + 1) = runs l i ++ [(l.getD i 0, 1)] := by rw [runs, if_pos h]
theorem runs_old {l : List Int} {i : Nat} (h : ¬ newAt l i) : runs l (i + 1) = incL (runs l i) := by rw [runs, if_neg h]
theorem incL_len {rs : List Run} : (incL rs).length = rs.length := by simp [incL]
theorem runs_len {l : List Int} : ∀ i, (runs l i).length ≤ i ∧ (0 < i → 0 < (runs l i).length)
  | 0 => by simp [runs]
  | i + 1 => by
    have ih := runs_len (l := l) i
    by_cases h : newAt l i
    · rw [runs_new h, List.length_append, List.length_singleton]; omega
    · rw [runs_old h, incL_len]
      have : i ≠ 0 := fun h0 => h (.inl h0)
      omega
theorem incL_snoc {rs : List Run} {x : Int} {c : Nat} : incL (rs ++ [(x, c)]) = rs ++ [(x, c + 1)] := by
  have e : (rs ++ [(x, c)]).length - 1 = rs.length := by simp
  have g : (rs ++ [(x, c)]).getD rs.length (0, 0) = (x, c) := by simp [List.getD]
  rw [incL, e, g, List.set_append_right _ _ (Nat.le_refl _), Nat.sub_self]; rfl
/-- A run from a place where one begins. -/
theorem runs_run {l : List Int} {i : Nat} (hb : newAt l i) : ∀ m, (∀ j, j ≤ m → l.getD (i + j) 0 = l.getD i 0) → runs l (i + m + 1) = runs l i ++ [(l.getD i 0, m + 1)]
  | 0, _ => runs_new hb
  | m + 1, hs => by
    have ih := runs_run hb m (fun j hj => hs j (by omega))
    have hn : ¬ newAt l (i + (m + 1)) := by
      rintro (h | h)
      · omega
      · have e1 := hs m (by omega)
        have e2 := hs (m + 1) (by omega)
        rw [show i + (m + 1) - 1 = i + m by omega, e1, e2] at h
        exact h rfl
    rw [runs_old hn, show i + (m + 1) = i + m + 1 by omega, ih, incL_snoc]
def rowR (rs : List Run) (i : Nat) : List Int := [(rs.getD i (0, 0)).1, ((rs.getD i (0, 0)).2 : Int)]
def packed (f : Int) (l : List Int) : List Run := if arGood f l then runs l l.length else []
theorem packed_len {f : Int} {l : List Int} : (packed f l).length ≤ 30 := by
  unfold packed; split
  · rename_i h; exact Nat.le_trans (runs_len _).1 h.2.1
  · simp
theorem rowR_snoc {rs : List Run} {r : Run} {i : Nat} (hi : i < rs.length) : rowR (rs ++ [r]) i = rowR rs i := by
  simp [rowR, List.getD, List.getElem?_append_left hi]
theorem rowR_last {rs : List Run} {r : Run} : rowR (rs ++ [r]) rs.length = [r.1, (r.2 : Int)] := by simp [rowR, List.getD]
theorem rowR_inc {rs : List Run} {i : Nat} (hi : i < rs.length) : rowR (incL rs) i = if i = rs.length - 1 then [(rs.getD i (0, 0)).1, ((rs.getD i (0, 0)).2 : Int) + 1] else rowR rs i := by
  simp only [rowR, incL, List.getD, List.getElem?_set]
  by_cases h : rs.length - 1 = i
  · subst h; simp [hi]
  · rw [if_neg h, if_neg (Ne.symm h)]
theorem runs_cnt {l : List Int} : ∀ i, ∀ r ∈ runs l i, 0 ≤ r.2 ∧ r.2 ≤ i
  | 0 => by simp [runs]
  | i + 1 => by
    have ih := runs_cnt (l := l) i
    intro r hr
    by_cases h : newAt l i
    · rw [runs_new h] at hr
      rcases List.mem_append.1 hr with hr | hr
      · have := ih r hr; omega
      · obtain rfl : r = (l.getD i 0, 1) := by simpa using hr
        simp
    · rw [runs_old h, incL] at hr
      rcases List.mem_or_eq_of_mem_set hr with hr | rfl
      · have := ih r hr; omega
      · simp only
        have hl := (runs_len (l := l) i)
        have hi0 : i ≠ 0 := fun h0 => h (.inl h0)
        have hp : (runs l i).length - 1 < (runs l i).length := by omega
        have hg : (runs l i).getD ((runs l i).length - 1) (0, 0) = (runs l i)[(runs l i).length - 1] := by simp [List.getD, hp]
        have := ih _ (List.getElem_mem hp)
        rw [hg]; omega

section
variable {h : Heap} {M : Nat → Prop}

/-- One row more. -/
theorem FG.push {lo hi : Nat} {H : Heap} {n oid : Nat} {rs : List Run} {r : Run} (s : FG lo hi H (.slice (some ⟨oid, 0, none⟩) n 0) n (rowR rs)) (hn : rs.length = n) (hlo : lo ≤ H.length) (hhi : hi ≤ H.length) {cells : List Value} (hc : hget H oid = some ⟨cells, 1, .rw⟩) (hcl : cells.length = n) :
    FG lo (H.length + 3) ((H ++ [(⟨[.int .i64 r.1, .int .i64 (r.2 : Int)], 1, .rw⟩ : Blk), (⟨[.slice (some ⟨H.length, 0, none⟩) 2 0], 1, .rw⟩ : Blk)]).set oid ⟨cells, 1, .dead⟩ ++ [⟨cells ++ [.slice (some ⟨H.length, 0, none⟩) 2 0], 1, .rw⟩])
      (.slice (some ⟨H.length + 2, 0, none⟩) (n + 1) 0) (n + 1) (rowR (rs ++ [r])) := by
  have hol := hget_lt hc
  obtain ⟨a, ea, F⟩ := s
  refine ⟨_, rfl, fun _ => ?_⟩
  have hnew : hget ((H ++ [(⟨[.int .i64 r.1, .int .i64 (r.2 : Int)], 1, .rw⟩ : Blk), (⟨[.slice (some ⟨H.length, 0, none⟩) 2 0], 1, .rw⟩ : Blk)]).set oid ⟨cells, 1, .dead⟩ ++ [⟨cells ++ [.slice (some ⟨H.length, 0, none⟩) 2 0], 1, .rw⟩]) (H.length + 2) = some ⟨cells ++ [.slice (some ⟨H.length, 0, none⟩) 2 0], 1, .rw⟩ := by
    unfold hget
    rw [List.getElem?_append_right (by simp)]; simp
  have hrow : hget ((H ++ [(⟨[.int .i64 r.1, .int .i64 (r.2 : Int)], 1, .rw⟩ : Blk), (⟨[.slice (some ⟨H.length, 0, none⟩) 2 0], 1, .rw⟩ : Blk)]).set oid ⟨cells, 1, .dead⟩ ++ [⟨cells ++ [.slice (some ⟨H.length, 0, none⟩) 2 0], 1, .rw⟩]) H.length = some ⟨[.int .i64 r.1, .int .i64 r.2], 1, .rw⟩ := by
    unfold hget
    rw [List.getElem?_append_left (by simp), List.getElem?_set_ne (by omega)]; simp
  have hold : ∀ id, id < H.length → id ≠ oid → hget ((H ++ [(⟨[.int .i64 r.1, .int .i64 (r.2 : Int)], 1, .rw⟩ : Blk), (⟨[.slice (some ⟨H.length, 0, none⟩) 2 0], 1, .rw⟩ : Blk)]).set oid ⟨cells, 1, .dead⟩ ++ [⟨cells ++ [.slice (some ⟨H.length, 0, none⟩) 2 0], 1, .rw⟩]) id = hget H id := fun id h1 h2 => by
    unfold hget
    rw [List.getElem?_append_left (by simp; omega), List.getElem?_set_ne (Ne.symm h2), List.getElem?_append_left h1]
  have G : ∃ f : Nat → Nat, (∀ i, i < n → lo ≤ f i ∧ f i < hi ∧ f i ≠ oid ∧ cells[i]? = some (.slice (some ⟨f i, 0, none⟩) (rowR rs i).length 0) ∧ hget H (f i) = some ⟨(rowR rs i).map iv, 1, .rw⟩) ∧ ∀ i j, i < n → j < n → f i = f j → i = j := by
    by_cases h0 : n = 0
    · exact ⟨fun _ => 0, fun i hi => absurd hi (by omega), fun i j hi => absurd hi (by omega)⟩
    · have G := F (by omega)
      clear F
      obtain ⟨oid', cells', f, rfl, b1, b2, b3, b4, b5, b6⟩ := G
      obtain rfl : oid = oid' := by simpa using ea
      rw [hc] at b3
      obtain rfl : cells = cells' := by simpa using b3
      exact ⟨f, b5, b6⟩
  clear F
  obtain ⟨f, b5, b6⟩ := G
  refine ⟨H.length + 2, _, fun i => if i < n then f i else H.length, rfl, by omega, by omega, hnew, by simp [hcl], fun i hi => ?_, fun i j hi hj hij => ?_⟩
  · by_cases hin : i < n
    · obtain ⟨c1, c2, c3, c4, c5⟩ := b5 i hin
      simp only [hin, if_true]
      rw [rowR_snoc (by omega)]
      exact ⟨c1, by omega, by omega, by rw [List.getElem?_append_left (by omega)]; exact c4, by rw [hold _ (by omega) c3]; exact c5⟩
    · obtain rfl : i = n := by omega
      simp only [Nat.lt_irrefl, if_false]
      rw [← hn, rowR_last]
      exact ⟨hlo, by omega, by omega, by rw [List.getElem?_append_right (by omega), hn, hcl, Nat.sub_self]; rfl, hrow⟩
  · by_cases h1 : i < n <;> by_cases h2 : j < n
    · simp only [h1, h2, if_true] at hij; exact b6 i j h1 h2 hij
    · simp only [h1, h2, if_true, if_false] at hij; have := (b5 i h1).2.1; omega
    · simp only [h1, h2, if_true, if_false] at hij; have := (b5 j h2).2.1; omega
    · omega

theorem pre_set {h X : Heap} {p : Nat} {b : Blk} (hp : h <+: X) (h2 : h.length ≤ p) : h <+: X.set p b := by
  obtain ⟨t, rfl⟩ := hp
  rw [List.set_append_right _ _ h2]; exact List.prefix_append _ _
theorem push_keep {H : Heap} {x y z : Blk} {oid id : Nat} {b : Blk} (h1 : id < H.length) (h2 : oid ≠ id) : hget ((H ++ [x, y]).set oid b ++ [z]) id = hget H id := by
  unfold hget
  rw [List.getElem?_append_left (by simp; omega), List.getElem?_set_ne h2, List.getElem?_append_left h1]
theorem FG.last {lo hi : Nat} {H : Heap} {v : Value} {n : Nat} {rs : List Run} (s : FG lo hi H v n (rowR rs)) (hn : rs.length = n) (h0 : 0 < n) : ∃ (oid p : Nat) (cells : List Value), v = .slice (some ⟨oid, 0, none⟩) n 0 ∧ lo ≤ oid ∧ oid < hi ∧ lo ≤ p ∧ p < hi ∧ p ≠ oid ∧
    hget H oid = some ⟨cells, 1, .rw⟩ ∧ cells.length = n ∧ cells[n - 1]? = some (.slice (some ⟨p, 0, none⟩) 2 0) ∧ hget H p = some ⟨[.int .i64 (rs.getD (n - 1) (0, 0)).1, .int .i64 ((rs.getD (n - 1) (0, 0)).2 : Int)], 1, .rw⟩ ∧
    FG lo hi (H.set p ⟨[.int .i64 (rs.getD (n - 1) (0, 0)).1, .int .i64 ((rs.getD (n - 1) (0, 0)).2 + 1 : Int)], 1, .rw⟩) v n (rowR (incL rs)) := by
  obtain ⟨a, rfl, F⟩ := s
  have G := F h0
  clear F
  obtain ⟨oid, cells, f, rfl, b1, b2, b3, b4, b5, b6⟩ := G
  obtain ⟨c1, c2, c3, c4, c5⟩ := b5 (n - 1) (by omega)
  refine ⟨oid, f (n - 1), cells, rfl, b1, b2, c1, c2, c3, b3, b4, c4, c5, _, rfl, fun _ => ⟨oid, cells, f, rfl, b1, b2, by rw [hget_set_ne c3]; exact b3, b4, fun i hi => ?_, b6⟩⟩
  obtain ⟨d1, d2, d3, d4, d5⟩ := b5 i hi
  rw [rowR_inc (by omega), hn]
  by_cases hin : i = n - 1
  · subst hin
    rw [if_pos rfl]
    exact ⟨d1, d2, d3, d4, by rw [hget_set_same (hget_lt c5)]; rfl⟩
  · rw [if_neg hin]
    have hne : f i ≠ f (n - 1) := fun hh => hin (b6 i (n - 1) hi (by omega) hh)
    exact ⟨d1, d2, d3, d4, by rw [hget_set_ne (Ne.symm hne)]; exact d5⟩

theorem c_PackArchive {n : Nat} (v : Value) (f : Int) (l : List Int) (s : AA n h v f l) (hmax : l.length ≤ 1048576) : vCall [] Try.prog M 16 [v] h (fun r h' => (∃ w, r = .tuple #[w, .bool (decide (arGood f l))] ∧ FG h.length h'.length h' w (packed f l).length (rowR (packed f l))) ∧ h <+: h') := by
  obtain ⟨w, rfl, s'⟩ := id s
  obtain ⟨a, rfl⟩ := s'.len
  refine body_of mo Try.func16 rfl (by kernel_rfl) (Nat.le_of_ble_eq_true (by kernel_rfl)) rfl ?_
  simp only [go_sem, Nat.reduceBEq, Nat.reduceAdd, Nat.reduceMul, Nat.reduceSub, Nat.reduceLeDiff, Nat.le_refl, implies_true, Nat.reduceLT, reduceIte, decide_true, decide_false, true_and, and_true, reduceCtorEq, Nat.mul_one, Int.reduceToNat, Int.reduceLE, Int.reduceLT, Int.reduceAdd, Int.reduceSub, Int.reduceMul, Int.cast_ofNat_Int, cast_zero_int, cast_one_int, Nat.reducePow, Nat.reduceEqDiff, Nat.reduceMod, Nat.zero_add, Nat.sub_zero, Nat.add_zero]
  refine ⟨by kernel_rfl, (c_IsValidArchive _ f l (s.mono (List.prefix_append _ _)) hmax).use (fun _ m => m) ?_⟩
  rintro _ _ ⟨rfl, ⟨t, rfl⟩⟩
  simp only [go_sem, Nat.reduceBEq, Nat.reduceAdd, Nat.reduceMul, Nat.reduceSub, Nat.reduceLeDiff, Nat.le_refl, implies_true, Nat.reduceLT, reduceIte, decide_true, decide_false, true_and, and_true, reduceCtorEq, Nat.mul_one, Int.reduceToNat, Int.reduceLE, Int.reduceLT, Int.reduceAdd, Int.reduceSub, Int.reduceMul, Int.cast_ofNat_Int, cast_zero_int, cast_one_int, Nat.reducePow, Nat.reduceEqDiff, Nat.reduceMod, Nat.zero_add, Nat.sub_zero, Nat.add_zero]
  by_cases h1 : arGood f l
  · obtain ⟨g1, g2, g3, g4⟩ := id h1
    simp only [go_sem, Nat.reduceBEq, Nat.reduceAdd, Nat.reduceMul, Nat.reduceSub, Nat.reduceLeDiff, Nat.le_refl, implies_true, Nat.reduceLT, reduceIte, decide_true, decide_false, true_and, and_true, reduceCtorEq, Nat.mul_one, Int.reduceToNat, Int.reduceLE, Int.reduceLT, Int.reduceAdd, Int.reduceSub, Int.reduceMul, Int.cast_ofNat_Int, cast_zero_int, cast_one_int, Nat.reducePow, Nat.reduceEqDiff, Nat.reduceMod, Nat.zero_add, Nat.sub_zero, Nat.add_zero, decb h1]
    refine vLoop.count mo l.length (fun i e H => ∃ (oid : Nat) (cells : List Value), e 1 = .pointer (some ⟨h.length, 0, none⟩) ∧ e 12 = .slice a l.length 0 ∧ e 13 = .int .i64 l.length ∧ e 14 = .int .i64 i ∧ e 4 = .slice (some ⟨oid, 0, none⟩) (runs l i).length 0 ∧
      hget H oid = some ⟨cells, 1, .rw⟩ ∧ cells.length = (runs l i).length ∧ h.length + 1 ≤ oid ∧ FG (h.length + 1) H.length H (.slice (some ⟨oid, 0, none⟩) (runs l i).length 0) (runs l i).length (rowR (runs l i)) ∧
      hget H h.length = some ⟨[.int .i64 f, .slice a l.length 0], 2, .rw⟩ ∧ h <+: H) ?_ ?_
    · refine ⟨h.length + (t.length + 1), [], rfl, rfl, rfl, rfl, by simp [upd, runs], ?_, by simp [runs], by omega, ?_, by simp [hget], by simp⟩
      · rw [hget_app]; simp
      · exact ⟨_, rfl, fun h0 => by simp [runs] at h0⟩
    · rintro i e H hi ⟨oid, cells, e1, e12, e13, e14, e4, ho, hcl, hoid, hF, hB, hpre⟩
      simp only [go_sem, Nat.reduceBEq, Nat.reduceAdd, Nat.reduceMul, Nat.reduceSub, Nat.reduceLeDiff, Nat.le_refl, implies_true, Nat.reduceLT, reduceIte, decide_true, decide_false, true_and, and_true, reduceCtorEq, Nat.mul_one, Int.reduceToNat, Int.reduceLE, Int.reduceLT, Int.reduceAdd, Int.reduceSub, Int.reduceMul, Int.cast_ofNat_Int, cast_zero_int, cast_one_int, Nat.reducePow, Nat.reduceEqDiff, Nat.reduceMod, Nat.zero_add, Nat.sub_zero, Nat.add_zero, e12, e13, e14]
      refine .intro (fun h2 => ?_) (fun h2 => ?_)
      · have hlt : i < l.length := by simpa using h2
        obtain ⟨id, off, k, hv, _, _, hk0, hd, _, _, _, hat⟩ := s'.at (Nat.zero_lt_of_lt hlt)
        obtain rfl : a = some ⟨id, off, none⟩ := by simpa using hv
        have hk : ∀ t, hget (H ++ t) id = some k := fun t => by rw [hget_prefix (hpre.trans (List.prefix_append _ _)) (hget_lt hk0)]; exact hk0
        have hkH : hget H id = some k := by rw [hget_prefix hpre (hget_lt hk0)]; exact hk0
        have hz : (i : Int) < l.length := by omega
        have gd : l.getD i 0 = l[i] := getD_of hlt
        have hrl := runs_len (l := l) i
        have hown : own h.length M oid := Or.inl (by omega)
        simp only [go_sem, Nat.reduceBEq, Nat.reduceAdd, Nat.reduceMul, Nat.reduceSub, Nat.reduceLeDiff, Nat.le_refl, implies_true, Nat.reduceLT, reduceIte, decide_true, decide_false, true_and, and_true, reduceCtorEq, Nat.mul_one, Int.reduceToNat, Int.reduceLE, Int.reduceLT, Int.reduceAdd, Int.reduceSub, Int.reduceMul, Int.cast_ofNat_Int, cast_zero_int, cast_one_int, Nat.reducePow, Nat.reduceEqDiff, Nat.reduceMod, Nat.zero_add, Nat.sub_zero, Nat.add_zero, e1, e12, e13, e14, hz, hkH, hd, hat i hlt]
        have hHl := hget_lt ho
        have hbl := hget_lt hB
        have hold : ∀ t, hget (H ++ t) oid = some ⟨cells, 1, .rw⟩ := fun t => by rw [hget_prefix (List.prefix_append _ _) hHl]; exact ho
        by_cases h4 : i = 0
        · have hnew : newAt l i := .inl h4
          simp only [go_sem, Nat.reduceBEq, Nat.reduceAdd, Nat.reduceMul, Nat.reduceSub, Nat.reduceLeDiff, Nat.le_refl, implies_true, Nat.reduceLT, reduceIte, decide_true, decide_false, true_and, and_true, reduceCtorEq, Nat.mul_one, Int.reduceToNat, Int.reduceLE, Int.reduceLT, Int.reduceAdd, Int.reduceSub, Int.reduceMul, Int.cast_ofNat_Int, cast_zero_int, cast_one_int, Nat.reducePow, Nat.reduceEqDiff, Nat.reduceMod, Nat.zero_add, Nat.sub_zero, Nat.add_zero, show ((i : Int) == 0) = true by simpa using h4, e1, e4, hB, hkH, hd, hold, hown, hcl, show (runs l i).length + 1 ≤ 9223372036854775807 by omega, show ((runs l i).length + 1) * 24 ≤ 140737488355328 by omega]
          have hP := FG.push (r := (l[i], 0)) hF rfl (by omega) (Nat.le_refl _) ho hcl
          obtain ⟨H', hH'⟩ : ∃ H' : Heap, ((H ++ [(⟨[.int .i64 l[i], .int .i64 0], 1, .rw⟩ : Blk), (⟨[.slice (some ⟨H.length, 0, none⟩) 2 0], 1, .rw⟩ : Blk)]).set oid ⟨cells, 1, .dead⟩ ++ [(⟨cells ++ [.slice (some ⟨H.length, 0, none⟩) 2 0], 1, .rw⟩ : Blk)]) = H' := ⟨_, rfl⟩
          have hP : FG (h.length + 1) (H.length + 3) H' (.slice (some ⟨H.length + 2, 0, none⟩) ((runs l i).length + 1) 0) ((runs l i).length + 1) (rowR (runs l i ++ [(l[i], 0)])) := by rw [← hH']; exact hP
          have hlenH : H'.length = H.length + 3 := by rw [← hH']; simp
          have hBx : hget H' h.length = some ⟨[.int .i64 f, .slice (some ⟨id, off, none⟩) l.length 0], 2, .rw⟩ := by rw [← hH', push_keep hbl (by omega)]; exact hB
          have hprex : h <+: H' := by
            rw [← hH']
            exact (pre_set (hpre.trans (List.prefix_append _ _)) (by omega)).trans (List.prefix_append _ _)
          obtain ⟨o2, p, cells2, ev, p1, p2, p3, p4, p5, p6, p7, p8, p9, p10⟩ := FG.last hP (by simp) (by omega)
          obtain rfl : H.length + 2 = o2 := by simpa using ev
          have hgd : (runs l i ++ [(l[i], 0)]).getD ((runs l i).length + 1 - 1) (0, 0) = (l[i], 0) := by simp [List.getD]
          rw [hgd] at p9 p10
          rw [Nat.add_sub_cancel] at p8
          rw [incL_snoc] at p10
          simp only [Int.cast_ofNat_Int, Nat.zero_add] at p9 p10
          have w1 : IntKind.i64.wrap ((((runs l i).length + 1 : Nat) : Int) - 1) = ((runs l i).length : Int) := by rw [wrap64 (by omega)]; omega
          have hownp : own h.length M p := Or.inl (by omega)
          have hrn : runs l (i + 1) = runs l i ++ [(l[i], 1)] := by rw [runs_new hnew, gd]
          have w2 : IntKind.i64.wrap (0 + 1) = 1 := by rfl
          simp only [go_sem, Nat.reduceBEq, Nat.reduceAdd, Nat.reduceMul, Nat.reduceSub, Nat.reduceLeDiff, Nat.le_refl, implies_true, Nat.reduceLT, reduceIte, decide_true, decide_false, true_and, and_true, reduceCtorEq, Nat.mul_one, Int.reduceToNat, Int.reduceLE, Int.reduceLT, Int.reduceAdd, Int.reduceSub, Int.reduceMul, Int.cast_ofNat_Int, cast_zero_int, cast_one_int, Nat.reducePow, Nat.reduceEqDiff, Nat.reduceMod, Nat.zero_add, Nat.sub_zero, Nat.add_zero, hH', w1, p6, p8, p9, hownp, w2, show IntKind.i64.wrap 1 = 1 from rfl, show ((runs l i).length : Int) < (((runs l i).length + 1 : Nat) : Int) by omega, e1, e12, e13, e14]
          refine ⟨hlt, H.length + 2, cells2, by rw [wrap64 (by omega)]; rfl, by rw [hrn, List.length_append]; rfl, by rw [hget_set_ne p5]; exact p6, by rw [hrn, List.length_append]; exact p7, by omega, ?_, by rw [hget_set_ne (by omega)]; exact hBx, pre_set hprex (by omega)⟩
          rw [hrn, List.length_append]
          exact p10.wide (Nat.le_refl _) (by rw [List.length_set]; omega)
        · have hp : i - 1 < l.length := by omega
          have hp0 : l.getD (i - 1) 0 = l[i - 1] := getD_of hp
          have q2 : IntKind.i64.wrap ((i : Int) - 1) = ((i - 1 : Nat) : Int) := by rw [wrap64 (by omega)]; omega
          have q3 : ((i - 1 : Nat) : Int) < l.length := by omega
          simp only [go_sem, Nat.reduceBEq, Nat.reduceAdd, Nat.reduceMul, Nat.reduceSub, Nat.reduceLeDiff, Nat.le_refl, implies_true, Nat.reduceLT, reduceIte, decide_true, decide_false, true_and, and_true, reduceCtorEq, Nat.mul_one, Int.reduceToNat, Int.reduceLE, Int.reduceLT, Int.reduceAdd, Int.reduceSub, Int.reduceMul, Int.cast_ofNat_Int, cast_zero_int, cast_one_int, Nat.reducePow, Nat.reduceEqDiff, Nat.reduceMod, Nat.zero_add, Nat.sub_zero, Nat.add_zero, show ((i : Int) == 0) = false by simpa using h4, e1, e4, hB, hkH, hd, hat (i - 1) hp, q2, q3]
          by_cases h5 : l[i - 1] = l[i]
          · have hold' : ¬ newAt l i := by rintro (h | h); exact h4 h; rw [hp0, gd] at h; exact h h5
            simp only [go_sem, Nat.reduceBEq, Nat.reduceAdd, Nat.reduceMul, Nat.reduceSub, Nat.reduceLeDiff, Nat.le_refl, implies_true, Nat.reduceLT, reduceIte, decide_true, decide_false, true_and, and_true, reduceCtorEq, Nat.mul_one, Int.reduceToNat, Int.reduceLE, Int.reduceLT, Int.reduceAdd, Int.reduceSub, Int.reduceMul, Int.cast_ofNat_Int, cast_zero_int, cast_one_int, Nat.reducePow, Nat.reduceEqDiff, Nat.reduceMod, Nat.zero_add, Nat.sub_zero, Nat.add_zero, show (l[i - 1] != l[i]) = false by simpa using h5, e1, e4, hB, hkH, hd]
            obtain ⟨o2, p, cells2, ev, p1, p2, p3, p4, p5, p6, p7, p8, p9, p10⟩ := FG.last hF rfl (hrl.2 (by omega))
            obtain rfl : oid = o2 := by simpa using ev
            have hrl0 := hrl.2 (by omega)
            have hrn : runs l (i + 1) = incL (runs l i) := runs_old hold'
            have hc := (runs_cnt (l := l) i ((runs l i)[(runs l i).length - 1]'(by omega)) (List.getElem_mem _)).2
            have hcg : (runs l i).getD ((runs l i).length - 1) (0, 0) = (runs l i)[(runs l i).length - 1]'(by omega) := by simp [List.getD, show (runs l i).length - 1 < (runs l i).length by omega]
            rw [hcg] at p9 p10
            have w1 : IntKind.i64.wrap (((runs l i).length : Int) - 1) = (((runs l i).length - 1 : Nat) : Int) := by rw [wrap64 (by omega)]; omega
            have w2 : IntKind.i64.wrap ((((runs l i)[(runs l i).length - 1]'(by omega)).2 : Int) + 1) = (((runs l i)[(runs l i).length - 1]'(by omega)).2 : Int) + 1 := wrap64 (by omega)
            have hownp : own h.length M p := Or.inl (by omega)
            simp only [go_sem, Nat.reduceBEq, Nat.reduceAdd, Nat.reduceMul, Nat.reduceSub, Nat.reduceLeDiff, Nat.le_refl, implies_true, Nat.reduceLT, reduceIte, decide_true, decide_false, true_and, and_true, reduceCtorEq, Nat.mul_one, Int.reduceToNat, Int.reduceLE, Int.reduceLT, Int.reduceAdd, Int.reduceSub, Int.reduceMul, Int.cast_ofNat_Int, cast_zero_int, cast_one_int, Nat.reducePow, Nat.reduceEqDiff, Nat.reduceMod, Nat.zero_add, Nat.sub_zero, Nat.add_zero, e1, e4, p6, p8, p9, hownp, w1, w2, show (((runs l i).length - 1 : Nat) : Int) < ((runs l i).length : Int) by omega, e12, e13, e14]
            refine ⟨hlt, oid, cells2, by rw [wrap64 (by omega)]; rfl, by rw [hrn, incL_len], by rw [hget_set_ne p5]; exact p6, by rw [hrn, incL_len]; exact p7, by omega, ?_, by rw [hget_set_ne (by omega)]; exact hB, pre_set hpre (by omega)⟩
            rw [hrn, incL_len]
            exact p10.wide (Nat.le_refl _) (by rw [List.length_set]; omega)
          · have hnew : newAt l i := .inr (by rw [hp0, gd]; exact h5)
            simp only [go_sem, Nat.reduceBEq, Nat.reduceAdd, Nat.reduceMul, Nat.reduceSub, Nat.reduceLeDiff, Nat.le_refl, implies_true, Nat.reduceLT, reduceIte, decide_true, decide_false, true_and, and_true, reduceCtorEq, Nat.mul_one, Int.reduceToNat, Int.reduceLE, Int.reduceLT, Int.reduceAdd, Int.reduceSub, Int.reduceMul, Int.cast_ofNat_Int, cast_zero_int, cast_one_int, Nat.reducePow, Nat.reduceEqDiff, Nat.reduceMod, Nat.zero_add, Nat.sub_zero, Nat.add_zero, show (l[i - 1] != l[i]) = true by simpa using h5, e1, e4, hB, hkH, hd, hold, hown, hcl, show (runs l i).length + 1 ≤ 9223372036854775807 by omega, show ((runs l i).length + 1) * 24 ≤ 140737488355328 by omega]
            have hP := FG.push (r := (l[i], 0)) hF rfl (by omega) (Nat.le_refl _) ho hcl
            obtain ⟨H', hH'⟩ : ∃ H' : Heap, ((H ++ [(⟨[.int .i64 l[i], .int .i64 0], 1, .rw⟩ : Blk), (⟨[.slice (some ⟨H.length, 0, none⟩) 2 0], 1, .rw⟩ : Blk)]).set oid ⟨cells, 1, .dead⟩ ++ [(⟨cells ++ [.slice (some ⟨H.length, 0, none⟩) 2 0], 1, .rw⟩ : Blk)]) = H' := ⟨_, rfl⟩
            have hP : FG (h.length + 1) (H.length + 3) H' (.slice (some ⟨H.length + 2, 0, none⟩) ((runs l i).length + 1) 0) ((runs l i).length + 1) (rowR (runs l i ++ [(l[i], 0)])) := by rw [← hH']; exact hP
            have hlenH : H'.length = H.length + 3 := by rw [← hH']; simp
            have hBx : hget H' h.length = some ⟨[.int .i64 f, .slice (some ⟨id, off, none⟩) l.length 0], 2, .rw⟩ := by rw [← hH', push_keep hbl (by omega)]; exact hB
            have hprex : h <+: H' := by
              rw [← hH']
              exact (pre_set (hpre.trans (List.prefix_append _ _)) (by omega)).trans (List.prefix_append _ _)
            obtain ⟨o2, p, cells2, ev, p1, p2, p3, p4, p5, p6, p7, p8, p9, p10⟩ := FG.last hP (by simp) (by omega)
            obtain rfl : H.length + 2 = o2 := by simpa using ev
            have hgd : (runs l i ++ [(l[i], 0)]).getD ((runs l i).length + 1 - 1) (0, 0) = (l[i], 0) := by simp [List.getD]
            rw [hgd] at p9 p10
            rw [Nat.add_sub_cancel] at p8
            rw [incL_snoc] at p10
            simp only [Int.cast_ofNat_Int, Nat.zero_add] at p9 p10
            have w1 : IntKind.i64.wrap ((((runs l i).length + 1 : Nat) : Int) - 1) = ((runs l i).length : Int) := by rw [wrap64 (by omega)]; omega
            have hownp : own h.length M p := Or.inl (by omega)
            have hrn : runs l (i + 1) = runs l i ++ [(l[i], 1)] := by rw [runs_new hnew, gd]
            have w2 : IntKind.i64.wrap (0 + 1) = 1 := by rfl
            simp only [go_sem, Nat.reduceBEq, Nat.reduceAdd, Nat.reduceMul, Nat.reduceSub, Nat.reduceLeDiff, Nat.le_refl, implies_true, Nat.reduceLT, reduceIte, decide_true, decide_false, true_and, and_true, reduceCtorEq, Nat.mul_one, Int.reduceToNat, Int.reduceLE, Int.reduceLT, Int.reduceAdd, Int.reduceSub, Int.reduceMul, Int.cast_ofNat_Int, cast_zero_int, cast_one_int, Nat.reducePow, Nat.reduceEqDiff, Nat.reduceMod, Nat.zero_add, Nat.sub_zero, Nat.add_zero, hH', w1, p6, p8, p9, hownp, w2, show IntKind.i64.wrap 1 = 1 from rfl, show ((runs l i).length : Int) < (((runs l i).length + 1 : Nat) : Int) by omega, e1, e12, e13, e14]
            refine ⟨hlt, H.length + 2, cells2, by rw [wrap64 (by omega)]; rfl, by rw [hrn, List.length_append]; rfl, by rw [hget_set_ne p5]; exact p6, by rw [hrn, List.length_append]; exact p7, by omega, ?_, by rw [hget_set_ne (by omega)]; exact hBx, pre_set hprex (by omega)⟩
            rw [hrn, List.length_append]
            exact p10.wide (Nat.le_refl _) (by rw [List.length_set]; omega)
      · simp only [go_sem, Nat.reduceBEq, Nat.reduceAdd, Nat.reduceMul, Nat.reduceSub, Nat.reduceLeDiff, Nat.le_refl, implies_true, Nat.reduceLT, reduceIte, decide_true, decide_false, true_and, and_true, reduceCtorEq, Nat.mul_one, Int.reduceToNat, Int.reduceLE, Int.reduceLT, Int.reduceAdd, Int.reduceSub, Int.reduceMul, Int.cast_ofNat_Int, cast_zero_int, cast_one_int, Nat.reducePow, Nat.reduceEqDiff, Nat.reduceMod, Nat.zero_add, Nat.sub_zero, Nat.add_zero, e12, e13, e14, e4, decb h1]
        obtain rfl : i = l.length := by have : ¬ i < l.length := by simpa using h2
                                        omega
        have hpk : packed f l = runs l l.length := by rw [packed, if_pos h1]
        rw [hpk]
        exact ⟨⟨_, rfl, hF.wide (by omega) (Nat.le_refl _)⟩, hpre⟩
  · simp only [go_sem, Nat.reduceBEq, Nat.reduceAdd, Nat.reduceMul, Nat.reduceSub, Nat.reduceLeDiff, Nat.le_refl, implies_true, Nat.reduceLT, reduceIte, decide_true, decide_false, true_and, and_true, reduceCtorEq, Nat.mul_one, Int.reduceToNat, Int.reduceLE, Int.reduceLT, Int.reduceAdd, Int.reduceSub, Int.reduceMul, Int.cast_ofNat_Int, cast_zero_int, cast_one_int, Nat.reducePow, Nat.reduceEqDiff, Nat.reduceMod, Nat.zero_add, Nat.sub_zero, Nat.add_zero, dect h1]
    exact ⟨_, rfl, by rw [packed, if_neg h1]; exact ⟨_, rfl, fun h0 => by simp at h0⟩⟩

theorem c_sPackArchive {n : Nat} (v : Value) (f : Int) (l : List Int) (s : AA n h v f l) (hmax : l.length ≤ 1048576) : vCall [] Try.prog M 17 [v] h (fun r h' => (∃ w, r = .tuple #[w, .bool (decide (arGood f l))] ∧ FG h.length h'.length h' w (packed f l).length (rowR (packed f l))) ∧ h <+: h') := by
  obtain ⟨w, rfl, s'⟩ := id s
  obtain ⟨a, rfl⟩ := s'.len
  refine body_of mo Try.func17 rfl (by kernel_rfl) (Nat.le_of_ble_eq_true (by kernel_rfl)) rfl ?_
  simp only [go_sem, Nat.reduceBEq, Nat.reduceAdd, Nat.reduceMul, Nat.reduceSub, Nat.reduceLeDiff, Nat.le_refl, implies_true, Nat.reduceLT, reduceIte, decide_true, decide_false, true_and, and_true, reduceCtorEq, Nat.mul_one, Int.reduceToNat, Int.reduceLE, Int.reduceLT, Int.reduceAdd, Int.reduceSub, Int.reduceMul, Int.cast_ofNat_Int, cast_zero_int, cast_one_int, Nat.reducePow, Nat.reduceEqDiff, Nat.reduceMod, Nat.zero_add, Nat.sub_zero, Nat.add_zero]
  refine ⟨by kernel_rfl, (c_l26Good _ f l (s.mono (List.prefix_append _ _)) hmax).use (fun _ m => m) ?_⟩
  rintro _ _ ⟨rfl, ⟨t, rfl⟩⟩
  simp only [go_sem, Nat.reduceBEq, Nat.reduceAdd, Nat.reduceMul, Nat.reduceSub, Nat.reduceLeDiff, Nat.le_refl, implies_true, Nat.reduceLT, reduceIte, decide_true, decide_false, true_and, and_true, reduceCtorEq, Nat.mul_one, Int.reduceToNat, Int.reduceLE, Int.reduceLT, Int.reduceAdd, Int.reduceSub, Int.reduceMul, Int.cast_ofNat_Int, cast_zero_int, cast_one_int, Nat.reducePow, Nat.reduceEqDiff, Nat.reduceMod, Nat.zero_add, Nat.sub_zero, Nat.add_zero]
  by_cases h1 : arGood f l
  · obtain ⟨g1, g2, g3, g4⟩ := id h1
    simp only [go_sem, Nat.reduceBEq, Nat.reduceAdd, Nat.reduceMul, Nat.reduceSub, Nat.reduceLeDiff, Nat.le_refl, implies_true, Nat.reduceLT, reduceIte, decide_true, decide_false, true_and, and_true, reduceCtorEq, Nat.mul_one, Int.reduceToNat, Int.reduceLE, Int.reduceLT, Int.reduceAdd, Int.reduceSub, Int.reduceMul, Int.cast_ofNat_Int, cast_zero_int, cast_one_int, Nat.reducePow, Nat.reduceEqDiff, Nat.reduceMod, Nat.zero_add, Nat.sub_zero, Nat.add_zero, decb h1]
    refine vLoop.count mo l.length (fun c e H => ∃ (i oid : Nat) (cells : List Value), c ≤ i ∧ i ≤ l.length ∧ (i < l.length → newAt l i) ∧ e 1 = .pointer (some ⟨h.length, 0, none⟩) ∧ e 5 = .int .i64 i ∧ e 4 = .slice (some ⟨oid, 0, none⟩) (runs l i).length 0 ∧
      hget H oid = some ⟨cells, 1, .rw⟩ ∧ cells.length = (runs l i).length ∧ h.length + 1 ≤ oid ∧ FG (h.length + 1) H.length H (.slice (some ⟨oid, 0, none⟩) (runs l i).length 0) (runs l i).length (rowR (runs l i)) ∧
      hget H h.length = some ⟨[.int .i64 f, .slice a l.length 0], 2, .rw⟩ ∧ h <+: H) ?_ ?_
    · refine ⟨0, h.length + 1, [], Nat.le_refl _, Nat.zero_le _, fun _ => .inl rfl, rfl, rfl, by simp [upd, runs], ?_, by simp [runs], by omega, ?_, by simp [hget], by simp⟩
      · rw [hget_app]; simp
      · exact ⟨_, rfl, fun h0 => by simp [runs] at h0⟩
    · rintro c e H hc ⟨i, oid, cells, hci, hil, hnew, e1, e5, e4, ho, hcl, hoid, hF, hB, hpre⟩
      simp only [go_sem, Nat.reduceBEq, Nat.reduceAdd, Nat.reduceMul, Nat.reduceSub, Nat.reduceLeDiff, Nat.le_refl, implies_true, Nat.reduceLT, reduceIte, decide_true, decide_false, true_and, and_true, reduceCtorEq, Nat.mul_one, Int.reduceToNat, Int.reduceLE, Int.reduceLT, Int.reduceAdd, Int.reduceSub, Int.reduceMul, Int.cast_ofNat_Int, cast_zero_int, cast_one_int, Nat.reducePow, Nat.reduceEqDiff, Nat.reduceMod, Nat.zero_add, Nat.sub_zero, Nat.add_zero, e1, e5, hB]
      refine .intro (fun h2 => ?_) (fun h2 => ?_)
      · have hlt : i < l.length := by simpa using h2
        have hnew := hnew hlt
        obtain ⟨id, off, k, hv, _, _, hk0, hd, _, _, _, hat⟩ := s'.at (Nat.zero_lt_of_lt hlt)
        obtain rfl : a = some ⟨id, off, none⟩ := by simpa using hv
        have hkH : hget H id = some k := by rw [hget_prefix hpre (hget_lt hk0)]; exact hk0
        have hz : (i : Int) < l.length := by omega
        have gd : l.getD i 0 = l[i] := getD_of hlt
        have hrl := runs_len (l := l) i
        have hown : own h.length M oid := Or.inl (by omega)
        simp only [go_sem, Nat.reduceBEq, Nat.reduceAdd, Nat.reduceMul, Nat.reduceSub, Nat.reduceLeDiff, Nat.le_refl, implies_true, Nat.reduceLT, reduceIte, decide_true, decide_false, true_and, and_true, reduceCtorEq, Nat.mul_one, Int.reduceToNat, Int.reduceLE, Int.reduceLT, Int.reduceAdd, Int.reduceSub, Int.reduceMul, Int.cast_ofNat_Int, cast_zero_int, cast_one_int, Nat.reducePow, Nat.reduceEqDiff, Nat.reduceMod, Nat.zero_add, Nat.sub_zero, Nat.add_zero, e1, e5]
        refine vLoop.count mo l.length (fun m e' H' => i + m ≤ l.length ∧ (∀ j, j < m → l.getD (i + j) 0 = l.getD i 0) ∧ H' = H ∧ e' 1 = .pointer (some ⟨h.length, 0, none⟩) ∧ e' 5 = .int .i64 i ∧ e' 6 = .int .i64 ((i + m : Nat) : Int) ∧ e' 4 = .slice (some ⟨oid, 0, none⟩) (runs l i).length 0) ?_ ?_
        · exact ⟨by omega, fun j hj => absurd hj (by omega), rfl, e1, e5, rfl, e4⟩
        · rintro m e' H hm ⟨him, hsame, rfl, e1', e5', e6', e4'⟩
          have hHl := hget_lt ho
          have hbl := hget_lt hB
          have hold : ∀ t, hget (H ++ t) oid = some ⟨cells, 1, .rw⟩ := fun t => by rw [hget_prefix (List.prefix_append _ _) hHl]; exact ho
          have fin : 0 < m → (i + m < l.length → l.getD (i + m) 0 ≠ l.getD i 0) → i + m < l.length → newAt l (i + m) := fun hm0 hx hl => by
            refine .inr ?_
            have := hsame (m - 1) (by omega)
            rw [show i + (m - 1) = i + m - 1 by omega] at this
            rw [this]; exact fun h => hx hl h.symm
          have hP := FG.push (r := (l[i], m)) hF rfl (by omega) (Nat.le_refl _) ho hcl
          have hrun : 0 < m → runs l (i + m) = runs l i ++ [(l[i], m)] := fun hm0 => by
            have := runs_run hnew (m - 1) (fun j hj => hsame j (by omega))
            rwa [show i + (m - 1) + 1 = i + m by omega, show m - 1 + 1 = m by omega, gd] at this
          have w1 : IntKind.i64.wrap (((i + m : Nat) : Int) - i) = m := by rw [wrap64 (by omega)]; omega
          have done : 0 < m → (i + m < l.length → l.getD (i + m) 0 ≠ l.getD i 0) → ∀ X, X = ((H ++ [(⟨[.int .i64 l[i], .int .i64 m], 1, .rw⟩ : Blk), (⟨[.slice (some ⟨H.length, 0, none⟩) 2 0], 1, .rw⟩ : Blk)]).set oid ⟨cells, 1, .dead⟩ ++ [(⟨cells ++ [.slice (some ⟨H.length, 0, none⟩) 2 0], 1, .rw⟩ : Blk)]) →
              ∃ (cells' : List Value), (i + m < l.length → newAt l (i + m)) ∧ (runs l i).length + 1 = (runs l (i + m)).length ∧ hget X (H.length + 2) = some ⟨cells', 1, .rw⟩ ∧ cells'.length = (runs l (i + m)).length ∧ (∀ y, y = H.length + 3 → FG (h.length + 1) y X (.slice (some ⟨H.length + 2, 0, none⟩) (runs l (i + m)).length 0) (runs l (i + m)).length (rowR (runs l (i + m)))) ∧ hget X h.length = some ⟨[.int .i64 f, .slice (some ⟨id, off, none⟩) l.length 0], 2, .rw⟩ ∧ h <+: X := by
            intro hm0 hx X hX
            refine ⟨cells ++ [.slice (some ⟨H.length, 0, none⟩) 2 0], fin hm0 hx, by rw [hrun hm0]; simp, ?_, by rw [hrun hm0]; simp [hcl], ?_, ?_, ?_⟩
            · rw [hX]; unfold hget; rw [List.getElem?_append_right (by simp)]; simp
            · intro y hy
              rw [hrun hm0, List.length_append, List.length_singleton, hX, hy]; exact hP
            · rw [hX, push_keep hbl (by omega)]; exact hB
            · rw [hX]; exact (pre_set (hpre.trans (List.prefix_append _ _)) (by omega)).trans (List.prefix_append _ _)
          simp only [go_sem, Nat.reduceBEq, Nat.reduceAdd, Nat.reduceMul, Nat.reduceSub, Nat.reduceLeDiff, Nat.le_refl, implies_true, Nat.reduceLT, reduceIte, decide_true, decide_false, true_and, and_true, reduceCtorEq, Nat.mul_one, Int.reduceToNat, Int.reduceLE, Int.reduceLT, Int.reduceAdd, Int.reduceSub, Int.reduceMul, Int.cast_ofNat_Int, cast_zero_int, cast_one_int, Nat.reducePow, Nat.reduceEqDiff, Nat.reduceMod, Nat.zero_add, Nat.sub_zero, Nat.add_zero, e1', e5', e6', hB]
          by_cases h6 : i + m < l.length
          · have hz6 : ((i + m : Nat) : Int) < l.length := by omega
            have gm : l.getD (i + m) 0 = l[i + m] := getD_of h6
            have a6 := hat (i + m) h6
            simp only [go_sem, Nat.reduceBEq, Nat.reduceAdd, Nat.reduceMul, Nat.reduceSub, Nat.reduceLeDiff, Nat.le_refl, implies_true, Nat.reduceLT, reduceIte, decide_true, decide_false, true_and, and_true, reduceCtorEq, Nat.mul_one, Int.reduceToNat, Int.reduceLE, Int.reduceLT, Int.reduceAdd, Int.reduceSub, Int.reduceMul, Int.cast_ofNat_Int, cast_zero_int, cast_one_int, Nat.reducePow, Nat.reduceEqDiff, Nat.reduceMod, Nat.zero_add, Nat.sub_zero, Nat.add_zero, hz6, hkH, hd, a6, hat i hlt, hz, e1', e5', e6', hB]
            by_cases h7 : l[i + m] = l[i]
            · simp only [go_sem, Nat.reduceBEq, Nat.reduceAdd, Nat.reduceMul, Nat.reduceSub, Nat.reduceLeDiff, Nat.le_refl, implies_true, Nat.reduceLT, reduceIte, decide_true, decide_false, true_and, and_true, reduceCtorEq, Nat.mul_one, Int.reduceToNat, Int.reduceLE, Int.reduceLT, Int.reduceAdd, Int.reduceSub, Int.reduceMul, Int.cast_ofNat_Int, cast_zero_int, cast_one_int, Nat.reducePow, Nat.reduceEqDiff, Nat.reduceMod, Nat.zero_add, Nat.sub_zero, Nat.add_zero, show (l[i + m] == l[i]) = true by simpa using h7, e1', e5', e6', e4']
              refine ⟨by omega, by omega, fun j hj => ?_, by rw [wrap64 (by omega)]; rfl⟩
              by_cases hjm : j = m
              · rw [hjm, gm, gd, h7]
              · exact hsame j (by omega)
            · simp only [go_sem, Nat.reduceBEq, Nat.reduceAdd, Nat.reduceMul, Nat.reduceSub, Nat.reduceLeDiff, Nat.le_refl, implies_true, Nat.reduceLT, reduceIte, decide_true, decide_false, true_and, and_true, reduceCtorEq, Nat.mul_one, Int.reduceToNat, Int.reduceLE, Int.reduceLT, Int.reduceAdd, Int.reduceSub, Int.reduceMul, Int.cast_ofNat_Int, cast_zero_int, cast_one_int, Nat.reducePow, Nat.reduceEqDiff, Nat.reduceMod, Nat.zero_add, Nat.sub_zero, Nat.add_zero, show (l[i + m] == l[i]) = false by simpa using h7, e1', e5', e6', e4', hB, hkH, hd, hat i hlt, hz, w1, hold, hown, hcl, show (runs l i).length + 1 ≤ 9223372036854775807 by omega, show ((runs l i).length + 1) * 24 ≤ 140737488355328 by omega]
              have hm0 : 0 < m := by
                refine Nat.pos_of_ne_zero fun h0 => h7 ?_
                subst h0; rfl
              obtain ⟨cells', y1, y2, y3, y4, y5, y6, y7⟩ := done hm0 (fun _ => by rw [gm, gd]; exact h7) _ rfl
              exact ⟨by omega, i + m, H.length + 2, cells', by omega, by omega, y1, rfl, by rw [← y2], y3, y4, by omega, y5 _ (by simp), y6, y7⟩
          · simp only [go_sem, Nat.reduceBEq, Nat.reduceAdd, Nat.reduceMul, Nat.reduceSub, Nat.reduceLeDiff, Nat.le_refl, implies_true, Nat.reduceLT, reduceIte, decide_true, decide_false, true_and, and_true, reduceCtorEq, Nat.mul_one, Int.reduceToNat, Int.reduceLE, Int.reduceLT, Int.reduceAdd, Int.reduceSub, Int.reduceMul, Int.cast_ofNat_Int, cast_zero_int, cast_one_int, Nat.reducePow, Nat.reduceEqDiff, Nat.reduceMod, Nat.zero_add, Nat.sub_zero, Nat.add_zero, show ¬ ((i + m : Nat) : Int) < l.length by omega, e1', e5', e6', e4', hB, hkH, hd, hat i hlt, hz, w1, hold, hown, hcl, show (runs l i).length + 1 ≤ 9223372036854775807 by omega, show ((runs l i).length + 1) * 24 ≤ 140737488355328 by omega]
            have hm0 : 0 < m := by omega
            obtain ⟨cells', y1, y2, y3, y4, y5, y6, y7⟩ := done hm0 (fun hl => absurd hl h6) _ rfl
            exact ⟨by omega, i + m, H.length + 2, cells', by omega, by omega, y1, rfl, by rw [← y2], y3, y4, by omega, y5 _ (by simp), y6, y7⟩
      · simp only [go_sem, Nat.reduceBEq, Nat.reduceAdd, Nat.reduceMul, Nat.reduceSub, Nat.reduceLeDiff, Nat.le_refl, implies_true, Nat.reduceLT, reduceIte, decide_true, decide_false, true_and, and_true, reduceCtorEq, Nat.mul_one, Int.reduceToNat, Int.reduceLE, Int.reduceLT, Int.reduceAdd, Int.reduceSub, Int.reduceMul, Int.cast_ofNat_Int, cast_zero_int, cast_one_int, Nat.reducePow, Nat.reduceEqDiff, Nat.reduceMod, Nat.zero_add, Nat.sub_zero, Nat.add_zero, e1, e5, e4, decb h1]
        obtain rfl : i = l.length := by have : ¬ i < l.length := by simpa using h2
                                        omega
        have hpk : packed f l = runs l l.length := by rw [packed, if_pos h1]
        rw [hpk]
        exact ⟨⟨_, rfl, hF.wide (by omega) (Nat.le_refl _)⟩, hpre⟩
  · simp only [go_sem, Nat.reduceBEq, Nat.reduceAdd, Nat.reduceMul, Nat.reduceSub, Nat.reduceLeDiff, Nat.le_refl, implies_true, Nat.reduceLT, reduceIte, decide_true, decide_false, true_and, and_true, reduceCtorEq, Nat.mul_one, Int.reduceToNat, Int.reduceLE, Int.reduceLT, Int.reduceAdd, Int.reduceSub, Int.reduceMul, Int.cast_ofNat_Int, cast_zero_int, cast_one_int, Nat.reducePow, Nat.reduceEqDiff, Nat.reduceMod, Nat.zero_add, Nat.sub_zero, Nat.add_zero, dect h1]
    exact ⟨_, rfl, by rw [packed, if_neg h1]; exact ⟨_, rfl, fun h0 => by simp at h0⟩⟩

end

end Go.Proofs.Ytjgekhahklidcaa
