
/- The log read: one record, and all records of a text. No condition. -/
import Derived.Test.YtedidddimikjhaaDoorLogS
import Derived.Test.YtedidddimikjhaaDoorH3
namespace Go.Proofs.YtedidddimikjhaaDoor
open Go.HH Go.Proofs
set_option linter.unusedSimpArgs false
set_option linter.unusedVariables false

/-- The first record of a text, if it is the k-th of a log. -/
def oneL (k : Nat) (s : BL) : Option (BL × BL) := if 10 ∈ s ∧ k < 60 then readL k (cutA s 10) else none
def oneV (k : Nat) (s : BL) : Value := match oneL k s with
  | some e => .tuple #[.agg #[.string (mkB e.1), .string (mkB e.2)], .int .i64 ((lineL k e.1 e.2).length + 1 : Nat), .bool true]
  | none => .tuple #[.agg #[.string ⟨#[]⟩, .string ⟨#[]⟩], .int .i64 0, .bool false]
theorem cutA_le (l : BL) (b : UInt8) : (cutA l b).length ≤ l.length := (List.takeWhile_sublist _).length_le
theorem cutB_le (l : BL) (b : UInt8) : (cutB l b).length ≤ l.length := by
  rw [cutB, List.length_drop]
  have := (List.dropWhile_sublist (fun x => x != b) (l := l)).length_le
  omega
theorem mkB_le {l : BL} {n : Nat} (h : l.length ≤ n) : (mkB l).size ≤ n := by rw [mkB_size]; exact h
theorem bool_mem (s : ByteArray) (c : UInt8) (h : c ∈ bl s) : (bl s).contains c = true := List.contains_iff_mem.2 h
theorem bool_nmem (s : ByteArray) (c : UInt8) (h : c ∉ bl s) : (bl s).contains c = false := by rw [Bool.eq_false_iff]; exact fun hh => h (List.contains_iff_mem.1 hh)
theorem okL_sizes {c r : BL} (g : okL c r = true) : c.length ≤ 160 ∧ r.length ≤ 200 := by
  obtain ⟨h, _⟩ := okL_iff.1 g; omega

section
variable {G : List (Nat × Nat)} {h : Heap} {M : Nat → Prop}

theorem c_readRecord (pw : PowAt G h) (s : ByteArray) (k : Nat) (hk : k ≤ 60) (hs : s.size ≤ 10000000) : vCall G Tryd.prog M 53 [.string s, .int .i64 k] h (fun r h' => r = oneV k (bl s) ∧ h <+: h') := by
  have hbl := bl_len s
  obtain ⟨line, hl⟩ : ∃ line, cutA (bl s) 10 = line := ⟨_, rfl⟩
  obtain ⟨text, ht⟩ : ∃ text, cutA line 35 = text := ⟨_, rfl⟩
  obtain ⟨rest, hr⟩ : ∃ rest, cutB text 32 = rest := ⟨_, rfl⟩
  obtain ⟨c, hc⟩ : ∃ c, cutA rest 64 = c := ⟨_, rfl⟩
  obtain ⟨r, hr2⟩ : ∃ r, cutB rest 64 = r := ⟨_, rfl⟩
  have l1 := cutA_le (bl s) 10
  have l2 := cutA_le line 35
  have l3 := cutB_le text 32
  have l4 := cutA_le rest 64
  have l5 := cutB_le rest 64
  rw [hl] at l1
  rw [ht] at l2
  rw [hr] at l3
  rw [hc] at l4
  rw [hr2] at l5
  refine body_of mo Tryd.func53 rfl (by kernel_rfl) (Nat.le_of_ble_eq_true (by kernel_rfl)) rfl ?_
  simp only [go_sem, Nat.reduceBEq, Nat.reduceAdd, Nat.reduceMul, Nat.reduceSub, Nat.reduceLeDiff, Nat.le_refl, implies_true, Nat.reduceLT, reduceIte, decide_true, decide_false, true_and, and_true, reduceCtorEq, Nat.mul_one, Int.reduceToNat, Int.reduceLE, Int.reduceLT, Int.reduceAdd, Int.reduceSub, Int.reduceMul, Int.cast_ofNat_Int, cast_zero_int, cast_one_int, Nat.reducePow, Nat.reduceEqDiff, Nat.reduceMod, Nat.zero_add, Nat.sub_zero, Nat.add_zero]
  refine ⟨by kernel_rfl, (c_CutE s 10 line _ (by omega) hl rfl).use (fun _ m => m) ?_⟩
  rintro _ _ ⟨rfl, rfl⟩
  try simp only [go_sem, Nat.reduceBEq, Nat.reduceAdd, Nat.reduceMul, Nat.reduceSub, Nat.reduceLeDiff, Nat.le_refl, implies_true, Nat.reduceLT, reduceIte, decide_true, decide_false, true_and, and_true, reduceCtorEq, Nat.mul_one, Int.reduceToNat, Int.reduceLE, Int.reduceLT, Int.reduceAdd, Int.reduceSub, Int.reduceMul, Int.cast_ofNat_Int, cast_zero_int, cast_one_int, Nat.reducePow, Nat.reduceEqDiff, Nat.reduceMod, Nat.zero_add, Nat.sub_zero, Nat.add_zero]
  refine ⟨by kernel_rfl, (c_CutE (mkB line) 35 text _ (by rw [mkB_size]; omega) ht rfl).use (fun _ m => m) ?_⟩
  rintro _ _ ⟨rfl, rfl⟩
  try simp only [go_sem, Nat.reduceBEq, Nat.reduceAdd, Nat.reduceMul, Nat.reduceSub, Nat.reduceLeDiff, Nat.le_refl, implies_true, Nat.reduceLT, reduceIte, decide_true, decide_false, true_and, and_true, reduceCtorEq, Nat.mul_one, Int.reduceToNat, Int.reduceLE, Int.reduceLT, Int.reduceAdd, Int.reduceSub, Int.reduceMul, Int.cast_ofNat_Int, cast_zero_int, cast_one_int, Nat.reducePow, Nat.reduceEqDiff, Nat.reduceMod, Nat.zero_add, Nat.sub_zero, Nat.add_zero]
  refine ⟨by kernel_rfl, (c_CutE (mkB text) 32 _ rest (by rw [mkB_size]; omega) rfl hr).use (fun _ m => m) ?_⟩
  rintro _ _ ⟨rfl, rfl⟩
  try simp only [go_sem, Nat.reduceBEq, Nat.reduceAdd, Nat.reduceMul, Nat.reduceSub, Nat.reduceLeDiff, Nat.le_refl, implies_true, Nat.reduceLT, reduceIte, decide_true, decide_false, true_and, and_true, reduceCtorEq, Nat.mul_one, Int.reduceToNat, Int.reduceLE, Int.reduceLT, Int.reduceAdd, Int.reduceSub, Int.reduceMul, Int.cast_ofNat_Int, cast_zero_int, cast_one_int, Nat.reducePow, Nat.reduceEqDiff, Nat.reduceMod, Nat.zero_add, Nat.sub_zero, Nat.add_zero]
  refine ⟨by kernel_rfl, (c_CutE (mkB rest) 64 c r (by rw [mkB_size]; omega) hc hr2).use (fun _ m => m) ?_⟩
  rintro _ _ ⟨rfl, rfl⟩
  have rd : readL k line = if okL c r = true ∧ lineL k c r = line then some (c, r) else none := by rw [readL, ht, hr, hc, hr2]
  by_cases g1 : 10 ∈ bl s
  · simp only [go_sem, Nat.reduceBEq, Nat.reduceAdd, Nat.reduceMul, Nat.reduceSub, Nat.reduceLeDiff, Nat.le_refl, implies_true, Nat.reduceLT, reduceIte, decide_true, decide_false, true_and, and_true, reduceCtorEq, Nat.mul_one, Int.reduceToNat, Int.reduceLE, Int.reduceLT, Int.reduceAdd, Int.reduceSub, Int.reduceMul, Int.cast_ofNat_Int, cast_zero_int, cast_one_int, Nat.reducePow, Nat.reduceEqDiff, Nat.reduceMod, Nat.zero_add, Nat.sub_zero, Nat.add_zero, bool_mem s 10 g1]
    by_cases g2 : k < 60
    · have o1 : oneL k (bl s) = readL k line := by rw [oneL, if_pos ⟨g1, g2⟩, hl]
      have k60 : ¬ ((60 : Int) ≤ k) := by omega
      have m10 := bool_mem s 10 g1
      simp only [go_sem, Nat.reduceBEq, Nat.reduceAdd, Nat.reduceMul, Nat.reduceSub, Nat.reduceLeDiff, Nat.le_refl, implies_true, Nat.reduceLT, reduceIte, decide_true, decide_false, true_and, and_true, reduceCtorEq, Nat.mul_one, Int.reduceToNat, Int.reduceLE, Int.reduceLT, Int.reduceAdd, Int.reduceSub, Int.reduceMul, Int.cast_ofNat_Int, cast_zero_int, cast_one_int, Nat.reducePow, Nat.reduceEqDiff, Nat.reduceMod, Nat.zero_add, Nat.sub_zero, Nat.add_zero, k60, m10]
      refine ⟨by kernel_rfl, ((c_IsValidRecord (mkB c) (mkB r) (by rw [mkB_size]; omega) (by rw [mkB_size]; omega)).addG).use (fun _ m => m) ?_⟩
      rintro _ _ ⟨rfl, ⟨t, rfl⟩⟩
      rw [recOk_mk]
      cases g3 : okL c r
      · simp only [go_sem, Nat.reduceBEq, Nat.reduceAdd, Nat.reduceMul, Nat.reduceSub, Nat.reduceLeDiff, Nat.le_refl, implies_true, Nat.reduceLT, reduceIte, decide_true, decide_false, true_and, and_true, reduceCtorEq, Nat.mul_one, Int.reduceToNat, Int.reduceLE, Int.reduceLT, Int.reduceAdd, Int.reduceSub, Int.reduceMul, Int.cast_ofNat_Int, cast_zero_int, cast_one_int, Nat.reducePow, Nat.reduceEqDiff, Nat.reduceMod, Nat.zero_add, Nat.sub_zero, Nat.add_zero, k60, m10, g3]
        have : oneL k (bl s) = none := by rw [o1, rd, if_neg (by simp [g3])]
        rw [oneV, this]
        all_goals first | exact rfl | exact ⟨rfl, rfl⟩ | exact List.prefix_append _ _ | exact ⟨rfl, List.prefix_append _ _⟩ | assumption | exact ⟨rfl, by assumption⟩ | exact List.prefix_rfl | exact ⟨rfl, List.prefix_rfl⟩ | exact List.IsPrefix.trans (by assumption) (by assumption) | exact ⟨rfl, List.IsPrefix.trans (by assumption) (by assumption)⟩
      · simp only [go_sem, Nat.reduceBEq, Nat.reduceAdd, Nat.reduceMul, Nat.reduceSub, Nat.reduceLeDiff, Nat.le_refl, implies_true, Nat.reduceLT, reduceIte, decide_true, decide_false, true_and, and_true, reduceCtorEq, Nat.mul_one, Int.reduceToNat, Int.reduceLE, Int.reduceLT, Int.reduceAdd, Int.reduceSub, Int.reduceMul, Int.cast_ofNat_Int, cast_zero_int, cast_one_int, Nat.reducePow, Nat.reduceEqDiff, Nat.reduceMod, Nat.zero_add, Nat.sub_zero, Nat.add_zero, k60, m10, g3]
        refine ⟨by kernel_rfl, (c_encodeRecord (pw.mono (by simp)) k (mkB c) (mkB r) (by omega) (by rw [recOk_mk]; exact g3)).use (fun _ m => m) ?_⟩
        rintro _ _ ⟨rfl, ⟨t2, rfl⟩⟩
        rw [bl_mkB, bl_mkB]
        have a1 : hBin .add (.string (mkB line)) (.string ⟨#[10]⟩) = some (.string (mkB (line ++ [10]))) := by
          rw [← nlB]
          refine adds ?_
          have : (⟨#[10]⟩ : ByteArray).size = 1 := rfl
          rw [mkB_size]; omega
        by_cases g4 : lineL k c r = line
        · have e5 : (mkB (lineL k c r ++ [10])).toList == (mkB (line ++ [10])).toList := by rw [g4]; exact beq_self_eq_true _
          simp only [go_sem, Nat.reduceBEq, Nat.reduceAdd, Nat.reduceMul, Nat.reduceSub, Nat.reduceLeDiff, Nat.le_refl, implies_true, Nat.reduceLT, reduceIte, decide_true, decide_false, true_and, and_true, reduceCtorEq, Nat.mul_one, Int.reduceToNat, Int.reduceLE, Int.reduceLT, Int.reduceAdd, Int.reduceSub, Int.reduceMul, Int.cast_ofNat_Int, cast_zero_int, cast_one_int, Nat.reducePow, Nat.reduceEqDiff, Nat.reduceMod, Nat.zero_add, Nat.sub_zero, Nat.add_zero, k60, m10, g3, bl_mkB, a1, e5, mkB_size]
          have : oneL k (bl s) = some (c, r) := by rw [o1, rd, if_pos ⟨g3, g4⟩]
          rw [oneV, this, wrap64 (by omega)]
          show _ = Value.tuple #[.agg #[.string (mkB c), .string (mkB r)], .int .i64 (((lineL k c r).length + 1 : Nat) : Int), .bool true]
          rw [g4]; rfl
        · have e5 : ((mkB (lineL k c r ++ [10])).toList == (mkB (line ++ [10])).toList) = false := by
            rw [toList_eq]
            refine decide_eq_false fun hh => g4 ?_
            exact List.append_cancel_right (mkB_inj.1 hh)
          simp only [go_sem, Nat.reduceBEq, Nat.reduceAdd, Nat.reduceMul, Nat.reduceSub, Nat.reduceLeDiff, Nat.le_refl, implies_true, Nat.reduceLT, reduceIte, decide_true, decide_false, true_and, and_true, reduceCtorEq, Nat.mul_one, Int.reduceToNat, Int.reduceLE, Int.reduceLT, Int.reduceAdd, Int.reduceSub, Int.reduceMul, Int.cast_ofNat_Int, cast_zero_int, cast_one_int, Nat.reducePow, Nat.reduceEqDiff, Nat.reduceMod, Nat.zero_add, Nat.sub_zero, Nat.add_zero, k60, m10, g3, bl_mkB, a1, e5, mkB_size]
          have : oneL k (bl s) = none := by rw [o1, rd, if_neg (fun hh => g4 hh.2)]
          rw [oneV, this]
          all_goals first | exact rfl | exact ⟨rfl, rfl⟩ | exact List.prefix_append _ _ | exact ⟨rfl, List.prefix_append _ _⟩ | assumption | exact ⟨rfl, by assumption⟩ | exact List.prefix_rfl | exact ⟨rfl, List.prefix_rfl⟩ | exact List.IsPrefix.trans (by assumption) (by assumption) | exact ⟨rfl, List.IsPrefix.trans (by assumption) (by assumption)⟩
    · simp only [go_sem, Nat.reduceBEq, Nat.reduceAdd, Nat.reduceMul, Nat.reduceSub, Nat.reduceLeDiff, Nat.le_refl, implies_true, Nat.reduceLT, reduceIte, decide_true, decide_false, true_and, and_true, reduceCtorEq, Nat.mul_one, Int.reduceToNat, Int.reduceLE, Int.reduceLT, Int.reduceAdd, Int.reduceSub, Int.reduceMul, Int.cast_ofNat_Int, cast_zero_int, cast_one_int, Nat.reducePow, Nat.reduceEqDiff, Nat.reduceMod, Nat.zero_add, Nat.sub_zero, Nat.add_zero, show ((60 : Int) ≤ k) by omega]
      have : oneL k (bl s) = none := by rw [oneL, if_neg (fun hh => g2 hh.2)]
      rw [oneV, this]
      all_goals first | exact rfl | exact ⟨rfl, rfl⟩ | exact List.prefix_append _ _ | exact ⟨rfl, List.prefix_append _ _⟩ | assumption | exact ⟨rfl, by assumption⟩ | exact List.prefix_rfl | exact ⟨rfl, List.prefix_rfl⟩ | exact List.IsPrefix.trans (by assumption) (by assumption) | exact ⟨rfl, List.IsPrefix.trans (by assumption) (by assumption)⟩
  · simp only [go_sem, Nat.reduceBEq, Nat.reduceAdd, Nat.reduceMul, Nat.reduceSub, Nat.reduceLeDiff, Nat.le_refl, implies_true, Nat.reduceLT, reduceIte, decide_true, decide_false, true_and, and_true, reduceCtorEq, Nat.mul_one, Int.reduceToNat, Int.reduceLE, Int.reduceLT, Int.reduceAdd, Int.reduceSub, Int.reduceMul, Int.cast_ofNat_Int, cast_zero_int, cast_one_int, Nat.reducePow, Nat.reduceEqDiff, Nat.reduceMod, Nat.zero_add, Nat.sub_zero, Nat.add_zero, bool_nmem s 10 g1]
    have : oneL k (bl s) = none := by rw [oneL, if_neg (fun hh => g1 hh.1)]
    rw [oneV, this]
    all_goals first | exact rfl | exact ⟨rfl, rfl⟩ | exact List.prefix_append _ _ | exact ⟨rfl, List.prefix_append _ _⟩ | assumption | exact ⟨rfl, by assumption⟩ | exact List.prefix_rfl | exact ⟨rfl, List.prefix_rfl⟩ | exact List.IsPrefix.trans (by assumption) (by assumption) | exact ⟨rfl, List.IsPrefix.trans (by assumption) (by assumption)⟩

/-- The rows of records. -/
def recR (e : BL × BL) : List Value := [.string (mkB e.1), .string (mkB e.2)]
def recV (d : List (BL × BL)) : List Value := (d.map recR).flatten
theorem recV_len (d : List (BL × BL)) : (recV d).length = d.length * 2 := by
  rw [recV, flatten_len (sz := 2) (fun r hr => by obtain ⟨e, _, rfl⟩ := List.mem_map.1 hr; rfl), List.length_map]
theorem recV_snoc (d : List (BL × BL)) (e : BL × BL) : recV (d ++ [e]) = recV d ++ [.string (mkB e.1), .string (mkB e.2)] := by
  simp [recV, recR]
theorem iv_map (l : List Int) : l.map iv = l.map (fun x => Value.int .i64 x) := rfl

theorem oneL_some {k : Nat} {s : BL} {e : BL × BL} (h : oneL k s = some e) : (10 ∈ s ∧ k < 60) ∧ readL k (cutA s 10) = some e := by
  unfold oneL at h
  split at h
  · rename_i g; exact ⟨g, h⟩
  · cases h
theorem two_new {t X : Heap} {j j2 : Nat} {b b2 K Y K2 : Blk} (hj2 : j2 < t.length) :
    (((t ++ X).set j b ++ [K, Y]).set j2 b2 ++ [K2])[(t ++ X).length]? = some K ∧ (((t ++ X).set j b ++ [K, Y]).set j2 b2 ++ [K2])[(t ++ X).length + 2]? = some K2 := by
  have hl : t.length ≤ (t ++ X).length := by simp
  constructor
  · rw [List.getElem?_append_left (by simp), List.getElem?_set_ne (by omega), List.getElem?_append_right (by simp), List.length_set, Nat.sub_self]; rfl
  · rw [List.getElem?_append_right (by simp)]; simp
theorem c_readRecords (pw : PowAt G h) (s : ByteArray) (hs : s.size ≤ 10000000) : vCall G Tryd.prog M 41 [.string s] h
    (fun r h' => ∃ t j j2, r = .tuple #[.slice (some ⟨h.length + j, 0, none⟩) (openL 60 0 (bl s)).length 0, .slice (some ⟨h.length + j2, 0, none⟩) ((openL 60 0 (bl s)).length + 1) 0] ∧ h' = h ++ t ∧
      t[j]? = some ⟨recV (openL 60 0 (bl s)), 2, .rw⟩ ∧ t[j2]? = some ⟨(endsL (openL 60 0 (bl s))).map iv, 1, .rw⟩ ∧ j ≠ j2) := by
  have hbl := bl_len s
  refine body_of mo Tryd.func41 rfl (by kernel_rfl) (Nat.le_of_ble_eq_true (by kernel_rfl)) rfl ?_
  simp only [go_sem, Nat.reduceBEq, Nat.reduceAdd, Nat.reduceMul, Nat.reduceSub, Nat.reduceLeDiff, Nat.le_refl, implies_true, Nat.reduceLT, reduceIte, decide_true, decide_false, true_and, and_true, reduceCtorEq, Nat.mul_one, Int.reduceToNat, Int.reduceLE, Int.reduceLT, Int.reduceAdd, Int.reduceSub, Int.reduceMul, Int.cast_ofNat_Int, cast_zero_int, cast_one_int, Nat.reducePow, Nat.reduceEqDiff, Nat.reduceMod, Nat.zero_add, Nat.sub_zero, Nat.add_zero]
  refine vLoop.count mo 60 (fun i e h' => ∃ (d : List (BL × BL)) (t : Heap) (j j2 : Nat), d.length = i ∧ AtL (bl s) d ∧ e 0 = .string s ∧ e 4 = .slice (some ⟨h.length + j, 0, none⟩) d.length 0 ∧
      e 5 = .slice (some ⟨h.length + j2, 0, none⟩) (d.length + 1) 0 ∧ e 6 = .int .i64 (endL 0 d : Nat) ∧ h' = h ++ t ∧ t[j]? = some ⟨recV d, 2, .rw⟩ ∧ t[j2]? = some ⟨(endsL d).map iv, 1, .rw⟩ ∧ j ≠ j2) ?_ ?_
  · exact ⟨[], [⟨[], 2, .rw⟩, ⟨[.int .i64 0], 1, .rw⟩], 0, 1, rfl, AtL.start _, rfl, rfl, rfl, rfl, rfl, rfl, rfl, by omega⟩
  · rintro i e _ hi ⟨d, t, j, j2, rfl, at1, e0, e4, e5, e6, rfl, hj, hj2, hne⟩
    have hle := at1.2.2
    simp only [go_sem, Nat.reduceBEq, Nat.reduceAdd, Nat.reduceMul, Nat.reduceSub, Nat.reduceLeDiff, Nat.le_refl, implies_true, Nat.reduceLT, reduceIte, decide_true, decide_false, true_and, and_true, reduceCtorEq, Nat.mul_one, Int.reduceToNat, Int.reduceLE, Int.reduceLT, Int.reduceAdd, Int.reduceSub, Int.reduceMul, Int.cast_ofNat_Int, cast_zero_int, cast_one_int, Nat.reducePow, Nat.reduceEqDiff, Nat.reduceMod, Nat.zero_add, Nat.sub_zero, Nat.add_zero, e0, e4, e5, e6, show endL 0 d ≤ s.size by omega]
    refine ⟨by kernel_rfl, (c_readRecord (pw.mono (by simp)) (s.extract (endL 0 d) s.size) d.length (by omega) (by rw [ByteArray.size_extract]; omega)).use (fun _ m => m) ?_⟩
    rintro _ _ ⟨rfl, ⟨t2, rfl⟩⟩
    have ex : bl (s.extract (endL 0 d) s.size) = (bl s).drop (endL 0 d) := by rw [bl_extract, ← hbl, List.take_length]
    cases g : oneL d.length (bl (s.extract (endL 0 d) s.size)) with
    | none =>
      simp only [go_sem, Nat.reduceBEq, Nat.reduceAdd, Nat.reduceMul, Nat.reduceSub, Nat.reduceLeDiff, Nat.le_refl, implies_true, Nat.reduceLT, reduceIte, decide_true, decide_false, true_and, and_true, reduceCtorEq, Nat.mul_one, Int.reduceToNat, Int.reduceLE, Int.reduceLT, Int.reduceAdd, Int.reduceSub, Int.reduceMul, Int.cast_ofNat_Int, cast_zero_int, cast_one_int, Nat.reducePow, Nat.reduceEqDiff, Nat.reduceMod, Nat.zero_add, Nat.sub_zero, Nat.add_zero, e0, e4, e5, e6, oneV, g]
      rw [ex] at g
      have hd : openL 60 0 (bl s) = d := at1.stop (fun ⟨m1, m2, m3⟩ => by rw [oneL, if_pos ⟨m1, m2⟩] at g; rw [g] at m3; cases m3)
      rw [hd]
      exact ⟨_, j, j2, rfl, rfl, app_old hj _, app_old hj2 _, hne⟩
    | some x =>
      simp only [go_sem, Nat.reduceBEq, Nat.reduceAdd, Nat.reduceMul, Nat.reduceSub, Nat.reduceLeDiff, Nat.le_refl, implies_true, Nat.reduceLT, reduceIte, decide_true, decide_false, true_and, and_true, reduceCtorEq, Nat.mul_one, Int.reduceToNat, Int.reduceLE, Int.reduceLT, Int.reduceAdd, Int.reduceSub, Int.reduceMul, Int.cast_ofNat_Int, cast_zero_int, cast_one_int, Nat.reducePow, Nat.reduceEqDiff, Nat.reduceMod, Nat.zero_add, Nat.sub_zero, Nat.add_zero, e0, e4, e5, e6, oneV, g, app_old hj, recV_len, app_keep hj2 hne, List.length_map, endsL_len]
      rw [ex] at g
      obtain ⟨⟨m1, m2⟩, m3⟩ := oneL_some g
      obtain ⟨s1, s2⟩ := at1.step m2 m1 m3
      have el : endL 0 (d ++ [x]) ≤ (bl s).length := s1.2.2
      have w1 : IntKind.i64.wrap ((endL 0 d : Int) + ((lineL d.length x.1 x.2).length + 1 : Nat)) = (endL 0 (d ++ [x]) : Nat) := by rw [wrap64 (by omega)]; omega
      rw [w1]
      obtain ⟨X, hX⟩ : ∃ X, X = t2 ++ [⟨[Value.string (mkB x.1), Value.string (mkB x.2)], 2, .rw⟩, ⟨[Value.string (mkB x.1), Value.string (mkB x.2)], 2, St.rw⟩] := ⟨_, rfl⟩
      rw [← hX]
      have lX : X.length = t2.length + 2 := by rw [hX, List.length_append]; rfl
      have n1 := two_new (t := t) (X := X) (j := j) (j2 := j2) (b := ⟨recV d, 2, .dead⟩) (b2 := ⟨(endsL d).map iv, 1, .dead⟩)
        (K := ⟨recV d ++ [.string (mkB x.1), .string (mkB x.2)], 2, .rw⟩) (Y := ⟨[.int .i64 (endL 0 (d ++ [x]) : Nat)], 1, .rw⟩) (K2 := ⟨(endsL d).map iv ++ [.int .i64 (endL 0 (d ++ [x]) : Nat)], 1, .rw⟩) (List.getElem?_eq_some_iff.1 hj2).1
      refine ⟨by omega, by omega, by omega, by omega, m2, d ++ [x], _, (t ++ X).length, (t ++ X).length + 2, by simp, s1, ?_, ?_, rfl, rfl, ?_, ?_, by omega⟩
      · simp only [List.length_append, lX, List.length_singleton]
      · simp only [List.length_set, List.length_append, List.length_singleton]
      · rw [recV_snoc]; exact n1.1
      · rw [endsL_snoc, List.map_append]; exact n1.2
end
end Go.Proofs.YtedidddimikjhaaDoor
