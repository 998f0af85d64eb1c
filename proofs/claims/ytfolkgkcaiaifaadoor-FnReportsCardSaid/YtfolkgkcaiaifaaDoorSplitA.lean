
/- strings.SplitAfter at a full stop and strings.TrimPrefix at a blank: the library's own text is walked. No condition. -/
import Derived.Test.YtfolkgkcaiaifaaDoorShelf
import Derived.Test.YtfolkgkcaiaifaaDoorLogS
import Derived.Test.YtfolkgkcaiaifaaDoorH3
namespace Go.Proofs.YtfolkgkcaiaifaaDoor
open Go.HH Go.Proofs
set_option linter.unusedSimpArgs false
set_option linter.unusedVariables false

/-- The pieces that end at each stop. -/
def saL : Nat → BL → List BL
  | 0, l => [l]
  | n + 1, l => (cutA l 46 ++ [46]) :: saL n (cutB l 46)
def saR : Nat → BL → BL
  | 0, l => l
  | n + 1, l => saR n (cutB l 46)
theorem saL_len : ∀ n l, (saL n l).length = n + 1
  | 0, _ => rfl
  | n + 1, l => by rw [saL, List.length_cons, saL_len n]
theorem saR_succ : ∀ n l, saR (n + 1) l = cutB (saR n l) 46
  | 0, _ => rfl
  | n + 1, l => by rw [saR, saR_succ n]; rfl
theorem cutB_count {l : BL} (h : 46 ∈ l) : l.count 46 = (cutB l 46).count 46 + 1 := by
  have e := (cut_mem h).1
  have n : (cutA l 46).count 46 = 0 := List.count_eq_zero.2 (cut_mem h).2
  conv => lhs; rw [e]
  rw [List.count_append, List.count_cons, n]; simp
theorem saR_count : ∀ n l, n ≤ l.count 46 → (saR n l).count 46 = l.count 46 - n
  | 0, l, _ => rfl
  | n + 1, l, h => by
    have hm : 46 ∈ l := List.count_pos_iff.1 (by omega)
    have := cutB_count hm
    rw [saR, saR_count n _ (by omega)]; omega
theorem idx_cut : ∀ {l : BL}, 46 ∈ l → Lib.indexByte l 46 = ((cutA l 46).length : Int)
  | [], h => by cases h
  | b :: l, h => by
    unfold Lib.indexByte
    by_cases hb : b = 46
    · subst hb; rfl
    · have hm : 46 ∈ l := by rcases List.mem_cons.1 h with h | h; exact absurd h.symm hb; exact h
      have ih := idx_cut hm
      have e : (b == 46) = false := by simpa using hb
      rw [e, ih, show cutA (b :: l) 46 = b :: cutA l 46 by rw [cutA, List.takeWhile_cons, if_pos (by simpa using hb)]; rfl]
      have : (((cutA l 46).length : Int) == -1) = false := by rw [beq_eq_false_iff_ne]; omega
      simp [this]
theorem saL_at : ∀ (n : Nat) (l : BL) (i : Nat), i < n → (saL n l)[i]? = some (cutA (saR i l) 46 ++ [46])
  | 0, _, i, h => by omega
  | n + 1, l, 0, _ => rfl
  | n + 1, l, i + 1, h => by rw [saL, List.getElem?_cons_succ, saL_at n _ i (by omega)]; rfl
theorem saL_last : ∀ (n : Nat) (l : BL), (saL n l)[n]? = some (saR n l)
  | 0, _ => rfl
  | n + 1, l => by rw [saL, List.getElem?_cons_succ, saL_last n]; rfl
theorem set_take {X : List Value} {i : Nat} {v : Value} (hi : i < X.length) : (setRange X i [v]).take (i + 1) = X.take i ++ [v] ∧ (setRange X i [v]).length = X.length := by
  have lt : (X.take i).length = i := by rw [List.length_take]; omega
  constructor
  · rw [setRange, List.take_append_of_le_length (by rw [List.length_append, lt]; exact Nat.le_refl _), List.take_of_length_le (by rw [List.length_append, lt]; exact Nat.le_refl _)]
  · simp only [setRange, List.length_append, List.length_drop, List.length_singleton, lt]; omega
theorem cut_extract {r : BL} (h : 46 ∈ r) : (mkB r).extract 0 ((cutA r 46).length + 1) = mkB (cutA r 46 ++ [46]) ∧ (mkB r).extract ((cutA r 46).length + 1) (mkB r).size = mkB (cutB r 46) ∧ (cutA r 46).length + 1 ≤ (mkB r).size := by
  have e := (cut_mem h).1
  obtain ⟨A, hA⟩ : ∃ A, A = cutA r 46 := ⟨_, rfl⟩
  obtain ⟨B, hB⟩ : ∃ B, B = cutB r 46 := ⟨_, rfl⟩
  rw [← hA, ← hB] at e
  rw [← hA, ← hB, e]
  have e2 : A ++ 46 :: B = (A ++ [46]) ++ B := by simp
  refine ⟨bl_ext ?_, bl_ext ?_, by rw [mkB_size]; simp⟩
  · rw [bl_extract, bl_mkB, bl_mkB, List.drop_zero, e2, List.take_left']; simp
  · rw [bl_extract, bl_mkB, bl_mkB, mkB_size, List.take_length, e2, List.drop_left']; simp
section
variable {h : Heap} {M : Nat → Prop}
theorem c_Index46 (s : ByteArray) (hm : 46 ∈ bl s) : vCall [] Tryd.prog M 64 [.string s, .string ⟨#[46]⟩] h (fun r h' => r = .int .i64 ((cutA (bl s) 46).length : Nat) ∧ h = h') := by
  have := vCall_plain (G := []) (M := M) (h := h) (args := [.string s, .string ⟨#[46]⟩]) (by rfl) rfl (Tryd.strings_Index_one s 46)
  rw [show s.data.toList = bl s from rfl, idx_cut hm] at this
  exact this
theorem c_Count46 (s : ByteArray) : vCall [] Tryd.prog M 72 [.string s, .string ⟨#[46]⟩] h (fun r h' => r = .int .i64 ((bl s).count 46 : Nat) ∧ h = h') :=
  vCall_plain (G := []) (M := M) (h := h) (args := [.string s, .string ⟨#[46]⟩]) (by rfl) rfl (Tryd.strings_Count_one s 46)
theorem c_HasSp (s : ByteArray) (hs : s.size ≤ 10000000) : vCall [] Tryd.prog M 73 [.string s, .string ⟨#[32]⟩] h (fun r h' => r = .bool (decide ((bl s).head? = some 32)) ∧ h = h') := by
  have e1 : (⟨#[32]⟩ : ByteArray).size = 1 := rfl
  refine body_of mo Tryd.func73 rfl (by kernel_rfl) (Nat.le_of_ble_eq_true (by kernel_rfl)) rfl ?_
  by_cases g : 1 ≤ s.size
  · have q : ((s.extract 0 1).toList == (⟨#[32]⟩ : ByteArray).toList) = decide ((bl s).head? = some 32) := by
      rw [toList_eq]
      refine decide_eq_decide.2 ?_
      have e : bl (s.extract 0 1) = (bl s).take 1 := by rw [bl_extract, List.drop_zero]
      cases hx : bl s with
      | nil => rw [← bl_len, hx] at g; simp at g
      | cons a r =>
        rw [hx] at e
        constructor
        · intro hh; rw [hh, show bl (⟨#[32]⟩ : ByteArray) = [32] from rfl] at e; simp at e; rw [List.head?_cons, ← e]
        · intro hh; refine bl_ext ?_; rw [e]; simp at hh; rw [hh]; rfl
    simp only [go_sem, Nat.reduceBEq, Nat.reduceAdd, Nat.reduceMul, Nat.reduceSub, Nat.reduceLeDiff, Nat.le_refl, implies_true, Nat.reduceLT, reduceIte, decide_true, decide_false, true_and, and_true, reduceCtorEq, Nat.mul_one, Int.reduceToNat, Int.reduceLE, Int.reduceLT, Int.reduceAdd, Int.reduceSub, Int.reduceMul, Int.cast_ofNat_Int, cast_zero_int, cast_one_int, Nat.reducePow, Nat.reduceEqDiff, Nat.reduceMod, Nat.zero_add, Nat.sub_zero, Nat.add_zero, e1, show (1 : Int) ≤ s.size by omega, show ((1 : Nat) : Int) ≤ s.size by omega, g, q]
    try all_goals first | exact rfl | exact ⟨rfl, rfl⟩ | exact List.prefix_append _ _ | exact ⟨rfl, List.prefix_append _ _⟩ | assumption | exact ⟨rfl, by assumption⟩ | exact List.prefix_rfl | exact ⟨rfl, List.prefix_rfl⟩ | exact List.IsPrefix.trans (by assumption) (by assumption) | exact ⟨rfl, List.IsPrefix.trans (by assumption) (by assumption)⟩
    skip
  · have q : decide ((bl s).head? = some 32) = false := decide_eq_false (by rw [List.eq_nil_of_length_eq_zero (l := bl s) (by rw [bl_len]; omega)]; simp)
    simp only [go_sem, Nat.reduceBEq, Nat.reduceAdd, Nat.reduceMul, Nat.reduceSub, Nat.reduceLeDiff, Nat.le_refl, implies_true, Nat.reduceLT, reduceIte, decide_true, decide_false, true_and, and_true, reduceCtorEq, Nat.mul_one, Int.reduceToNat, Int.reduceLE, Int.reduceLT, Int.reduceAdd, Int.reduceSub, Int.reduceMul, Int.cast_ofNat_Int, cast_zero_int, cast_one_int, Nat.reducePow, Nat.reduceEqDiff, Nat.reduceMod, Nat.zero_add, Nat.sub_zero, Nat.add_zero, e1, show ¬ (1 : Int) ≤ s.size by omega, q]
    try all_goals first | exact rfl | exact ⟨rfl, rfl⟩ | exact List.prefix_append _ _ | exact ⟨rfl, List.prefix_append _ _⟩ | assumption | exact ⟨rfl, by assumption⟩ | exact List.prefix_rfl | exact ⟨rfl, List.prefix_rfl⟩ | exact List.IsPrefix.trans (by assumption) (by assumption) | exact ⟨rfl, List.IsPrefix.trans (by assumption) (by assumption)⟩
    skip
theorem c_genSplit (s : ByteArray) (hs : s.size ≤ 10000000) : vCall [] Tryd.prog M 59 [.string s, .string ⟨#[46]⟩, .int .i64 1, .int .i64 (-1)] h
    (fun r h' => ∃ t j, r = .slice (some ⟨h.length + j, 0, none⟩) ((bl s).count 46 + 1) 0 ∧ h' = h ++ t ∧ t[j]? = some ⟨strsV (saL ((bl s).count 46) (bl s)), 1, .rw⟩) := by
  refine body_of mo Tryd.func59 rfl (by kernel_rfl) (Nat.le_of_ble_eq_true (by kernel_rfl)) rfl ?_
  have f1 : ((-1 : Int) == 0) = false := rfl
  have f2 : ((⟨#[46]⟩ : ByteArray).toList == (⟨#[]⟩ : ByteArray).toList) = false := by rw [toList_eq]; exact decide_eq_false (fun e => by have := congrArg ByteArray.size e; cases this)
  simp only [go_sem, Nat.reduceBEq, Nat.reduceAdd, Nat.reduceMul, Nat.reduceSub, Nat.reduceLeDiff, Nat.le_refl, implies_true, Nat.reduceLT, reduceIte, decide_true, decide_false, true_and, and_true, reduceCtorEq, Nat.mul_one, Int.reduceToNat, Int.reduceLE, Int.reduceLT, Int.reduceAdd, Int.reduceSub, Int.reduceMul, Int.cast_ofNat_Int, cast_zero_int, cast_one_int, Nat.reducePow, Nat.reduceEqDiff, Nat.reduceMod, Nat.zero_add, Nat.sub_zero, Nat.add_zero, f1, f2]
  refine ⟨by kernel_rfl, (c_Count46 s).use (fun _ m => m) ?_⟩
  rintro _ _ ⟨rfl, rfl⟩
  have hc : (bl s).count 46 ≤ s.size := by rw [← bl_len]; exact List.count_le_length
  obtain ⟨c, hcc⟩ : ∃ c, c = (bl s).count 46 := ⟨_, rfl⟩
  rw [← hcc] at hc
  rw [← hcc]
  have w1 : IntKind.i64.wrap ((c : Int) + 1) = ((c + 1 : Nat) : Int) := by rw [wrap64 (by omega)]; rfl
  have w2 : IntKind.i64.wrap ((s.size : Int) + 1) = ((s.size + 1 : Nat) : Int) := by rw [wrap64 (by omega)]; rfl
  have nm : ¬ (((s.size + 1 : Nat) : Int) < ((c + 1 : Nat) : Int)) := by omega
  have w3 : IntKind.i64.wrap (((c + 1 : Nat) : Int) - 1) = (c : Int) := by rw [wrap64 (by omega)]; omega
  have zl : (zeros (c + 1) [Value.string ⟨#[]⟩]).length = c + 1 := by rw [zeros_length]; simp
  simp only [go_sem, Nat.reduceBEq, Nat.reduceAdd, Nat.reduceMul, Nat.reduceSub, Nat.reduceLeDiff, Nat.le_refl, implies_true, Nat.reduceLT, reduceIte, decide_true, decide_false, true_and, and_true, reduceCtorEq, Nat.mul_one, Int.reduceToNat, Int.reduceLE, Int.reduceLT, Int.reduceAdd, Int.reduceSub, Int.reduceMul, Int.cast_ofNat_Int, cast_zero_int, cast_one_int, Nat.reducePow, Nat.reduceEqDiff, Nat.reduceMod, Nat.zero_add, Nat.sub_zero, Nat.add_zero, w1, w2, w3, nm, if_false, Int.toNat_natCast]
  refine ⟨by omega, by omega, ?_⟩
  refine vLoop.count mo c (fun i e h' => ∃ X : List Value, e 0 = .string (mkB (saR i (bl s))) ∧ e 1 = .string ⟨#[46]⟩ ∧ e 2 = .int .i64 1 ∧ e 3 = .int .i64 c ∧ e 9 = .slice (some ⟨h.length, 0, none⟩) (c + 1) 0 ∧ e 10 = .int .i64 i ∧
    h' = h ++ [⟨X, 1, .rw⟩] ∧ X.length = c + 1 ∧ X.take i = strsV ((saL c (bl s)).take i)) ?_ ?_
  · refine ⟨zeros (c + 1) [Value.string ⟨#[]⟩], ?_⟩
    simp only [go_sem, Nat.reduceBEq, Nat.reduceAdd, Nat.reduceMul, Nat.reduceSub, Nat.reduceLeDiff, Nat.le_refl, implies_true, Nat.reduceLT, reduceIte, decide_true, decide_false, true_and, and_true, reduceCtorEq, Nat.mul_one, Int.reduceToNat, Int.reduceLE, Int.reduceLT, Int.reduceAdd, Int.reduceSub, Int.reduceMul, Int.cast_ofNat_Int, cast_zero_int, cast_one_int, Nat.reducePow, Nat.reduceEqDiff, Nat.reduceMod, Nat.zero_add, Nat.sub_zero, Nat.add_zero, saR, mkB_bl]
    refine ⟨by rw [zeros_length]; simp, by simp [strsV]⟩
  · rintro i e _ hi ⟨X, e0, e1, e2, e3, e9, e10, rfl, hX, hT⟩
    by_cases hlt : i < c
    · have hz : (i : Int) < c := by omega
      have hm : 46 ∈ saR i (bl s) := List.count_pos_iff.1 (by rw [saR_count i _ (by omega), ← hcc]; omega)
      obtain ⟨x1, x2, x3⟩ := cut_extract hm
      simp only [go_sem, Nat.reduceBEq, Nat.reduceAdd, Nat.reduceMul, Nat.reduceSub, Nat.reduceLeDiff, Nat.le_refl, implies_true, Nat.reduceLT, reduceIte, decide_true, decide_false, true_and, and_true, reduceCtorEq, Nat.mul_one, Int.reduceToNat, Int.reduceLE, Int.reduceLT, Int.reduceAdd, Int.reduceSub, Int.reduceMul, Int.cast_ofNat_Int, cast_zero_int, cast_one_int, Nat.reducePow, Nat.reduceEqDiff, Nat.reduceMod, Nat.zero_add, Nat.sub_zero, Nat.add_zero, e0, e1, e2, e3, e9, e10, hz]
      refine ⟨by kernel_rfl, (c_Index46 (mkB (saR i (bl s))) hm).use (fun _ m => m) ?_⟩
      rintro _ _ ⟨rfl, rfl⟩
      rw [bl_mkB]
      obtain ⟨q, hq⟩ : ∃ q, q = (cutA (saR i (bl s)) 46).length := ⟨_, rfl⟩
      rw [← hq] at x1 x2 x3
      rw [← hq]
      have zr : (mkB (saR i (bl s))).size ≤ 10000000 := by
        have : ∀ n l, (saR n l).length ≤ l.length := by
          intro n
          induction n with
          | zero => intro l; exact Nat.le_refl _
          | succ n ih => intro l; rw [saR]; exact Nat.le_trans (ih _) (by unfold cutB; exact Nat.le_trans (List.drop_sublist _ _).length_le (List.dropWhile_sublist _).length_le)
        have h1 := this i (bl s)
        rw [bl_len] at h1
        rw [mkB_size]; omega
      have w4 : IntKind.i64.wrap ((q : Int) + 1) = ((q + 1 : Nat) : Int) := by rw [wrap64 (by omega)]; rfl
      simp only [go_sem, Nat.reduceBEq, Nat.reduceAdd, Nat.reduceMul, Nat.reduceSub, Nat.reduceLeDiff, Nat.le_refl, implies_true, Nat.reduceLT, reduceIte, decide_true, decide_false, true_and, and_true, reduceCtorEq, Nat.mul_one, Int.reduceToNat, Int.reduceLE, Int.reduceLT, Int.reduceAdd, Int.reduceSub, Int.reduceMul, Int.cast_ofNat_Int, cast_zero_int, cast_one_int, Nat.reducePow, Nat.reduceEqDiff, Nat.reduceMod, Nat.zero_add, Nat.sub_zero, Nat.add_zero, e0, e1, e2, e3, e9, e10, hz, show ¬ ((q : Nat) : Int) < 0 by omega, w4, show (0 : Int) ≤ ((q + 1 : Nat) : Int) by omega, Int.toNat_natCast, x1, x2, x3, hX, show (i : Int) < ((c + 1 : Nat) : Int) by omega, show i + 1 ≤ c + 1 by omega]
      obtain ⟨t1, t2⟩ := set_take (X := X) (v := .string (mkB (cutA (saR i (bl s)) 46 ++ [46]))) (show i < X.length by omega)
      exact ⟨hlt, _, by rw [saR_succ], by rw [wrap64 (by omega)]; rfl, rfl, t2.trans hX, by rw [t1, hT, List.take_add_one, saL_at c _ i hlt, strsV_app]; rfl⟩
    · obtain rfl : i = c := by omega
      have w5 : IntKind.i64.wrap ((i : Int) + 1) = ((i + 1 : Nat) : Int) := by rw [wrap64 (by omega)]; rfl
      simp only [go_sem, Nat.reduceBEq, Nat.reduceAdd, Nat.reduceMul, Nat.reduceSub, Nat.reduceLeDiff, Nat.le_refl, implies_true, Nat.reduceLT, reduceIte, decide_true, decide_false, true_and, and_true, reduceCtorEq, Nat.mul_one, Int.reduceToNat, Int.reduceLE, Int.reduceLT, Int.reduceAdd, Int.reduceSub, Int.reduceMul, Int.cast_ofNat_Int, cast_zero_int, cast_one_int, Nat.reducePow, Nat.reduceEqDiff, Nat.reduceMod, Nat.zero_add, Nat.sub_zero, Nat.add_zero, e0, e1, e2, e3, e9, e10, show ¬ (i : Int) < (i : Int) by omega, hX, show (i : Int) < ((i + 1 : Nat) : Int) by omega, w5, show (0 : Int) ≤ ((i + 1 : Nat) : Int) by omega, Int.toNat_natCast]
      obtain ⟨t1, t2⟩ := set_take (X := X) (v := .string (mkB (saR i (bl s)))) (show i < X.length by omega)
      have t3 : setRange X i [.string (mkB (saR i (bl s)))] = strsV (saL i (bl s)) := by
        rw [← List.take_of_length_le (l := setRange X i _) (i := i + 1) (by omega), t1, hT, ← List.take_of_length_le (l := saL i (bl s)) (i := i + 1) (by rw [saL_len]; exact Nat.le_refl _), List.take_take, Nat.min_eq_left (by omega), List.take_add_one, saL_last, strsV_app]; rfl
      exact ⟨_, 0, rfl, rfl, by rw [t3]; rfl⟩
theorem c_TrimSp (s : ByteArray) (hs : s.size ≤ 10000000) : vCall [] Tryd.prog M 35 [.string s, .string ⟨#[32]⟩] h (fun r h' => r = .string (mkB (if (bl s).head? = some 32 then (bl s).drop 1 else bl s)) ∧ h = h') := by
  have e1 : (⟨#[32]⟩ : ByteArray).size = 1 := rfl
  have inner : ∀ {M : Nat → Prop}, vCall [] Tryd.prog M 60 [.string s, .string ⟨#[32]⟩] h (fun r h' => r = .string (mkB (if (bl s).head? = some 32 then (bl s).drop 1 else bl s)) ∧ h = h') := by
    intro M
    refine body_of mo Tryd.func60 rfl (by kernel_rfl) (Nat.le_of_ble_eq_true (by kernel_rfl)) rfl ?_
    simp only [go_sem, Nat.reduceBEq, Nat.reduceAdd, Nat.reduceMul, Nat.reduceSub, Nat.reduceLeDiff, Nat.le_refl, implies_true, Nat.reduceLT, reduceIte, decide_true, decide_false, true_and, and_true, reduceCtorEq, Nat.mul_one, Int.reduceToNat, Int.reduceLE, Int.reduceLT, Int.reduceAdd, Int.reduceSub, Int.reduceMul, Int.cast_ofNat_Int, cast_zero_int, cast_one_int, Nat.reducePow, Nat.reduceEqDiff, Nat.reduceMod, Nat.zero_add, Nat.sub_zero, Nat.add_zero]
    refine ⟨by kernel_rfl, (c_HasSp s hs).use (fun _ m => m) ?_⟩
    rintro _ _ ⟨rfl, rfl⟩
    by_cases g : (bl s).head? = some 32
    · have g1 : 1 ≤ s.size := by
        rw [← bl_len]
        cases hx : bl s with
        | nil => rw [hx] at g; simp at g
        | cons a r => simp
      have ex : s.extract 1 s.size = mkB ((bl s).drop 1) := bl_ext (by rw [bl_extract, bl_mkB, ← bl_len, List.take_length])
      simp only [go_sem, Nat.reduceBEq, Nat.reduceAdd, Nat.reduceMul, Nat.reduceSub, Nat.reduceLeDiff, Nat.le_refl, implies_true, Nat.reduceLT, reduceIte, decide_true, decide_false, true_and, and_true, reduceCtorEq, Nat.mul_one, Int.reduceToNat, Int.reduceLE, Int.reduceLT, Int.reduceAdd, Int.reduceSub, Int.reduceMul, Int.cast_ofNat_Int, cast_zero_int, cast_one_int, Nat.reducePow, Nat.reduceEqDiff, Nat.reduceMod, Nat.zero_add, Nat.sub_zero, Nat.add_zero, decide_eq_true g, e1, g1, ex]
      rw [if_pos g]
    · simp only [go_sem, Nat.reduceBEq, Nat.reduceAdd, Nat.reduceMul, Nat.reduceSub, Nat.reduceLeDiff, Nat.le_refl, implies_true, Nat.reduceLT, reduceIte, decide_true, decide_false, true_and, and_true, reduceCtorEq, Nat.mul_one, Int.reduceToNat, Int.reduceLE, Int.reduceLT, Int.reduceAdd, Int.reduceSub, Int.reduceMul, Int.cast_ofNat_Int, cast_zero_int, cast_one_int, Nat.reducePow, Nat.reduceEqDiff, Nat.reduceMod, Nat.zero_add, Nat.sub_zero, Nat.add_zero, decide_eq_false g]
      rw [if_neg g, mkB_bl]
  refine body_of mo Tryd.func35 rfl (by kernel_rfl) (Nat.le_of_ble_eq_true (by kernel_rfl)) rfl ?_
  simp only [go_sem, Nat.reduceBEq, Nat.reduceAdd, Nat.reduceMul, Nat.reduceSub, Nat.reduceLeDiff, Nat.le_refl, implies_true, Nat.reduceLT, reduceIte, decide_true, decide_false, true_and, and_true, reduceCtorEq, Nat.mul_one, Int.reduceToNat, Int.reduceLE, Int.reduceLT, Int.reduceAdd, Int.reduceSub, Int.reduceMul, Int.cast_ofNat_Int, cast_zero_int, cast_one_int, Nat.reducePow, Nat.reduceEqDiff, Nat.reduceMod, Nat.zero_add, Nat.sub_zero, Nat.add_zero]
  refine ⟨by kernel_rfl, (inner).use (fun _ m => m) ?_⟩
  rintro _ _ ⟨rfl, rfl⟩
  simp only [go_sem, Nat.reduceBEq, Nat.reduceAdd, Nat.reduceMul, Nat.reduceSub, Nat.reduceLeDiff, Nat.le_refl, implies_true, Nat.reduceLT, reduceIte, decide_true, decide_false, true_and, and_true, reduceCtorEq, Nat.mul_one, Int.reduceToNat, Int.reduceLE, Int.reduceLT, Int.reduceAdd, Int.reduceSub, Int.reduceMul, Int.cast_ofNat_Int, cast_zero_int, cast_one_int, Nat.reducePow, Nat.reduceEqDiff, Nat.reduceMod, Nat.zero_add, Nat.sub_zero, Nat.add_zero]
theorem c_SplitAfter46 (s : ByteArray) (hs : s.size ≤ 10000000) : vCall [] Tryd.prog M 34 [.string s, .string ⟨#[46]⟩] h
    (fun r h' => ∃ t j, r = .slice (some ⟨h.length + j, 0, none⟩) ((bl s).count 46 + 1) 0 ∧ h' = h ++ t ∧ t[j]? = some ⟨strsV (saL ((bl s).count 46) (bl s)), 1, .rw⟩) := by
  refine body_of mo Tryd.func34 rfl (by kernel_rfl) (Nat.le_of_ble_eq_true (by kernel_rfl)) rfl ?_
  simp only [go_sem, Nat.reduceBEq, Nat.reduceAdd, Nat.reduceMul, Nat.reduceSub, Nat.reduceLeDiff, Nat.le_refl, implies_true, Nat.reduceLT, reduceIte, decide_true, decide_false, true_and, and_true, reduceCtorEq, Nat.mul_one, Int.reduceToNat, Int.reduceLE, Int.reduceLT, Int.reduceAdd, Int.reduceSub, Int.reduceMul, Int.cast_ofNat_Int, cast_zero_int, cast_one_int, Nat.reducePow, Nat.reduceEqDiff, Nat.reduceMod, Nat.zero_add, Nat.sub_zero, Nat.add_zero]
  refine ⟨by kernel_rfl, (c_genSplit s hs).use (fun _ m => m) ?_⟩
  rintro _ _ ⟨t, j, rfl, rfl, hj⟩
  try simp only [go_sem, Nat.reduceBEq, Nat.reduceAdd, Nat.reduceMul, Nat.reduceSub, Nat.reduceLeDiff, Nat.le_refl, implies_true, Nat.reduceLT, reduceIte, decide_true, decide_false, true_and, and_true, reduceCtorEq, Nat.mul_one, Int.reduceToNat, Int.reduceLE, Int.reduceLT, Int.reduceAdd, Int.reduceSub, Int.reduceMul, Int.cast_ofNat_Int, cast_zero_int, cast_one_int, Nat.reducePow, Nat.reduceEqDiff, Nat.reduceMod, Nat.zero_add, Nat.sub_zero, Nat.add_zero]
  exact ⟨t, j, rfl, rfl, hj⟩
end
end Go.Proofs.YtfolkgkcaiaifaaDoor
