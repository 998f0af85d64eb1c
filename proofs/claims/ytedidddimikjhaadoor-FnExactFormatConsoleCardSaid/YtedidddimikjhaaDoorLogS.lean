
/- The log's texts: what both programs write. No condition. -/
import Derived.Test.YtedidddimikjhaaDoorCutS
import Derived.Test.YtedidddimikjhaaDoorGlob
import Derived.Test.YtedidddimikjhaaDoorH3
namespace Go.Proofs.YtedidddimikjhaaDoor
open Go.HH Go.Proofs
set_option linter.unusedSimpArgs false
set_option linter.unusedVariables false

/-- A text with its checksum behind it. -/
def sealL (l : BL) : BL := l ++ 35 :: Lib.decDigits (sumL l)
theorem sealL_rec (k : Nat) (c r : BL) : sealL (recL k c r) = lineL k c r := rfl
theorem seal_len (l : BL) : (sealL l).length ≤ l.length + 7 := by
  have := dec_len (n := sumL l) (k := 6) (Nat.lt_trans (sumL_lt _) (by omega)) (by omega)
  simp only [sealL, List.length_append, List.length_cons]
  omega
theorem sum_step {l : BL} {i : Nat} (h : i < l.length) : sumL (l.take (i + 1)) = (41 * sumL (l.take i) + (l[i]).toNat + 1) % 999979 := by
  rw [List.take_add_one, List.getElem?_eq_getElem h]; exact sumL_snoc _ _
def recB (k : Nat) (c r : ByteArray) : ByteArray := num k ++ ⟨#[32]⟩ ++ c ++ ⟨#[64]⟩ ++ r
theorem bl_recB (k : Nat) (c r : ByteArray) : bl (recB k c r) = recL k (bl c) (bl r) := by
  have e1 : bl (⟨#[32]⟩ : ByteArray) = [32] := rfl
  have e2 : bl (⟨#[64]⟩ : ByteArray) = [64] := rfl
  simp only [recB, bl_app, bl_num, recL, e1, e2, List.append_assoc, List.singleton_append, List.cons_append, List.nil_append]
theorem sealB (s : ByteArray) : s ++ ⟨#[35]⟩ ++ num (sumL (bl s)) = mkB (sealL (bl s)) := by
  apply bl_ext
  have e1 : bl (⟨#[35]⟩ : ByteArray) = [35] := rfl
  simp only [bl_app, bl_num, bl_mkB, sealL, e1, List.append_assoc, List.singleton_append]
theorem nlB (l : BL) : mkB l ++ ⟨#[10]⟩ = mkB (l ++ [10]) := by
  apply bl_ext
  have e1 : bl (⟨#[10]⟩ : ByteArray) = [10] := rfl
  simp only [bl_app, bl_mkB, e1]
theorem recOk_L (c r : ByteArray) : recOk c r = okL (bl c) (bl r) := by
  have := recOk_mk (bl c) (bl r)
  rwa [mkB_bl, mkB_bl] at this
theorem adds {a b : ByteArray} (h : a.size + b.size ≤ 9223372036854775807) : hBin .add (.string a) (.string b) = some (.string (a ++ b)) := hBin_sadd h

section
variable {G : List (Nat × Nat)} {h : Heap} {M : Nat → Prop}

theorem c_checksum (s : ByteArray) (hmax : s.size ≤ 9223372036854775806) : vCall [] Tryd.prog M 82 [.string s] h (fun r h' => r = .int .i64 (sumL (bl s) : Nat) ∧ h = h') := by
  refine body_of mo Tryd.func82 rfl (by kernel_rfl) (Nat.le_of_ble_eq_true (by kernel_rfl)) rfl ?_
  simp only [go_sem, Nat.reduceBEq, Nat.reduceAdd, Nat.reduceMul, Nat.reduceSub, Nat.reduceLeDiff, Nat.le_refl, implies_true, Nat.reduceLT, reduceIte, decide_true, decide_false, true_and, and_true, reduceCtorEq, Nat.mul_one, Int.reduceToNat, Int.reduceLE, Int.reduceLT, Int.reduceAdd, Int.reduceSub, Int.reduceMul, Int.cast_ofNat_Int, cast_zero_int, cast_one_int, Nat.reducePow, Nat.reduceEqDiff, Nat.reduceMod, Nat.zero_add, Nat.sub_zero, Nat.add_zero]
  refine vLoop.count mo s.size (fun i e h' => e 0 = .string s ∧ e 4 = .int .i64 i ∧ e 3 = .int .i64 (sumL ((bl s).take i) : Nat) ∧ HeapIs h h') ?_ ?_
  · exact ⟨rfl, rfl, rfl, HeapIs.rfl⟩
  · rintro i e _ hi ⟨e0, e4, e3, hh⟩
    cases hh
    simp only [go_sem, Nat.reduceBEq, Nat.reduceAdd, Nat.reduceMul, Nat.reduceSub, Nat.reduceLeDiff, Nat.le_refl, implies_true, Nat.reduceLT, reduceIte, decide_true, decide_false, true_and, and_true, reduceCtorEq, Nat.mul_one, Int.reduceToNat, Int.reduceLE, Int.reduceLT, Int.reduceAdd, Int.reduceSub, Int.reduceMul, Int.cast_ofNat_Int, cast_zero_int, cast_one_int, Nat.reducePow, Nat.reduceEqDiff, Nat.reduceMod, Nat.zero_add, Nat.sub_zero, Nat.add_zero, e0, e4, e3]
    refine .intro (fun h1 => ?_) (fun h1 => ?_)
    · have hlt : i < s.size := by simpa using h1
      have hlt' : i < (bl s).length := by rw [bl_len]; exact hlt
      have hb := bl_get hlt
      have st := sum_step hlt'
      obtain ⟨b, hbe⟩ : ∃ b, b = (bl s)[i] := ⟨_, rfl⟩
      rw [← hbe] at hb st
      have hs := sumL_lt ((bl s).take i)
      have hb2 := u8_ofNat b
      obtain ⟨S, hS⟩ : ∃ S, S = sumL ((bl s).take i) := ⟨_, rfl⟩
      rw [← hS] at st hs e3
      have w1 : IntKind.i64.wrap (41 * (S : Int)) = 41 * (S : Int) := wrap64 (by omega)
      have w2 : IntKind.i64.wrap (b.toNat : Int) = b.toNat := wrap64 (by omega)
      have w3 : IntKind.i64.wrap (41 * (S : Int) + b.toNat) = 41 * (S : Int) + b.toNat := wrap64 (by omega)
      have w4 : IntKind.i64.wrap (41 * (S : Int) + b.toNat + 1) = ((41 * S + b.toNat + 1 : Nat) : Int) := by rw [wrap64 (by omega)]; omega
      have q2 : ((41 * S + b.toNat + 1 : Nat) : Int).tmod 999979 = (((41 * S + b.toNat + 1) % 999979 : Nat) : Int) := by rw [Int.tmod_eq_emod_of_nonneg (by omega)]; omega
      simp only [go_sem, Nat.reduceBEq, Nat.reduceAdd, Nat.reduceMul, Nat.reduceSub, Nat.reduceLeDiff, Nat.le_refl, implies_true, Nat.reduceLT, reduceIte, decide_true, decide_false, true_and, and_true, reduceCtorEq, Nat.mul_one, Int.reduceToNat, Int.reduceLE, Int.reduceLT, Int.reduceAdd, Int.reduceSub, Int.reduceMul, Int.cast_ofNat_Int, cast_zero_int, cast_one_int, Nat.reducePow, Nat.reduceEqDiff, Nat.reduceMod, Nat.zero_add, Nat.sub_zero, Nat.add_zero, e0, e4, e3, hb, w1, w2, w3, w4, hBin_rem (show (999979 : Int) ≠ 0 by omega), q2]
      exact ⟨hlt, by rw [wrap64 (by omega)]; rfl, by rw [st], HeapIs.rfl⟩
    · obtain rfl : i = s.size := by have : ¬ i < s.size := by simpa using h1
                                    omega
      simp only [go_sem, Nat.reduceBEq, Nat.reduceAdd, Nat.reduceMul, Nat.reduceSub, Nat.reduceLeDiff, Nat.le_refl, implies_true, Nat.reduceLT, reduceIte, decide_true, decide_false, true_and, and_true, reduceCtorEq, Nat.mul_one, Int.reduceToNat, Int.reduceLE, Int.reduceLT, Int.reduceAdd, Int.reduceSub, Int.reduceMul, Int.cast_ofNat_Int, cast_zero_int, cast_one_int, Nat.reducePow, Nat.reduceEqDiff, Nat.reduceMod, Nat.zero_add, Nat.sub_zero, Nat.add_zero, e0, e4, e3]
      rw [← bl_len, List.take_length]

theorem c_l1Sum (s : ByteArray) (hmax : s.size ≤ 9223372036854775806) : vCall [] Tryd.prog M 85 [.string s] h (fun r h' => r = .int .i64 (sumL (bl s) : Nat) ∧ h = h') := by
  refine body_of mo Tryd.func85 rfl (by kernel_rfl) (Nat.le_of_ble_eq_true (by kernel_rfl)) rfl ?_
  simp only [go_sem, Nat.reduceBEq, Nat.reduceAdd, Nat.reduceMul, Nat.reduceSub, Nat.reduceLeDiff, Nat.le_refl, implies_true, Nat.reduceLT, reduceIte, decide_true, decide_false, true_and, and_true, reduceCtorEq, Nat.mul_one, Int.reduceToNat, Int.reduceLE, Int.reduceLT, Int.reduceAdd, Int.reduceSub, Int.reduceMul, Int.cast_ofNat_Int, cast_zero_int, cast_one_int, Nat.reducePow, Nat.reduceEqDiff, Nat.reduceMod, Nat.zero_add, Nat.sub_zero, Nat.add_zero]
  refine vLoop.count mo s.size (fun i e h' => e 0 = .string s ∧ e 4 = .int .i64 i ∧ e 3 = .int .i64 (sumL ((bl s).take i) : Nat) ∧ HeapIs h h') ?_ ?_
  · exact ⟨rfl, rfl, rfl, HeapIs.rfl⟩
  · rintro i e _ hi ⟨e0, e4, e3, hh⟩
    cases hh
    simp only [go_sem, Nat.reduceBEq, Nat.reduceAdd, Nat.reduceMul, Nat.reduceSub, Nat.reduceLeDiff, Nat.le_refl, implies_true, Nat.reduceLT, reduceIte, decide_true, decide_false, true_and, and_true, reduceCtorEq, Nat.mul_one, Int.reduceToNat, Int.reduceLE, Int.reduceLT, Int.reduceAdd, Int.reduceSub, Int.reduceMul, Int.cast_ofNat_Int, cast_zero_int, cast_one_int, Nat.reducePow, Nat.reduceEqDiff, Nat.reduceMod, Nat.zero_add, Nat.sub_zero, Nat.add_zero, e0, e4, e3]
    refine .intro (fun h1 => ?_) (fun h1 => ?_)
    · have hlt : i < s.size := by simpa using h1
      have hlt' : i < (bl s).length := by rw [bl_len]; exact hlt
      have hb := bl_get hlt
      have st := sum_step hlt'
      obtain ⟨b, hbe⟩ : ∃ b, b = (bl s)[i] := ⟨_, rfl⟩
      rw [← hbe] at hb st
      have hs := sumL_lt ((bl s).take i)
      have hb2 := u8_ofNat b
      obtain ⟨S, hS⟩ : ∃ S, S = sumL ((bl s).take i) := ⟨_, rfl⟩
      rw [← hS] at st hs e3
      have w1 : IntKind.i64.wrap (41 * (S : Int)) = 41 * (S : Int) := wrap64 (by omega)
      have w2 : IntKind.i64.wrap (b.toNat : Int) = b.toNat := wrap64 (by omega)
      have w3 : IntKind.i64.wrap (41 * (S : Int) + b.toNat) = 41 * (S : Int) + b.toNat := wrap64 (by omega)
      have w4 : IntKind.i64.wrap (41 * (S : Int) + b.toNat + 1) = ((41 * S + b.toNat + 1 : Nat) : Int) := by rw [wrap64 (by omega)]; omega
      have q2 : ((41 * S + b.toNat + 1 : Nat) : Int).tmod 999979 = (((41 * S + b.toNat + 1) % 999979 : Nat) : Int) := by rw [Int.tmod_eq_emod_of_nonneg (by omega)]; omega
      simp only [go_sem, Nat.reduceBEq, Nat.reduceAdd, Nat.reduceMul, Nat.reduceSub, Nat.reduceLeDiff, Nat.le_refl, implies_true, Nat.reduceLT, reduceIte, decide_true, decide_false, true_and, and_true, reduceCtorEq, Nat.mul_one, Int.reduceToNat, Int.reduceLE, Int.reduceLT, Int.reduceAdd, Int.reduceSub, Int.reduceMul, Int.cast_ofNat_Int, cast_zero_int, cast_one_int, Nat.reducePow, Nat.reduceEqDiff, Nat.reduceMod, Nat.zero_add, Nat.sub_zero, Nat.add_zero, e0, e4, e3, hb, w1, w2, w3, w4, hBin_rem (show (999979 : Int) ≠ 0 by omega), q2]
      exact ⟨hlt, by rw [wrap64 (by omega)]; rfl, by rw [st], HeapIs.rfl⟩
    · obtain rfl : i = s.size := by have : ¬ i < s.size := by simpa using h1
                                    omega
      simp only [go_sem, Nat.reduceBEq, Nat.reduceAdd, Nat.reduceMul, Nat.reduceSub, Nat.reduceLeDiff, Nat.le_refl, implies_true, Nat.reduceLT, reduceIte, decide_true, decide_false, true_and, and_true, reduceCtorEq, Nat.mul_one, Int.reduceToNat, Int.reduceLE, Int.reduceLT, Int.reduceAdd, Int.reduceSub, Int.reduceMul, Int.cast_ofNat_Int, cast_zero_int, cast_one_int, Nat.reducePow, Nat.reduceEqDiff, Nat.reduceMod, Nat.zero_add, Nat.sub_zero, Nat.add_zero, e0, e4, e3]
      rw [← bl_len, List.take_length]

theorem c_AppendChecksum (pw : PowAt G h) (s : ByteArray) (h1 : s.size ≤ 3900) (h2 : 35 ∉ bl s) : vCall G Tryd.prog M 71 [.string s] h (fun r h' => r = .tuple #[.string (mkB (sealL (bl s))), .bool true] ∧ h = h') := by
  have hn := num_size 6 (sumL (bl s)) (Nat.lt_trans (sumL_lt _) (by omega)) (by omega)
  have hz : (mkB (sealL (bl s))).size ≤ 4000 := by have := seal_len (bl s); rw [mkB_size]; rw [bl_len] at this; omega
  have a1 : hBin .add (.string s) (.string ⟨#[35]⟩) = some (.string (s ++ ⟨#[35]⟩)) := adds (by have : (⟨#[35]⟩ : ByteArray).size = 1 := rfl; omega)
  have a2 : hBin .add (.string (s ++ ⟨#[35]⟩)) (.string (num (sumL (bl s)))) = some (.string (mkB (sealL (bl s)))) := by
    rw [← sealB]
    refine adds ?_
    have : (⟨#[35]⟩ : ByteArray).size = 1 := rfl
    rw [ByteArray.size_append]; omega
  refine body_of mo Tryd.func71 rfl (by kernel_rfl) (Nat.le_of_ble_eq_true (by kernel_rfl)) rfl ?_
  simp only [go_sem, Nat.reduceBEq, Nat.reduceAdd, Nat.reduceMul, Nat.reduceSub, Nat.reduceLeDiff, Nat.le_refl, implies_true, Nat.reduceLT, reduceIte, decide_true, decide_false, true_and, and_true, reduceCtorEq, Nat.mul_one, Int.reduceToNat, Int.reduceLE, Int.reduceLT, Int.reduceAdd, Int.reduceSub, Int.reduceMul, Int.cast_ofNat_Int, cast_zero_int, cast_one_int, Nat.reducePow, Nat.reduceEqDiff, Nat.reduceMod, Nat.zero_add, Nat.sub_zero, Nat.add_zero, show ¬ ((4000 : Int) < s.size) by omega]
  refine ⟨by kernel_rfl, ((c_Contains s 35).addG).use (fun _ m => m) ?_⟩
  rintro _ _ ⟨rfl, rfl⟩
  simp only [go_sem, Nat.reduceBEq, Nat.reduceAdd, Nat.reduceMul, Nat.reduceSub, Nat.reduceLeDiff, Nat.le_refl, implies_true, Nat.reduceLT, reduceIte, decide_true, decide_false, true_and, and_true, reduceCtorEq, Nat.mul_one, Int.reduceToNat, Int.reduceLE, Int.reduceLT, Int.reduceAdd, Int.reduceSub, Int.reduceMul, Int.cast_ofNat_Int, cast_zero_int, cast_one_int, Nat.reducePow, Nat.reduceEqDiff, Nat.reduceMod, Nat.zero_add, Nat.sub_zero, Nat.add_zero, show (bl s).contains 35 = false from by rw [Bool.eq_false_iff]; exact fun hh => h2 (List.contains_iff_mem.1 hh), a1]
  refine ⟨by kernel_rfl, ((c_checksum s (by omega)).addG).use (fun _ m => m) ?_⟩
  rintro _ _ ⟨rfl, rfl⟩
  try simp only [go_sem, Nat.reduceBEq, Nat.reduceAdd, Nat.reduceMul, Nat.reduceSub, Nat.reduceLeDiff, Nat.le_refl, implies_true, Nat.reduceLT, reduceIte, decide_true, decide_false, true_and, and_true, reduceCtorEq, Nat.mul_one, Int.reduceToNat, Int.reduceLE, Int.reduceLT, Int.reduceAdd, Int.reduceSub, Int.reduceMul, Int.cast_ofNat_Int, cast_zero_int, cast_one_int, Nat.reducePow, Nat.reduceEqDiff, Nat.reduceMod, Nat.zero_add, Nat.sub_zero, Nat.add_zero, a1]
  refine ⟨by kernel_rfl, (c_ItoaG pw (sumL (bl s)) (Nat.lt_trans (sumL_lt _) (by omega))).use (fun _ m => m) ?_⟩
  rintro _ _ ⟨rfl, rfl⟩
  simp only [go_sem, Nat.reduceBEq, Nat.reduceAdd, Nat.reduceMul, Nat.reduceSub, Nat.reduceLeDiff, Nat.le_refl, implies_true, Nat.reduceLT, reduceIte, decide_true, decide_false, true_and, and_true, reduceCtorEq, Nat.mul_one, Int.reduceToNat, Int.reduceLE, Int.reduceLT, Int.reduceAdd, Int.reduceSub, Int.reduceMul, Int.cast_ofNat_Int, cast_zero_int, cast_one_int, Nat.reducePow, Nat.reduceEqDiff, Nat.reduceMod, Nat.zero_add, Nat.sub_zero, Nat.add_zero, a2, show ¬ ((4000 : Int) < (mkB (sealL (bl s))).size) by omega]
  all_goals first | exact rfl | exact ⟨rfl, rfl⟩ | exact List.prefix_append _ _ | exact ⟨rfl, List.prefix_append _ _⟩ | assumption | exact ⟨rfl, by assumption⟩ | exact List.prefix_rfl | exact ⟨rfl, List.prefix_rfl⟩ | exact List.IsPrefix.trans (by assumption) (by assumption) | exact ⟨rfl, List.IsPrefix.trans (by assumption) (by assumption)⟩

theorem c_l1Seal (s : ByteArray) (h1 : s.size ≤ 1000000) : vCall [] Tryd.prog M 79 [.string s] h (fun r h' => r = .string (mkB (sealL (bl s))) ∧ h = h') := by
  have hn := num_size 6 (sumL (bl s)) (Nat.lt_trans (sumL_lt _) (by omega)) (by omega)
  have a1 : hBin .add (.string s) (.string ⟨#[35]⟩) = some (.string (s ++ ⟨#[35]⟩)) := adds (by have : (⟨#[35]⟩ : ByteArray).size = 1 := rfl; omega)
  have a2 : hBin .add (.string (s ++ ⟨#[35]⟩)) (.string (num (sumL (bl s)))) = some (.string (mkB (sealL (bl s)))) := by
    rw [← sealB]
    refine adds ?_
    have : (⟨#[35]⟩ : ByteArray).size = 1 := rfl
    rw [ByteArray.size_append]; omega
  refine body_of mo Tryd.func79 rfl (by kernel_rfl) (Nat.le_of_ble_eq_true (by kernel_rfl)) rfl ?_
  simp only [go_sem, Nat.reduceBEq, Nat.reduceAdd, Nat.reduceMul, Nat.reduceSub, Nat.reduceLeDiff, Nat.le_refl, implies_true, Nat.reduceLT, reduceIte, decide_true, decide_false, true_and, and_true, reduceCtorEq, Nat.mul_one, Int.reduceToNat, Int.reduceLE, Int.reduceLT, Int.reduceAdd, Int.reduceSub, Int.reduceMul, Int.cast_ofNat_Int, cast_zero_int, cast_one_int, Nat.reducePow, Nat.reduceEqDiff, Nat.reduceMod, Nat.zero_add, Nat.sub_zero, Nat.add_zero, a1]
  refine ⟨by kernel_rfl, (c_l1Sum s (by omega)).use (fun _ m => m) ?_⟩
  rintro _ _ ⟨rfl, rfl⟩
  try simp only [go_sem, Nat.reduceBEq, Nat.reduceAdd, Nat.reduceMul, Nat.reduceSub, Nat.reduceLeDiff, Nat.le_refl, implies_true, Nat.reduceLT, reduceIte, decide_true, decide_false, true_and, and_true, reduceCtorEq, Nat.mul_one, Int.reduceToNat, Int.reduceLE, Int.reduceLT, Int.reduceAdd, Int.reduceSub, Int.reduceMul, Int.cast_ofNat_Int, cast_zero_int, cast_one_int, Nat.reducePow, Nat.reduceEqDiff, Nat.reduceMod, Nat.zero_add, Nat.sub_zero, Nat.add_zero, a1]
  refine ⟨by kernel_rfl, (c_l1Num (sumL (bl s)) (Nat.lt_trans (sumL_lt _) (by omega))).use (fun _ m => m) ?_⟩
  rintro _ _ ⟨rfl, rfl⟩
  simp only [go_sem, Nat.reduceBEq, Nat.reduceAdd, Nat.reduceMul, Nat.reduceSub, Nat.reduceLeDiff, Nat.le_refl, implies_true, Nat.reduceLT, reduceIte, decide_true, decide_false, true_and, and_true, reduceCtorEq, Nat.mul_one, Int.reduceToNat, Int.reduceLE, Int.reduceLT, Int.reduceAdd, Int.reduceSub, Int.reduceMul, Int.cast_ofNat_Int, cast_zero_int, cast_one_int, Nat.reducePow, Nat.reduceEqDiff, Nat.reduceMod, Nat.zero_add, Nat.sub_zero, Nat.add_zero, a2]
  all_goals first | exact rfl | exact ⟨rfl, rfl⟩ | exact List.prefix_append _ _ | exact ⟨rfl, List.prefix_append _ _⟩ | assumption | exact ⟨rfl, by assumption⟩ | exact List.prefix_rfl | exact ⟨rfl, List.prefix_rfl⟩ | exact List.IsPrefix.trans (by assumption) (by assumption) | exact ⟨rfl, List.IsPrefix.trans (by assumption) (by assumption)⟩

theorem recOk_sizes {c r : ByteArray} (g : recOk c r = true) : c.size ≤ 160 ∧ r.size ≤ 200 := by
  rw [recOk_L, okL_iff] at g
  rw [bl_len, bl_len] at g
  omega
theorem line_nl (k : Nat) (c r : ByteArray) (hk : k < 100) (g : recOk c r = true) : hBin .add (.string (mkB (sealL (bl (recB k c r))))) (.string ⟨#[10]⟩) = some (.string (mkB (lineL k (bl c) (bl r) ++ [10]))) := by
  rw [bl_recB, sealL_rec, ← nlB]
  refine adds ?_
  rw [recOk_L] at g
  have := lineL_len g hk
  have : (⟨#[10]⟩ : ByteArray).size = 1 := rfl
  rw [mkB_size]; omega
theorem rec_chain (k : Nat) (c r : ByteArray) (hk : k < 100) (g : recOk c r = true) :
    hBin .add (.string (num k)) (.string ⟨#[32]⟩) = some (.string (num k ++ ⟨#[32]⟩)) ∧ hBin .add (.string (num k ++ ⟨#[32]⟩)) (.string c) = some (.string (num k ++ ⟨#[32]⟩ ++ c)) ∧
    hBin .add (.string (num k ++ ⟨#[32]⟩ ++ c)) (.string ⟨#[64]⟩) = some (.string (num k ++ ⟨#[32]⟩ ++ c ++ ⟨#[64]⟩)) ∧ hBin .add (.string (num k ++ ⟨#[32]⟩ ++ c ++ ⟨#[64]⟩)) (.string r) = some (.string (recB k c r)) ∧ (recB k c r).size ≤ 400 := by
  obtain ⟨g1, g2⟩ := recOk_sizes g
  have n1 := num_size 2 k (by omega) (by omega)
  have : (⟨#[32]⟩ : ByteArray).size = 1 := rfl
  have : (⟨#[64]⟩ : ByteArray).size = 1 := rfl
  refine ⟨adds ?_, adds ?_, adds ?_, adds ?_, ?_⟩ <;> simp only [recB, ByteArray.size_append, *] <;> omega

theorem c_encodeRecord (pw : PowAt G h) (k : Nat) (c r : ByteArray) (hk : k < 100) (g : recOk c r = true) : vCall G Tryd.prog M 61 [.int .i64 k, .agg #[.string c, .string r]] h (fun v h' => v = .string (mkB (lineL k (bl c) (bl r) ++ [10])) ∧ h <+: h') := by
  obtain ⟨a1, a2, a3, a4, a5⟩ := rec_chain k c r hk g
  have g' := g
  rw [recOk_L] at g'
  have no := recL_no35 (k := k) g'
  rw [← bl_recB] at no
  refine body_of mo Tryd.func61 rfl (by kernel_rfl) (Nat.le_of_ble_eq_true (by kernel_rfl)) rfl ?_
  simp only [go_sem, Nat.reduceBEq, Nat.reduceAdd, Nat.reduceMul, Nat.reduceSub, Nat.reduceLeDiff, Nat.le_refl, implies_true, Nat.reduceLT, reduceIte, decide_true, decide_false, true_and, and_true, reduceCtorEq, Nat.mul_one, Int.reduceToNat, Int.reduceLE, Int.reduceLT, Int.reduceAdd, Int.reduceSub, Int.reduceMul, Int.cast_ofNat_Int, cast_zero_int, cast_one_int, Nat.reducePow, Nat.reduceEqDiff, Nat.reduceMod, Nat.zero_add, Nat.sub_zero, Nat.add_zero]
  refine ⟨by kernel_rfl, ((c_Itoa k hk).addG).use (fun _ m => m) ?_⟩
  rintro _ _ ⟨rfl, rfl⟩
  try simp only [go_sem, Nat.reduceBEq, Nat.reduceAdd, Nat.reduceMul, Nat.reduceSub, Nat.reduceLeDiff, Nat.le_refl, implies_true, Nat.reduceLT, reduceIte, decide_true, decide_false, true_and, and_true, reduceCtorEq, Nat.mul_one, Int.reduceToNat, Int.reduceLE, Int.reduceLT, Int.reduceAdd, Int.reduceSub, Int.reduceMul, Int.cast_ofNat_Int, cast_zero_int, cast_one_int, Nat.reducePow, Nat.reduceEqDiff, Nat.reduceMod, Nat.zero_add, Nat.sub_zero, Nat.add_zero, a1, a2, a3, a4]
  refine ⟨by kernel_rfl, (c_AppendChecksum (pw.mono (by simp)) (recB k c r) (by omega) no).use (fun _ m => m) ?_⟩
  rintro _ _ ⟨rfl, rfl⟩
  simp only [go_sem, Nat.reduceBEq, Nat.reduceAdd, Nat.reduceMul, Nat.reduceSub, Nat.reduceLeDiff, Nat.le_refl, implies_true, Nat.reduceLT, reduceIte, decide_true, decide_false, true_and, and_true, reduceCtorEq, Nat.mul_one, Int.reduceToNat, Int.reduceLE, Int.reduceLT, Int.reduceAdd, Int.reduceSub, Int.reduceMul, Int.cast_ofNat_Int, cast_zero_int, cast_one_int, Nat.reducePow, Nat.reduceEqDiff, Nat.reduceMod, Nat.zero_add, Nat.sub_zero, Nat.add_zero, line_nl k c r hk g]
  all_goals first | exact rfl | exact ⟨rfl, rfl⟩ | exact List.prefix_append _ _ | exact ⟨rfl, List.prefix_append _ _⟩ | assumption | exact ⟨rfl, by assumption⟩ | exact List.prefix_rfl | exact ⟨rfl, List.prefix_rfl⟩ | exact List.IsPrefix.trans (by assumption) (by assumption) | exact ⟨rfl, List.IsPrefix.trans (by assumption) (by assumption)⟩

theorem c_l27Line (k : Nat) (c r : ByteArray) (hk : k < 100) (g : recOk c r = true) : vCall [] Tryd.prog M 67 [.int .i64 k, .agg #[.string c, .string r]] h (fun v h' => v = .string (mkB (lineL k (bl c) (bl r) ++ [10])) ∧ h <+: h') := by
  obtain ⟨a1, a2, a3, a4, a5⟩ := rec_chain k c r hk g
  refine body_of mo Tryd.func67 rfl (by kernel_rfl) (Nat.le_of_ble_eq_true (by kernel_rfl)) rfl ?_
  simp only [go_sem, Nat.reduceBEq, Nat.reduceAdd, Nat.reduceMul, Nat.reduceSub, Nat.reduceLeDiff, Nat.le_refl, implies_true, Nat.reduceLT, reduceIte, decide_true, decide_false, true_and, and_true, reduceCtorEq, Nat.mul_one, Int.reduceToNat, Int.reduceLE, Int.reduceLT, Int.reduceAdd, Int.reduceSub, Int.reduceMul, Int.cast_ofNat_Int, cast_zero_int, cast_one_int, Nat.reducePow, Nat.reduceEqDiff, Nat.reduceMod, Nat.zero_add, Nat.sub_zero, Nat.add_zero]
  refine ⟨by kernel_rfl, (c_l1Num k (by omega)).use (fun _ m => m) ?_⟩
  rintro _ _ ⟨rfl, rfl⟩
  try simp only [go_sem, Nat.reduceBEq, Nat.reduceAdd, Nat.reduceMul, Nat.reduceSub, Nat.reduceLeDiff, Nat.le_refl, implies_true, Nat.reduceLT, reduceIte, decide_true, decide_false, true_and, and_true, reduceCtorEq, Nat.mul_one, Int.reduceToNat, Int.reduceLE, Int.reduceLT, Int.reduceAdd, Int.reduceSub, Int.reduceMul, Int.cast_ofNat_Int, cast_zero_int, cast_one_int, Nat.reducePow, Nat.reduceEqDiff, Nat.reduceMod, Nat.zero_add, Nat.sub_zero, Nat.add_zero, a1, a2, a3, a4]
  refine ⟨by kernel_rfl, (c_l1Seal (recB k c r) (by omega)).use (fun _ m => m) ?_⟩
  rintro _ _ ⟨rfl, rfl⟩
  simp only [go_sem, Nat.reduceBEq, Nat.reduceAdd, Nat.reduceMul, Nat.reduceSub, Nat.reduceLeDiff, Nat.le_refl, implies_true, Nat.reduceLT, reduceIte, decide_true, decide_false, true_and, and_true, reduceCtorEq, Nat.mul_one, Int.reduceToNat, Int.reduceLE, Int.reduceLT, Int.reduceAdd, Int.reduceSub, Int.reduceMul, Int.cast_ofNat_Int, cast_zero_int, cast_one_int, Nat.reducePow, Nat.reduceEqDiff, Nat.reduceMod, Nat.zero_add, Nat.sub_zero, Nat.add_zero, line_nl k c r hk g]
  all_goals first | exact rfl | exact ⟨rfl, rfl⟩ | exact List.prefix_append _ _ | exact ⟨rfl, List.prefix_append _ _⟩ | assumption | exact ⟨rfl, by assumption⟩ | exact List.prefix_rfl | exact ⟨rfl, List.prefix_rfl⟩ | exact List.IsPrefix.trans (by assumption) (by assumption) | exact ⟨rfl, List.IsPrefix.trans (by assumption) (by assumption)⟩

/-- Where a reading of a text stands. -/
def spAt (l : BL) (b : UInt8) (i : Nat) : List BL × BL := (l.take i).foldl (spl b) ([], [])
theorem spAt_succ {l : BL} {b : UInt8} {i : Nat} (h : i < l.length) : spAt l b (i + 1) = spl b (spAt l b i) l[i] := by
  rw [spAt, List.take_add_one, List.getElem?_eq_getElem h, List.foldl_append]; rfl
theorem new_endL {u : Heap} {K b : Blk} {j n : Nat} (hn : n = u.length) : (u.set j b ++ [K])[n]? = some K := by
  subst hn
  rw [List.getElem?_append_right (by simp), List.length_set, Nat.sub_self]; rfl
def strsV (xs : List BL) : List Value := xs.map fun x => .string (mkB x)
theorem strsV_app (xs ys : List BL) : strsV (xs ++ ys) = strsV xs ++ strsV ys := by simp [strsV]
theorem strsV_len (xs : List BL) : (strsV xs).length = xs.length := by simp [strsV]

theorem c_l1Split (s : ByteArray) (b : UInt8) (hmax : s.size ≤ 10000000) : vCall [] Tryd.prog M 57 [.string s, .int .u8 b.toNat] h
    (fun r h' => ∃ t j, r = .slice (some ⟨h.length + j, 0, none⟩) (splitL (bl s) b).length 0 ∧ h' = h ++ t ∧ t[j]? = some ⟨strsV (splitL (bl s) b), 1, .rw⟩) := by
  refine body_of mo Tryd.func57 rfl (by kernel_rfl) (Nat.le_of_ble_eq_true (by kernel_rfl)) rfl ?_
  simp only [go_sem, Nat.reduceBEq, Nat.reduceAdd, Nat.reduceMul, Nat.reduceSub, Nat.reduceLeDiff, Nat.le_refl, implies_true, Nat.reduceLT, reduceIte, decide_true, decide_false, true_and, and_true, reduceCtorEq, Nat.mul_one, Int.reduceToNat, Int.reduceLE, Int.reduceLT, Int.reduceAdd, Int.reduceSub, Int.reduceMul, Int.cast_ofNat_Int, cast_zero_int, cast_one_int, Nat.reducePow, Nat.reduceEqDiff, Nat.reduceMod, Nat.zero_add, Nat.sub_zero, Nat.add_zero]
  refine vLoop.count mo s.size (fun i e h' => ∃ (t : Heap) (j q : Nat), e 0 = .string s ∧ e 1 = .int .u8 b.toNat ∧ e 7 = .int .i64 i ∧ e 6 = .int .i64 q ∧ e 5 = .slice (some ⟨h.length + j, 0, none⟩) (spAt (bl s) b i).1.length 0 ∧
      h' = h ++ t ∧ t[j]? = some ⟨strsV (spAt (bl s) b i).1, 1, .rw⟩ ∧ q ≤ i ∧ (spAt (bl s) b i).2 = ((bl s).take i).drop q ∧ (spAt (bl s) b i).1.length ≤ i) ?_ ?_
  · exact ⟨[⟨[], 1, .rw⟩], 0, 0, rfl, rfl, rfl, rfl, rfl, rfl, rfl, Nat.le_refl _, rfl, Nat.le_refl _⟩
  · rintro i e _ hi ⟨t, j, q, e0, e1, e7, e6, e5, rfl, hj, hq, hd, hl⟩
    simp only [go_sem, Nat.reduceBEq, Nat.reduceAdd, Nat.reduceMul, Nat.reduceSub, Nat.reduceLeDiff, Nat.le_refl, implies_true, Nat.reduceLT, reduceIte, decide_true, decide_false, true_and, and_true, reduceCtorEq, Nat.mul_one, Int.reduceToNat, Int.reduceLE, Int.reduceLT, Int.reduceAdd, Int.reduceSub, Int.reduceMul, Int.cast_ofNat_Int, cast_zero_int, cast_one_int, Nat.reducePow, Nat.reduceEqDiff, Nat.reduceMod, Nat.zero_add, Nat.sub_zero, Nat.add_zero, e0, e1, e5, e6, e7]
    refine .intro (fun h1 => ?_) (fun h1 => ?_)
    · have hlt : i < s.size := by simpa using h1
      have hlt' : i < (bl s).length := by rw [bl_len]; exact hlt
      have hb := bl_get hlt
      have st := spAt_succ (b := b) hlt'
      simp only [go_sem, Nat.reduceBEq, Nat.reduceAdd, Nat.reduceMul, Nat.reduceSub, Nat.reduceLeDiff, Nat.le_refl, implies_true, Nat.reduceLT, reduceIte, decide_true, decide_false, true_and, and_true, reduceCtorEq, Nat.mul_one, Int.reduceToNat, Int.reduceLE, Int.reduceLT, Int.reduceAdd, Int.reduceSub, Int.reduceMul, Int.cast_ofNat_Int, cast_zero_int, cast_one_int, Nat.reducePow, Nat.reduceEqDiff, Nat.reduceMod, Nat.zero_add, Nat.sub_zero, Nat.add_zero, e0, e1, e5, e6, e7, hb]
      by_cases g1 : (bl s)[i] = b
      · rw [spl, if_pos g1] at st
        have ex : s.extract q i = mkB (spAt (bl s) b i).2 := by apply bl_ext; rw [bl_extract, bl_mkB, hd]
        simp only [go_sem, Nat.reduceBEq, Nat.reduceAdd, Nat.reduceMul, Nat.reduceSub, Nat.reduceLeDiff, Nat.le_refl, implies_true, Nat.reduceLT, reduceIte, decide_true, decide_false, true_and, and_true, reduceCtorEq, Nat.mul_one, Int.reduceToNat, Int.reduceLE, Int.reduceLT, Int.reduceAdd, Int.reduceSub, Int.reduceMul, Int.cast_ofNat_Int, cast_zero_int, cast_one_int, Nat.reducePow, Nat.reduceEqDiff, Nat.reduceMod, Nat.zero_add, Nat.sub_zero, Nat.add_zero, e0, e1, e5, e6, e7, hb, g1, beq_self_eq_true, app_old hj, strsV_len, ex]
        refine ⟨by omega, by omega, by omega, by omega, hlt, _, t.length + 1, i + 1, by rw [wrap64 (by omega)]; rfl, by rw [wrap64 (by omega)]; rfl, by rw [st, List.length_append]; rfl, rfl, ?_, by omega, ?_, by rw [st, List.length_append, List.length_singleton]; omega⟩
        · rw [st, strsV_app]; exact new_endL (by simp)
        · rw [st, List.drop_eq_nil_of_le (List.length_take_le _ _)]
      · have g2 : ((((bl s)[i]).toNat : Int) == (b.toNat : Int)) = false := by
          rw [beq_eq_false_iff_ne]; intro hh; exact g1 (UInt8.toNat_inj.1 (Int.ofNat.inj hh))
        rw [spl, if_neg g1] at st
        simp only [go_sem, Nat.reduceBEq, Nat.reduceAdd, Nat.reduceMul, Nat.reduceSub, Nat.reduceLeDiff, Nat.le_refl, implies_true, Nat.reduceLT, reduceIte, decide_true, decide_false, true_and, and_true, reduceCtorEq, Nat.mul_one, Int.reduceToNat, Int.reduceLE, Int.reduceLT, Int.reduceAdd, Int.reduceSub, Int.reduceMul, Int.cast_ofNat_Int, cast_zero_int, cast_one_int, Nat.reducePow, Nat.reduceEqDiff, Nat.reduceMod, Nat.zero_add, Nat.sub_zero, Nat.add_zero, e0, e1, e5, e6, e7, hb, g2]
        exact ⟨hlt, t, j, q, by rw [wrap64 (by omega)]; rfl, rfl, by rw [st], rfl, by rw [st]; exact hj, by omega, by rw [st, List.take_add_one, List.getElem?_eq_getElem hlt', List.drop_append_of_le_length (by rw [List.length_take]; omega), hd]; rfl, by rw [st]; exact Nat.le_succ_of_le hl⟩
    · obtain rfl : i = s.size := by have : ¬ i < s.size := by simpa using h1
                                    omega
      have ex : s.extract q s.size = mkB (spAt (bl s) b s.size).2 := by apply bl_ext; rw [bl_extract, bl_mkB, hd]
      have sp : splitL (bl s) b = (spAt (bl s) b s.size).1 ++ [(spAt (bl s) b s.size).2] := by rw [splitL, spAt, ← bl_len, List.take_length]
      simp only [go_sem, Nat.reduceBEq, Nat.reduceAdd, Nat.reduceMul, Nat.reduceSub, Nat.reduceLeDiff, Nat.le_refl, implies_true, Nat.reduceLT, reduceIte, decide_true, decide_false, true_and, and_true, reduceCtorEq, Nat.mul_one, Int.reduceToNat, Int.reduceLE, Int.reduceLT, Int.reduceAdd, Int.reduceSub, Int.reduceMul, Int.cast_ofNat_Int, cast_zero_int, cast_one_int, Nat.reducePow, Nat.reduceEqDiff, Nat.reduceMod, Nat.zero_add, Nat.sub_zero, Nat.add_zero, e0, e1, e5, e6, e7, ex, app_old hj, strsV_len]
      refine ⟨by omega, by omega, by omega, _, t.length + 1, ?_, rfl, ?_⟩
      · rw [sp, List.length_append]; rfl
      · rw [sp, strsV_app]; exact new_endL (by simp)
end
end Go.Proofs.YtedidddimikjhaaDoor
