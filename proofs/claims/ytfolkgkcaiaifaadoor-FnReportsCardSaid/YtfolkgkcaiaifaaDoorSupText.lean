
/- The sentence of a supply: what both programs say. No condition. -/
import Derived.Test.YtfolkgkcaiaifaaDoorSupply
import Derived.Test.YtfolkgkcaiaifaaDoorGlob
import Derived.Test.YtfolkgkcaiaifaaDoorH3
namespace Go.Proofs.YtfolkgkcaiaifaaDoor
open Go.HH
set_option linter.unusedSimpArgs false
set_option linter.unusedVariables false

def tNode : ByteArray := ⟨#[78, 111, 100, 101, 32]⟩
def tGot : ByteArray := ⟨#[32, 103, 111, 116, 32]⟩
def tAll : ByteArray := ⟨#[97, 108, 108, 32]⟩
def tNone : ByteArray := ⟨#[110, 111, 116, 104, 105, 110, 103, 32, 111, 102, 32]⟩
def tOf : ByteArray := ⟨#[32, 111, 102, 32]⟩
def tLit : ByteArray := ⟨#[32, 108, 105, 116, 101, 114, 115, 32, 112, 101, 114, 32, 109, 105, 110, 117, 116, 101, 46]⟩
def supMid (b c : Nat) : ByteArray := if b = c then tAll else if b = 0 then tNone else num b ++ tOf
def supS (a b c : Nat) : ByteArray := tNode ++ num a ++ tGot ++ supMid b c ++ num c ++ tLit
theorem t_add {a b : ByteArray} {n m : Nat} (h1 : a.size ≤ n) (h2 : b.size ≤ m) (h : n + m ≤ 9223372036854775807) : hBin .add (.string a) (.string b) = some (.string (a ++ b)) := hBin_sadd (by omega)
theorem t_size {a b : ByteArray} {n m : Nat} (h1 : a.size ≤ n) (h2 : b.size ≤ m) : (a ++ b).size ≤ n + m := by rw [ByteArray.size_append]; omega
theorem supMid_size {b c : Nat} (hb : b ≤ 1000) : (supMid b c).size ≤ 20 := by
  unfold supMid
  split
  · decide
  · split
    · decide
    · exact Nat.le_trans (t_size (m := 4) (num_less (by omega)) (by decide)) (by omega)
theorem supS_size {a b c : Nat} (ha : a ≤ 8) (hb : b ≤ 1000) (hc : c ≤ 1000) : (supS a b c).size ≤ 80 :=
  Nat.le_trans (t_size (m := 19) (t_size (t_size (t_size (m := 5) (t_size (n := 5) (by decide) (num_less (by omega))) (by decide)) (supMid_size hb)) (num_less (by omega))) (by decide)) (by omega)

section
variable {G : List (Nat × Nat)} {h : Heap} {M : Nat → Prop}

theorem c_supplyText (pw : PowAt G h) (a b c : Nat) (ha : a ≤ 8) (hb : b ≤ 1000) (hc : c ≤ 1000) : vCall G Tryd.prog M 39 [.agg #[.int .i64 a, .int .i64 b, .int .i64 c]] h (fun r h' => r = .string (supS a b c) ∧ h <+: h') := by
  have na : (num a).size ≤ 10 := num_less (by omega)
  have nb : (num b).size ≤ 10 := num_less (by omega)
  have nc : (num c).size ≤ 10 := num_less (by omega)
  have z1 : (tNode ++ num a).size ≤ 15 := t_size (n := 5) (by decide) na
  have z2 : (tNode ++ num a ++ tGot).size ≤ 20 := t_size (m := 5) z1 (by decide)
  have z3 : (tNode ++ num a ++ tGot ++ supMid b c).size ≤ 40 := t_size z2 (supMid_size hb)
  have z4 : (tNode ++ num a ++ tGot ++ supMid b c ++ num c).size ≤ 50 := t_size z3 nc
  have a1 : hBin .add (.string ⟨#[78, 111, 100, 101, 32]⟩) (.string (num a)) = some (.string (tNode ++ num a)) := t_add (n := 5) (by decide) na (by omega)
  have a2 : hBin .add (.string (tNode ++ num a)) (.string ⟨#[32, 103, 111, 116, 32]⟩) = some (.string (tNode ++ num a ++ tGot)) := t_add (m := 5) z1 (by decide) (by omega)
  have a4 : hBin .add (.string (tNode ++ num a ++ tGot ++ supMid b c)) (.string (num c)) = some (.string (tNode ++ num a ++ tGot ++ supMid b c ++ num c)) := t_add z3 nc (by omega)
  have a5 : hBin .add (.string (tNode ++ num a ++ tGot ++ supMid b c ++ num c)) (.string ⟨#[32, 108, 105, 116, 101, 114, 115, 32, 112, 101, 114, 32, 109, 105, 110, 117, 116, 101, 46]⟩) = some (.string (supS a b c)) := t_add (m := 19) z4 (by decide) (by omega)
  refine body_of mo Tryd.func39 rfl (by kernel_rfl) (Nat.le_of_ble_eq_true (by kernel_rfl)) rfl ?_
  simp only [go_sem, Nat.reduceBEq, Nat.reduceAdd, Nat.reduceMul, Nat.reduceSub, Nat.reduceLeDiff, Nat.le_refl, implies_true, Nat.reduceLT, reduceIte, decide_true, decide_false, true_and, and_true, reduceCtorEq, Nat.mul_one, Int.reduceToNat, Int.reduceLE, Int.reduceLT, Int.reduceAdd, Int.reduceSub, Int.reduceMul, Int.cast_ofNat_Int, cast_zero_int, cast_one_int, Nat.reducePow, Nat.reduceEqDiff, Nat.reduceMod, Nat.zero_add, Nat.sub_zero, Nat.add_zero]
  refine ⟨by kernel_rfl, (c_ItoaG (pw.app _) a (by omega)).use (fun _ m => m) ?_⟩
  rintro _ _ ⟨rfl, rfl⟩
  simp only [go_sem, Nat.reduceBEq, Nat.reduceAdd, Nat.reduceMul, Nat.reduceSub, Nat.reduceLeDiff, Nat.le_refl, implies_true, Nat.reduceLT, reduceIte, decide_true, decide_false, true_and, and_true, reduceCtorEq, Nat.mul_one, Int.reduceToNat, Int.reduceLE, Int.reduceLT, Int.reduceAdd, Int.reduceSub, Int.reduceMul, Int.cast_ofNat_Int, cast_zero_int, cast_one_int, Nat.reducePow, Nat.reduceEqDiff, Nat.reduceMod, Nat.zero_add, Nat.sub_zero, Nat.add_zero, a1, a2]
  by_cases h1 : b = c
  · have e : supMid b c = tAll := by rw [supMid, if_pos h1]
    have a3 : hBin .add (.string (tNode ++ num a ++ tGot)) (.string ⟨#[97, 108, 108, 32]⟩) = some (.string (tNode ++ num a ++ tGot ++ supMid b c)) := by rw [e]; exact t_add (m := 4) z2 (by decide) (by omega)
    simp only [go_sem, Nat.reduceBEq, Nat.reduceAdd, Nat.reduceMul, Nat.reduceSub, Nat.reduceLeDiff, Nat.le_refl, implies_true, Nat.reduceLT, reduceIte, decide_true, decide_false, true_and, and_true, reduceCtorEq, Nat.mul_one, Int.reduceToNat, Int.reduceLE, Int.reduceLT, Int.reduceAdd, Int.reduceSub, Int.reduceMul, Int.cast_ofNat_Int, cast_zero_int, cast_one_int, Nat.reducePow, Nat.reduceEqDiff, Nat.reduceMod, Nat.zero_add, Nat.sub_zero, Nat.add_zero, show ((b : Int) == c) = true by simp [h1], a3]
    refine ⟨by kernel_rfl, (c_ItoaG (pw.app _) c (by omega)).use (fun _ m => m) ?_⟩
    rintro _ _ ⟨rfl, rfl⟩
    simp only [go_sem, Nat.reduceBEq, Nat.reduceAdd, Nat.reduceMul, Nat.reduceSub, Nat.reduceLeDiff, Nat.le_refl, implies_true, Nat.reduceLT, reduceIte, decide_true, decide_false, true_and, and_true, reduceCtorEq, Nat.mul_one, Int.reduceToNat, Int.reduceLE, Int.reduceLT, Int.reduceAdd, Int.reduceSub, Int.reduceMul, Int.cast_ofNat_Int, cast_zero_int, cast_one_int, Nat.reducePow, Nat.reduceEqDiff, Nat.reduceMod, Nat.zero_add, Nat.sub_zero, Nat.add_zero, a4, a5]
    all_goals first | exact rfl | exact ⟨rfl, rfl⟩ | exact List.prefix_append _ _ | exact ⟨rfl, List.prefix_append _ _⟩ | assumption | exact ⟨rfl, by assumption⟩ | exact List.prefix_rfl | exact ⟨rfl, List.prefix_rfl⟩ | exact List.IsPrefix.trans (by assumption) (by assumption) | exact ⟨rfl, List.IsPrefix.trans (by assumption) (by assumption)⟩
  · simp only [go_sem, Nat.reduceBEq, Nat.reduceAdd, Nat.reduceMul, Nat.reduceSub, Nat.reduceLeDiff, Nat.le_refl, implies_true, Nat.reduceLT, reduceIte, decide_true, decide_false, true_and, and_true, reduceCtorEq, Nat.mul_one, Int.reduceToNat, Int.reduceLE, Int.reduceLT, Int.reduceAdd, Int.reduceSub, Int.reduceMul, Int.cast_ofNat_Int, cast_zero_int, cast_one_int, Nat.reducePow, Nat.reduceEqDiff, Nat.reduceMod, Nat.zero_add, Nat.sub_zero, Nat.add_zero, show ((b : Int) == c) = false by simp; omega]
    by_cases h2 : b = 0
    · have e : supMid b c = tNone := by rw [supMid, if_neg h1, if_pos h2]
      have a3 : hBin .add (.string (tNode ++ num a ++ tGot)) (.string ⟨#[110, 111, 116, 104, 105, 110, 103, 32, 111, 102, 32]⟩) = some (.string (tNode ++ num a ++ tGot ++ supMid b c)) := by rw [e]; exact t_add (m := 11) z2 (by decide) (by omega)
      simp only [go_sem, Nat.reduceBEq, Nat.reduceAdd, Nat.reduceMul, Nat.reduceSub, Nat.reduceLeDiff, Nat.le_refl, implies_true, Nat.reduceLT, reduceIte, decide_true, decide_false, true_and, and_true, reduceCtorEq, Nat.mul_one, Int.reduceToNat, Int.reduceLE, Int.reduceLT, Int.reduceAdd, Int.reduceSub, Int.reduceMul, Int.cast_ofNat_Int, cast_zero_int, cast_one_int, Nat.reducePow, Nat.reduceEqDiff, Nat.reduceMod, Nat.zero_add, Nat.sub_zero, Nat.add_zero, show ((b : Int) == 0) = true by simp [h2], a3]
      refine ⟨by kernel_rfl, (c_ItoaG (pw.app _) c (by omega)).use (fun _ m => m) ?_⟩
      rintro _ _ ⟨rfl, rfl⟩
      simp only [go_sem, Nat.reduceBEq, Nat.reduceAdd, Nat.reduceMul, Nat.reduceSub, Nat.reduceLeDiff, Nat.le_refl, implies_true, Nat.reduceLT, reduceIte, decide_true, decide_false, true_and, and_true, reduceCtorEq, Nat.mul_one, Int.reduceToNat, Int.reduceLE, Int.reduceLT, Int.reduceAdd, Int.reduceSub, Int.reduceMul, Int.cast_ofNat_Int, cast_zero_int, cast_one_int, Nat.reducePow, Nat.reduceEqDiff, Nat.reduceMod, Nat.zero_add, Nat.sub_zero, Nat.add_zero, a4, a5]
      all_goals first | exact rfl | exact ⟨rfl, rfl⟩ | exact List.prefix_append _ _ | exact ⟨rfl, List.prefix_append _ _⟩ | assumption | exact ⟨rfl, by assumption⟩ | exact List.prefix_rfl | exact ⟨rfl, List.prefix_rfl⟩ | exact List.IsPrefix.trans (by assumption) (by assumption) | exact ⟨rfl, List.IsPrefix.trans (by assumption) (by assumption)⟩
    · have e : supMid b c = num b ++ tOf := by rw [supMid, if_neg h1, if_neg h2]
      have b3 : hBin .add (.string (num b)) (.string ⟨#[32, 111, 102, 32]⟩) = some (.string (num b ++ tOf)) := t_add (m := 4) nb (by decide) (by omega)
      have a3 : hBin .add (.string (tNode ++ num a ++ tGot)) (.string (num b ++ tOf)) = some (.string (tNode ++ num a ++ tGot ++ supMid b c)) := by rw [e]; exact t_add z2 (t_size (m := 4) nb (by decide)) (by omega)
      simp only [go_sem, Nat.reduceBEq, Nat.reduceAdd, Nat.reduceMul, Nat.reduceSub, Nat.reduceLeDiff, Nat.le_refl, implies_true, Nat.reduceLT, reduceIte, decide_true, decide_false, true_and, and_true, reduceCtorEq, Nat.mul_one, Int.reduceToNat, Int.reduceLE, Int.reduceLT, Int.reduceAdd, Int.reduceSub, Int.reduceMul, Int.cast_ofNat_Int, cast_zero_int, cast_one_int, Nat.reducePow, Nat.reduceEqDiff, Nat.reduceMod, Nat.zero_add, Nat.sub_zero, Nat.add_zero, show ((b : Int) == 0) = false by simp; omega]
      refine ⟨by kernel_rfl, (c_ItoaG (pw.app _) b (by omega)).use (fun _ m => m) ?_⟩
      rintro _ _ ⟨rfl, rfl⟩
      simp only [go_sem, Nat.reduceBEq, Nat.reduceAdd, Nat.reduceMul, Nat.reduceSub, Nat.reduceLeDiff, Nat.le_refl, implies_true, Nat.reduceLT, reduceIte, decide_true, decide_false, true_and, and_true, reduceCtorEq, Nat.mul_one, Int.reduceToNat, Int.reduceLE, Int.reduceLT, Int.reduceAdd, Int.reduceSub, Int.reduceMul, Int.cast_ofNat_Int, cast_zero_int, cast_one_int, Nat.reducePow, Nat.reduceEqDiff, Nat.reduceMod, Nat.zero_add, Nat.sub_zero, Nat.add_zero, b3, a3]
      refine ⟨by kernel_rfl, (c_ItoaG (pw.app _) c (by omega)).use (fun _ m => m) ?_⟩
      rintro _ _ ⟨rfl, rfl⟩
      simp only [go_sem, Nat.reduceBEq, Nat.reduceAdd, Nat.reduceMul, Nat.reduceSub, Nat.reduceLeDiff, Nat.le_refl, implies_true, Nat.reduceLT, reduceIte, decide_true, decide_false, true_and, and_true, reduceCtorEq, Nat.mul_one, Int.reduceToNat, Int.reduceLE, Int.reduceLT, Int.reduceAdd, Int.reduceSub, Int.reduceMul, Int.cast_ofNat_Int, cast_zero_int, cast_one_int, Nat.reducePow, Nat.reduceEqDiff, Nat.reduceMod, Nat.zero_add, Nat.sub_zero, Nat.add_zero, a4, a5]
      all_goals first | exact rfl | exact ⟨rfl, rfl⟩ | exact List.prefix_append _ _ | exact ⟨rfl, List.prefix_append _ _⟩ | assumption | exact ⟨rfl, by assumption⟩ | exact List.prefix_rfl | exact ⟨rfl, List.prefix_rfl⟩ | exact List.IsPrefix.trans (by assumption) (by assumption) | exact ⟨rfl, List.IsPrefix.trans (by assumption) (by assumption)⟩

theorem c_l25Text (a b c : Nat) (ha : a ≤ 8) (hb : b ≤ 1000) (hc : c ≤ 1000) : vCall [] Tryd.prog M 41 [.agg #[.int .i64 a, .int .i64 b, .int .i64 c]] h (fun r h' => r = .string (supS a b c) ∧ h <+: h') := by
  have na : (num a).size ≤ 10 := num_less (by omega)
  have nb : (num b).size ≤ 10 := num_less (by omega)
  have nc : (num c).size ≤ 10 := num_less (by omega)
  have z1 : (tNode ++ num a).size ≤ 15 := t_size (n := 5) (by decide) na
  have z2 : (tNode ++ num a ++ tGot).size ≤ 20 := t_size (m := 5) z1 (by decide)
  have z3 : (tNode ++ num a ++ tGot ++ supMid b c).size ≤ 40 := t_size z2 (supMid_size hb)
  have z4 : (tNode ++ num a ++ tGot ++ supMid b c ++ num c).size ≤ 50 := t_size z3 nc
  have a1 : hBin .add (.string ⟨#[78, 111, 100, 101, 32]⟩) (.string (num a)) = some (.string (tNode ++ num a)) := t_add (n := 5) (by decide) na (by omega)
  have a2 : hBin .add (.string (tNode ++ num a)) (.string ⟨#[32, 103, 111, 116, 32]⟩) = some (.string (tNode ++ num a ++ tGot)) := t_add (m := 5) z1 (by decide) (by omega)
  have a4 : hBin .add (.string (tNode ++ num a ++ tGot ++ supMid b c)) (.string (num c)) = some (.string (tNode ++ num a ++ tGot ++ supMid b c ++ num c)) := t_add z3 nc (by omega)
  have a5 : hBin .add (.string (tNode ++ num a ++ tGot ++ supMid b c ++ num c)) (.string ⟨#[32, 108, 105, 116, 101, 114, 115, 32, 112, 101, 114, 32, 109, 105, 110, 117, 116, 101, 46]⟩) = some (.string (supS a b c)) := t_add (m := 19) z4 (by decide) (by omega)
  refine body_of mo Tryd.func41 rfl (by kernel_rfl) (Nat.le_of_ble_eq_true (by kernel_rfl)) rfl ?_
  simp only [go_sem, Nat.reduceBEq, Nat.reduceAdd, Nat.reduceMul, Nat.reduceSub, Nat.reduceLeDiff, Nat.le_refl, implies_true, Nat.reduceLT, reduceIte, decide_true, decide_false, true_and, and_true, reduceCtorEq, Nat.mul_one, Int.reduceToNat, Int.reduceLE, Int.reduceLT, Int.reduceAdd, Int.reduceSub, Int.reduceMul, Int.cast_ofNat_Int, cast_zero_int, cast_one_int, Nat.reducePow, Nat.reduceEqDiff, Nat.reduceMod, Nat.zero_add, Nat.sub_zero, Nat.add_zero]
  refine ⟨by kernel_rfl, (c_l1Num a (by omega)).use (fun _ m => m) ?_⟩
  rintro _ _ ⟨rfl, rfl⟩
  simp only [go_sem, Nat.reduceBEq, Nat.reduceAdd, Nat.reduceMul, Nat.reduceSub, Nat.reduceLeDiff, Nat.le_refl, implies_true, Nat.reduceLT, reduceIte, decide_true, decide_false, true_and, and_true, reduceCtorEq, Nat.mul_one, Int.reduceToNat, Int.reduceLE, Int.reduceLT, Int.reduceAdd, Int.reduceSub, Int.reduceMul, Int.cast_ofNat_Int, cast_zero_int, cast_one_int, Nat.reducePow, Nat.reduceEqDiff, Nat.reduceMod, Nat.zero_add, Nat.sub_zero, Nat.add_zero, a1, a2]
  by_cases h1 : b = c
  · have e : supMid b c = tAll := by rw [supMid, if_pos h1]
    have a3 : hBin .add (.string (tNode ++ num a ++ tGot)) (.string ⟨#[97, 108, 108, 32]⟩) = some (.string (tNode ++ num a ++ tGot ++ supMid b c)) := by rw [e]; exact t_add (m := 4) z2 (by decide) (by omega)
    simp only [go_sem, Nat.reduceBEq, Nat.reduceAdd, Nat.reduceMul, Nat.reduceSub, Nat.reduceLeDiff, Nat.le_refl, implies_true, Nat.reduceLT, reduceIte, decide_true, decide_false, true_and, and_true, reduceCtorEq, Nat.mul_one, Int.reduceToNat, Int.reduceLE, Int.reduceLT, Int.reduceAdd, Int.reduceSub, Int.reduceMul, Int.cast_ofNat_Int, cast_zero_int, cast_one_int, Nat.reducePow, Nat.reduceEqDiff, Nat.reduceMod, Nat.zero_add, Nat.sub_zero, Nat.add_zero, show ((b : Int) == c) = true by simp [h1], a3]
    refine ⟨by kernel_rfl, (c_l1Num c (by omega)).use (fun _ m => m) ?_⟩
    rintro _ _ ⟨rfl, rfl⟩
    simp only [go_sem, Nat.reduceBEq, Nat.reduceAdd, Nat.reduceMul, Nat.reduceSub, Nat.reduceLeDiff, Nat.le_refl, implies_true, Nat.reduceLT, reduceIte, decide_true, decide_false, true_and, and_true, reduceCtorEq, Nat.mul_one, Int.reduceToNat, Int.reduceLE, Int.reduceLT, Int.reduceAdd, Int.reduceSub, Int.reduceMul, Int.cast_ofNat_Int, cast_zero_int, cast_one_int, Nat.reducePow, Nat.reduceEqDiff, Nat.reduceMod, Nat.zero_add, Nat.sub_zero, Nat.add_zero, a4, a5]
    all_goals first | exact rfl | exact ⟨rfl, rfl⟩ | exact List.prefix_append _ _ | exact ⟨rfl, List.prefix_append _ _⟩ | assumption | exact ⟨rfl, by assumption⟩ | exact List.prefix_rfl | exact ⟨rfl, List.prefix_rfl⟩ | exact List.IsPrefix.trans (by assumption) (by assumption) | exact ⟨rfl, List.IsPrefix.trans (by assumption) (by assumption)⟩
  · simp only [go_sem, Nat.reduceBEq, Nat.reduceAdd, Nat.reduceMul, Nat.reduceSub, Nat.reduceLeDiff, Nat.le_refl, implies_true, Nat.reduceLT, reduceIte, decide_true, decide_false, true_and, and_true, reduceCtorEq, Nat.mul_one, Int.reduceToNat, Int.reduceLE, Int.reduceLT, Int.reduceAdd, Int.reduceSub, Int.reduceMul, Int.cast_ofNat_Int, cast_zero_int, cast_one_int, Nat.reducePow, Nat.reduceEqDiff, Nat.reduceMod, Nat.zero_add, Nat.sub_zero, Nat.add_zero, show ((b : Int) == c) = false by simp; omega]
    by_cases h2 : b = 0
    · have e : supMid b c = tNone := by rw [supMid, if_neg h1, if_pos h2]
      have a3 : hBin .add (.string (tNode ++ num a ++ tGot)) (.string ⟨#[110, 111, 116, 104, 105, 110, 103, 32, 111, 102, 32]⟩) = some (.string (tNode ++ num a ++ tGot ++ supMid b c)) := by rw [e]; exact t_add (m := 11) z2 (by decide) (by omega)
      simp only [go_sem, Nat.reduceBEq, Nat.reduceAdd, Nat.reduceMul, Nat.reduceSub, Nat.reduceLeDiff, Nat.le_refl, implies_true, Nat.reduceLT, reduceIte, decide_true, decide_false, true_and, and_true, reduceCtorEq, Nat.mul_one, Int.reduceToNat, Int.reduceLE, Int.reduceLT, Int.reduceAdd, Int.reduceSub, Int.reduceMul, Int.cast_ofNat_Int, cast_zero_int, cast_one_int, Nat.reducePow, Nat.reduceEqDiff, Nat.reduceMod, Nat.zero_add, Nat.sub_zero, Nat.add_zero, show ((b : Int) == 0) = true by simp [h2], a3]
      refine ⟨by kernel_rfl, (c_l1Num c (by omega)).use (fun _ m => m) ?_⟩
      rintro _ _ ⟨rfl, rfl⟩
      simp only [go_sem, Nat.reduceBEq, Nat.reduceAdd, Nat.reduceMul, Nat.reduceSub, Nat.reduceLeDiff, Nat.le_refl, implies_true, Nat.reduceLT, reduceIte, decide_true, decide_false, true_and, and_true, reduceCtorEq, Nat.mul_one, Int.reduceToNat, Int.reduceLE, Int.reduceLT, Int.reduceAdd, Int.reduceSub, Int.reduceMul, Int.cast_ofNat_Int, cast_zero_int, cast_one_int, Nat.reducePow, Nat.reduceEqDiff, Nat.reduceMod, Nat.zero_add, Nat.sub_zero, Nat.add_zero, a4, a5]
      all_goals first | exact rfl | exact ⟨rfl, rfl⟩ | exact List.prefix_append _ _ | exact ⟨rfl, List.prefix_append _ _⟩ | assumption | exact ⟨rfl, by assumption⟩ | exact List.prefix_rfl | exact ⟨rfl, List.prefix_rfl⟩ | exact List.IsPrefix.trans (by assumption) (by assumption) | exact ⟨rfl, List.IsPrefix.trans (by assumption) (by assumption)⟩
    · have e : supMid b c = num b ++ tOf := by rw [supMid, if_neg h1, if_neg h2]
      have b3 : hBin .add (.string (tNode ++ num a ++ tGot)) (.string (num b)) = some (.string (tNode ++ num a ++ tGot ++ num b)) := t_add z2 nb (by omega)
      have a3 : hBin .add (.string (tNode ++ num a ++ tGot ++ num b)) (.string ⟨#[32, 111, 102, 32]⟩) = some (.string (tNode ++ num a ++ tGot ++ supMid b c)) := by
        rw [e, ← ByteArray.append_assoc]; exact t_add (m := 4) (t_size z2 nb) (by decide) (by omega)
      simp only [go_sem, Nat.reduceBEq, Nat.reduceAdd, Nat.reduceMul, Nat.reduceSub, Nat.reduceLeDiff, Nat.le_refl, implies_true, Nat.reduceLT, reduceIte, decide_true, decide_false, true_and, and_true, reduceCtorEq, Nat.mul_one, Int.reduceToNat, Int.reduceLE, Int.reduceLT, Int.reduceAdd, Int.reduceSub, Int.reduceMul, Int.cast_ofNat_Int, cast_zero_int, cast_one_int, Nat.reducePow, Nat.reduceEqDiff, Nat.reduceMod, Nat.zero_add, Nat.sub_zero, Nat.add_zero, show ((b : Int) == 0) = false by simp; omega]
      refine ⟨by kernel_rfl, (c_l1Num b (by omega)).use (fun _ m => m) ?_⟩
      rintro _ _ ⟨rfl, rfl⟩
      simp only [go_sem, Nat.reduceBEq, Nat.reduceAdd, Nat.reduceMul, Nat.reduceSub, Nat.reduceLeDiff, Nat.le_refl, implies_true, Nat.reduceLT, reduceIte, decide_true, decide_false, true_and, and_true, reduceCtorEq, Nat.mul_one, Int.reduceToNat, Int.reduceLE, Int.reduceLT, Int.reduceAdd, Int.reduceSub, Int.reduceMul, Int.cast_ofNat_Int, cast_zero_int, cast_one_int, Nat.reducePow, Nat.reduceEqDiff, Nat.reduceMod, Nat.zero_add, Nat.sub_zero, Nat.add_zero, b3, a3]
      refine ⟨by kernel_rfl, (c_l1Num c (by omega)).use (fun _ m => m) ?_⟩
      rintro _ _ ⟨rfl, rfl⟩
      simp only [go_sem, Nat.reduceBEq, Nat.reduceAdd, Nat.reduceMul, Nat.reduceSub, Nat.reduceLeDiff, Nat.le_refl, implies_true, Nat.reduceLT, reduceIte, decide_true, decide_false, true_and, and_true, reduceCtorEq, Nat.mul_one, Int.reduceToNat, Int.reduceLE, Int.reduceLT, Int.reduceAdd, Int.reduceSub, Int.reduceMul, Int.cast_ofNat_Int, cast_zero_int, cast_one_int, Nat.reducePow, Nat.reduceEqDiff, Nat.reduceMod, Nat.zero_add, Nat.sub_zero, Nat.add_zero, a4, a5]
      all_goals first | exact rfl | exact ⟨rfl, rfl⟩ | exact List.prefix_append _ _ | exact ⟨rfl, List.prefix_append _ _⟩ | assumption | exact ⟨rfl, by assumption⟩ | exact List.prefix_rfl | exact ⟨rfl, List.prefix_rfl⟩ | exact List.IsPrefix.trans (by assumption) (by assumption) | exact ⟨rfl, List.IsPrefix.trans (by assumption) (by assumption)⟩

def supTV (a b c : Int) : Value := if supplyOk a b c then .tuple #[.string (supS a.toNat b.toNat c.toNat), .bool true] else .tuple #[.string ⟨#[]⟩, .bool false]
theorem c_supplyTextI (pw : PowAt G h) (a b c : Int) (g : supplyOk a b c) : vCall G Tryd.prog M 39 [.agg #[.int .i64 a, .int .i64 b, .int .i64 c]] h (fun r h' => r = .string (supS a.toNat b.toNat c.toNat) ∧ h <+: h') := by
  unfold supplyOk at g
  obtain ⟨a, rfl⟩ := Int.eq_ofNat_of_zero_le (show 0 ≤ a by omega)
  obtain ⟨b, rfl⟩ := Int.eq_ofNat_of_zero_le (show 0 ≤ b by omega)
  obtain ⟨c, rfl⟩ := Int.eq_ofNat_of_zero_le (show 0 ≤ c by omega)
  exact c_supplyText pw a b c (by omega) (by omega) (by omega)
theorem c_l25TextI (a b c : Int) (g : supplyOk a b c) : vCall [] Tryd.prog M 41 [.agg #[.int .i64 a, .int .i64 b, .int .i64 c]] h (fun r h' => r = .string (supS a.toNat b.toNat c.toNat) ∧ h <+: h') := by
  unfold supplyOk at g
  obtain ⟨a, rfl⟩ := Int.eq_ofNat_of_zero_le (show 0 ≤ a by omega)
  obtain ⟨b, rfl⟩ := Int.eq_ofNat_of_zero_le (show 0 ≤ b by omega)
  obtain ⟨c, rfl⟩ := Int.eq_ofNat_of_zero_le (show 0 ≤ c by omega)
  exact c_l25Text a b c (by omega) (by omega) (by omega)

theorem c_SupplyText (pw : PowAt G h) (a b c : Int) : vCall G Tryd.prog M 12 [.agg #[.int .i64 a, .int .i64 b, .int .i64 c]] h (fun r h' => r = supTV a b c ∧ h <+: h') := by
  refine body_of mo Tryd.func12 rfl (by kernel_rfl) (Nat.le_of_ble_eq_true (by kernel_rfl)) rfl ?_
  simp only [go_sem, Nat.reduceBEq, Nat.reduceAdd, Nat.reduceMul, Nat.reduceSub, Nat.reduceLeDiff, Nat.le_refl, implies_true, Nat.reduceLT, reduceIte, decide_true, decide_false, true_and, and_true, reduceCtorEq, Nat.mul_one, Int.reduceToNat, Int.reduceLE, Int.reduceLT, Int.reduceAdd, Int.reduceSub, Int.reduceMul, Int.cast_ofNat_Int, cast_zero_int, cast_one_int, Nat.reducePow, Nat.reduceEqDiff, Nat.reduceMod, Nat.zero_add, Nat.sub_zero, Nat.add_zero]
  refine ⟨by kernel_rfl, ((c_IsValidSupply a b c).addG).use (fun _ m => m) ?_⟩
  rintro _ _ ⟨rfl, ⟨t, rfl⟩⟩
  by_cases g : supplyOk a b c
  · simp only [go_sem, Nat.reduceBEq, Nat.reduceAdd, Nat.reduceMul, Nat.reduceSub, Nat.reduceLeDiff, Nat.le_refl, implies_true, Nat.reduceLT, reduceIte, decide_true, decide_false, true_and, and_true, reduceCtorEq, Nat.mul_one, Int.reduceToNat, Int.reduceLE, Int.reduceLT, Int.reduceAdd, Int.reduceSub, Int.reduceMul, Int.cast_ofNat_Int, cast_zero_int, cast_one_int, Nat.reducePow, Nat.reduceEqDiff, Nat.reduceMod, Nat.zero_add, Nat.sub_zero, Nat.add_zero, decb g]
    refine ⟨by kernel_rfl, (c_supplyTextI (pw.mono (by simp)) a b c g).use (fun _ m => m) ?_⟩
    rintro _ _ ⟨rfl, ⟨t2, rfl⟩⟩
    simp only [go_sem, Nat.reduceBEq, Nat.reduceAdd, Nat.reduceMul, Nat.reduceSub, Nat.reduceLeDiff, Nat.le_refl, implies_true, Nat.reduceLT, reduceIte, decide_true, decide_false, true_and, and_true, reduceCtorEq, Nat.mul_one, Int.reduceToNat, Int.reduceLE, Int.reduceLT, Int.reduceAdd, Int.reduceSub, Int.reduceMul, Int.cast_ofNat_Int, cast_zero_int, cast_one_int, Nat.reducePow, Nat.reduceEqDiff, Nat.reduceMod, Nat.zero_add, Nat.sub_zero, Nat.add_zero, supTV, g]
    all_goals first | exact rfl | exact ⟨rfl, rfl⟩ | exact List.prefix_append _ _ | exact ⟨rfl, List.prefix_append _ _⟩ | assumption | exact ⟨rfl, by assumption⟩ | exact List.prefix_rfl | exact ⟨rfl, List.prefix_rfl⟩ | exact List.IsPrefix.trans (by assumption) (by assumption) | exact ⟨rfl, List.IsPrefix.trans (by assumption) (by assumption)⟩
  · simp only [go_sem, Nat.reduceBEq, Nat.reduceAdd, Nat.reduceMul, Nat.reduceSub, Nat.reduceLeDiff, Nat.le_refl, implies_true, Nat.reduceLT, reduceIte, decide_true, decide_false, true_and, and_true, reduceCtorEq, Nat.mul_one, Int.reduceToNat, Int.reduceLE, Int.reduceLT, Int.reduceAdd, Int.reduceSub, Int.reduceMul, Int.cast_ofNat_Int, cast_zero_int, cast_one_int, Nat.reducePow, Nat.reduceEqDiff, Nat.reduceMod, Nat.zero_add, Nat.sub_zero, Nat.add_zero, dect g]
    rw [supTV, if_neg g]
    all_goals first | exact rfl | exact ⟨rfl, rfl⟩ | exact List.prefix_append _ _ | exact ⟨rfl, List.prefix_append _ _⟩ | assumption | exact ⟨rfl, by assumption⟩ | exact List.prefix_rfl | exact ⟨rfl, List.prefix_rfl⟩ | exact List.IsPrefix.trans (by assumption) (by assumption) | exact ⟨rfl, List.IsPrefix.trans (by assumption) (by assumption)⟩

theorem c_sSupplyText (a b c : Int) : vCall [] Tryd.prog M 13 [.agg #[.int .i64 a, .int .i64 b, .int .i64 c]] h (fun r h' => r = supTV a b c ∧ h <+: h') := by
  refine body_of mo Tryd.func13 rfl (by kernel_rfl) (Nat.le_of_ble_eq_true (by kernel_rfl)) rfl ?_
  simp only [go_sem, Nat.reduceBEq, Nat.reduceAdd, Nat.reduceMul, Nat.reduceSub, Nat.reduceLeDiff, Nat.le_refl, implies_true, Nat.reduceLT, reduceIte, decide_true, decide_false, true_and, and_true, reduceCtorEq, Nat.mul_one, Int.reduceToNat, Int.reduceLE, Int.reduceLT, Int.reduceAdd, Int.reduceSub, Int.reduceMul, Int.cast_ofNat_Int, cast_zero_int, cast_one_int, Nat.reducePow, Nat.reduceEqDiff, Nat.reduceMod, Nat.zero_add, Nat.sub_zero, Nat.add_zero]
  refine ⟨by kernel_rfl, (c_l25One a b c).use (fun _ m => m) ?_⟩
  rintro _ _ ⟨rfl, ⟨t, rfl⟩⟩
  by_cases g : supplyOk a b c
  · simp only [go_sem, Nat.reduceBEq, Nat.reduceAdd, Nat.reduceMul, Nat.reduceSub, Nat.reduceLeDiff, Nat.le_refl, implies_true, Nat.reduceLT, reduceIte, decide_true, decide_false, true_and, and_true, reduceCtorEq, Nat.mul_one, Int.reduceToNat, Int.reduceLE, Int.reduceLT, Int.reduceAdd, Int.reduceSub, Int.reduceMul, Int.cast_ofNat_Int, cast_zero_int, cast_one_int, Nat.reducePow, Nat.reduceEqDiff, Nat.reduceMod, Nat.zero_add, Nat.sub_zero, Nat.add_zero, decb g]
    refine ⟨by kernel_rfl, (c_l25TextI a b c g).use (fun _ m => m) ?_⟩
    rintro _ _ ⟨rfl, ⟨t2, rfl⟩⟩
    simp only [go_sem, Nat.reduceBEq, Nat.reduceAdd, Nat.reduceMul, Nat.reduceSub, Nat.reduceLeDiff, Nat.le_refl, implies_true, Nat.reduceLT, reduceIte, decide_true, decide_false, true_and, and_true, reduceCtorEq, Nat.mul_one, Int.reduceToNat, Int.reduceLE, Int.reduceLT, Int.reduceAdd, Int.reduceSub, Int.reduceMul, Int.cast_ofNat_Int, cast_zero_int, cast_one_int, Nat.reducePow, Nat.reduceEqDiff, Nat.reduceMod, Nat.zero_add, Nat.sub_zero, Nat.add_zero, supTV, g]
    all_goals first | exact rfl | exact ⟨rfl, rfl⟩ | exact List.prefix_append _ _ | exact ⟨rfl, List.prefix_append _ _⟩ | assumption | exact ⟨rfl, by assumption⟩ | exact List.prefix_rfl | exact ⟨rfl, List.prefix_rfl⟩ | exact List.IsPrefix.trans (by assumption) (by assumption) | exact ⟨rfl, List.IsPrefix.trans (by assumption) (by assumption)⟩
  · simp only [go_sem, Nat.reduceBEq, Nat.reduceAdd, Nat.reduceMul, Nat.reduceSub, Nat.reduceLeDiff, Nat.le_refl, implies_true, Nat.reduceLT, reduceIte, decide_true, decide_false, true_and, and_true, reduceCtorEq, Nat.mul_one, Int.reduceToNat, Int.reduceLE, Int.reduceLT, Int.reduceAdd, Int.reduceSub, Int.reduceMul, Int.cast_ofNat_Int, cast_zero_int, cast_one_int, Nat.reducePow, Nat.reduceEqDiff, Nat.reduceMod, Nat.zero_add, Nat.sub_zero, Nat.add_zero, dect g]
    rw [supTV, if_neg g]
    all_goals first | exact rfl | exact ⟨rfl, rfl⟩ | exact List.prefix_append _ _ | exact ⟨rfl, List.prefix_append _ _⟩ | assumption | exact ⟨rfl, by assumption⟩ | exact List.prefix_rfl | exact ⟨rfl, List.prefix_rfl⟩ | exact List.IsPrefix.trans (by assumption) (by assumption) | exact ⟨rfl, List.IsPrefix.trans (by assumption) (by assumption)⟩
theorem supTV_shape (a b c : Int) : ∃ s g, supTV a b c = .tuple #[.string s, .bool g] := by
  unfold supTV
  split <;> exact ⟨_, _, rfl⟩

end

end Go.Proofs.YtfolkgkcaiaifaaDoor
