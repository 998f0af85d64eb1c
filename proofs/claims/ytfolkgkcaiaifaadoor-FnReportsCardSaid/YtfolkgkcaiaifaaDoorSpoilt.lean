
/- A spoilt text. No condition. -/
import Derived.Test.YtfolkgkcaiaifaaDoorDraw
import Derived.Test.YtfolkgkcaiaifaaDoorLogS
import Derived.Test.YtfolkgkcaiaifaaDoorH3
namespace Go.Proofs.YtfolkgkcaiaifaaDoor
open Go.HH Go.Proofs
set_option linter.unusedSimpArgs false
set_option linter.unusedVariables false

section
variable {H : Heap} {M : Nat → Prop}
theorem cut_size (s : ByteArray) (i j : Nat) (h1 : i ≤ j) (h2 : j ≤ s.size) : (s.extract i j).size = j - i := by rw [ByteArray.size_extract]; omega
set_option maxRecDepth 8000 in
theorem d_spoilt {id n B : Nat} {a : Option Addr} (t w : ByteArray) (s : St H id n a B) (hM : M id) (ht : t.size ≤ 1000000) (hw : 0 < w.size ∧ w.size ≤ 1000) (hB : B ≤ 1000000 - 6) :
    vCall [] Tryd.prog M 49 [.pointer (some ⟨id, 0, none⟩), .string t, .string w] H (fun r H' => (∃ s : ByteArray, r = .string s ∧ s.size ≤ t.size + 1) ∧ St H' id n a (B + 6) ∧ Agr id (id + 1) H H') := by
  refine body_of mo Tryd.func49 rfl (by kernel_rfl) (Nat.le_of_ble_eq_true (by kernel_rfl)) rfl ?_
  by_cases h0 : t.size = 0
  · have e0 : (t.toList == (⟨#[]⟩ : ByteArray).toList) = true := by
      rw [toList_eq]
      refine decide_eq_true (bl_ext ?_)
      rw [List.eq_nil_of_length_eq_zero (l := bl t) (by rw [bl_len]; exact h0)]; rfl
    simp only [go_sem, Nat.reduceBEq, Nat.reduceAdd, Nat.reduceMul, Nat.reduceSub, Nat.reduceLeDiff, Nat.le_refl, implies_true, Nat.reduceLT, reduceIte, decide_true, decide_false, true_and, and_true, reduceCtorEq, Nat.mul_one, Int.reduceToNat, Int.reduceLE, Int.reduceLT, Int.reduceAdd, Int.reduceSub, Int.reduceMul, Int.cast_ofNat_Int, cast_zero_int, cast_one_int, Nat.reducePow, Nat.reduceEqDiff, Nat.reduceMod, Nat.zero_add, Nat.sub_zero, Nat.add_zero, e0, show 1 ≤ w.size by omega]
    exact ⟨⟨w.extract 0 1, rfl, by rw [cut_size _ _ _ (by omega) (by omega)]; omega⟩, s.more (by omega), Agr.refl⟩
  · have e0 : (t.toList == (⟨#[]⟩ : ByteArray).toList) = false := by
      rw [toList_eq]
      exact decide_eq_false fun e => h0 (by rw [e]; rfl)
    simp only [go_sem, Nat.reduceBEq, Nat.reduceAdd, Nat.reduceMul, Nat.reduceSub, Nat.reduceLeDiff, Nat.le_refl, implies_true, Nat.reduceLT, reduceIte, decide_true, decide_false, true_and, and_true, reduceCtorEq, Nat.mul_one, Int.reduceToNat, Int.reduceLE, Int.reduceLT, Int.reduceAdd, Int.reduceSub, Int.reduceMul, Int.cast_ofNat_Int, cast_zero_int, cast_one_int, Nat.reducePow, Nat.reduceEqDiff, Nat.reduceMod, Nat.zero_add, Nat.sub_zero, Nat.add_zero, e0]
    refine ⟨by kernel_rfl, (d_pick _ s (Or.inr hM) (by omega)).use (fun _ m => m) ?_⟩
    rintro _ H1 ⟨⟨i0, rfl, i00, i01⟩, s1, g1⟩
    obtain ⟨i, rfl⟩ := Int.eq_ofNat_of_zero_le i00
    have hi : i < t.size := by omega
    try simp only [go_sem, Nat.reduceBEq, Nat.reduceAdd, Nat.reduceMul, Nat.reduceSub, Nat.reduceLeDiff, Nat.le_refl, implies_true, Nat.reduceLT, reduceIte, decide_true, decide_false, true_and, and_true, reduceCtorEq, Nat.mul_one, Int.reduceToNat, Int.reduceLE, Int.reduceLT, Int.reduceAdd, Int.reduceSub, Int.reduceMul, Int.cast_ofNat_Int, cast_zero_int, cast_one_int, Nat.reducePow, Nat.reduceEqDiff, Nat.reduceMod, Nat.zero_add, Nat.sub_zero, Nat.add_zero, e0]
    refine ⟨by kernel_rfl, (d_pick _ s1 (Or.inr hM) (by omega)).use (fun _ m => m) ?_⟩
    rintro _ H2 ⟨⟨j0, rfl, j00, j01⟩, s2, g2⟩
    obtain ⟨j, rfl⟩ := Int.eq_ofNat_of_zero_le j00
    have hj : j < w.size := by omega
    have zw : (w.extract j w.size).size = w.size - j := cut_size _ _ _ (by omega) (Nat.le_refl _)
    have z0 : (0 : Int) ≤ (j : Nat) := by omega
    simp only [go_sem, Nat.reduceBEq, Nat.reduceAdd, Nat.reduceMul, Nat.reduceSub, Nat.reduceLeDiff, Nat.le_refl, implies_true, Nat.reduceLT, reduceIte, decide_true, decide_false, true_and, and_true, reduceCtorEq, Nat.mul_one, Int.reduceToNat, Int.reduceLE, Int.reduceLT, Int.reduceAdd, Int.reduceSub, Int.reduceMul, Int.cast_ofNat_Int, cast_zero_int, cast_one_int, Nat.reducePow, Nat.reduceEqDiff, Nat.reduceMod, Nat.zero_add, Nat.sub_zero, Nat.add_zero, e0, z0, Int.toNat_natCast, show j ≤ w.size by omega, zw, show 1 ≤ w.size - j by omega]
    refine ⟨by kernel_rfl, (d_pick _ s2 (Or.inr hM) (by omega)).use (fun _ m => m) ?_⟩
    rintro _ H3 ⟨⟨k, rfl, k0, k1⟩, s3, g3⟩
    obtain ⟨u, hu⟩ : ∃ u, u = (w.extract j w.size).extract 0 1 := ⟨_, rfl⟩
    have zu : u.size = 1 := by rw [hu, cut_size _ _ _ (by omega) (by omega)]
    have g := (g1.trans g2).trans g3
    have z1 := cut_size t 0 i (by omega) (by omega)
    have z2 := cut_size t i t.size (by omega) (by omega)
    have z3 := cut_size t (i + 1) t.size (by omega) (by omega)
    have b0 : (0 : Int) ≤ (i : Nat) := by omega
    have b1 : i ≤ t.size := by omega
    have b2 : (0 : Int) ≤ ((i + 1 : Nat) : Int) := by omega
    have b3 : i + 1 ≤ t.size := by omega
    have w1 : IntKind.i64.wrap ((i : Int) + 1) = ((i + 1 : Nat) : Int) := by rw [wrap64 (by omega)]; omega
    have a1 : hBin .add (.string (t.extract 0 i)) (.string u) = some (.string (t.extract 0 i ++ u)) := adds (by omega)
    have a2 : hBin .add (.string (t.extract 0 i ++ u)) (.string (t.extract i t.size)) = some (.string (t.extract 0 i ++ u ++ t.extract i t.size)) := adds (by rw [ByteArray.size_append]; omega)
    have a3 : hBin .add (.string (t.extract 0 i ++ u)) (.string (t.extract (i + 1) t.size)) = some (.string (t.extract 0 i ++ u ++ t.extract (i + 1) t.size)) := adds (by rw [ByteArray.size_append]; omega)
    have a4 : hBin .add (.string (t.extract 0 i)) (.string (t.extract (i + 1) t.size)) = some (.string (t.extract 0 i ++ t.extract (i + 1) t.size)) := adds (by omega)
    by_cases q1 : k = 0
    · simp only [go_sem, Nat.reduceBEq, Nat.reduceAdd, Nat.reduceMul, Nat.reduceSub, Nat.reduceLeDiff, Nat.le_refl, implies_true, Nat.reduceLT, reduceIte, decide_true, decide_false, true_and, and_true, reduceCtorEq, Nat.mul_one, Int.reduceToNat, Int.reduceLE, Int.reduceLT, Int.reduceAdd, Int.reduceSub, Int.reduceMul, Int.cast_ofNat_Int, cast_zero_int, cast_one_int, Nat.reducePow, Nat.reduceEqDiff, Nat.reduceMod, Nat.zero_add, Nat.sub_zero, Nat.add_zero, e0, show (k == 0) = true by simpa using q1, ← hu, b0, b1, Int.toNat_natCast, a1, a2]
      refine ⟨by omega, ⟨_, rfl, ?_⟩, s3, g⟩
      simp only [ByteArray.size_append]; omega
    · have q2 : (k == 0) = false := by simpa using q1
      by_cases q3 : k = 1
      · simp only [go_sem, Nat.reduceBEq, Nat.reduceAdd, Nat.reduceMul, Nat.reduceSub, Nat.reduceLeDiff, Nat.le_refl, implies_true, Nat.reduceLT, reduceIte, decide_true, decide_false, true_and, and_true, reduceCtorEq, Nat.mul_one, Int.reduceToNat, Int.reduceLE, Int.reduceLT, Int.reduceAdd, Int.reduceSub, Int.reduceMul, Int.cast_ofNat_Int, cast_zero_int, cast_one_int, Nat.reducePow, Nat.reduceEqDiff, Nat.reduceMod, Nat.zero_add, Nat.sub_zero, Nat.add_zero, e0, q2, show (k == 1) = true by simpa using q3, ← hu, b0, b1, b2, b3, w1, Int.toNat_natCast, a1, a3]
        refine ⟨by omega, ⟨_, rfl, ?_⟩, s3, g⟩
        simp only [ByteArray.size_append]; omega
      · simp only [go_sem, Nat.reduceBEq, Nat.reduceAdd, Nat.reduceMul, Nat.reduceSub, Nat.reduceLeDiff, Nat.le_refl, implies_true, Nat.reduceLT, reduceIte, decide_true, decide_false, true_and, and_true, reduceCtorEq, Nat.mul_one, Int.reduceToNat, Int.reduceLE, Int.reduceLT, Int.reduceAdd, Int.reduceSub, Int.reduceMul, Int.cast_ofNat_Int, cast_zero_int, cast_one_int, Nat.reducePow, Nat.reduceEqDiff, Nat.reduceMod, Nat.zero_add, Nat.sub_zero, Nat.add_zero, e0, q2, show (k == 1) = false by simpa using q3, ← hu, b0, b1, b2, b3, w1, Int.toNat_natCast, a4]
        refine ⟨by omega, ⟨_, rfl, ?_⟩, s3, g⟩
        simp only [ByteArray.size_append]; omega
end
end Go.Proofs.YtfolkgkcaiaifaaDoor
