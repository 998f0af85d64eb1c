
/- Texts: which bytes they hold, and records of the log. No condition. -/
import Derived.Test.YtedidddimikjhaaDoorScalar
import Derived.Test.YtedidddimikjhaaDoorContains
import Derived.Test.YtedidddimikjhaaDoorH3
namespace Go.Proofs.YtedidddimikjhaaDoor
open Go.HH
set_option linter.unusedSimpArgs false
set_option linter.unusedVariables false

/-- A byte that a record may hold. -/
def okc (b : UInt8) : Bool := decide (32 ≤ b.toNat ∧ b.toNat ≤ 126 ∧ b.toNat ≠ 35)
def plainS (s : ByteArray) : Bool := (bl s).all okc
/-- A good record. -/
def recOk (c r : ByteArray) : Bool := decide (1 ≤ c.size ∧ c.size ≤ 160 ∧ r.size ≤ 200) && plainS c && plainS r && !((bl c).contains 64)
theorem u8_ofNat (b : UInt8) : (b.toNat : Int) ≤ 255 ∧ (0 : Int) ≤ b.toNat := by
  have := b.toNat_lt; omega

section
variable {h : Heap} {M : Nat → Prop}

theorem c_isPlain (s : ByteArray) (hmax : s.size ≤ 9223372036854775806) : vCall [] Tryd.prog M 69 [.string s] h (fun r h' => r = .bool (plainS s) ∧ h = h') := by
  refine body_of mo Tryd.func69 rfl (by kernel_rfl) (Nat.le_of_ble_eq_true (by kernel_rfl)) rfl ?_
  simp only [go_sem, Nat.reduceBEq, Nat.reduceAdd, Nat.reduceMul, Nat.reduceSub, Nat.reduceLeDiff, Nat.le_refl, implies_true, Nat.reduceLT, reduceIte, decide_true, decide_false, true_and, and_true, reduceCtorEq, Nat.mul_one, Int.reduceToNat, Int.reduceLE, Int.reduceLT, Int.reduceAdd, Int.reduceSub, Int.reduceMul, Int.cast_ofNat_Int, cast_zero_int, cast_one_int, Nat.reducePow, Nat.reduceEqDiff, Nat.reduceMod, Nat.zero_add, Nat.sub_zero, Nat.add_zero]
  refine vLoop.count mo s.size (fun i e h' => e 0 = .string s ∧ e 3 = .int .i64 i ∧ HeapIs h h' ∧ ((bl s).take i).all okc = true) ?_ ?_
  · exact ⟨rfl, rfl, HeapIs.rfl, by simp⟩
  · rintro i e _ hi ⟨e0, e3, hh, hj⟩
    cases hh
    simp only [go_sem, Nat.reduceBEq, Nat.reduceAdd, Nat.reduceMul, Nat.reduceSub, Nat.reduceLeDiff, Nat.le_refl, implies_true, Nat.reduceLT, reduceIte, decide_true, decide_false, true_and, and_true, reduceCtorEq, Nat.mul_one, Int.reduceToNat, Int.reduceLE, Int.reduceLT, Int.reduceAdd, Int.reduceSub, Int.reduceMul, Int.cast_ofNat_Int, cast_zero_int, cast_one_int, Nat.reducePow, Nat.reduceEqDiff, Nat.reduceMod, Nat.zero_add, Nat.sub_zero, Nat.add_zero, e0, e3]
    refine .intro (fun h1 => ?_) (fun h1 => ?_)
    · have hlt : i < s.size := by simpa using h1
      have hlt' : i < (bl s).length := by rw [bl_len]; exact hlt
      have hb := bl_get hlt
      obtain ⟨b, hbe⟩ : ∃ b, b = (bl s)[i] := ⟨_, rfl⟩
      rw [← hbe] at hb
      have hc : okc (bl s)[i] = decide (32 ≤ b.toNat ∧ b.toNat ≤ 126 ∧ b.toNat ≠ 35) := by rw [← hbe]; rfl
      simp only [go_sem, Nat.reduceBEq, Nat.reduceAdd, Nat.reduceMul, Nat.reduceSub, Nat.reduceLeDiff, Nat.le_refl, implies_true, Nat.reduceLT, reduceIte, decide_true, decide_false, true_and, and_true, reduceCtorEq, Nat.mul_one, Int.reduceToNat, Int.reduceLE, Int.reduceLT, Int.reduceAdd, Int.reduceSub, Int.reduceMul, Int.cast_ofNat_Int, cast_zero_int, cast_one_int, Nat.reducePow, Nat.reduceEqDiff, Nat.reduceMod, Nat.zero_add, Nat.sub_zero, Nat.add_zero, e0, e3, hb]
      by_cases g1 : (b.toNat : Int) < 32
      · simp only [go_sem, Nat.reduceBEq, Nat.reduceAdd, Nat.reduceMul, Nat.reduceSub, Nat.reduceLeDiff, Nat.le_refl, implies_true, Nat.reduceLT, reduceIte, decide_true, decide_false, true_and, and_true, reduceCtorEq, Nat.mul_one, Int.reduceToNat, Int.reduceLE, Int.reduceLT, Int.reduceAdd, Int.reduceSub, Int.reduceMul, Int.cast_ofNat_Int, cast_zero_int, cast_one_int, Nat.reducePow, Nat.reduceEqDiff, Nat.reduceMod, Nat.zero_add, Nat.sub_zero, Nat.add_zero, e0, e3, hb, g1]
        rw [show plainS s = false from not_all hlt' (hc.trans (decide_eq_false (by omega)))]
      · simp only [go_sem, Nat.reduceBEq, Nat.reduceAdd, Nat.reduceMul, Nat.reduceSub, Nat.reduceLeDiff, Nat.le_refl, implies_true, Nat.reduceLT, reduceIte, decide_true, decide_false, true_and, and_true, reduceCtorEq, Nat.mul_one, Int.reduceToNat, Int.reduceLE, Int.reduceLT, Int.reduceAdd, Int.reduceSub, Int.reduceMul, Int.cast_ofNat_Int, cast_zero_int, cast_one_int, Nat.reducePow, Nat.reduceEqDiff, Nat.reduceMod, Nat.zero_add, Nat.sub_zero, Nat.add_zero, e0, e3, hb, g1]
        by_cases g2 : (126 : Int) < b.toNat
        · simp only [go_sem, Nat.reduceBEq, Nat.reduceAdd, Nat.reduceMul, Nat.reduceSub, Nat.reduceLeDiff, Nat.le_refl, implies_true, Nat.reduceLT, reduceIte, decide_true, decide_false, true_and, and_true, reduceCtorEq, Nat.mul_one, Int.reduceToNat, Int.reduceLE, Int.reduceLT, Int.reduceAdd, Int.reduceSub, Int.reduceMul, Int.cast_ofNat_Int, cast_zero_int, cast_one_int, Nat.reducePow, Nat.reduceEqDiff, Nat.reduceMod, Nat.zero_add, Nat.sub_zero, Nat.add_zero, e0, e3, hb, g2]
          rw [show plainS s = false from not_all hlt' (hc.trans (decide_eq_false (by omega)))]
        · simp only [go_sem, Nat.reduceBEq, Nat.reduceAdd, Nat.reduceMul, Nat.reduceSub, Nat.reduceLeDiff, Nat.le_refl, implies_true, Nat.reduceLT, reduceIte, decide_true, decide_false, true_and, and_true, reduceCtorEq, Nat.mul_one, Int.reduceToNat, Int.reduceLE, Int.reduceLT, Int.reduceAdd, Int.reduceSub, Int.reduceMul, Int.cast_ofNat_Int, cast_zero_int, cast_one_int, Nat.reducePow, Nat.reduceEqDiff, Nat.reduceMod, Nat.zero_add, Nat.sub_zero, Nat.add_zero, e0, e3, hb, g2]
          by_cases g3 : (b.toNat : Int) = 35
          · simp only [go_sem, Nat.reduceBEq, Nat.reduceAdd, Nat.reduceMul, Nat.reduceSub, Nat.reduceLeDiff, Nat.le_refl, implies_true, Nat.reduceLT, reduceIte, decide_true, decide_false, true_and, and_true, reduceCtorEq, Nat.mul_one, Int.reduceToNat, Int.reduceLE, Int.reduceLT, Int.reduceAdd, Int.reduceSub, Int.reduceMul, Int.cast_ofNat_Int, cast_zero_int, cast_one_int, Nat.reducePow, Nat.reduceEqDiff, Nat.reduceMod, Nat.zero_add, Nat.sub_zero, Nat.add_zero, e0, e3, hb, g3]
            rw [show plainS s = false from not_all hlt' (hc.trans (decide_eq_false (by omega)))]
          · simp only [go_sem, Nat.reduceBEq, Nat.reduceAdd, Nat.reduceMul, Nat.reduceSub, Nat.reduceLeDiff, Nat.le_refl, implies_true, Nat.reduceLT, reduceIte, decide_true, decide_false, true_and, and_true, reduceCtorEq, Nat.mul_one, Int.reduceToNat, Int.reduceLE, Int.reduceLT, Int.reduceAdd, Int.reduceSub, Int.reduceMul, Int.cast_ofNat_Int, cast_zero_int, cast_one_int, Nat.reducePow, Nat.reduceEqDiff, Nat.reduceMod, Nat.zero_add, Nat.sub_zero, Nat.add_zero, e0, e3, hb, show ((b.toNat : Int) == 35) = false by simpa using g3]
            refine ⟨hlt, by rw [wrap64 (by omega)]; rfl, HeapIs.rfl, take_all hlt' hj (hc.trans (decide_eq_true (by omega)))⟩
    · obtain rfl : i = s.size := by have : ¬ i < s.size := by simpa using h1
                                    omega
      simp only [go_sem, Nat.reduceBEq, Nat.reduceAdd, Nat.reduceMul, Nat.reduceSub, Nat.reduceLeDiff, Nat.le_refl, implies_true, Nat.reduceLT, reduceIte, decide_true, decide_false, true_and, and_true, reduceCtorEq, Nat.mul_one, Int.reduceToNat, Int.reduceLE, Int.reduceLT, Int.reduceAdd, Int.reduceSub, Int.reduceMul, Int.cast_ofNat_Int, cast_zero_int, cast_one_int, Nat.reducePow, Nat.reduceEqDiff, Nat.reduceMod, Nat.zero_add, Nat.sub_zero, Nat.add_zero, e0, e3]
      have : plainS s = true := by rw [← bl_len, List.take_length] at hj; exact hj
      rw [this]
      all_goals first | exact rfl | exact ⟨rfl, rfl⟩ | exact List.prefix_append _ _ | exact ⟨rfl, List.prefix_append _ _⟩ | assumption | exact ⟨rfl, by assumption⟩ | exact List.prefix_rfl | exact ⟨rfl, List.prefix_rfl⟩ | exact List.IsPrefix.trans (by assumption) (by assumption) | exact ⟨rfl, List.IsPrefix.trans (by assumption) (by assumption)⟩

theorem c_l27Plain (s : ByteArray) (n : Int) (hmax : s.size ≤ 9223372036854775806) : vCall [] Tryd.prog M 77 [.string s, .int .i64 n] h (fun r h' => r = .bool (plainS s && decide ((s.size : Int) ≤ n)) ∧ h = h') := by
  refine body_of mo Tryd.func77 rfl (by kernel_rfl) (Nat.le_of_ble_eq_true (by kernel_rfl)) rfl ?_
  simp only [go_sem, Nat.reduceBEq, Nat.reduceAdd, Nat.reduceMul, Nat.reduceSub, Nat.reduceLeDiff, Nat.le_refl, implies_true, Nat.reduceLT, reduceIte, decide_true, decide_false, true_and, and_true, reduceCtorEq, Nat.mul_one, Int.reduceToNat, Int.reduceLE, Int.reduceLT, Int.reduceAdd, Int.reduceSub, Int.reduceMul, Int.cast_ofNat_Int, cast_zero_int, cast_one_int, Nat.reducePow, Nat.reduceEqDiff, Nat.reduceMod, Nat.zero_add, Nat.sub_zero, Nat.add_zero]
  refine vLoop.count mo s.size (fun i e h' => e 0 = .string s ∧ e 1 = .int .i64 n ∧ e 5 = .int .i64 i ∧ HeapIs h h' ∧ ((bl s).take i).all okc = true) ?_ ?_
  · exact ⟨rfl, rfl, rfl, HeapIs.rfl, by simp⟩
  · rintro i e _ hi ⟨e0, e1, e5, hh, hj⟩
    cases hh
    simp only [go_sem, Nat.reduceBEq, Nat.reduceAdd, Nat.reduceMul, Nat.reduceSub, Nat.reduceLeDiff, Nat.le_refl, implies_true, Nat.reduceLT, reduceIte, decide_true, decide_false, true_and, and_true, reduceCtorEq, Nat.mul_one, Int.reduceToNat, Int.reduceLE, Int.reduceLT, Int.reduceAdd, Int.reduceSub, Int.reduceMul, Int.cast_ofNat_Int, cast_zero_int, cast_one_int, Nat.reducePow, Nat.reduceEqDiff, Nat.reduceMod, Nat.zero_add, Nat.sub_zero, Nat.add_zero, e0, e1, e5]
    refine .intro (fun h1 => ?_) (fun h1 => ?_)
    · have hlt : i < s.size := by simpa using h1
      have hlt' : i < (bl s).length := by rw [bl_len]; exact hlt
      have hb := bl_get hlt
      obtain ⟨b, hbe⟩ : ∃ b, b = (bl s)[i] := ⟨_, rfl⟩
      rw [← hbe] at hb
      have hc : okc (bl s)[i] = decide (32 ≤ b.toNat ∧ b.toNat ≤ 126 ∧ b.toNat ≠ 35) := by rw [← hbe]; rfl
      have hb2 := u8_ofNat b
      have e6 : IntKind.i64.wrap (b.toNat : Int) = b.toNat := wrap64 (by omega)
      simp only [go_sem, Nat.reduceBEq, Nat.reduceAdd, Nat.reduceMul, Nat.reduceSub, Nat.reduceLeDiff, Nat.le_refl, implies_true, Nat.reduceLT, reduceIte, decide_true, decide_false, true_and, and_true, reduceCtorEq, Nat.mul_one, Int.reduceToNat, Int.reduceLE, Int.reduceLT, Int.reduceAdd, Int.reduceSub, Int.reduceMul, Int.cast_ofNat_Int, cast_zero_int, cast_one_int, Nat.reducePow, Nat.reduceEqDiff, Nat.reduceMod, Nat.zero_add, Nat.sub_zero, Nat.add_zero, e0, e1, e5, hb, e6]
      refine ⟨by kernel_rfl, (c_l1In _ _ _).use (fun _ m => m) ?_⟩
      rintro _ _ ⟨rfl, rfl⟩
      simp only [go_sem, Nat.reduceBEq, Nat.reduceAdd, Nat.reduceMul, Nat.reduceSub, Nat.reduceLeDiff, Nat.le_refl, implies_true, Nat.reduceLT, reduceIte, decide_true, decide_false, true_and, and_true, reduceCtorEq, Nat.mul_one, Int.reduceToNat, Int.reduceLE, Int.reduceLT, Int.reduceAdd, Int.reduceSub, Int.reduceMul, Int.cast_ofNat_Int, cast_zero_int, cast_one_int, Nat.reducePow, Nat.reduceEqDiff, Nat.reduceMod, Nat.zero_add, Nat.sub_zero, Nat.add_zero, e0, e1, e5, hb]
      by_cases g1 : (32 : Int) ≤ b.toNat ∧ (b.toNat : Int) ≤ 126
      · simp only [go_sem, Nat.reduceBEq, Nat.reduceAdd, Nat.reduceMul, Nat.reduceSub, Nat.reduceLeDiff, Nat.le_refl, implies_true, Nat.reduceLT, reduceIte, decide_true, decide_false, true_and, and_true, reduceCtorEq, Nat.mul_one, Int.reduceToNat, Int.reduceLE, Int.reduceLT, Int.reduceAdd, Int.reduceSub, Int.reduceMul, Int.cast_ofNat_Int, cast_zero_int, cast_one_int, Nat.reducePow, Nat.reduceEqDiff, Nat.reduceMod, Nat.zero_add, Nat.sub_zero, Nat.add_zero, e0, e1, e5, hb, decb g1]
        by_cases g3 : (b.toNat : Int) = 35
        · simp only [go_sem, Nat.reduceBEq, Nat.reduceAdd, Nat.reduceMul, Nat.reduceSub, Nat.reduceLeDiff, Nat.le_refl, implies_true, Nat.reduceLT, reduceIte, decide_true, decide_false, true_and, and_true, reduceCtorEq, Nat.mul_one, Int.reduceToNat, Int.reduceLE, Int.reduceLT, Int.reduceAdd, Int.reduceSub, Int.reduceMul, Int.cast_ofNat_Int, cast_zero_int, cast_one_int, Nat.reducePow, Nat.reduceEqDiff, Nat.reduceMod, Nat.zero_add, Nat.sub_zero, Nat.add_zero, e0, e1, e5, hb, g3]
          rw [show plainS s = false from not_all hlt' (hc.trans (decide_eq_false (by omega)))]
          rfl
        · simp only [go_sem, Nat.reduceBEq, Nat.reduceAdd, Nat.reduceMul, Nat.reduceSub, Nat.reduceLeDiff, Nat.le_refl, implies_true, Nat.reduceLT, reduceIte, decide_true, decide_false, true_and, and_true, reduceCtorEq, Nat.mul_one, Int.reduceToNat, Int.reduceLE, Int.reduceLT, Int.reduceAdd, Int.reduceSub, Int.reduceMul, Int.cast_ofNat_Int, cast_zero_int, cast_one_int, Nat.reducePow, Nat.reduceEqDiff, Nat.reduceMod, Nat.zero_add, Nat.sub_zero, Nat.add_zero, e0, e1, e5, hb, show ((b.toNat : Int) == 35) = false by simpa using g3]
          refine ⟨hlt, by rw [wrap64 (by omega)]; rfl, HeapIs.rfl, take_all hlt' hj (hc.trans (decide_eq_true (by omega)))⟩
      · simp only [go_sem, Nat.reduceBEq, Nat.reduceAdd, Nat.reduceMul, Nat.reduceSub, Nat.reduceLeDiff, Nat.le_refl, implies_true, Nat.reduceLT, reduceIte, decide_true, decide_false, true_and, and_true, reduceCtorEq, Nat.mul_one, Int.reduceToNat, Int.reduceLE, Int.reduceLT, Int.reduceAdd, Int.reduceSub, Int.reduceMul, Int.cast_ofNat_Int, cast_zero_int, cast_one_int, Nat.reducePow, Nat.reduceEqDiff, Nat.reduceMod, Nat.zero_add, Nat.sub_zero, Nat.add_zero, e0, e1, e5, hb, dect g1]
        rw [show plainS s = false from not_all hlt' (hc.trans (decide_eq_false (by omega)))]
        rfl
    · obtain rfl : i = s.size := by have : ¬ i < s.size := by simpa using h1
                                    omega
      simp only [go_sem, Nat.reduceBEq, Nat.reduceAdd, Nat.reduceMul, Nat.reduceSub, Nat.reduceLeDiff, Nat.le_refl, implies_true, Nat.reduceLT, reduceIte, decide_true, decide_false, true_and, and_true, reduceCtorEq, Nat.mul_one, Int.reduceToNat, Int.reduceLE, Int.reduceLT, Int.reduceAdd, Int.reduceSub, Int.reduceMul, Int.cast_ofNat_Int, cast_zero_int, cast_one_int, Nat.reducePow, Nat.reduceEqDiff, Nat.reduceMod, Nat.zero_add, Nat.sub_zero, Nat.add_zero, e0, e1, e5]
      have : plainS s = true := by rw [← bl_len, List.take_length] at hj; exact hj
      rw [this]
      all_goals first | exact rfl | exact ⟨rfl, rfl⟩ | exact List.prefix_append _ _ | exact ⟨rfl, List.prefix_append _ _⟩ | assumption | exact ⟨rfl, by assumption⟩ | exact List.prefix_rfl | exact ⟨rfl, List.prefix_rfl⟩ | exact List.IsPrefix.trans (by assumption) (by assumption) | exact ⟨rfl, List.IsPrefix.trans (by assumption) (by assumption)⟩

theorem c_l1Stands (s : ByteArray) (c : UInt8) (hmax : s.size ≤ 9223372036854775806) : vCall [] Tryd.prog M 78 [.string s, .int .u8 c.toNat] h (fun r h' => r = .bool ((bl s).contains c) ∧ h = h') := by
  refine body_of mo Tryd.func78 rfl (by kernel_rfl) (Nat.le_of_ble_eq_true (by kernel_rfl)) rfl ?_
  simp only [go_sem, Nat.reduceBEq, Nat.reduceAdd, Nat.reduceMul, Nat.reduceSub, Nat.reduceLeDiff, Nat.le_refl, implies_true, Nat.reduceLT, reduceIte, decide_true, decide_false, true_and, and_true, reduceCtorEq, Nat.mul_one, Int.reduceToNat, Int.reduceLE, Int.reduceLT, Int.reduceAdd, Int.reduceSub, Int.reduceMul, Int.cast_ofNat_Int, cast_zero_int, cast_one_int, Nat.reducePow, Nat.reduceEqDiff, Nat.reduceMod, Nat.zero_add, Nat.sub_zero, Nat.add_zero]
  refine vLoop.count mo s.size (fun i e h' => e 0 = .string s ∧ e 1 = .int .u8 c.toNat ∧ e 5 = .int .i64 i ∧ HeapIs h h' ∧ c ∉ (bl s).take i) ?_ ?_
  · exact ⟨rfl, rfl, rfl, HeapIs.rfl, by simp⟩
  · rintro i e _ hi ⟨e0, e1, e5, hh, hj⟩
    cases hh
    simp only [go_sem, Nat.reduceBEq, Nat.reduceAdd, Nat.reduceMul, Nat.reduceSub, Nat.reduceLeDiff, Nat.le_refl, implies_true, Nat.reduceLT, reduceIte, decide_true, decide_false, true_and, and_true, reduceCtorEq, Nat.mul_one, Int.reduceToNat, Int.reduceLE, Int.reduceLT, Int.reduceAdd, Int.reduceSub, Int.reduceMul, Int.cast_ofNat_Int, cast_zero_int, cast_one_int, Nat.reducePow, Nat.reduceEqDiff, Nat.reduceMod, Nat.zero_add, Nat.sub_zero, Nat.add_zero, e0, e1, e5]
    refine .intro (fun h1 => ?_) (fun h1 => ?_)
    · have hlt : i < s.size := by simpa using h1
      have hlt' : i < (bl s).length := by rw [bl_len]; exact hlt
      have hb := bl_get hlt
      simp only [go_sem, Nat.reduceBEq, Nat.reduceAdd, Nat.reduceMul, Nat.reduceSub, Nat.reduceLeDiff, Nat.le_refl, implies_true, Nat.reduceLT, reduceIte, decide_true, decide_false, true_and, and_true, reduceCtorEq, Nat.mul_one, Int.reduceToNat, Int.reduceLE, Int.reduceLT, Int.reduceAdd, Int.reduceSub, Int.reduceMul, Int.cast_ofNat_Int, cast_zero_int, cast_one_int, Nat.reducePow, Nat.reduceEqDiff, Nat.reduceMod, Nat.zero_add, Nat.sub_zero, Nat.add_zero, e0, e1, e5, hb]
      by_cases g1 : (bl s)[i] = c
      · simp only [go_sem, Nat.reduceBEq, Nat.reduceAdd, Nat.reduceMul, Nat.reduceSub, Nat.reduceLeDiff, Nat.le_refl, implies_true, Nat.reduceLT, reduceIte, decide_true, decide_false, true_and, and_true, reduceCtorEq, Nat.mul_one, Int.reduceToNat, Int.reduceLE, Int.reduceLT, Int.reduceAdd, Int.reduceSub, Int.reduceMul, Int.cast_ofNat_Int, cast_zero_int, cast_one_int, Nat.reducePow, Nat.reduceEqDiff, Nat.reduceMod, Nat.zero_add, Nat.sub_zero, Nat.add_zero, e0, e1, e5, hb, g1]
        rw [show (bl s).contains c = true from List.contains_iff_mem.2 (g1 ▸ List.getElem_mem hlt')]
      · have g2 : ((((bl s)[i]).toNat : Int) == (c.toNat : Int)) = false := by
          rw [beq_eq_false_iff_ne]; intro hh; exact g1 (UInt8.toNat_inj.1 (Int.ofNat.inj hh))
        simp only [go_sem, Nat.reduceBEq, Nat.reduceAdd, Nat.reduceMul, Nat.reduceSub, Nat.reduceLeDiff, Nat.le_refl, implies_true, Nat.reduceLT, reduceIte, decide_true, decide_false, true_and, and_true, reduceCtorEq, Nat.mul_one, Int.reduceToNat, Int.reduceLE, Int.reduceLT, Int.reduceAdd, Int.reduceSub, Int.reduceMul, Int.cast_ofNat_Int, cast_zero_int, cast_one_int, Nat.reducePow, Nat.reduceEqDiff, Nat.reduceMod, Nat.zero_add, Nat.sub_zero, Nat.add_zero, e0, e1, e5, hb, g2]
        refine ⟨hlt, by rw [wrap64 (by omega)]; rfl, HeapIs.rfl, ?_⟩
        rw [List.take_add_one, List.getElem?_eq_getElem hlt']
        simp only [List.mem_append, Option.mem_toList, not_or]
        exact ⟨hj, fun hh => g1 (by simpa using hh)⟩
    · obtain rfl : i = s.size := by have : ¬ i < s.size := by simpa using h1
                                    omega
      simp only [go_sem, Nat.reduceBEq, Nat.reduceAdd, Nat.reduceMul, Nat.reduceSub, Nat.reduceLeDiff, Nat.le_refl, implies_true, Nat.reduceLT, reduceIte, decide_true, decide_false, true_and, and_true, reduceCtorEq, Nat.mul_one, Int.reduceToNat, Int.reduceLE, Int.reduceLT, Int.reduceAdd, Int.reduceSub, Int.reduceMul, Int.cast_ofNat_Int, cast_zero_int, cast_one_int, Nat.reducePow, Nat.reduceEqDiff, Nat.reduceMod, Nat.zero_add, Nat.sub_zero, Nat.add_zero, e0, e1, e5]
      rw [← bl_len, List.take_length] at hj
      rw [show (bl s).contains c = false from by rw [Bool.eq_false_iff]; exact fun hh => hj (List.contains_iff_mem.1 hh)]

theorem toList_eq {s t : ByteArray} : (s.toList == t.toList) = decide (s = t) := by
  by_cases h : s = t
  · subst h; simp
  · have : ¬ s.toList = t.toList := by
      intro hh
      rw [Lib.toList_data, Lib.toList_data] at hh
      exact h (bl_ext hh)
    rw [decide_eq_false h]
    simpa using this

theorem c_IsValidRecord (c r : ByteArray) (hc : c.size ≤ 9223372036854775806) (hr : r.size ≤ 9223372036854775806) : vCall [] Tryd.prog M 60 [.agg #[.string c, .string r]] h (fun v h' => v = .bool (recOk c r) ∧ h <+: h') := by
  refine body_of mo Tryd.func60 rfl (by kernel_rfl) (Nat.le_of_ble_eq_true (by kernel_rfl)) rfl ?_
  simp only [go_sem, Nat.reduceBEq, Nat.reduceAdd, Nat.reduceMul, Nat.reduceSub, Nat.reduceLeDiff, Nat.le_refl, implies_true, Nat.reduceLT, reduceIte, decide_true, decide_false, true_and, and_true, reduceCtorEq, Nat.mul_one, Int.reduceToNat, Int.reduceLE, Int.reduceLT, Int.reduceAdd, Int.reduceSub, Int.reduceMul, Int.cast_ofNat_Int, cast_zero_int, cast_one_int, Nat.reducePow, Nat.reduceEqDiff, Nat.reduceMod, Nat.zero_add, Nat.sub_zero, Nat.add_zero]
  refine ⟨by kernel_rfl, (c_inside _ _ _).use (fun _ m => m) ?_⟩
  rintro _ _ ⟨rfl, rfl⟩
  simp only [go_sem, Nat.reduceBEq, Nat.reduceAdd, Nat.reduceMul, Nat.reduceSub, Nat.reduceLeDiff, Nat.le_refl, implies_true, Nat.reduceLT, reduceIte, decide_true, decide_false, true_and, and_true, reduceCtorEq, Nat.mul_one, Int.reduceToNat, Int.reduceLE, Int.reduceLT, Int.reduceAdd, Int.reduceSub, Int.reduceMul, Int.cast_ofNat_Int, cast_zero_int, cast_one_int, Nat.reducePow, Nat.reduceEqDiff, Nat.reduceMod, Nat.zero_add, Nat.sub_zero, Nat.add_zero]
  by_cases h1 : (1 : Int) ≤ c.size ∧ (c.size : Int) ≤ 160
  · simp only [go_sem, Nat.reduceBEq, Nat.reduceAdd, Nat.reduceMul, Nat.reduceSub, Nat.reduceLeDiff, Nat.le_refl, implies_true, Nat.reduceLT, reduceIte, decide_true, decide_false, true_and, and_true, reduceCtorEq, Nat.mul_one, Int.reduceToNat, Int.reduceLE, Int.reduceLT, Int.reduceAdd, Int.reduceSub, Int.reduceMul, Int.cast_ofNat_Int, cast_zero_int, cast_one_int, Nat.reducePow, Nat.reduceEqDiff, Nat.reduceMod, Nat.zero_add, Nat.sub_zero, Nat.add_zero, decb h1]
    by_cases h2 : (r.size : Int) ≤ 200
    · simp only [go_sem, Nat.reduceBEq, Nat.reduceAdd, Nat.reduceMul, Nat.reduceSub, Nat.reduceLeDiff, Nat.le_refl, implies_true, Nat.reduceLT, reduceIte, decide_true, decide_false, true_and, and_true, reduceCtorEq, Nat.mul_one, Int.reduceToNat, Int.reduceLE, Int.reduceLT, Int.reduceAdd, Int.reduceSub, Int.reduceMul, Int.cast_ofNat_Int, cast_zero_int, cast_one_int, Nat.reducePow, Nat.reduceEqDiff, Nat.reduceMod, Nat.zero_add, Nat.sub_zero, Nat.add_zero, h2]
      refine ⟨by kernel_rfl, (c_isPlain c hc).use (fun _ m => m) ?_⟩
      rintro _ _ ⟨rfl, rfl⟩
      simp only [go_sem, Nat.reduceBEq, Nat.reduceAdd, Nat.reduceMul, Nat.reduceSub, Nat.reduceLeDiff, Nat.le_refl, implies_true, Nat.reduceLT, reduceIte, decide_true, decide_false, true_and, and_true, reduceCtorEq, Nat.mul_one, Int.reduceToNat, Int.reduceLE, Int.reduceLT, Int.reduceAdd, Int.reduceSub, Int.reduceMul, Int.cast_ofNat_Int, cast_zero_int, cast_one_int, Nat.reducePow, Nat.reduceEqDiff, Nat.reduceMod, Nat.zero_add, Nat.sub_zero, Nat.add_zero]
      cases h3 : plainS c
      · simp only [go_sem, Nat.reduceBEq, Nat.reduceAdd, Nat.reduceMul, Nat.reduceSub, Nat.reduceLeDiff, Nat.le_refl, implies_true, Nat.reduceLT, reduceIte, decide_true, decide_false, true_and, and_true, reduceCtorEq, Nat.mul_one, Int.reduceToNat, Int.reduceLE, Int.reduceLT, Int.reduceAdd, Int.reduceSub, Int.reduceMul, Int.cast_ofNat_Int, cast_zero_int, cast_one_int, Nat.reducePow, Nat.reduceEqDiff, Nat.reduceMod, Nat.zero_add, Nat.sub_zero, Nat.add_zero, h3]
        simp [recOk, h3]
      · simp only [go_sem, Nat.reduceBEq, Nat.reduceAdd, Nat.reduceMul, Nat.reduceSub, Nat.reduceLeDiff, Nat.le_refl, implies_true, Nat.reduceLT, reduceIte, decide_true, decide_false, true_and, and_true, reduceCtorEq, Nat.mul_one, Int.reduceToNat, Int.reduceLE, Int.reduceLT, Int.reduceAdd, Int.reduceSub, Int.reduceMul, Int.cast_ofNat_Int, cast_zero_int, cast_one_int, Nat.reducePow, Nat.reduceEqDiff, Nat.reduceMod, Nat.zero_add, Nat.sub_zero, Nat.add_zero, h3]
        refine ⟨by kernel_rfl, (c_isPlain r hr).use (fun _ m => m) ?_⟩
        rintro _ _ ⟨rfl, rfl⟩
        simp only [go_sem, Nat.reduceBEq, Nat.reduceAdd, Nat.reduceMul, Nat.reduceSub, Nat.reduceLeDiff, Nat.le_refl, implies_true, Nat.reduceLT, reduceIte, decide_true, decide_false, true_and, and_true, reduceCtorEq, Nat.mul_one, Int.reduceToNat, Int.reduceLE, Int.reduceLT, Int.reduceAdd, Int.reduceSub, Int.reduceMul, Int.cast_ofNat_Int, cast_zero_int, cast_one_int, Nat.reducePow, Nat.reduceEqDiff, Nat.reduceMod, Nat.zero_add, Nat.sub_zero, Nat.add_zero]
        cases h4 : plainS r
        · simp only [go_sem, Nat.reduceBEq, Nat.reduceAdd, Nat.reduceMul, Nat.reduceSub, Nat.reduceLeDiff, Nat.le_refl, implies_true, Nat.reduceLT, reduceIte, decide_true, decide_false, true_and, and_true, reduceCtorEq, Nat.mul_one, Int.reduceToNat, Int.reduceLE, Int.reduceLT, Int.reduceAdd, Int.reduceSub, Int.reduceMul, Int.cast_ofNat_Int, cast_zero_int, cast_one_int, Nat.reducePow, Nat.reduceEqDiff, Nat.reduceMod, Nat.zero_add, Nat.sub_zero, Nat.add_zero, h4]
          simp [recOk, h4]
        · simp only [go_sem, Nat.reduceBEq, Nat.reduceAdd, Nat.reduceMul, Nat.reduceSub, Nat.reduceLeDiff, Nat.le_refl, implies_true, Nat.reduceLT, reduceIte, decide_true, decide_false, true_and, and_true, reduceCtorEq, Nat.mul_one, Int.reduceToNat, Int.reduceLE, Int.reduceLT, Int.reduceAdd, Int.reduceSub, Int.reduceMul, Int.cast_ofNat_Int, cast_zero_int, cast_one_int, Nat.reducePow, Nat.reduceEqDiff, Nat.reduceMod, Nat.zero_add, Nat.sub_zero, Nat.add_zero, h4]
          refine ⟨by kernel_rfl, (c_Contains c 64).use (fun _ m => m) ?_⟩
          rintro _ _ ⟨rfl, rfl⟩
          simp only [go_sem, Nat.reduceBEq, Nat.reduceAdd, Nat.reduceMul, Nat.reduceSub, Nat.reduceLeDiff, Nat.le_refl, implies_true, Nat.reduceLT, reduceIte, decide_true, decide_false, true_and, and_true, reduceCtorEq, Nat.mul_one, Int.reduceToNat, Int.reduceLE, Int.reduceLT, Int.reduceAdd, Int.reduceSub, Int.reduceMul, Int.cast_ofNat_Int, cast_zero_int, cast_one_int, Nat.reducePow, Nat.reduceEqDiff, Nat.reduceMod, Nat.zero_add, Nat.sub_zero, Nat.add_zero]
          have h5 : 1 ≤ c.size ∧ c.size ≤ 160 ∧ r.size ≤ 200 := by omega
          simp only [recOk, h3, h4, decb h5, Bool.true_and]
          all_goals first | exact rfl | exact ⟨rfl, rfl⟩ | exact List.prefix_append _ _ | exact ⟨rfl, List.prefix_append _ _⟩ | assumption | exact ⟨rfl, by assumption⟩ | exact List.prefix_rfl | exact ⟨rfl, List.prefix_rfl⟩ | exact List.IsPrefix.trans (by assumption) (by assumption) | exact ⟨rfl, List.IsPrefix.trans (by assumption) (by assumption)⟩
    · simp only [go_sem, Nat.reduceBEq, Nat.reduceAdd, Nat.reduceMul, Nat.reduceSub, Nat.reduceLeDiff, Nat.le_refl, implies_true, Nat.reduceLT, reduceIte, decide_true, decide_false, true_and, and_true, reduceCtorEq, Nat.mul_one, Int.reduceToNat, Int.reduceLE, Int.reduceLT, Int.reduceAdd, Int.reduceSub, Int.reduceMul, Int.cast_ofNat_Int, cast_zero_int, cast_one_int, Nat.reducePow, Nat.reduceEqDiff, Nat.reduceMod, Nat.zero_add, Nat.sub_zero, Nat.add_zero, h2]
      have h5 : ¬ (1 ≤ c.size ∧ c.size ≤ 160 ∧ r.size ≤ 200) := by omega
      simp [recOk, dect h5]
  · simp only [go_sem, Nat.reduceBEq, Nat.reduceAdd, Nat.reduceMul, Nat.reduceSub, Nat.reduceLeDiff, Nat.le_refl, implies_true, Nat.reduceLT, reduceIte, decide_true, decide_false, true_and, and_true, reduceCtorEq, Nat.mul_one, Int.reduceToNat, Int.reduceLE, Int.reduceLT, Int.reduceAdd, Int.reduceSub, Int.reduceMul, Int.cast_ofNat_Int, cast_zero_int, cast_one_int, Nat.reducePow, Nat.reduceEqDiff, Nat.reduceMod, Nat.zero_add, Nat.sub_zero, Nat.add_zero, dect h1]
    have h5 : ¬ (1 ≤ c.size ∧ c.size ≤ 160 ∧ r.size ≤ 200) := by omega
    simp [recOk, dect h5]

theorem empty_size (c : ByteArray) : (c.toList == (⟨#[]⟩ : ByteArray).toList) = decide (c.size = 0) := by
  rw [toList_eq]
  refine decide_eq_decide.2 ⟨fun hh => by rw [hh]; rfl, fun hh => bl_ext ?_⟩
  have := bl_len c
  rw [hh] at this
  rw [List.eq_nil_of_length_eq_zero this]; rfl

theorem c_l27Good (c r : ByteArray) (hc : c.size ≤ 9223372036854775806) (hr : r.size ≤ 9223372036854775806) : vCall [] Tryd.prog M 66 [.agg #[.string c, .string r]] h (fun v h' => v = .bool (recOk c r) ∧ h <+: h') := by
  refine body_of mo Tryd.func66 rfl (by kernel_rfl) (Nat.le_of_ble_eq_true (by kernel_rfl)) rfl ?_
  simp only [go_sem, Nat.reduceBEq, Nat.reduceAdd, Nat.reduceMul, Nat.reduceSub, Nat.reduceLeDiff, Nat.le_refl, implies_true, Nat.reduceLT, reduceIte, decide_true, decide_false, true_and, and_true, reduceCtorEq, Nat.mul_one, Int.reduceToNat, Int.reduceLE, Int.reduceLT, Int.reduceAdd, Int.reduceSub, Int.reduceMul, Int.cast_ofNat_Int, cast_zero_int, cast_one_int, Nat.reducePow, Nat.reduceEqDiff, Nat.reduceMod, Nat.zero_add, Nat.sub_zero, Nat.add_zero]
  by_cases h1 : c.size = 0
  · simp only [go_sem, Nat.reduceBEq, Nat.reduceAdd, Nat.reduceMul, Nat.reduceSub, Nat.reduceLeDiff, Nat.le_refl, implies_true, Nat.reduceLT, reduceIte, decide_true, decide_false, true_and, and_true, reduceCtorEq, Nat.mul_one, Int.reduceToNat, Int.reduceLE, Int.reduceLT, Int.reduceAdd, Int.reduceSub, Int.reduceMul, Int.cast_ofNat_Int, cast_zero_int, cast_one_int, Nat.reducePow, Nat.reduceEqDiff, Nat.reduceMod, Nat.zero_add, Nat.sub_zero, Nat.add_zero, empty_size, h1]
    simp [recOk, h1]
  · simp only [go_sem, Nat.reduceBEq, Nat.reduceAdd, Nat.reduceMul, Nat.reduceSub, Nat.reduceLeDiff, Nat.le_refl, implies_true, Nat.reduceLT, reduceIte, decide_true, decide_false, true_and, and_true, reduceCtorEq, Nat.mul_one, Int.reduceToNat, Int.reduceLE, Int.reduceLT, Int.reduceAdd, Int.reduceSub, Int.reduceMul, Int.cast_ofNat_Int, cast_zero_int, cast_one_int, Nat.reducePow, Nat.reduceEqDiff, Nat.reduceMod, Nat.zero_add, Nat.sub_zero, Nat.add_zero, empty_size, h1]
    refine ⟨by kernel_rfl, (c_l27Plain c _ hc).use (fun _ m => m) ?_⟩
    rintro _ _ ⟨rfl, rfl⟩
    simp only [go_sem, Nat.reduceBEq, Nat.reduceAdd, Nat.reduceMul, Nat.reduceSub, Nat.reduceLeDiff, Nat.le_refl, implies_true, Nat.reduceLT, reduceIte, decide_true, decide_false, true_and, and_true, reduceCtorEq, Nat.mul_one, Int.reduceToNat, Int.reduceLE, Int.reduceLT, Int.reduceAdd, Int.reduceSub, Int.reduceMul, Int.cast_ofNat_Int, cast_zero_int, cast_one_int, Nat.reducePow, Nat.reduceEqDiff, Nat.reduceMod, Nat.zero_add, Nat.sub_zero, Nat.add_zero]
    by_cases h2 : plainS c = true ∧ (c.size : Int) ≤ 160
    · have h2' : (plainS c && decide ((c.size : Int) ≤ 160)) = true := by simp [h2.1, h2.2]
      simp only [go_sem, Nat.reduceBEq, Nat.reduceAdd, Nat.reduceMul, Nat.reduceSub, Nat.reduceLeDiff, Nat.le_refl, implies_true, Nat.reduceLT, reduceIte, decide_true, decide_false, true_and, and_true, reduceCtorEq, Nat.mul_one, Int.reduceToNat, Int.reduceLE, Int.reduceLT, Int.reduceAdd, Int.reduceSub, Int.reduceMul, Int.cast_ofNat_Int, cast_zero_int, cast_one_int, Nat.reducePow, Nat.reduceEqDiff, Nat.reduceMod, Nat.zero_add, Nat.sub_zero, Nat.add_zero, h2']
      refine ⟨by kernel_rfl, (c_l1Stands c 64 hc).use (fun _ m => m) ?_⟩
      rintro _ _ ⟨rfl, rfl⟩
      simp only [go_sem, Nat.reduceBEq, Nat.reduceAdd, Nat.reduceMul, Nat.reduceSub, Nat.reduceLeDiff, Nat.le_refl, implies_true, Nat.reduceLT, reduceIte, decide_true, decide_false, true_and, and_true, reduceCtorEq, Nat.mul_one, Int.reduceToNat, Int.reduceLE, Int.reduceLT, Int.reduceAdd, Int.reduceSub, Int.reduceMul, Int.cast_ofNat_Int, cast_zero_int, cast_one_int, Nat.reducePow, Nat.reduceEqDiff, Nat.reduceMod, Nat.zero_add, Nat.sub_zero, Nat.add_zero, h2']
      cases h3 : (bl c).contains 64
      · simp only [go_sem, Nat.reduceBEq, Nat.reduceAdd, Nat.reduceMul, Nat.reduceSub, Nat.reduceLeDiff, Nat.le_refl, implies_true, Nat.reduceLT, reduceIte, decide_true, decide_false, true_and, and_true, reduceCtorEq, Nat.mul_one, Int.reduceToNat, Int.reduceLE, Int.reduceLT, Int.reduceAdd, Int.reduceSub, Int.reduceMul, Int.cast_ofNat_Int, cast_zero_int, cast_one_int, Nat.reducePow, Nat.reduceEqDiff, Nat.reduceMod, Nat.zero_add, Nat.sub_zero, Nat.add_zero, h2', h3]
        refine ⟨by kernel_rfl, (c_l27Plain r _ hr).use (fun _ m => m) ?_⟩
        rintro _ _ ⟨rfl, rfl⟩
        simp only [go_sem, Nat.reduceBEq, Nat.reduceAdd, Nat.reduceMul, Nat.reduceSub, Nat.reduceLeDiff, Nat.le_refl, implies_true, Nat.reduceLT, reduceIte, decide_true, decide_false, true_and, and_true, reduceCtorEq, Nat.mul_one, Int.reduceToNat, Int.reduceLE, Int.reduceLT, Int.reduceAdd, Int.reduceSub, Int.reduceMul, Int.cast_ofNat_Int, cast_zero_int, cast_one_int, Nat.reducePow, Nat.reduceEqDiff, Nat.reduceMod, Nat.zero_add, Nat.sub_zero, Nat.add_zero]
        have h4 : 1 ≤ c.size ∧ c.size ≤ 160 := by omega
        simp only [recOk, h3, h2.1, h4.1, h4.2, true_and, Bool.true_and, Bool.not_false, Bool.and_true]
        by_cases h5 : r.size ≤ 200
        · have h6 : (r.size : Int) ≤ 200 := by omega
          simp [h5, h6]
        · have h6 : ¬ (r.size : Int) ≤ 200 := by omega
          simp [h5, h6]
      · simp only [go_sem, Nat.reduceBEq, Nat.reduceAdd, Nat.reduceMul, Nat.reduceSub, Nat.reduceLeDiff, Nat.le_refl, implies_true, Nat.reduceLT, reduceIte, decide_true, decide_false, true_and, and_true, reduceCtorEq, Nat.mul_one, Int.reduceToNat, Int.reduceLE, Int.reduceLT, Int.reduceAdd, Int.reduceSub, Int.reduceMul, Int.cast_ofNat_Int, cast_zero_int, cast_one_int, Nat.reducePow, Nat.reduceEqDiff, Nat.reduceMod, Nat.zero_add, Nat.sub_zero, Nat.add_zero, h2', h3]
        simp only [recOk, h3, Bool.not_true, Bool.and_false]
    · have h3 : (plainS c && decide ((c.size : Int) ≤ 160)) = false := by simpa using h2
      simp only [go_sem, Nat.reduceBEq, Nat.reduceAdd, Nat.reduceMul, Nat.reduceSub, Nat.reduceLeDiff, Nat.le_refl, implies_true, Nat.reduceLT, reduceIte, decide_true, decide_false, true_and, and_true, reduceCtorEq, Nat.mul_one, Int.reduceToNat, Int.reduceLE, Int.reduceLT, Int.reduceAdd, Int.reduceSub, Int.reduceMul, Int.cast_ofNat_Int, cast_zero_int, cast_one_int, Nat.reducePow, Nat.reduceEqDiff, Nat.reduceMod, Nat.zero_add, Nat.sub_zero, Nat.add_zero, h3]
      have h4 : recOk c r = false := by
        simp only [recOk]
        by_cases h5 : plainS c = true
        · have : ¬ (c.size : Int) ≤ 160 := fun hh => h2 ⟨h5, hh⟩
          rw [dect (show ¬ (1 ≤ c.size ∧ c.size ≤ 160 ∧ r.size ≤ 200) by omega)]; rfl
        · simp [h5]
      rw [h4]
      all_goals first | exact rfl | exact ⟨rfl, rfl⟩ | exact List.prefix_append _ _ | exact ⟨rfl, List.prefix_append _ _⟩ | assumption | exact ⟨rfl, by assumption⟩ | exact List.prefix_rfl | exact ⟨rfl, List.prefix_rfl⟩ | exact List.IsPrefix.trans (by assumption) (by assumption) | exact ⟨rfl, List.IsPrefix.trans (by assumption) (by assumption)⟩

end

end Go.Proofs.YtedidddimikjhaaDoor
