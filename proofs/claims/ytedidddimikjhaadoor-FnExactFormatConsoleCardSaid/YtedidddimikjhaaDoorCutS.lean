
/- strings.Cut at a text of one byte. No condition. -/
import Derived.Test.YtedidddimikjhaaDoorLogL
import Derived.Test.YtedidddimikjhaaDoorH3
namespace Go.Proofs.YtedidddimikjhaaDoor
open Go.HH Go.Proofs
set_option linter.unusedSimpArgs false
set_option linter.unusedVariables false

theorem idx_miss {c : UInt8} : ∀ {l : BL}, c ∉ l → Lib.indexByte l c = -1
  | [], _ => rfl
  | x :: l, h => by
    have h1 : x ≠ c := fun e => h (by rw [e]; exact List.mem_cons_self)
    rw [Lib.indexByte, idx_miss (l := l) (fun e => h (List.mem_cons_of_mem _ e))]
    simp [h1]
theorem idx_at {c : UInt8} {q : BL} : ∀ {p : BL}, c ∉ p → Lib.indexByte (p ++ c :: q) c = p.length
  | [], _ => by simp [Lib.indexByte]
  | x :: p, h => by
    have h1 : x ≠ c := fun e => h (by rw [e]; exact List.mem_cons_self)
    have h2 := idx_at (q := q) (p := p) (fun e => h (List.mem_cons_of_mem _ e))
    rw [List.cons_append, Lib.indexByte, h2]
    have h3 : ¬ ((p.length : Int) = -1) := by omega
    simp [h1, h3]
theorem idx_hit {c : UInt8} {l : BL} (h : c ∈ l) : Lib.indexByte l c = (cutA l c).length := by
  obtain ⟨p, q, rfl, hp⟩ := List.eq_append_cons_of_mem h
  rw [cutA_hit hp, idx_at hp]
theorem cut_len {c : UInt8} {l : BL} (h : c ∈ l) : (cutA l c).length + 1 + (cutB l c).length = l.length := by
  have := congrArg List.length (cut_mem h).1
  rw [List.length_append, List.length_cons] at this
  omega
theorem cutA_extract {s : ByteArray} {c : UInt8} (h : c ∈ bl s) : s.extract 0 (cutA (bl s) c).length = mkB (cutA (bl s) c) := by
  apply bl_ext
  obtain ⟨p, q, e, hp⟩ := List.eq_append_cons_of_mem h
  rw [bl_extract, bl_mkB, e, cutA_hit hp]; simp
theorem cutB_extract {s : ByteArray} {c : UInt8} (h : c ∈ bl s) : s.extract ((cutA (bl s) c).length + 1) s.size = mkB (cutB (bl s) c) := by
  apply bl_ext
  rw [bl_extract, ← bl_len, List.take_length, bl_mkB]
  obtain ⟨p, q, e, hp⟩ := List.eq_append_cons_of_mem h
  rw [e, cutA_hit hp, cutB_hit hp, List.drop_append, List.drop_eq_nil_of_le (by omega)]
  simp

section
variable {h : Heap} {M : Nat → Prop}
theorem c_sIndex (s : ByteArray) (c : UInt8) : vCall [] Tryd.prog M 80 [.string s, .string ⟨#[c]⟩] h (fun r h' => r = .int .i64 (Lib.indexByte (bl s) c) ∧ h = h') :=
  vCall_plain (by rfl) rfl (Tryd.stringslite_Index_one s c)

theorem c_sCut (s : ByteArray) (c : UInt8) (hs : s.size ≤ 9223372036854775000) : vCall [] Tryd.prog M 68 [.string s, .string ⟨#[c]⟩] h
    (fun r h' => r = .tuple #[.string (mkB (cutA (bl s) c)), .string (mkB (cutB (bl s) c)), .bool ((bl s).contains c)] ∧ h = h') := by
  refine body_of mo Tryd.func68 rfl (by kernel_rfl) (Nat.le_of_ble_eq_true (by kernel_rfl)) rfl ?_
  simp only [go_sem, Nat.reduceBEq, Nat.reduceAdd, Nat.reduceMul, Nat.reduceSub, Nat.reduceLeDiff, Nat.le_refl, implies_true, Nat.reduceLT, reduceIte, decide_true, decide_false, true_and, and_true, reduceCtorEq, Nat.mul_one, Int.reduceToNat, Int.reduceLE, Int.reduceLT, Int.reduceAdd, Int.reduceSub, Int.reduceMul, Int.cast_ofNat_Int, cast_zero_int, cast_one_int, Nat.reducePow, Nat.reduceEqDiff, Nat.reduceMod, Nat.zero_add, Nat.sub_zero, Nat.add_zero]
  refine ⟨by kernel_rfl, (c_sIndex s c).use (fun _ m => m) ?_⟩
  rintro _ _ ⟨rfl, rfl⟩
  simp only [go_sem, Nat.reduceBEq, Nat.reduceAdd, Nat.reduceMul, Nat.reduceSub, Nat.reduceLeDiff, Nat.le_refl, implies_true, Nat.reduceLT, reduceIte, decide_true, decide_false, true_and, and_true, reduceCtorEq, Nat.mul_one, Int.reduceToNat, Int.reduceLE, Int.reduceLT, Int.reduceAdd, Int.reduceSub, Int.reduceMul, Int.cast_ofNat_Int, cast_zero_int, cast_one_int, Nat.reducePow, Nat.reduceEqDiff, Nat.reduceMod, Nat.zero_add, Nat.sub_zero, Nat.add_zero]
  by_cases hm : c ∈ bl s
  · have h1 := cut_len hm
    rw [bl_len] at h1
    have e1 : IntKind.i64.wrap (((cutA (bl s) c).length : Int) + 1) = (((cutA (bl s) c).length + 1 : Nat) : Int) := by rw [wrap64 (by omega)]; omega
    have e2 : ¬ (((cutA (bl s) c).length : Int) < 0) := by omega
    simp only [go_sem, Nat.reduceBEq, Nat.reduceAdd, Nat.reduceMul, Nat.reduceSub, Nat.reduceLeDiff, Nat.le_refl, implies_true, Nat.reduceLT, reduceIte, decide_true, decide_false, true_and, and_true, reduceCtorEq, Nat.mul_one, Int.reduceToNat, Int.reduceLE, Int.reduceLT, Int.reduceAdd, Int.reduceSub, Int.reduceMul, Int.cast_ofNat_Int, cast_zero_int, cast_one_int, Nat.reducePow, Nat.reduceEqDiff, Nat.reduceMod, Nat.zero_add, Nat.sub_zero, Nat.add_zero, idx_hit hm, e1, e2]
    refine ⟨by omega, by omega, by omega, ?_⟩
    rw [cutA_extract hm, cutB_extract hm, List.contains_iff_mem.2 hm]
  · simp only [go_sem, Nat.reduceBEq, Nat.reduceAdd, Nat.reduceMul, Nat.reduceSub, Nat.reduceLeDiff, Nat.le_refl, implies_true, Nat.reduceLT, reduceIte, decide_true, decide_false, true_and, and_true, reduceCtorEq, Nat.mul_one, Int.reduceToNat, Int.reduceLE, Int.reduceLT, Int.reduceAdd, Int.reduceSub, Int.reduceMul, Int.cast_ofNat_Int, cast_zero_int, cast_one_int, Nat.reducePow, Nat.reduceEqDiff, Nat.reduceMod, Nat.zero_add, Nat.sub_zero, Nat.add_zero, idx_miss hm]
    rw [cutA_miss hm, cutB_miss hm, mkB_bl, show (bl s).contains c = false from by rw [Bool.eq_false_iff]; exact fun hh => hm (List.contains_iff_mem.1 hh)]
    rfl
theorem c_Cut (s : ByteArray) (c : UInt8) (hs : s.size ≤ 9223372036854775000) : vCall [] Tryd.prog M 59 [.string s, .string ⟨#[c]⟩] h
    (fun r h' => r = .tuple #[.string (mkB (cutA (bl s) c)), .string (mkB (cutB (bl s) c)), .bool ((bl s).contains c)] ∧ h = h') := by
  refine body_of mo Tryd.func59 rfl (by kernel_rfl) (Nat.le_of_ble_eq_true (by kernel_rfl)) rfl ?_
  simp only [go_sem, Nat.reduceBEq, Nat.reduceAdd, Nat.reduceMul, Nat.reduceSub, Nat.reduceLeDiff, Nat.le_refl, implies_true, Nat.reduceLT, reduceIte, decide_true, decide_false, true_and, and_true, reduceCtorEq, Nat.mul_one, Int.reduceToNat, Int.reduceLE, Int.reduceLT, Int.reduceAdd, Int.reduceSub, Int.reduceMul, Int.cast_ofNat_Int, cast_zero_int, cast_one_int, Nat.reducePow, Nat.reduceEqDiff, Nat.reduceMod, Nat.zero_add, Nat.sub_zero, Nat.add_zero]
  refine ⟨by kernel_rfl, (c_sCut s c hs).use (fun _ m => m) ?_⟩
  rintro _ _ ⟨rfl, rfl⟩
  simp only [go_sem, Nat.reduceBEq, Nat.reduceAdd, Nat.reduceMul, Nat.reduceSub, Nat.reduceLeDiff, Nat.le_refl, implies_true, Nat.reduceLT, reduceIte, decide_true, decide_false, true_and, and_true, reduceCtorEq, Nat.mul_one, Int.reduceToNat, Int.reduceLE, Int.reduceLT, Int.reduceAdd, Int.reduceSub, Int.reduceMul, Int.cast_ofNat_Int, cast_zero_int, cast_one_int, Nat.reducePow, Nat.reduceEqDiff, Nat.reduceMod, Nat.zero_add, Nat.sub_zero, Nat.add_zero]
theorem c_CutE {G : List (Nat × Nat)} (s : ByteArray) (c : UInt8) (a b : BL) (hs : s.size ≤ 9223372036854775000) (ha : cutA (bl s) c = a) (hb : cutB (bl s) c = b) : vCall G Tryd.prog M 59 [.string s, .string ⟨#[c]⟩] h
    (fun r h' => r = .tuple #[.string (mkB a), .string (mkB b), .bool ((bl s).contains c)] ∧ h = h') := by
  subst ha hb
  exact (c_Cut s c hs).addG
end
end Go.Proofs.YtedidddimikjhaaDoor
