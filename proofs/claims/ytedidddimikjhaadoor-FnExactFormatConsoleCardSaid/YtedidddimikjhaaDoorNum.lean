
/- Numbers as texts: strconv.Itoa by the library's contract, and the other program's own. No condition. -/
import Derived.Test.YtedidddimikjhaaDoorShelf
import Derived.Test.YtedidddimikjhaaDoorTypes
import Derived.Test.YtedidddimikjhaaDoorH3
namespace Go.Proofs.YtedidddimikjhaaDoor
open Go.HH Go.Proofs
set_option linter.unusedSimpArgs false
set_option linter.unusedVariables false

/-- A number's text. -/
def num (n : Nat) : ByteArray := ⟨(Lib.decDigits n).toArray⟩
theorem num_size : ∀ (k n : Nat), n < 10 ^ k → 0 < k → (num n).size ≤ k
  | 0, _, _, h => absurd h (by omega)
  | k + 1, n, h, _ => by
    show (Lib.decDigits n).toArray.size ≤ k + 1
    rw [List.size_toArray, Lib.decDigits]
    split
    · simp
    · rename_i hn
      have hk : 0 < k := by
        rcases Nat.eq_zero_or_pos k with h0 | h0
        · subst h0; omega
        · exact h0
      have := num_size k (n / 10) (by rw [Nat.pow_succ] at h; omega) hk
      have h2 : (Lib.decDigits (n / 10)).length ≤ k := by
        have : (Lib.decDigits (n / 10)).toArray.size ≤ k := this
        rwa [List.size_toArray] at this
      simp
      omega
theorem num_less {n : Nat} (h : n < 10000000000) : (num n).size ≤ 10 := num_size 10 n h (by omega)
theorem num_dig : ∀ n, n < 10 → (ByteArray.mk #[48, 49, 50, 51, 52, 53, 54, 55, 56, 57]).extract n (n + 1) = num n := by
  intro n h
  have : ∀ k : Fin 10, (ByteArray.mk #[48, 49, 50, 51, 52, 53, 54, 55, 56, 57]).extract k.1 (k.1 + 1) = ⟨#[UInt8.ofNat (48 + k.1)]⟩ := by decide +kernel
  rw [this ⟨n, h⟩, num, Lib.decDigits_one h]
theorem num_step {n : Nat} (h : ¬ n < 10) : num (n / 10) ++ num (n % 10) = num n := by
  apply bl_ext
  show (num (n / 10) ++ num (n % 10)).data.toList = (Lib.decDigits n).toArray.toList
  rw [show (Lib.decDigits n).toArray.toList = Lib.decDigits (n / 10) ++ [UInt8.ofNat (48 + n % 10)] by rw [Lib.decDigits, dif_neg h]]
  simp [num, ByteArray.data_append, Lib.decDigits_one (Nat.mod_lt n (by omega : 10 > 0))]

section
variable {h : Heap} {M : Nat → Prop}

theorem c_Itoa (n : Nat) (hn : n < 100) : vCall [] Tryd.prog M 28 [.int .i64 n] h (fun r h' => r = .string (num n) ∧ h = h') :=
  vCall_plain (by rfl) rfl (Tryd.strconv_Itoa_small n hn)

theorem c_l1Num : ∀ (n : Nat), n < 10000000000 → ∀ {h : Heap} {M : Nat → Prop}, vCall [] Tryd.prog M 26 [.int .i64 n] h (fun r h' => r = .string (num n) ∧ h = h') := by
  intro n
  induction n using Nat.strongRecOn with
  | _ n ih =>
    intro hn h M
    refine body_of mo Tryd.func26 rfl (by kernel_rfl) (Nat.le_of_ble_eq_true (by kernel_rfl)) rfl ?_
    simp only [go_sem, Nat.reduceBEq, Nat.reduceAdd, Nat.reduceMul, Nat.reduceSub, Nat.reduceLeDiff, Nat.le_refl, implies_true, Nat.reduceLT, reduceIte, decide_true, decide_false, true_and, and_true, reduceCtorEq, Nat.mul_one, Int.reduceToNat, Int.reduceLE, Int.reduceLT, Int.reduceAdd, Int.reduceSub, Int.reduceMul, Int.cast_ofNat_Int, cast_zero_int, cast_one_int, Nat.reducePow, Nat.reduceEqDiff, Nat.reduceMod, Nat.zero_add, Nat.sub_zero, Nat.add_zero, show ¬ ((n : Int) < 0) by omega]
    have z (m : Nat) : (0 : Int) ≤ (m : Nat) := by omega
    by_cases h1 : n < 10
    · have w1 : IntKind.i64.wrap ((n : Int) + 1) = ((n + 1 : Nat) : Int) := by rw [wrap64 (by omega)]; omega
      simp only [go_sem, Nat.reduceBEq, Nat.reduceAdd, Nat.reduceMul, Nat.reduceSub, Nat.reduceLeDiff, Nat.le_refl, implies_true, Nat.reduceLT, reduceIte, decide_true, decide_false, true_and, and_true, reduceCtorEq, Nat.mul_one, Int.reduceToNat, Int.reduceLE, Int.reduceLT, Int.reduceAdd, Int.reduceSub, Int.reduceMul, Int.cast_ofNat_Int, cast_zero_int, cast_one_int, Nat.reducePow, Nat.reduceEqDiff, Nat.reduceMod, Nat.zero_add, Nat.sub_zero, Nat.add_zero, show ((n : Int) < 10) by omega, w1, z, Int.toNat_natCast, num_dig n h1]
      exact ⟨by omega, by omega⟩
    · have q1 : (n : Int).tdiv 10 = ((n / 10 : Nat) : Int) := by rw [Int.tdiv_eq_ediv_of_nonneg (by omega)]; omega
      have q2 : (n : Int).tmod 10 = ((n % 10 : Nat) : Int) := by rw [Int.tmod_eq_emod_of_nonneg (by omega)]; omega
      have q3 : IntKind.i64.wrap ((n / 10 : Nat) : Int) = ((n / 10 : Nat) : Int) := wrap64 (by omega)
      have q4 : IntKind.i64.wrap (((n % 10 : Nat) : Int) + 1) = ((n % 10 + 1 : Nat) : Int) := by rw [wrap64 (by omega)]; omega
      simp only [go_sem, Nat.reduceBEq, Nat.reduceAdd, Nat.reduceMul, Nat.reduceSub, Nat.reduceLeDiff, Nat.le_refl, implies_true, Nat.reduceLT, reduceIte, decide_true, decide_false, true_and, and_true, reduceCtorEq, Nat.mul_one, Int.reduceToNat, Int.reduceLE, Int.reduceLT, Int.reduceAdd, Int.reduceSub, Int.reduceMul, Int.cast_ofNat_Int, cast_zero_int, cast_one_int, Nat.reducePow, Nat.reduceEqDiff, Nat.reduceMod, Nat.zero_add, Nat.sub_zero, Nat.add_zero, show ¬ ((n : Int) < 10) by omega, hBin_quo (show (10 : Int) ≠ 0 by omega), hBin_rem (show (10 : Int) ≠ 0 by omega), q1, q2, q3, q4]
      refine ⟨by kernel_rfl, (ih (n / 10) (by omega) (by omega)).use (fun _ m => m) ?_⟩
      rintro _ _ ⟨rfl, rfl⟩
      have s1 : (num (n / 10)).size ≤ 10 := num_less (by omega)
      have s2 : (num (n % 10)).size ≤ 10 := num_less (by omega)
      simp only [go_sem, Nat.reduceBEq, Nat.reduceAdd, Nat.reduceMul, Nat.reduceSub, Nat.reduceLeDiff, Nat.le_refl, implies_true, Nat.reduceLT, reduceIte, decide_true, decide_false, true_and, and_true, reduceCtorEq, Nat.mul_one, Int.reduceToNat, Int.reduceLE, Int.reduceLT, Int.reduceAdd, Int.reduceSub, Int.reduceMul, Int.cast_ofNat_Int, cast_zero_int, cast_one_int, Nat.reducePow, Nat.reduceEqDiff, Nat.reduceMod, Nat.zero_add, Nat.sub_zero, Nat.add_zero, num_dig (n % 10) (by omega), hBin_sadd (show (num (n / 10)).size + (num (n % 10)).size ≤ 9223372036854775807 by omega), num_step h1, List.prefix_rfl]
      exact ⟨by omega, by omega⟩
end
end Go.Proofs.YtedidddimikjhaaDoor
