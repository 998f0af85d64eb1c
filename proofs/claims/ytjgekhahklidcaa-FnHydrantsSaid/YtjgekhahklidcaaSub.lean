
/- Subsets told by the bits of a number; lists compared. No condition. -/
import Derived.Test.YtjgekhahklidcaaInts
namespace Go.Proofs.Ytjgekhahklidcaa
open Go.HH
set_option linter.unusedSimpArgs false
set_option linter.unusedVariables false

theorem shr_nat {a i : Nat} (hi : i ≤ 63) : ((a : Int)).fdiv (2 ^ (min ((i : Int)).toNat IntKind.i64.bits)) = ((a >>> i : Nat) : Int) := by
  have e : min ((i : Int)).toNat IntKind.i64.bits = i := by
    rw [Int.toNat_natCast]; exact Nat.min_eq_left (by show i ≤ 64; omega)
  rw [e, Int.fdiv_eq_ediv_of_nonneg _ (Int.pow_nonneg (by decide)), Nat.shiftRight_eq_div_pow]
  simp
theorem and_one {n : Nat} : IntKind.i64.wrap ((BitVec.ofInt IntKind.i64.bits (n : Int) &&& BitVec.ofInt IntKind.i64.bits 1).toNat : Int) = ((n % 2 : Nat) : Int) := by
  have e : (BitVec.ofInt IntKind.i64.bits (n : Int) &&& BitVec.ofInt IntKind.i64.bits 1).toNat = n % 2 := by
    rw [BitVec.toNat_and]
    have h1 : (BitVec.ofInt IntKind.i64.bits (n : Int)).toNat = n % 2 ^ 64 := by rw [BitVec.ofInt_natCast, BitVec.toNat_ofNat]; rfl
    have h2 : (BitVec.ofInt IntKind.i64.bits 1).toNat = 1 := by decide
    rw [h1, h2, Nat.and_one_is_mod, Nat.mod_mod_of_dvd _ (by decide)]
  rw [e, IntWalk.i64_in _ (by have := Nat.mod_lt n (show 2 > 0 by omega); omega)]
theorem bit_eq {s i : Nat} : (((s >>> i % 2 : Nat) : Int) == 1) = s.testBit i := by
  rw [Nat.testBit_eq_decide_div_mod_eq, Nat.shiftRight_eq_div_pow]
  generalize s / 2 ^ i = m
  rw [Bool.eq_iff_iff, beq_iff_eq, decide_eq_true_iff]
  omega
theorem shl_one {n : Nat} (hn : n ≤ 60) : IntKind.i64.wrap (1 * 2 ^ (min ((n : Int)).toNat IntKind.i64.bits)) = ((2 ^ n : Nat) : Int) := by
  have e : min ((n : Int)).toNat IntKind.i64.bits = n := by
    rw [Int.toNat_natCast]; exact Nat.min_eq_left (by show n ≤ 64; omega)
  have h1 : (2 : Nat) ^ n ≤ 2 ^ 60 := Nat.pow_le_pow_right (by omega) hn
  have e3 : (2 : Int) ^ n = ((2 ^ n : Nat) : Int) := by simp
  rw [e, Int.one_mul, e3]
  obtain ⟨m, hm⟩ : ∃ m : Nat, 2 ^ n = m := ⟨_, rfl⟩
  rw [hm] at h1 ⊢
  exact IntWalk.i64_in _ (by omega)

theorem shl_one' {n : Nat} (hn : n ≤ 60) : IntKind.i64.wrap (1 * 2 ^ min n 64) = ((2 ^ n : Nat) : Int) := shl_one hn
theorem shr_nat' {a i : Nat} (hi : i ≤ 63) : ((a : Int)).fdiv (2 ^ min i 64) = ((a >>> i : Nat) : Int) := shr_nat hi
theorem and_one' {n : Nat} : IntKind.i64.wrap ((BitVec.ofInt 64 (n : Int) &&& BitVec.ofInt 64 1).toNat : Int) = ((n % 2 : Nat) : Int) := and_one
theorem hBin_bit {n : Nat} : hBin .and (.int .i64 (n : Int)) (.int .i64 1) = some (.int .i64 ((n % 2 : Nat) : Int)) := by rw [hBin_and, and_one]
/-- The elements of a list at the bits of a number, of the first 'i'. -/
def choice (L : List Int) (s : Nat) (i : Nat) : List Int := ((List.range i).filter fun j => s.testBit j).map fun j => L.getD j 0
theorem choice_yes {L : List Int} {s i : Nat} (hi : i < L.length) (h : s.testBit i = true) : choice L s (i + 1) = choice L s i ++ [L[i]] := by
  simp only [choice, List.range_succ, List.filter_append, List.map_append, List.filter_cons, List.filter_nil]
  rw [if_pos h]; simp [List.getD, hi]
theorem choice_no {L : List Int} {s i : Nat} (h : s.testBit i = false) : choice L s (i + 1) = choice L s i := by
  simp only [choice, List.range_succ, List.filter_append, List.map_append, List.filter_cons, List.filter_nil]
  rw [if_neg (by simp [h])]; simp
theorem choice_len {L : List Int} {s i : Nat} : (choice L s i).length ≤ i := by
  unfold choice
  rw [List.length_map]
  exact Nat.le_trans (List.length_filter_le _ _) (by simp)
theorem choice_mem {L : List Int} {s i : Nat} (hi : i ≤ L.length) : ∀ x ∈ choice L s i, x ∈ L := by
  intro x hx
  obtain ⟨j, hj, rfl⟩ := List.mem_map.1 hx
  have : j < L.length := by have := List.mem_range.1 (List.mem_filter.1 hj).1; omega
  simp [List.getD, this]
/-- How many bits a small number has. -/
def popc (s : Nat) : Nat := (List.range 10).countP fun j => s.testBit j
theorem popc_choice {L : List Int} {s : Nat} (hL : L.length ≤ 10) (hs : s < 2 ^ L.length) : (choice L s L.length).length = popc s := by
  unfold choice popc
  rw [List.length_map, ← List.countP_eq_length_filter]
  have e : 10 = L.length + (10 - L.length) := by omega
  rw [e, List.range_add, List.countP_append]
  have : ((List.range (10 - L.length)).map (L.length + ·)).countP (fun j => s.testBit j) = 0 := by
    rw [List.countP_eq_zero]
    intro j hj
    obtain ⟨k, _, rfl⟩ := List.mem_map.1 hj
    rw [Nat.testBit_lt_two_pow (Nat.lt_of_lt_of_le hs (Nat.pow_le_pow_right (by omega) (by omega)))]
    simp
  omega

def lexL : List Int → List Int → Bool
  | a :: xs, b :: ys => if a = b then lexL xs ys else decide (a < b)
  | _, _ => false
def cmpL : List Int → List Int → Int
  | [], [] => 0
  | [], _ :: _ => -1
  | _ :: _, [] => 1
  | a :: xs, b :: ys => if a < b then -1 else if b < a then 1 else cmpL xs ys
theorem cmpL_lex : ∀ {a b : List Int}, a.length = b.length → (cmpL a b < 0 ↔ lexL a b = true)
  | [], [], _ => by simp [cmpL, lexL]
  | a :: xs, b :: ys, h => by
    unfold cmpL lexL
    by_cases h1 : a < b
    · rw [if_pos h1, if_neg (by omega)]; simp [h1]
    · rw [if_neg h1]
      by_cases h2 : b < a
      · rw [if_pos h2, if_neg (by omega)]; simp [h1]
      · rw [if_neg h2, if_pos (by omega)]
        exact cmpL_lex (by simpa using h)
  | [], _ :: _, h => by simp at h
  | _ :: _, [], h => by simp at h
theorem cmpL_range : ∀ {a b : List Int}, -1 ≤ cmpL a b ∧ cmpL a b ≤ 1
  | [], [] => by simp [cmpL]
  | [], _ :: _ => by simp [cmpL]
  | _ :: _, [] => by simp [cmpL]
  | a :: xs, b :: ys => by
    unfold cmpL
    have := cmpL_range (a := xs) (b := ys)
    repeat' split
    all_goals omega
/-- Two lists that begin alike. -/
theorem cmpL_drop {a b : List Int} : ∀ {i : Nat}, i ≤ a.length → i ≤ b.length → (∀ (j : Nat) (h1 : j < a.length) (h2 : j < b.length), j < i → a[j] = b[j]) → cmpL a b = cmpL (a.drop i) (b.drop i)
  | 0, _, _, _ => rfl
  | i + 1, h1, h2, h => by
    rw [cmpL_drop (i := i) (by omega) (by omega) (fun j g1 g2 hj => h j g1 g2 (by omega))]
    have e := h i (by omega) (by omega) (by omega)
    rw [List.drop_eq_getElem_cons (show i < a.length by omega), List.drop_eq_getElem_cons (show i < b.length by omega), e]
    conv => lhs; unfold cmpL
    rw [if_neg (Int.lt_irrefl _), if_neg (Int.lt_irrefl _)]
theorem lexL_drop {a b : List Int} : ∀ {i : Nat}, i ≤ a.length → i ≤ b.length → (∀ (j : Nat) (h1 : j < a.length) (h2 : j < b.length), j < i → a[j] = b[j]) → lexL a b = lexL (a.drop i) (b.drop i)
  | 0, _, _, _ => rfl
  | i + 1, h1, h2, h => by
    rw [lexL_drop (i := i) (by omega) (by omega) (fun j g1 g2 hj => h j g1 g2 (by omega))]
    have e := h i (by omega) (by omega) (by omega)
    rw [List.drop_eq_getElem_cons (show i < a.length by omega), List.drop_eq_getElem_cons (show i < b.length by omega), e]
    conv => lhs; unfold lexL
    rw [if_pos rfl]

section
variable {h : Heap} {M : Nat → Prop}

theorem c_isNaN (x : Int) : vCall [] Try.prog M 126 [.int .i64 x] h (fun r h' => r = .bool false ∧ h = h') := by
  refine body_of mo Try.func126 rfl (by kernel_rfl) (Nat.le_of_ble_eq_true (by kernel_rfl)) rfl ?_
  simp only [go_sem, Nat.reduceBEq, Nat.reduceAdd, Nat.reduceMul, Nat.reduceSub, Nat.reduceLeDiff, Nat.le_refl, implies_true, Nat.reduceLT, reduceIte, decide_true, decide_false, true_and, and_true, reduceCtorEq, Nat.mul_one, Int.reduceToNat, Int.reduceLE, Int.reduceLT, Int.reduceAdd, Int.reduceSub, Int.reduceMul, Int.cast_ofNat_Int, cast_zero_int, cast_one_int, Nat.reducePow, Nat.reduceEqDiff, Nat.reduceMod, Nat.zero_add, Nat.sub_zero, Nat.add_zero]
theorem c_Compare (x y : Int) : vCall [] Try.prog M 119 [.int .i64 x, .int .i64 y] h (fun r h' => r = .int .i64 (if x < y then -1 else if y < x then 1 else 0) ∧ h = h') := by
  refine body_of mo Try.func119 rfl (by kernel_rfl) (Nat.le_of_ble_eq_true (by kernel_rfl)) rfl ?_
  simp only [go_sem, Nat.reduceBEq, Nat.reduceAdd, Nat.reduceMul, Nat.reduceSub, Nat.reduceLeDiff, Nat.le_refl, implies_true, Nat.reduceLT, reduceIte, decide_true, decide_false, true_and, and_true, reduceCtorEq, Nat.mul_one, Int.reduceToNat, Int.reduceLE, Int.reduceLT, Int.reduceAdd, Int.reduceSub, Int.reduceMul, Int.cast_ofNat_Int, cast_zero_int, cast_one_int, Nat.reducePow, Nat.reduceEqDiff, Nat.reduceMod, Nat.zero_add, Nat.sub_zero, Nat.add_zero]
  refine ⟨by kernel_rfl, (c_isNaN _).use (fun _ m => m) ?_⟩
  rintro _ _ ⟨rfl, rfl⟩
  try simp only [go_sem, Nat.reduceBEq, Nat.reduceAdd, Nat.reduceMul, Nat.reduceSub, Nat.reduceLeDiff, Nat.le_refl, implies_true, Nat.reduceLT, reduceIte, decide_true, decide_false, true_and, and_true, reduceCtorEq, Nat.mul_one, Int.reduceToNat, Int.reduceLE, Int.reduceLT, Int.reduceAdd, Int.reduceSub, Int.reduceMul, Int.cast_ofNat_Int, cast_zero_int, cast_one_int, Nat.reducePow, Nat.reduceEqDiff, Nat.reduceMod, Nat.zero_add, Nat.sub_zero, Nat.add_zero]
  refine ⟨by kernel_rfl, (c_isNaN _).use (fun _ m => m) ?_⟩
  rintro _ _ ⟨rfl, rfl⟩
  simp only [go_sem, Nat.reduceBEq, Nat.reduceAdd, Nat.reduceMul, Nat.reduceSub, Nat.reduceLeDiff, Nat.le_refl, implies_true, Nat.reduceLT, reduceIte, decide_true, decide_false, true_and, and_true, reduceCtorEq, Nat.mul_one, Int.reduceToNat, Int.reduceLE, Int.reduceLT, Int.reduceAdd, Int.reduceSub, Int.reduceMul, Int.cast_ofNat_Int, cast_zero_int, cast_one_int, Nat.reducePow, Nat.reduceEqDiff, Nat.reduceMod, Nat.zero_add, Nat.sub_zero, Nat.add_zero]
  by_cases h1 : x < y
  · simp only [go_sem, Nat.reduceBEq, Nat.reduceAdd, Nat.reduceMul, Nat.reduceSub, Nat.reduceLeDiff, Nat.le_refl, implies_true, Nat.reduceLT, reduceIte, decide_true, decide_false, true_and, and_true, reduceCtorEq, Nat.mul_one, Int.reduceToNat, Int.reduceLE, Int.reduceLT, Int.reduceAdd, Int.reduceSub, Int.reduceMul, Int.cast_ofNat_Int, cast_zero_int, cast_one_int, Nat.reducePow, Nat.reduceEqDiff, Nat.reduceMod, Nat.zero_add, Nat.sub_zero, Nat.add_zero, h1]
  · by_cases h2 : y < x
    · simp only [go_sem, Nat.reduceBEq, Nat.reduceAdd, Nat.reduceMul, Nat.reduceSub, Nat.reduceLeDiff, Nat.le_refl, implies_true, Nat.reduceLT, reduceIte, decide_true, decide_false, true_and, and_true, reduceCtorEq, Nat.mul_one, Int.reduceToNat, Int.reduceLE, Int.reduceLT, Int.reduceAdd, Int.reduceSub, Int.reduceMul, Int.cast_ofNat_Int, cast_zero_int, cast_one_int, Nat.reducePow, Nat.reduceEqDiff, Nat.reduceMod, Nat.zero_add, Nat.sub_zero, Nat.add_zero, h1, h2]
    · simp only [go_sem, Nat.reduceBEq, Nat.reduceAdd, Nat.reduceMul, Nat.reduceSub, Nat.reduceLeDiff, Nat.le_refl, implies_true, Nat.reduceLT, reduceIte, decide_true, decide_false, true_and, and_true, reduceCtorEq, Nat.mul_one, Int.reduceToNat, Int.reduceLE, Int.reduceLT, Int.reduceAdd, Int.reduceSub, Int.reduceMul, Int.cast_ofNat_Int, cast_zero_int, cast_one_int, Nat.reducePow, Nat.reduceEqDiff, Nat.reduceMod, Nat.zero_add, Nat.sub_zero, Nat.add_zero, h1, h2]

theorem c_sCompare {n m : Nat} (v w : Value) (a b : List Int) (s : AI n h v a) (s' : AI m h w b) (hmax : a.length ≤ 1048576) (hmax' : b.length ≤ 1048576) :
    vCall [] Try.prog M 105 [v, w] h (fun r h' => r = .int .i64 (cmpL a b) ∧ h = h') := by
  obtain ⟨p, rfl⟩ := s.len
  obtain ⟨q, rfl⟩ := s'.len
  refine body_of mo Try.func105 rfl (by kernel_rfl) (Nat.le_of_ble_eq_true (by kernel_rfl)) rfl ?_
  simp only [go_sem, Nat.reduceBEq, Nat.reduceAdd, Nat.reduceMul, Nat.reduceSub, Nat.reduceLeDiff, Nat.le_refl, implies_true, Nat.reduceLT, reduceIte, decide_true, decide_false, true_and, and_true, reduceCtorEq, Nat.mul_one, Int.reduceToNat, Int.reduceLE, Int.reduceLT, Int.reduceAdd, Int.reduceSub, Int.reduceMul, Int.cast_ofNat_Int, cast_zero_int, cast_one_int, Nat.reducePow, Nat.reduceEqDiff, Nat.reduceMod, Nat.zero_add, Nat.sub_zero, Nat.add_zero]
  refine vLoop.count mo a.length (fun i e h' => Regs e [(0, .slice p a.length 0), (1, .slice q b.length 0), (9, .slice p a.length 0), (10, .int .i64 a.length), (11, .int .i64 i)] ∧ HeapIs h' h ∧ i ≤ b.length ∧
    ∀ (j : Nat) (h1 : j < a.length) (h2 : j < b.length), j < i → a[j] = b[j]) ?_ ?_
  · exact ⟨⟨rfl, rfl, rfl, rfl, rfl, trivial⟩, .rfl, by omega, fun j _ _ hj => absurd hj (by omega)⟩
  · rintro i e H hi ⟨⟨e0, e1, e9, e10, e11, _⟩, rfl, hib, hsame⟩
    have hd := cmpL_drop hi hib hsame
    simp only [go_sem, Nat.reduceBEq, Nat.reduceAdd, Nat.reduceMul, Nat.reduceSub, Nat.reduceLeDiff, Nat.le_refl, implies_true, Nat.reduceLT, reduceIte, decide_true, decide_false, true_and, and_true, reduceCtorEq, Nat.mul_one, Int.reduceToNat, Int.reduceLE, Int.reduceLT, Int.reduceAdd, Int.reduceSub, Int.reduceMul, Int.cast_ofNat_Int, cast_zero_int, cast_one_int, Nat.reducePow, Nat.reduceEqDiff, Nat.reduceMod, Nat.zero_add, Nat.sub_zero, Nat.add_zero, e0, e1, e9, e10, e11]
    by_cases hlt : i < a.length
    · have ws := wsucc hlt (by omega)
      have hz : (i : Int) < a.length := by omega
      obtain ⟨id, o, k, hv, _, _, hk, hkd, _, _, _, hat⟩ := s.at (Nat.zero_lt_of_lt hlt)
      obtain rfl : p = some ⟨id, o, none⟩ := by simpa using hv
      simp only [go_sem, Nat.reduceBEq, Nat.reduceAdd, Nat.reduceMul, Nat.reduceSub, Nat.reduceLeDiff, Nat.le_refl, implies_true, Nat.reduceLT, reduceIte, decide_true, decide_false, true_and, and_true, reduceCtorEq, Nat.mul_one, Int.reduceToNat, Int.reduceLE, Int.reduceLT, Int.reduceAdd, Int.reduceSub, Int.reduceMul, Int.cast_ofNat_Int, cast_zero_int, cast_one_int, Nat.reducePow, Nat.reduceEqDiff, Nat.reduceMod, Nat.zero_add, Nat.sub_zero, Nat.add_zero, e0, e1, e9, e10, e11, hz, hk, hkd, hat i hlt]
      by_cases h2 : i < b.length
      · obtain ⟨id2, o2, k2, hv2, _, _, hk2, hkd2, _, _, _, hat2⟩ := s'.at (Nat.zero_lt_of_lt h2)
        obtain rfl : q = some ⟨id2, o2, none⟩ := by simpa using hv2
        have hz2 : (i : Int) < b.length := by omega
        rw [List.drop_eq_getElem_cons hlt, List.drop_eq_getElem_cons h2] at hd
        simp only [go_sem, Nat.reduceBEq, Nat.reduceAdd, Nat.reduceMul, Nat.reduceSub, Nat.reduceLeDiff, Nat.le_refl, implies_true, Nat.reduceLT, reduceIte, decide_true, decide_false, true_and, and_true, reduceCtorEq, Nat.mul_one, Int.reduceToNat, Int.reduceLE, Int.reduceLT, Int.reduceAdd, Int.reduceSub, Int.reduceMul, Int.cast_ofNat_Int, cast_zero_int, cast_one_int, Nat.reducePow, Nat.reduceEqDiff, Nat.reduceMod, Nat.zero_add, Nat.sub_zero, Nat.add_zero, e0, e1, e9, e10, e11, hz2, show ¬ ((b.length : Int) ≤ i) by omega, hk2, hkd2, hat2 i h2]
        refine ⟨by kernel_rfl, (c_Compare _ _).use (fun _ m => m) ?_⟩
        rintro _ _ ⟨rfl, rfl⟩
        by_cases c1 : a[i] < b[i]
        · simp only [go_sem, Nat.reduceBEq, Nat.reduceAdd, Nat.reduceMul, Nat.reduceSub, Nat.reduceLeDiff, Nat.le_refl, implies_true, Nat.reduceLT, reduceIte, decide_true, decide_false, true_and, and_true, reduceCtorEq, Nat.mul_one, Int.reduceToNat, Int.reduceLE, Int.reduceLT, Int.reduceAdd, Int.reduceSub, Int.reduceMul, Int.cast_ofNat_Int, cast_zero_int, cast_one_int, Nat.reducePow, Nat.reduceEqDiff, Nat.reduceMod, Nat.zero_add, Nat.sub_zero, Nat.add_zero, e0, e1, e9, e10, e11, c1, show ((-1 : Int) != 0) = true by decide]
          rw [hd, cmpL, if_pos c1]
        · by_cases c2 : b[i] < a[i]
          · simp only [go_sem, Nat.reduceBEq, Nat.reduceAdd, Nat.reduceMul, Nat.reduceSub, Nat.reduceLeDiff, Nat.le_refl, implies_true, Nat.reduceLT, reduceIte, decide_true, decide_false, true_and, and_true, reduceCtorEq, Nat.mul_one, Int.reduceToNat, Int.reduceLE, Int.reduceLT, Int.reduceAdd, Int.reduceSub, Int.reduceMul, Int.cast_ofNat_Int, cast_zero_int, cast_one_int, Nat.reducePow, Nat.reduceEqDiff, Nat.reduceMod, Nat.zero_add, Nat.sub_zero, Nat.add_zero, e0, e1, e9, e10, e11, c1, c2, show ((1 : Int) != 0) = true by decide]
            rw [hd, cmpL, if_neg c1, if_pos c2]
          · simp only [go_sem, Nat.reduceBEq, Nat.reduceAdd, Nat.reduceMul, Nat.reduceSub, Nat.reduceLeDiff, Nat.le_refl, implies_true, Nat.reduceLT, reduceIte, decide_true, decide_false, true_and, and_true, reduceCtorEq, Nat.mul_one, Int.reduceToNat, Int.reduceLE, Int.reduceLT, Int.reduceAdd, Int.reduceSub, Int.reduceMul, Int.cast_ofNat_Int, cast_zero_int, cast_one_int, Nat.reducePow, Nat.reduceEqDiff, Nat.reduceMod, Nat.zero_add, Nat.sub_zero, Nat.add_zero, e0, e1, e9, e10, e11, c1, c2]
            refine ⟨hlt, ⟨e0, e1, e9, e10, congrArg _ ws, trivial⟩, .rfl, by omega, fun j h1 h2 hj => ?_⟩
            by_cases hji : j < i
            · exact hsame j h1 h2 hji
            · obtain rfl : j = i := by omega
              omega
      · simp only [go_sem, Nat.reduceBEq, Nat.reduceAdd, Nat.reduceMul, Nat.reduceSub, Nat.reduceLeDiff, Nat.le_refl, implies_true, Nat.reduceLT, reduceIte, decide_true, decide_false, true_and, and_true, reduceCtorEq, Nat.mul_one, Int.reduceToNat, Int.reduceLE, Int.reduceLT, Int.reduceAdd, Int.reduceSub, Int.reduceMul, Int.cast_ofNat_Int, cast_zero_int, cast_one_int, Nat.reducePow, Nat.reduceEqDiff, Nat.reduceMod, Nat.zero_add, Nat.sub_zero, Nat.add_zero, e0, e1, e9, e10, e11, show (b.length : Int) ≤ i by omega]
        rw [hd, List.drop_eq_getElem_cons hlt, List.drop_of_length_le (show b.length ≤ i by omega)]
        rfl
    · obtain rfl : i = a.length := by omega
      rw [List.drop_length] at hd
      simp only [go_sem, Nat.reduceBEq, Nat.reduceAdd, Nat.reduceMul, Nat.reduceSub, Nat.reduceLeDiff, Nat.le_refl, implies_true, Nat.reduceLT, reduceIte, decide_true, decide_false, true_and, and_true, reduceCtorEq, Nat.mul_one, Int.reduceToNat, Int.reduceLE, Int.reduceLT, Int.reduceAdd, Int.reduceSub, Int.reduceMul, Int.cast_ofNat_Int, cast_zero_int, cast_one_int, Nat.reducePow, Nat.reduceEqDiff, Nat.reduceMod, Nat.zero_add, Nat.sub_zero, Nat.add_zero, e0, e1, e9, e10, e11, show ¬ ((a.length : Int) < a.length) by omega]
      by_cases h2 : a.length < b.length
      · simp only [go_sem, Nat.reduceBEq, Nat.reduceAdd, Nat.reduceMul, Nat.reduceSub, Nat.reduceLeDiff, Nat.le_refl, implies_true, Nat.reduceLT, reduceIte, decide_true, decide_false, true_and, and_true, reduceCtorEq, Nat.mul_one, Int.reduceToNat, Int.reduceLE, Int.reduceLT, Int.reduceAdd, Int.reduceSub, Int.reduceMul, Int.cast_ofNat_Int, cast_zero_int, cast_one_int, Nat.reducePow, Nat.reduceEqDiff, Nat.reduceMod, Nat.zero_add, Nat.sub_zero, Nat.add_zero, e0, e1, e9, e10, e11, show (a.length : Int) < b.length by omega]
        rw [hd, List.drop_eq_getElem_cons h2]; rfl
      · simp only [go_sem, Nat.reduceBEq, Nat.reduceAdd, Nat.reduceMul, Nat.reduceSub, Nat.reduceLeDiff, Nat.le_refl, implies_true, Nat.reduceLT, reduceIte, decide_true, decide_false, true_and, and_true, reduceCtorEq, Nat.mul_one, Int.reduceToNat, Int.reduceLE, Int.reduceLT, Int.reduceAdd, Int.reduceSub, Int.reduceMul, Int.cast_ofNat_Int, cast_zero_int, cast_one_int, Nat.reducePow, Nat.reduceEqDiff, Nat.reduceMod, Nat.zero_add, Nat.sub_zero, Nat.add_zero, e0, e1, e9, e10, e11, show ¬ ((a.length : Int) < b.length) by omega]
        rw [hd, List.drop_of_length_le (by omega)]; rfl
end

section
variable {h : Heap} {M : Nat → Prop}
set_option maxRecDepth 20000 in
theorem c_OnesCount64 (x : Nat) (hx : x < 1024) : vCall [] Try.prog M 118 [.int .u64 x] h (fun r h' => r = .int .i64 (popc x) ∧ h = h') := by
  refine body_of mo Try.func118 rfl (by kernel_rfl) (Nat.le_of_ble_eq_true (by kernel_rfl)) rfl ?_
  simp only [go_sem, Nat.reduceBEq, Nat.reduceAdd, Nat.reduceMul, Nat.reduceSub, Nat.reduceLeDiff, Nat.le_refl, implies_true, Nat.reduceLT, reduceIte, decide_true, decide_false, true_and, and_true, reduceCtorEq, Nat.mul_one, Int.reduceToNat, Int.reduceLE, Int.reduceLT, Int.reduceAdd, Int.reduceSub, Int.reduceMul, Int.cast_ofNat_Int, cast_zero_int, cast_one_int, Nat.reducePow, Nat.reduceEqDiff, Nat.reduceMod, Nat.zero_add, Nat.sub_zero, Nat.add_zero, hBin_shr]
  refine congrArg (Value.int .i64) ?_
  revert x
  decide +kernel
theorem c_OnesCount (x : Nat) (hx : x < 1024) : vCall [] Try.prog M 104 [.int .u64 x] h (fun r h' => r = .int .i64 (popc x) ∧ h = h') := by
  refine body_of mo Try.func104 rfl (by kernel_rfl) (Nat.le_of_ble_eq_true (by kernel_rfl)) rfl ?_
  simp only [go_sem, Nat.reduceBEq, Nat.reduceAdd, Nat.reduceMul, Nat.reduceSub, Nat.reduceLeDiff, Nat.le_refl, implies_true, Nat.reduceLT, reduceIte, decide_true, decide_false, true_and, and_true, reduceCtorEq, Nat.mul_one, Int.reduceToNat, Int.reduceLE, Int.reduceLT, Int.reduceAdd, Int.reduceSub, Int.reduceMul, Int.cast_ofNat_Int, cast_zero_int, cast_one_int, Nat.reducePow, Nat.reduceEqDiff, Nat.reduceMod, Nat.zero_add, Nat.sub_zero, Nat.add_zero]
  refine ⟨by kernel_rfl, (c_OnesCount64 x hx).use (fun _ m => m) ?_⟩
  rintro _ _ ⟨rfl, rfl⟩
  simp only [go_sem, Nat.reduceBEq, Nat.reduceAdd, Nat.reduceMul, Nat.reduceSub, Nat.reduceLeDiff, Nat.le_refl, implies_true, Nat.reduceLT, reduceIte, decide_true, decide_false, true_and, and_true, reduceCtorEq, Nat.mul_one, Int.reduceToNat, Int.reduceLE, Int.reduceLT, Int.reduceAdd, Int.reduceSub, Int.reduceMul, Int.cast_ofNat_Int, cast_zero_int, cast_one_int, Nat.reducePow, Nat.reduceEqDiff, Nat.reduceMod, Nat.zero_add, Nat.sub_zero, Nat.add_zero]
end
end Go.Proofs.Ytjgekhahklidcaa
