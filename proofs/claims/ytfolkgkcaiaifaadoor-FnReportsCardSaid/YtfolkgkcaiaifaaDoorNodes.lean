
/- The text of a list of nodes: what both programs say. No condition. -/
import Derived.Test.YtfolkgkcaiaifaaDoorInts
import Derived.Test.YtfolkgkcaiaifaaDoorNum
import Derived.Test.YtfolkgkcaiaifaaDoorJoinS
import Derived.Test.YtfolkgkcaiaifaaDoorH3
namespace Go.Proofs.YtfolkgkcaiaifaaDoor
open Go.HH
set_option linter.unusedSimpArgs false
set_option linter.unusedVariables false

/-- Rising numbers within bounds. -/
def riseAt (l : List Int) (lo hi : Int) (i : Nat) : Prop := (lo ≤ l.getD i 0 ∧ l.getD i 0 ≤ hi) ∧ (0 < i → l.getD (i - 1) 0 < l.getD i 0)
def rising (l : List Int) (lo hi : Int) : Prop := ∀ i, i < l.length → riseAt l lo hi i
instance (l : List Int) (lo hi : Int) (i : Nat) : Decidable (riseAt l lo hi i) := by unfold riseAt; infer_instance
instance (l : List Int) (lo hi : Int) : Decidable (rising l lo hi) := by unfold rising; infer_instance
theorem rising_len {l : List Int} (g : rising l 1 8) : l.length ≤ 8 := by
  have key : ∀ i, i < l.length → (i : Int) + 1 ≤ l.getD i 0 := by
    intro i
    induction i with
    | zero => intro hi; have := (g 0 hi).1; omega
    | succ i ih =>
      intro hi
      have h1 := ih (by omega)
      have h2 := (g (i + 1) hi).2 (by omega)
      rw [Nat.add_sub_cancel] at h2
      omega
  rcases Nat.lt_or_ge 8 l.length with h | h
  · have h1 := key (l.length - 1) (by omega)
    have h2 := (g (l.length - 1) (by omega)).1
    omega
  · exact h
theorem rising_at {l : List Int} (g : rising l 1 8) {i : Nat} (hi : i < l.length) : 1 ≤ l[i] ∧ l[i] ≤ 8 := by
  have := (g i hi).1
  rwa [getD_of hi] at this

/-- A number's text, and the text of the list. -/
def numI (x : Int) : ByteArray := num x.toNat
theorem numI_size {x : Int} (h : x ≤ 8) : (numI x).size ≤ 10 := num_less (by omega)
def nNo : ByteArray := ⟨#[110, 111, 32, 110, 111, 100, 101]⟩
def nOne : ByteArray := ⟨#[110, 111, 100, 101, 32]⟩
def nMany : ByteArray := ⟨#[110, 111, 100, 101, 115, 32]⟩
def nSep : ByteArray := ⟨#[44, 32]⟩
def nAnd : ByteArray := ⟨#[32, 97, 110, 100, 32]⟩
def nodesS (l : List Int) : ByteArray :=
  if l.length = 0 then nNo else if l.length = 1 then nOne ++ numI (l.getD 0 0)
  else nMany ++ joinB ((l.take (l.length - 1)).map numI) nSep ++ nAnd ++ numI (l.getD (l.length - 1) 0)
def nodeV (l : List Int) : Value := if rising l 1 8 then .tuple #[.string (nodesS l), .bool true] else .tuple #[.string ⟨#[]⟩, .bool false]
theorem n_add {a b : ByteArray} {n m : Nat} (h1 : a.size ≤ n) (h2 : b.size ≤ m) (h : n + m ≤ 9223372036854775807) : hBin .add (.string a) (.string b) = some (.string (a ++ b)) := hBin_sadd (by omega)
theorem n_size {a b : ByteArray} {n m : Nat} (h1 : a.size ≤ n) (h2 : b.size ≤ m) : (a ++ b).size ≤ n + m := by rw [ByteArray.size_append]; omega
theorem nums_size {l : List Int} (g : rising l 1 8) (i : Nat) : (joinB ((l.take i).map numI) nSep).size ≤ 200 := by
  have h1 := joinB_size (sep := nSep) (k := 10) (xs := (l.take i).map numI) (fun x hx => by
    obtain ⟨y, hy, rfl⟩ := List.mem_map.1 hx
    obtain ⟨j, hj, rfl⟩ := List.getElem_of_mem (List.mem_of_mem_take hy)
    exact numI_size (rising_at g hj).2)
  have h2 := rising_len g
  rw [List.length_map] at h1
  have h3 : (l.take i).length * (10 + nSep.size) ≤ 8 * (10 + nSep.size) := Nat.mul_le_mul_right _ (by rw [List.length_take]; omega)
  have h4 : nSep.size = 2 := rfl
  omega

theorem new_endN {u : Heap} {K b : Blk} {j n : Nat} (hn : n = u.length) : (u.set j b ++ [K])[n]? = some K := by
  subst hn
  rw [List.getElem?_append_right (by simp), List.length_set, Nat.sub_self]; rfl
section
variable {h : Heap} {M : Nat → Prop}
theorem c_ItoaI (x : Int) (hx : 1 ≤ x ∧ x ≤ 8) : vCall [] Tryd.prog M 61 [.int .i64 x] h (fun r h' => r = .string (numI x) ∧ h = h') := by
  obtain ⟨n, rfl⟩ := Int.eq_ofNat_of_zero_le (show 0 ≤ x by omega)
  exact c_Itoa n (by omega)
theorem c_l1NumI (x : Int) (hx : 1 ≤ x ∧ x ≤ 8) : vCall [] Tryd.prog M 63 [.int .i64 x] h (fun r h' => r = .string (numI x) ∧ h = h') := by
  obtain ⟨n, rfl⟩ := Int.eq_ofNat_of_zero_le (show 0 ≤ x by omega)
  exact c_l1Num n (by omega)

theorem c_ascending {n : Nat} (v : Value) (l : List Int) (lo up : Int) (s : AI n h v l) (hmax : l.length ≤ 1048576) : vCall [] Tryd.prog M 54 [v, .int .i64 lo, .int .i64 up] h (fun r h' => r = .bool (decide (rising l lo up)) ∧ h = h') := by
  obtain ⟨a, rfl⟩ := s.len
  refine body_of mo Tryd.func54 rfl (by kernel_rfl) (Nat.le_of_ble_eq_true (by kernel_rfl)) rfl ?_
  simp only [go_sem, Nat.reduceBEq, Nat.reduceAdd, Nat.reduceMul, Nat.reduceSub, Nat.reduceLeDiff, Nat.le_refl, implies_true, Nat.reduceLT, reduceIte, decide_true, decide_false, true_and, and_true, reduceCtorEq, Nat.mul_one, Int.reduceToNat, Int.reduceLE, Int.reduceLT, Int.reduceAdd, Int.reduceSub, Int.reduceMul, Int.cast_ofNat_Int, cast_zero_int, cast_one_int, Nat.reducePow, Nat.reduceEqDiff, Nat.reduceMod, Nat.zero_add, Nat.sub_zero, Nat.add_zero]
  refine vLoop.count mo l.length (fun i e h' => e 0 = .slice a l.length 0 ∧ e 1 = .int .i64 lo ∧ e 2 = .int .i64 up ∧ e 9 = .slice a l.length 0 ∧ e 10 = .int .i64 l.length ∧ e 11 = .int .i64 i ∧ HeapIs h h' ∧ ∀ j, j < i → riseAt l lo up j) ?_ ?_
  · exact ⟨rfl, rfl, rfl, rfl, rfl, rfl, HeapIs.rfl, fun j hj => absurd hj (by omega)⟩
  · rintro i e _ hi ⟨e0, e1, e2, e9, e10, e11, hh, hj⟩
    cases hh
    simp only [go_sem, Nat.reduceBEq, Nat.reduceAdd, Nat.reduceMul, Nat.reduceSub, Nat.reduceLeDiff, Nat.le_refl, implies_true, Nat.reduceLT, reduceIte, decide_true, decide_false, true_and, and_true, reduceCtorEq, Nat.mul_one, Int.reduceToNat, Int.reduceLE, Int.reduceLT, Int.reduceAdd, Int.reduceSub, Int.reduceMul, Int.cast_ofNat_Int, cast_zero_int, cast_one_int, Nat.reducePow, Nat.reduceEqDiff, Nat.reduceMod, Nat.zero_add, Nat.sub_zero, Nat.add_zero, e0, e1, e2, e9, e10, e11]
    refine .intro (fun h1 => ?_) (fun h1 => ?_)
    · have hlt : i < l.length := by simpa using h1
      obtain ⟨id, off, k, hv, _, _, hk, hd, _, _, _, hat⟩ := s.at (Nat.zero_lt_of_lt hlt)
      obtain rfl : a = some ⟨id, off, none⟩ := by simpa using hv
      have hz : (i : Int) < l.length := by omega
      simp only [go_sem, Nat.reduceBEq, Nat.reduceAdd, Nat.reduceMul, Nat.reduceSub, Nat.reduceLeDiff, Nat.le_refl, implies_true, Nat.reduceLT, reduceIte, decide_true, decide_false, true_and, and_true, reduceCtorEq, Nat.mul_one, Int.reduceToNat, Int.reduceLE, Int.reduceLT, Int.reduceAdd, Int.reduceSub, Int.reduceMul, Int.cast_ofNat_Int, cast_zero_int, cast_one_int, Nat.reducePow, Nat.reduceEqDiff, Nat.reduceMod, Nat.zero_add, Nat.sub_zero, Nat.add_zero, e0, e1, e2, e9, e10, e11, hk, hat i hlt, hz, hd]
      refine ⟨by kernel_rfl, (c_inside _ _ _).use (fun _ m => m) ?_⟩
      rintro _ _ ⟨rfl, rfl⟩
      by_cases g1 : lo ≤ l[i] ∧ l[i] ≤ up
      · by_cases g2 : 0 < i
        · have hp : i - 1 < l.length := by omega
          have q1 : (0 : Int) < i := by omega
          have q2 : IntKind.i64.wrap ((i : Int) - 1) = ((i - 1 : Nat) : Int) := by rw [wrap64 (by omega)]; omega
          have q3 : ((i - 1 : Nat) : Int) < l.length := by omega
          simp only [go_sem, Nat.reduceBEq, Nat.reduceAdd, Nat.reduceMul, Nat.reduceSub, Nat.reduceLeDiff, Nat.le_refl, implies_true, Nat.reduceLT, reduceIte, decide_true, decide_false, true_and, and_true, reduceCtorEq, Nat.mul_one, Int.reduceToNat, Int.reduceLE, Int.reduceLT, Int.reduceAdd, Int.reduceSub, Int.reduceMul, Int.cast_ofNat_Int, cast_zero_int, cast_one_int, Nat.reducePow, Nat.reduceEqDiff, Nat.reduceMod, Nat.zero_add, Nat.sub_zero, Nat.add_zero, e0, e1, e2, e9, e10, e11, hk, hat i hlt, hz, hd, decb g1, q1, q2, q3, hat (i - 1) hp]
          by_cases g3 : l[i] ≤ l[i - 1]
          · simp only [go_sem, Nat.reduceBEq, Nat.reduceAdd, Nat.reduceMul, Nat.reduceSub, Nat.reduceLeDiff, Nat.le_refl, implies_true, Nat.reduceLT, reduceIte, decide_true, decide_false, true_and, and_true, reduceCtorEq, Nat.mul_one, Int.reduceToNat, Int.reduceLE, Int.reduceLT, Int.reduceAdd, Int.reduceSub, Int.reduceMul, Int.cast_ofNat_Int, cast_zero_int, cast_one_int, Nat.reducePow, Nat.reduceEqDiff, Nat.reduceMod, Nat.zero_add, Nat.sub_zero, Nat.add_zero, e0, e1, e2, e9, e10, e11, g3]
            exact congrArg Value.bool (decide_eq_false (fun hh : rising l lo up => by
              have := (hh i hlt).2 g2
              rw [getD_of hlt, getD_of hp] at this
              omega)).symm
          · simp only [go_sem, Nat.reduceBEq, Nat.reduceAdd, Nat.reduceMul, Nat.reduceSub, Nat.reduceLeDiff, Nat.le_refl, implies_true, Nat.reduceLT, reduceIte, decide_true, decide_false, true_and, and_true, reduceCtorEq, Nat.mul_one, Int.reduceToNat, Int.reduceLE, Int.reduceLT, Int.reduceAdd, Int.reduceSub, Int.reduceMul, Int.cast_ofNat_Int, cast_zero_int, cast_one_int, Nat.reducePow, Nat.reduceEqDiff, Nat.reduceMod, Nat.zero_add, Nat.sub_zero, Nat.add_zero, e0, e1, e2, e9, e10, e11, g3]
            refine ⟨hlt, by rw [wrap64 (by omega)]; rfl, HeapIs.rfl, fun j hji => ?_⟩
            rcases Nat.lt_succ_iff_lt_or_eq.1 hji with h2 | rfl
            · exact hj j h2
            · exact ⟨by rw [getD_of hlt]; exact g1, fun _ => by rw [getD_of hlt, getD_of hp]; omega⟩
        · simp only [go_sem, Nat.reduceBEq, Nat.reduceAdd, Nat.reduceMul, Nat.reduceSub, Nat.reduceLeDiff, Nat.le_refl, implies_true, Nat.reduceLT, reduceIte, decide_true, decide_false, true_and, and_true, reduceCtorEq, Nat.mul_one, Int.reduceToNat, Int.reduceLE, Int.reduceLT, Int.reduceAdd, Int.reduceSub, Int.reduceMul, Int.cast_ofNat_Int, cast_zero_int, cast_one_int, Nat.reducePow, Nat.reduceEqDiff, Nat.reduceMod, Nat.zero_add, Nat.sub_zero, Nat.add_zero, e0, e1, e2, e9, e10, e11, hk, hat i hlt, hz, hd, decb g1, show ¬ ((0 : Int) < i) by omega]
          refine ⟨hlt, by rw [wrap64 (by omega)]; rfl, HeapIs.rfl, fun j hji => ?_⟩
          rcases Nat.lt_succ_iff_lt_or_eq.1 hji with h2 | rfl
          · exact hj j h2
          · exact ⟨by rw [getD_of hlt]; exact g1, fun h0 => absurd h0 g2⟩
      · simp only [go_sem, Nat.reduceBEq, Nat.reduceAdd, Nat.reduceMul, Nat.reduceSub, Nat.reduceLeDiff, Nat.le_refl, implies_true, Nat.reduceLT, reduceIte, decide_true, decide_false, true_and, and_true, reduceCtorEq, Nat.mul_one, Int.reduceToNat, Int.reduceLE, Int.reduceLT, Int.reduceAdd, Int.reduceSub, Int.reduceMul, Int.cast_ofNat_Int, cast_zero_int, cast_one_int, Nat.reducePow, Nat.reduceEqDiff, Nat.reduceMod, Nat.zero_add, Nat.sub_zero, Nat.add_zero, e0, e1, e2, e9, e10, e11, dect g1]
        exact congrArg Value.bool (decide_eq_false (fun hh : rising l lo up => g1 (by have := (hh i hlt).1; rwa [getD_of hlt] at this))).symm
    · simp only [go_sem, Nat.reduceBEq, Nat.reduceAdd, Nat.reduceMul, Nat.reduceSub, Nat.reduceLeDiff, Nat.le_refl, implies_true, Nat.reduceLT, reduceIte, decide_true, decide_false, true_and, and_true, reduceCtorEq, Nat.mul_one, Int.reduceToNat, Int.reduceLE, Int.reduceLT, Int.reduceAdd, Int.reduceSub, Int.reduceMul, Int.cast_ofNat_Int, cast_zero_int, cast_one_int, Nat.reducePow, Nat.reduceEqDiff, Nat.reduceMod, Nat.zero_add, Nat.sub_zero, Nat.add_zero, e0, e1, e2, e9, e10, e11]
      obtain rfl : i = l.length := by have : ¬ i < l.length := by simpa using h1
                                      omega
      exact congrArg Value.bool (decide_eq_true (show rising l lo up from hj)).symm

theorem c_l1Rising {n : Nat} (v : Value) (l : List Int) (lo up : Int) (s : AI n h v l) (hmax : l.length ≤ 1048576) : vCall [] Tryd.prog M 56 [v, .int .i64 lo, .int .i64 up] h (fun r h' => r = .bool (decide (rising l lo up)) ∧ h = h') := by
  obtain ⟨a, rfl⟩ := s.len
  refine body_of mo Tryd.func56 rfl (by kernel_rfl) (Nat.le_of_ble_eq_true (by kernel_rfl)) rfl ?_
  simp only [go_sem, Nat.reduceBEq, Nat.reduceAdd, Nat.reduceMul, Nat.reduceSub, Nat.reduceLeDiff, Nat.le_refl, implies_true, Nat.reduceLT, reduceIte, decide_true, decide_false, true_and, and_true, reduceCtorEq, Nat.mul_one, Int.reduceToNat, Int.reduceLE, Int.reduceLT, Int.reduceAdd, Int.reduceSub, Int.reduceMul, Int.cast_ofNat_Int, cast_zero_int, cast_one_int, Nat.reducePow, Nat.reduceEqDiff, Nat.reduceMod, Nat.zero_add, Nat.sub_zero, Nat.add_zero]
  refine vLoop.count mo l.length (fun i e h' => e 0 = .slice a l.length 0 ∧ e 1 = .int .i64 lo ∧ e 2 = .int .i64 up ∧ e 7 = .int .i64 i ∧ HeapIs h h' ∧ ∀ j, j < i → riseAt l lo up j) ?_ ?_
  · exact ⟨rfl, rfl, rfl, rfl, HeapIs.rfl, fun j hj => absurd hj (by omega)⟩
  · rintro i e _ hi ⟨e0, e1, e2, e7, hh, hj⟩
    cases hh
    simp only [go_sem, Nat.reduceBEq, Nat.reduceAdd, Nat.reduceMul, Nat.reduceSub, Nat.reduceLeDiff, Nat.le_refl, implies_true, Nat.reduceLT, reduceIte, decide_true, decide_false, true_and, and_true, reduceCtorEq, Nat.mul_one, Int.reduceToNat, Int.reduceLE, Int.reduceLT, Int.reduceAdd, Int.reduceSub, Int.reduceMul, Int.cast_ofNat_Int, cast_zero_int, cast_one_int, Nat.reducePow, Nat.reduceEqDiff, Nat.reduceMod, Nat.zero_add, Nat.sub_zero, Nat.add_zero, e0, e1, e2, e7]
    refine .intro (fun h1 => ?_) (fun h1 => ?_)
    · have hlt : i < l.length := by simpa using h1
      obtain ⟨id, off, k, hv, _, _, hk, hd, _, _, _, hat⟩ := s.at (Nat.zero_lt_of_lt hlt)
      obtain rfl : a = some ⟨id, off, none⟩ := by simpa using hv
      have hz : (i : Int) < l.length := by omega
      simp only [go_sem, Nat.reduceBEq, Nat.reduceAdd, Nat.reduceMul, Nat.reduceSub, Nat.reduceLeDiff, Nat.le_refl, implies_true, Nat.reduceLT, reduceIte, decide_true, decide_false, true_and, and_true, reduceCtorEq, Nat.mul_one, Int.reduceToNat, Int.reduceLE, Int.reduceLT, Int.reduceAdd, Int.reduceSub, Int.reduceMul, Int.cast_ofNat_Int, cast_zero_int, cast_one_int, Nat.reducePow, Nat.reduceEqDiff, Nat.reduceMod, Nat.zero_add, Nat.sub_zero, Nat.add_zero, e0, e1, e2, e7, hk, hat i hlt, hz, hd, List.prefix_rfl]
      refine ⟨by kernel_rfl, (c_l1In _ _ _).use (fun _ m => m) ?_⟩
      rintro _ _ ⟨rfl, rfl⟩
      by_cases g1 : lo ≤ l[i] ∧ l[i] ≤ up
      · by_cases g2 : 0 < i
        · have hp : i - 1 < l.length := by omega
          have q1 : (0 : Int) < i := by omega
          have q2 : IntKind.i64.wrap ((i : Int) - 1) = ((i - 1 : Nat) : Int) := by rw [wrap64 (by omega)]; omega
          have q3 : ((i - 1 : Nat) : Int) < l.length := by omega
          simp only [go_sem, Nat.reduceBEq, Nat.reduceAdd, Nat.reduceMul, Nat.reduceSub, Nat.reduceLeDiff, Nat.le_refl, implies_true, Nat.reduceLT, reduceIte, decide_true, decide_false, true_and, and_true, reduceCtorEq, Nat.mul_one, Int.reduceToNat, Int.reduceLE, Int.reduceLT, Int.reduceAdd, Int.reduceSub, Int.reduceMul, Int.cast_ofNat_Int, cast_zero_int, cast_one_int, Nat.reducePow, Nat.reduceEqDiff, Nat.reduceMod, Nat.zero_add, Nat.sub_zero, Nat.add_zero, e0, e1, e2, e7, hk, hat i hlt, hz, hd, decb g1, q1, q2, q3, hat (i - 1) hp, List.prefix_rfl]
          by_cases g3 : l[i] ≤ l[i - 1]
          · simp only [go_sem, Nat.reduceBEq, Nat.reduceAdd, Nat.reduceMul, Nat.reduceSub, Nat.reduceLeDiff, Nat.le_refl, implies_true, Nat.reduceLT, reduceIte, decide_true, decide_false, true_and, and_true, reduceCtorEq, Nat.mul_one, Int.reduceToNat, Int.reduceLE, Int.reduceLT, Int.reduceAdd, Int.reduceSub, Int.reduceMul, Int.cast_ofNat_Int, cast_zero_int, cast_one_int, Nat.reducePow, Nat.reduceEqDiff, Nat.reduceMod, Nat.zero_add, Nat.sub_zero, Nat.add_zero, e0, e1, e2, e7, g3]
            exact congrArg Value.bool (decide_eq_false (fun hh : rising l lo up => by
              have := (hh i hlt).2 g2
              rw [getD_of hlt, getD_of hp] at this
              omega)).symm
          · simp only [go_sem, Nat.reduceBEq, Nat.reduceAdd, Nat.reduceMul, Nat.reduceSub, Nat.reduceLeDiff, Nat.le_refl, implies_true, Nat.reduceLT, reduceIte, decide_true, decide_false, true_and, and_true, reduceCtorEq, Nat.mul_one, Int.reduceToNat, Int.reduceLE, Int.reduceLT, Int.reduceAdd, Int.reduceSub, Int.reduceMul, Int.cast_ofNat_Int, cast_zero_int, cast_one_int, Nat.reducePow, Nat.reduceEqDiff, Nat.reduceMod, Nat.zero_add, Nat.sub_zero, Nat.add_zero, e0, e1, e2, e7, g3]
            refine ⟨hlt, by rw [wrap64 (by omega)]; rfl, HeapIs.rfl, fun j hji => ?_⟩
            rcases Nat.lt_succ_iff_lt_or_eq.1 hji with h2 | rfl
            · exact hj j h2
            · exact ⟨by rw [getD_of hlt]; exact g1, fun _ => by rw [getD_of hlt, getD_of hp]; omega⟩
        · simp only [go_sem, Nat.reduceBEq, Nat.reduceAdd, Nat.reduceMul, Nat.reduceSub, Nat.reduceLeDiff, Nat.le_refl, implies_true, Nat.reduceLT, reduceIte, decide_true, decide_false, true_and, and_true, reduceCtorEq, Nat.mul_one, Int.reduceToNat, Int.reduceLE, Int.reduceLT, Int.reduceAdd, Int.reduceSub, Int.reduceMul, Int.cast_ofNat_Int, cast_zero_int, cast_one_int, Nat.reducePow, Nat.reduceEqDiff, Nat.reduceMod, Nat.zero_add, Nat.sub_zero, Nat.add_zero, e0, e1, e2, e7, hk, hat i hlt, hz, hd, decb g1, show ¬ ((0 : Int) < i) by omega, List.prefix_rfl]
          refine ⟨hlt, by rw [wrap64 (by omega)]; rfl, HeapIs.rfl, fun j hji => ?_⟩
          rcases Nat.lt_succ_iff_lt_or_eq.1 hji with h2 | rfl
          · exact hj j h2
          · exact ⟨by rw [getD_of hlt]; exact g1, fun h0 => absurd h0 g2⟩
      · simp only [go_sem, Nat.reduceBEq, Nat.reduceAdd, Nat.reduceMul, Nat.reduceSub, Nat.reduceLeDiff, Nat.le_refl, implies_true, Nat.reduceLT, reduceIte, decide_true, decide_false, true_and, and_true, reduceCtorEq, Nat.mul_one, Int.reduceToNat, Int.reduceLE, Int.reduceLT, Int.reduceAdd, Int.reduceSub, Int.reduceMul, Int.cast_ofNat_Int, cast_zero_int, cast_one_int, Nat.reducePow, Nat.reduceEqDiff, Nat.reduceMod, Nat.zero_add, Nat.sub_zero, Nat.add_zero, e0, e1, e2, e7, dect g1, List.prefix_rfl]
        exact congrArg Value.bool (decide_eq_false (fun hh : rising l lo up => g1 (by have := (hh i hlt).1; rwa [getD_of hlt] at this))).symm
    · simp only [go_sem, Nat.reduceBEq, Nat.reduceAdd, Nat.reduceMul, Nat.reduceSub, Nat.reduceLeDiff, Nat.le_refl, implies_true, Nat.reduceLT, reduceIte, decide_true, decide_false, true_and, and_true, reduceCtorEq, Nat.mul_one, Int.reduceToNat, Int.reduceLE, Int.reduceLT, Int.reduceAdd, Int.reduceSub, Int.reduceMul, Int.cast_ofNat_Int, cast_zero_int, cast_one_int, Nat.reducePow, Nat.reduceEqDiff, Nat.reduceMod, Nat.zero_add, Nat.sub_zero, Nat.add_zero, e0, e1, e2, e7]
      obtain rfl : i = l.length := by have : ¬ i < l.length := by simpa using h1
                                      omega
      exact congrArg Value.bool (decide_eq_true (show rising l lo up from hj)).symm

theorem nodes_last {l : List Int} (h2 : 2 ≤ l.length) : (l.map numI).take (l.length - 1) = (l.take (l.length - 1)).map numI := List.map_take.symm

theorem c_nodeList (v : Value) (l : List Int) (s : SI h v l) (g : rising l 1 8) : vCall [] Tryd.prog M 55 [v] h (fun r h' => r = .string (nodesS l) ∧ h <+: h') := by
  have hlen := rising_len g
  obtain ⟨a, rfl⟩ := AI.len s
  refine body_of mo Tryd.func55 rfl (by kernel_rfl) (Nat.le_of_ble_eq_true (by kernel_rfl)) rfl ?_
  simp only [go_sem, Nat.reduceBEq, Nat.reduceAdd, Nat.reduceMul, Nat.reduceSub, Nat.reduceLeDiff, Nat.le_refl, implies_true, Nat.reduceLT, reduceIte, decide_true, decide_false, true_and, and_true, reduceCtorEq, Nat.mul_one, Int.reduceToNat, Int.reduceLE, Int.reduceLT, Int.reduceAdd, Int.reduceSub, Int.reduceMul, Int.cast_ofNat_Int, cast_zero_int, cast_one_int, Nat.reducePow, Nat.reduceEqDiff, Nat.reduceMod, Nat.zero_add, Nat.sub_zero, Nat.add_zero]
  refine vLoop.count mo l.length (fun i e h' => ∃ (t : Heap) (j : Nat), e 8 = .slice a l.length 0 ∧ e 9 = .int .i64 l.length ∧ e 10 = .int .i64 i ∧
      e 3 = .slice (some ⟨h.length + j, 0, none⟩) i 0 ∧ h' = h ++ t ∧ t[j]? = some ⟨((l.take i).map numI).map Value.string, 1, .rw⟩) ?_ ?_
  · exact ⟨[⟨[], 1, .rw⟩], 0, rfl, rfl, rfl, by simp [upd], by simp, by simp⟩
  · rintro i e _ hi ⟨t, j, e8, e9, e10, e3, rfl, hj⟩
    simp only [go_sem, Nat.reduceBEq, Nat.reduceAdd, Nat.reduceMul, Nat.reduceSub, Nat.reduceLeDiff, Nat.le_refl, implies_true, Nat.reduceLT, reduceIte, decide_true, decide_false, true_and, and_true, reduceCtorEq, Nat.mul_one, Int.reduceToNat, Int.reduceLE, Int.reduceLT, Int.reduceAdd, Int.reduceSub, Int.reduceMul, Int.cast_ofNat_Int, cast_zero_int, cast_one_int, Nat.reducePow, Nat.reduceEqDiff, Nat.reduceMod, Nat.zero_add, Nat.sub_zero, Nat.add_zero, e8, e9, e10, e3]
    refine .intro (fun h1 => ?_) (fun h1 => ?_)
    · have hlt : i < l.length := by simpa using h1
      obtain ⟨id, off, k, hv, _, _, hk, hd, _, _, _, hat⟩ := AI.at s (Nat.zero_lt_of_lt hlt)
      obtain rfl : a = some ⟨id, off, none⟩ := by simpa using hv
      have hz : (i : Int) < l.length := by omega
      have hti : (l.take i).length = i := by simp; omega
      simp only [go_sem, Nat.reduceBEq, Nat.reduceAdd, Nat.reduceMul, Nat.reduceSub, Nat.reduceLeDiff, Nat.le_refl, implies_true, Nat.reduceLT, reduceIte, decide_true, decide_false, true_and, and_true, reduceCtorEq, Nat.mul_one, Int.reduceToNat, Int.reduceLE, Int.reduceLT, Int.reduceAdd, Int.reduceSub, Int.reduceMul, Int.cast_ofNat_Int, cast_zero_int, cast_one_int, Nat.reducePow, Nat.reduceEqDiff, Nat.reduceMod, Nat.zero_add, Nat.sub_zero, Nat.add_zero, e8, e9, e10, e3, self_get hk t, hat i hlt, hz, hd]
      refine ⟨by kernel_rfl, (c_ItoaI l[i] (rising_at g hlt)).use (fun _ m => m) ?_⟩
      rintro _ _ ⟨rfl, rfl⟩
      simp only [go_sem, Nat.reduceBEq, Nat.reduceAdd, Nat.reduceMul, Nat.reduceSub, Nat.reduceLeDiff, Nat.le_refl, implies_true, Nat.reduceLT, reduceIte, decide_true, decide_false, true_and, and_true, reduceCtorEq, Nat.mul_one, Int.reduceToNat, Int.reduceLE, Int.reduceLT, Int.reduceAdd, Int.reduceSub, Int.reduceMul, Int.cast_ofNat_Int, cast_zero_int, cast_one_int, Nat.reducePow, Nat.reduceEqDiff, Nat.reduceMod, Nat.zero_add, Nat.sub_zero, Nat.add_zero, e8, e9, e10, e3, app_old hj, List.length_map, hti]
      refine ⟨by omega, by omega, hlt, _, t.length + 1, by rw [wrap64 (by omega)]; rfl, rfl, rfl, ?_⟩
      rw [List.take_add_one, List.getElem?_eq_getElem hlt, List.map_append, List.map_append]
      exact new_endN (by simp)
    · simp only [go_sem, Nat.reduceBEq, Nat.reduceAdd, Nat.reduceMul, Nat.reduceSub, Nat.reduceLeDiff, Nat.le_refl, implies_true, Nat.reduceLT, reduceIte, decide_true, decide_false, true_and, and_true, reduceCtorEq, Nat.mul_one, Int.reduceToNat, Int.reduceLE, Int.reduceLT, Int.reduceAdd, Int.reduceSub, Int.reduceMul, Int.cast_ofNat_Int, cast_zero_int, cast_one_int, Nat.reducePow, Nat.reduceEqDiff, Nat.reduceMod, Nat.zero_add, Nat.sub_zero, Nat.add_zero, e8, e9, e10, e3]
      obtain rfl : i = l.length := by have : ¬ i < l.length := by simpa using h1
                                      omega
      rw [List.take_length] at hj
      rcases Nat.lt_or_ge 0 l.length with hpos | h0
      · have w1 : IntKind.i64.wrap ((l.length : Int) - 1) = ((l.length - 1 : Nat) : Int) := by rw [wrap64 (by omega)]; omega
        have q1 : (((l.length - 1 : Nat) : Int) == -1) = false := by rw [beq_eq_false_iff_ne]; omega
        have hcell : ∀ k (hk : k < l.length), (List.map Value.string (List.map numI l))[k]? = some (.string (numI l[k])) := fun k hk => by
          rw [List.getElem?_map, List.getElem?_map, List.getElem?_eq_getElem hk]; rfl
        by_cases h1 : l.length = 1
        · have q2 : (((l.length - 1 : Nat) : Int) == 0) = true := by rw [h1]; rfl
          have z1 := numI_size (rising_at g hpos).2
          have a1 : hBin .add (.string ⟨#[110, 111, 100, 101, 32]⟩) (.string (numI l[0])) = some (.string (nOne ++ numI l[0])) := n_add (n := 5) (by decide) z1 (by omega)
          simp only [go_sem, Nat.reduceBEq, Nat.reduceAdd, Nat.reduceMul, Nat.reduceSub, Nat.reduceLeDiff, Nat.le_refl, implies_true, Nat.reduceLT, reduceIte, decide_true, decide_false, true_and, and_true, reduceCtorEq, Nat.mul_one, Int.reduceToNat, Int.reduceLE, Int.reduceLT, Int.reduceAdd, Int.reduceSub, Int.reduceMul, Int.cast_ofNat_Int, cast_zero_int, cast_one_int, Nat.reducePow, Nat.reduceEqDiff, Nat.reduceMod, Nat.zero_add, Nat.sub_zero, Nat.add_zero, e8, e9, e10, e3, w1, q1, q2, hj, hcell 0 hpos, a1]
          refine ⟨by omega, ?_⟩
          rw [nodesS, if_neg (by omega), if_pos h1, getD_of hpos]
        · have q2 : (((l.length - 1 : Nat) : Int) == 0) = false := by rw [beq_eq_false_iff_ne]; omega
          have hl1 : l.length - 1 < l.length := by omega
          have z1 := numI_size (rising_at g hl1).2
          have zj := nums_size g (l.length - 1)
          have z0 : (0 : Int) ≤ ((l.length - 1 : Nat) : Int) := by omega
          have z2 : ((l.length - 1 : Nat) : Int) < l.length := by omega
          have z3 : l.length - 1 ≤ l.length := by omega
          have a1 : hBin .add (.string ⟨#[110, 111, 100, 101, 115, 32]⟩) (.string (joinB ((l.take (l.length - 1)).map numI) nSep)) = some (.string (nMany ++ joinB ((l.take (l.length - 1)).map numI) nSep)) := n_add (n := 6) (by decide) zj (by omega)
          have s1 := n_size (n := 6) (m := 200) (a := nMany) (b := joinB ((l.take (l.length - 1)).map numI) nSep) (by decide) zj
          have a2 : hBin .add (.string (nMany ++ joinB ((l.take (l.length - 1)).map numI) nSep)) (.string ⟨#[32, 97, 110, 100, 32]⟩) = some (.string (nMany ++ joinB ((l.take (l.length - 1)).map numI) nSep ++ nAnd)) := n_add (m := 5) s1 (by decide) (by omega)
          have s2 := n_size (n := 6 + 200) (m := 5) (b := nAnd) s1 (by decide)
          have a3 : hBin .add (.string (nMany ++ joinB ((l.take (l.length - 1)).map numI) nSep ++ nAnd)) (.string (numI l[l.length - 1])) = some (.string (nodesS l)) := by
            rw [n_add s2 z1 (by omega), nodesS, if_neg (by omega), if_neg h1, getD_of hl1]
          simp only [go_sem, Nat.reduceBEq, Nat.reduceAdd, Nat.reduceMul, Nat.reduceSub, Nat.reduceLeDiff, Nat.le_refl, implies_true, Nat.reduceLT, reduceIte, decide_true, decide_false, true_and, and_true, reduceCtorEq, Nat.mul_one, Int.reduceToNat, Int.reduceLE, Int.reduceLT, Int.reduceAdd, Int.reduceSub, Int.reduceMul, Int.cast_ofNat_Int, cast_zero_int, cast_one_int, Nat.reducePow, Nat.reduceEqDiff, Nat.reduceMod, Nat.zero_add, Nat.sub_zero, Nat.add_zero, e8, e9, e10, e3, w1, q1, q2, hj, hcell (l.length - 1) hl1, z0, z2, z3, onSl_more hpos, Int.toNat_natCast]
          refine ⟨by omega, ?_⟩
          refine ⟨by kernel_rfl, (c_Join _ ((l.take (l.length - 1)).map numI) nSep (Sl.strs (h := h ++ t) (xs := l.map numI) (by rw [hget_app]; exact hj) (nodes_last (by omega)).symm (by rw [List.length_map, List.length_take]; omega)) (by rw [List.length_map, List.length_take]; omega) (by omega)).use (fun _ m => m) ?_⟩
          rintro _ _ ⟨rfl, rfl⟩
          simp only [go_sem, Nat.reduceBEq, Nat.reduceAdd, Nat.reduceMul, Nat.reduceSub, Nat.reduceLeDiff, Nat.le_refl, implies_true, Nat.reduceLT, reduceIte, decide_true, decide_false, true_and, and_true, reduceCtorEq, Nat.mul_one, Int.reduceToNat, Int.reduceLE, Int.reduceLT, Int.reduceAdd, Int.reduceSub, Int.reduceMul, Int.cast_ofNat_Int, cast_zero_int, cast_one_int, Nat.reducePow, Nat.reduceEqDiff, Nat.reduceMod, Nat.zero_add, Nat.sub_zero, Nat.add_zero, e8, e9, e10, e3, w1, q1, q2, hj, hcell (l.length - 1) hl1, z0, z2, z3, a1, a2, a3, Int.toNat_natCast]
          try all_goals first | exact rfl | exact ⟨rfl, rfl⟩ | exact List.prefix_append _ _ | exact ⟨rfl, List.prefix_append _ _⟩ | assumption | exact ⟨rfl, by assumption⟩ | exact List.prefix_rfl | exact ⟨rfl, List.prefix_rfl⟩ | exact List.IsPrefix.trans (by assumption) (by assumption) | exact ⟨rfl, List.IsPrefix.trans (by assumption) (by assumption)⟩
      · have hl0 : l = [] := List.eq_nil_of_length_eq_zero (by omega)
        subst hl0
        have w0 : IntKind.i64.wrap (-1) = -1 := wrap64 (by omega)
        simp only [go_sem, Nat.reduceBEq, Nat.reduceAdd, Nat.reduceMul, Nat.reduceSub, Nat.reduceLeDiff, Nat.le_refl, implies_true, Nat.reduceLT, reduceIte, decide_true, decide_false, true_and, and_true, reduceCtorEq, Nat.mul_one, Int.reduceToNat, Int.reduceLE, Int.reduceLT, Int.reduceAdd, Int.reduceSub, Int.reduceMul, Int.cast_ofNat_Int, cast_zero_int, cast_one_int, Nat.reducePow, Nat.reduceEqDiff, Nat.reduceMod, Nat.zero_add, Nat.sub_zero, Nat.add_zero, e8, e9, e10, e3, w0, beq_self_eq_true]
        try all_goals first | exact rfl | exact ⟨rfl, rfl⟩ | exact List.prefix_append _ _ | exact ⟨rfl, List.prefix_append _ _⟩ | assumption | exact ⟨rfl, by assumption⟩ | exact List.prefix_rfl | exact ⟨rfl, List.prefix_rfl⟩ | exact List.IsPrefix.trans (by assumption) (by assumption) | exact ⟨rfl, List.IsPrefix.trans (by assumption) (by assumption)⟩


theorem nodes_join {l : List Int} {i : Nat} (h0 : 0 < i) (hi : i < l.length) : joinB ((l.take (i + 1)).map numI) nSep = joinB ((l.take i).map numI) nSep ++ nSep ++ numI l[i] := by
  rw [List.take_add_one, List.getElem?_eq_getElem hi, List.map_append]
  cases hx : (l.take i).map numI with
  | nil =>
    have : ((l.take i).map numI).length = 0 := by rw [hx]; rfl
    rw [List.length_map, List.length_take] at this
    omega
  | cons x xs => exact joinB_snoc x xs _ _
theorem c_l25Nodes (v : Value) (l : List Int) (s : SI h v l) (g : rising l 1 8) : vCall [] Tryd.prog M 57 [v] h (fun r h' => r = .string (nodesS l) ∧ h = h') := by
  have hlen := rising_len g
  obtain ⟨a, rfl⟩ := AI.len s
  refine body_of mo Tryd.func57 rfl (by kernel_rfl) (Nat.le_of_ble_eq_true (by kernel_rfl)) rfl ?_
  rcases Nat.lt_or_ge 0 l.length with hpos | h0
  · obtain ⟨id, off, k, hv, _, _, hk, hd, _, _, _, hat⟩ := AI.at s hpos
    obtain rfl : a = some ⟨id, off, none⟩ := by simpa using hv
    have q1 : ((l.length : Int) == 0) = false := by rw [beq_eq_false_iff_ne]; omega
    have z0 := numI_size (rising_at g hpos).2
    have hat0 := hat 0 hpos
    rw [Nat.add_zero] at hat0
    have hp : (0 : Int) < l.length := by omega
    by_cases h1 : l.length = 1
    · have q2 : ((l.length : Int) == 1) = true := by rw [h1]; rfl
      have a1 : hBin .add (.string ⟨#[110, 111, 100, 101, 32]⟩) (.string (numI l[0])) = some (.string (nOne ++ numI l[0])) := n_add (n := 5) (by decide) z0 (by omega)
      simp only [go_sem, Nat.reduceBEq, Nat.reduceAdd, Nat.reduceMul, Nat.reduceSub, Nat.reduceLeDiff, Nat.le_refl, implies_true, Nat.reduceLT, reduceIte, decide_true, decide_false, true_and, and_true, reduceCtorEq, Nat.mul_one, Int.reduceToNat, Int.reduceLE, Int.reduceLT, Int.reduceAdd, Int.reduceSub, Int.reduceMul, Int.cast_ofNat_Int, cast_zero_int, cast_one_int, Nat.reducePow, Nat.reduceEqDiff, Nat.reduceMod, Nat.zero_add, Nat.sub_zero, Nat.add_zero, q1, q2, hk, hd, hat0, hp]
      refine ⟨by kernel_rfl, (c_l1NumI l[0] (rising_at g hpos)).use (fun _ m => m) ?_⟩
      rintro _ _ ⟨rfl, rfl⟩
      simp only [go_sem, Nat.reduceBEq, Nat.reduceAdd, Nat.reduceMul, Nat.reduceSub, Nat.reduceLeDiff, Nat.le_refl, implies_true, Nat.reduceLT, reduceIte, decide_true, decide_false, true_and, and_true, reduceCtorEq, Nat.mul_one, Int.reduceToNat, Int.reduceLE, Int.reduceLT, Int.reduceAdd, Int.reduceSub, Int.reduceMul, Int.cast_ofNat_Int, cast_zero_int, cast_one_int, Nat.reducePow, Nat.reduceEqDiff, Nat.reduceMod, Nat.zero_add, Nat.sub_zero, Nat.add_zero, a1]
      rw [nodesS, if_neg (by omega), if_pos h1, getD_of hpos]
      try all_goals first | exact rfl | exact ⟨rfl, rfl⟩ | exact List.prefix_append _ _ | exact ⟨rfl, List.prefix_append _ _⟩ | assumption | exact ⟨rfl, by assumption⟩ | exact List.prefix_rfl | exact ⟨rfl, List.prefix_rfl⟩ | exact List.IsPrefix.trans (by assumption) (by assumption) | exact ⟨rfl, List.IsPrefix.trans (by assumption) (by assumption)⟩
    · have q2 : ((l.length : Int) == 1) = false := by rw [beq_eq_false_iff_ne]; omega
      have a1 : hBin .add (.string ⟨#[110, 111, 100, 101, 115, 32]⟩) (.string (numI l[0])) = some (.string (nMany ++ joinB ((l.take 1).map numI) nSep)) := by
        rw [List.take_one, List.head?_eq_getElem?, List.getElem?_eq_getElem hpos]
        show hBin .add (.string nMany) (.string (numI l[0])) = some (.string (nMany ++ joinB [numI l[0]] nSep))
        rw [joinB_one]
        exact n_add (n := 6) (by decide) z0 (by omega)
      have w1 : IntKind.i64.wrap ((l.length : Int) - 1) = ((l.length - 1 : Nat) : Int) := by rw [wrap64 (by omega)]; omega
      simp only [go_sem, Nat.reduceBEq, Nat.reduceAdd, Nat.reduceMul, Nat.reduceSub, Nat.reduceLeDiff, Nat.le_refl, implies_true, Nat.reduceLT, reduceIte, decide_true, decide_false, true_and, and_true, reduceCtorEq, Nat.mul_one, Int.reduceToNat, Int.reduceLE, Int.reduceLT, Int.reduceAdd, Int.reduceSub, Int.reduceMul, Int.cast_ofNat_Int, cast_zero_int, cast_one_int, Nat.reducePow, Nat.reduceEqDiff, Nat.reduceMod, Nat.zero_add, Nat.sub_zero, Nat.add_zero, q1, q2, hk, hd, hat0, hp]
      refine ⟨by kernel_rfl, (c_l1NumI l[0] (rising_at g hpos)).use (fun _ m => m) ?_⟩
      rintro _ _ ⟨rfl, rfl⟩
      simp only [go_sem, Nat.reduceBEq, Nat.reduceAdd, Nat.reduceMul, Nat.reduceSub, Nat.reduceLeDiff, Nat.le_refl, implies_true, Nat.reduceLT, reduceIte, decide_true, decide_false, true_and, and_true, reduceCtorEq, Nat.mul_one, Int.reduceToNat, Int.reduceLE, Int.reduceLT, Int.reduceAdd, Int.reduceSub, Int.reduceMul, Int.cast_ofNat_Int, cast_zero_int, cast_one_int, Nat.reducePow, Nat.reduceEqDiff, Nat.reduceMod, Nat.zero_add, Nat.sub_zero, Nat.add_zero, a1]
      refine vLoop.count mo (l.length - 2) (fun i e h' => e 0 = .slice (some ⟨id, off, none⟩) l.length 0 ∧ e 3 = .int .i64 l.length ∧ e 4 = .string (nMany ++ joinB ((l.take (i + 1)).map numI) nSep) ∧ e 5 = .int .i64 (i + 1 : Nat) ∧ HeapIs h h') ?_ ?_
      · exact ⟨rfl, rfl, rfl, rfl, HeapIs.rfl⟩
      · rintro i e _ hi ⟨e0, e3, e4, e5, hh⟩
        cases hh
        have zj := nums_size g (i + 1)
        have s1 := n_size (n := 6) (m := 200) (a := nMany) (b := joinB ((l.take (i + 1)).map numI) nSep) (by decide) zj
        by_cases h2 : i + 1 < l.length - 1
        · have hi1 : i + 1 < l.length := by omega
          have z1 := numI_size (rising_at g hi1).2
          have a2 : hBin .add (.string (nMany ++ joinB ((l.take (i + 1)).map numI) nSep)) (.string ⟨#[44, 32]⟩) = some (.string (nMany ++ joinB ((l.take (i + 1)).map numI) nSep ++ nSep)) := n_add (m := 2) s1 (by decide) (by omega)
          have s2 := n_size (n := 6 + 200) (m := 2) (b := nSep) s1 (by decide)
          have a3 : hBin .add (.string (nMany ++ joinB ((l.take (i + 1)).map numI) nSep ++ nSep)) (.string (numI l[i + 1])) = some (.string (nMany ++ joinB ((l.take (i + 1 + 1)).map numI) nSep)) := by
            rw [n_add s2 z1 (by omega), nodes_join (by omega) hi1]
            simp only [ByteArray.append_assoc]
          have b1 : ((i + 1 : Nat) : Int) < ((l.length - 1 : Nat) : Int) := by omega
          have b2 : ((i + 1 : Nat) : Int) < l.length := by omega
          have b3 : (0 : Int) ≤ ((i + 1 : Nat) : Int) := by omega
          simp only [go_sem, Nat.reduceBEq, Nat.reduceAdd, Nat.reduceMul, Nat.reduceSub, Nat.reduceLeDiff, Nat.le_refl, implies_true, Nat.reduceLT, reduceIte, decide_true, decide_false, true_and, and_true, reduceCtorEq, Nat.mul_one, Int.reduceToNat, Int.reduceLE, Int.reduceLT, Int.reduceAdd, Int.reduceSub, Int.reduceMul, Int.cast_ofNat_Int, cast_zero_int, cast_one_int, Nat.reducePow, Nat.reduceEqDiff, Nat.reduceMod, Nat.zero_add, Nat.sub_zero, Nat.add_zero, e0, e3, e4, e5, w1, b1, b2, b3, a2, hk, hd, hat (i + 1) hi1, Int.toNat_natCast]
          refine ⟨by kernel_rfl, (c_l1NumI l[i + 1] (rising_at g hi1)).use (fun _ m => m) ?_⟩
          rintro _ _ ⟨rfl, rfl⟩
          simp only [go_sem, Nat.reduceBEq, Nat.reduceAdd, Nat.reduceMul, Nat.reduceSub, Nat.reduceLeDiff, Nat.le_refl, implies_true, Nat.reduceLT, reduceIte, decide_true, decide_false, true_and, and_true, reduceCtorEq, Nat.mul_one, Int.reduceToNat, Int.reduceLE, Int.reduceLT, Int.reduceAdd, Int.reduceSub, Int.reduceMul, Int.cast_ofNat_Int, cast_zero_int, cast_one_int, Nat.reducePow, Nat.reduceEqDiff, Nat.reduceMod, Nat.zero_add, Nat.sub_zero, Nat.add_zero, e0, e3, e4, e5, a3]
          exact ⟨by omega, by rw [wrap64 (by omega)]; rfl, HeapIs.rfl⟩
        · have hi2 : i + 1 = l.length - 1 := by omega
          have hl1 : l.length - 1 < l.length := by omega
          have z1 := numI_size (rising_at g hl1).2
          have a2 : hBin .add (.string (nMany ++ joinB ((l.take (i + 1)).map numI) nSep)) (.string ⟨#[32, 97, 110, 100, 32]⟩) = some (.string (nMany ++ joinB ((l.take (i + 1)).map numI) nSep ++ nAnd)) := n_add (m := 5) s1 (by decide) (by omega)
          have s2 := n_size (n := 6 + 200) (m := 5) (b := nAnd) s1 (by decide)
          have a3 : hBin .add (.string (nMany ++ joinB ((l.take (i + 1)).map numI) nSep ++ nAnd)) (.string (numI l[l.length - 1])) = some (.string (nodesS l)) := by
            rw [n_add s2 z1 (by omega), nodesS, if_neg (by omega), if_neg h1, getD_of hl1, hi2]
          have b1 : ¬ ((i + 1 : Nat) : Int) < ((l.length - 1 : Nat) : Int) := by omega
          have b2 : ((l.length - 1 : Nat) : Int) < l.length := by omega
          have b3 : (0 : Int) ≤ ((l.length - 1 : Nat) : Int) := by omega
          simp only [go_sem, Nat.reduceBEq, Nat.reduceAdd, Nat.reduceMul, Nat.reduceSub, Nat.reduceLeDiff, Nat.le_refl, implies_true, Nat.reduceLT, reduceIte, decide_true, decide_false, true_and, and_true, reduceCtorEq, Nat.mul_one, Int.reduceToNat, Int.reduceLE, Int.reduceLT, Int.reduceAdd, Int.reduceSub, Int.reduceMul, Int.cast_ofNat_Int, cast_zero_int, cast_one_int, Nat.reducePow, Nat.reduceEqDiff, Nat.reduceMod, Nat.zero_add, Nat.sub_zero, Nat.add_zero, e0, e3, e4, e5, w1, b1, b2, b3, a2, hk, hd, hat (l.length - 1) hl1, Int.toNat_natCast]
          refine ⟨by kernel_rfl, (c_l1NumI l[l.length - 1] (rising_at g hl1)).use (fun _ m => m) ?_⟩
          rintro _ _ ⟨rfl, rfl⟩
          simp only [go_sem, Nat.reduceBEq, Nat.reduceAdd, Nat.reduceMul, Nat.reduceSub, Nat.reduceLeDiff, Nat.le_refl, implies_true, Nat.reduceLT, reduceIte, decide_true, decide_false, true_and, and_true, reduceCtorEq, Nat.mul_one, Int.reduceToNat, Int.reduceLE, Int.reduceLT, Int.reduceAdd, Int.reduceSub, Int.reduceMul, Int.cast_ofNat_Int, cast_zero_int, cast_one_int, Nat.reducePow, Nat.reduceEqDiff, Nat.reduceMod, Nat.zero_add, Nat.sub_zero, Nat.add_zero, e0, e3, e4, e5, a3]
          try all_goals first | exact rfl | exact ⟨rfl, rfl⟩ | exact List.prefix_append _ _ | exact ⟨rfl, List.prefix_append _ _⟩ | assumption | exact ⟨rfl, by assumption⟩ | exact List.prefix_rfl | exact ⟨rfl, List.prefix_rfl⟩ | exact List.IsPrefix.trans (by assumption) (by assumption) | exact ⟨rfl, List.IsPrefix.trans (by assumption) (by assumption)⟩
  · have hl0 : l = [] := List.eq_nil_of_length_eq_zero (by omega)
    subst hl0
    simp only [go_sem, Nat.reduceBEq, Nat.reduceAdd, Nat.reduceMul, Nat.reduceSub, Nat.reduceLeDiff, Nat.le_refl, implies_true, Nat.reduceLT, reduceIte, decide_true, decide_false, true_and, and_true, reduceCtorEq, Nat.mul_one, Int.reduceToNat, Int.reduceLE, Int.reduceLT, Int.reduceAdd, Int.reduceSub, Int.reduceMul, Int.cast_ofNat_Int, cast_zero_int, cast_one_int, Nat.reducePow, Nat.reduceEqDiff, Nat.reduceMod, Nat.zero_add, Nat.sub_zero, Nat.add_zero]
    try all_goals first | exact rfl | exact ⟨rfl, rfl⟩ | exact List.prefix_append _ _ | exact ⟨rfl, List.prefix_append _ _⟩ | assumption | exact ⟨rfl, by assumption⟩ | exact List.prefix_rfl | exact ⟨rfl, List.prefix_rfl⟩ | exact List.IsPrefix.trans (by assumption) (by assumption) | exact ⟨rfl, List.IsPrefix.trans (by assumption) (by assumption)⟩

theorem c_NodeList (v : Value) (l : List Int) (s : SI h v l) (hmax : l.length ≤ 1048576) : vCall [] Tryd.prog M 24 [v] h (fun r h' => r = nodeV l ∧ h <+: h') := by
  refine body_of mo Tryd.func24 rfl (by kernel_rfl) (Nat.le_of_ble_eq_true (by kernel_rfl)) rfl ?_
  simp only [go_sem, Nat.reduceBEq, Nat.reduceAdd, Nat.reduceMul, Nat.reduceSub, Nat.reduceLeDiff, Nat.le_refl, implies_true, Nat.reduceLT, reduceIte, decide_true, decide_false, true_and, and_true, reduceCtorEq, Nat.mul_one, Int.reduceToNat, Int.reduceLE, Int.reduceLT, Int.reduceAdd, Int.reduceSub, Int.reduceMul, Int.cast_ofNat_Int, cast_zero_int, cast_one_int, Nat.reducePow, Nat.reduceEqDiff, Nat.reduceMod, Nat.zero_add, Nat.sub_zero, Nat.add_zero]
  refine ⟨by kernel_rfl, (c_ascending v l 1 8 s hmax).use (fun _ m => m) ?_⟩
  rintro _ _ ⟨rfl, rfl⟩
  by_cases g : rising l 1 8
  · simp only [go_sem, Nat.reduceBEq, Nat.reduceAdd, Nat.reduceMul, Nat.reduceSub, Nat.reduceLeDiff, Nat.le_refl, implies_true, Nat.reduceLT, reduceIte, decide_true, decide_false, true_and, and_true, reduceCtorEq, Nat.mul_one, Int.reduceToNat, Int.reduceLE, Int.reduceLT, Int.reduceAdd, Int.reduceSub, Int.reduceMul, Int.cast_ofNat_Int, cast_zero_int, cast_one_int, Nat.reducePow, Nat.reduceEqDiff, Nat.reduceMod, Nat.zero_add, Nat.sub_zero, Nat.add_zero, decb g]
    refine ⟨by kernel_rfl, (c_nodeList v l s g).use (fun _ m => m) ?_⟩
    rintro _ _ ⟨rfl, ⟨t, rfl⟩⟩
    simp only [go_sem, Nat.reduceBEq, Nat.reduceAdd, Nat.reduceMul, Nat.reduceSub, Nat.reduceLeDiff, Nat.le_refl, implies_true, Nat.reduceLT, reduceIte, decide_true, decide_false, true_and, and_true, reduceCtorEq, Nat.mul_one, Int.reduceToNat, Int.reduceLE, Int.reduceLT, Int.reduceAdd, Int.reduceSub, Int.reduceMul, Int.cast_ofNat_Int, cast_zero_int, cast_one_int, Nat.reducePow, Nat.reduceEqDiff, Nat.reduceMod, Nat.zero_add, Nat.sub_zero, Nat.add_zero]
    rw [nodeV, if_pos g]
    try all_goals first | exact rfl | exact ⟨rfl, rfl⟩ | exact List.prefix_append _ _ | exact ⟨rfl, List.prefix_append _ _⟩ | assumption | exact ⟨rfl, by assumption⟩ | exact List.prefix_rfl | exact ⟨rfl, List.prefix_rfl⟩ | exact List.IsPrefix.trans (by assumption) (by assumption) | exact ⟨rfl, List.IsPrefix.trans (by assumption) (by assumption)⟩
  · simp only [go_sem, Nat.reduceBEq, Nat.reduceAdd, Nat.reduceMul, Nat.reduceSub, Nat.reduceLeDiff, Nat.le_refl, implies_true, Nat.reduceLT, reduceIte, decide_true, decide_false, true_and, and_true, reduceCtorEq, Nat.mul_one, Int.reduceToNat, Int.reduceLE, Int.reduceLT, Int.reduceAdd, Int.reduceSub, Int.reduceMul, Int.cast_ofNat_Int, cast_zero_int, cast_one_int, Nat.reducePow, Nat.reduceEqDiff, Nat.reduceMod, Nat.zero_add, Nat.sub_zero, Nat.add_zero, dect g]
    rw [nodeV, if_neg g]
    try all_goals first | exact rfl | exact ⟨rfl, rfl⟩ | exact List.prefix_append _ _ | exact ⟨rfl, List.prefix_append _ _⟩ | assumption | exact ⟨rfl, by assumption⟩ | exact List.prefix_rfl | exact ⟨rfl, List.prefix_rfl⟩ | exact List.IsPrefix.trans (by assumption) (by assumption) | exact ⟨rfl, List.IsPrefix.trans (by assumption) (by assumption)⟩
theorem c_sNodeList (v : Value) (l : List Int) (s : SI h v l) (hmax : l.length ≤ 1048576) : vCall [] Tryd.prog M 25 [v] h (fun r h' => r = nodeV l ∧ h <+: h') := by
  refine body_of mo Tryd.func25 rfl (by kernel_rfl) (Nat.le_of_ble_eq_true (by kernel_rfl)) rfl ?_
  simp only [go_sem, Nat.reduceBEq, Nat.reduceAdd, Nat.reduceMul, Nat.reduceSub, Nat.reduceLeDiff, Nat.le_refl, implies_true, Nat.reduceLT, reduceIte, decide_true, decide_false, true_and, and_true, reduceCtorEq, Nat.mul_one, Int.reduceToNat, Int.reduceLE, Int.reduceLT, Int.reduceAdd, Int.reduceSub, Int.reduceMul, Int.cast_ofNat_Int, cast_zero_int, cast_one_int, Nat.reducePow, Nat.reduceEqDiff, Nat.reduceMod, Nat.zero_add, Nat.sub_zero, Nat.add_zero]
  refine ⟨by kernel_rfl, (c_l1Rising v l 1 8 s hmax).use (fun _ m => m) ?_⟩
  rintro _ _ ⟨rfl, rfl⟩
  by_cases g : rising l 1 8
  · simp only [go_sem, Nat.reduceBEq, Nat.reduceAdd, Nat.reduceMul, Nat.reduceSub, Nat.reduceLeDiff, Nat.le_refl, implies_true, Nat.reduceLT, reduceIte, decide_true, decide_false, true_and, and_true, reduceCtorEq, Nat.mul_one, Int.reduceToNat, Int.reduceLE, Int.reduceLT, Int.reduceAdd, Int.reduceSub, Int.reduceMul, Int.cast_ofNat_Int, cast_zero_int, cast_one_int, Nat.reducePow, Nat.reduceEqDiff, Nat.reduceMod, Nat.zero_add, Nat.sub_zero, Nat.add_zero, decb g]
    refine ⟨by kernel_rfl, (c_l25Nodes v l s g).use (fun _ m => m) ?_⟩
    rintro _ _ ⟨rfl, rfl⟩
    simp only [go_sem, Nat.reduceBEq, Nat.reduceAdd, Nat.reduceMul, Nat.reduceSub, Nat.reduceLeDiff, Nat.le_refl, implies_true, Nat.reduceLT, reduceIte, decide_true, decide_false, true_and, and_true, reduceCtorEq, Nat.mul_one, Int.reduceToNat, Int.reduceLE, Int.reduceLT, Int.reduceAdd, Int.reduceSub, Int.reduceMul, Int.cast_ofNat_Int, cast_zero_int, cast_one_int, Nat.reducePow, Nat.reduceEqDiff, Nat.reduceMod, Nat.zero_add, Nat.sub_zero, Nat.add_zero]
    rw [nodeV, if_pos g]
    try all_goals first | exact rfl | exact ⟨rfl, rfl⟩ | exact List.prefix_append _ _ | exact ⟨rfl, List.prefix_append _ _⟩ | assumption | exact ⟨rfl, by assumption⟩ | exact List.prefix_rfl | exact ⟨rfl, List.prefix_rfl⟩ | exact List.IsPrefix.trans (by assumption) (by assumption) | exact ⟨rfl, List.IsPrefix.trans (by assumption) (by assumption)⟩
  · simp only [go_sem, Nat.reduceBEq, Nat.reduceAdd, Nat.reduceMul, Nat.reduceSub, Nat.reduceLeDiff, Nat.le_refl, implies_true, Nat.reduceLT, reduceIte, decide_true, decide_false, true_and, and_true, reduceCtorEq, Nat.mul_one, Int.reduceToNat, Int.reduceLE, Int.reduceLT, Int.reduceAdd, Int.reduceSub, Int.reduceMul, Int.cast_ofNat_Int, cast_zero_int, cast_one_int, Nat.reducePow, Nat.reduceEqDiff, Nat.reduceMod, Nat.zero_add, Nat.sub_zero, Nat.add_zero, dect g]
    rw [nodeV, if_neg g]
    try all_goals first | exact rfl | exact ⟨rfl, rfl⟩ | exact List.prefix_append _ _ | exact ⟨rfl, List.prefix_append _ _⟩ | assumption | exact ⟨rfl, by assumption⟩ | exact List.prefix_rfl | exact ⟨rfl, List.prefix_rfl⟩ | exact List.IsPrefix.trans (by assumption) (by assumption) | exact ⟨rfl, List.IsPrefix.trans (by assumption) (by assumption)⟩
theorem nodeV_shape (l : List Int) : ∃ a g, nodeV l = .tuple #[.string a, .bool g] := by
  unfold nodeV
  split <;> exact ⟨_, _, rfl⟩

end
end Go.Proofs.YtfolkgkcaiaifaaDoor
