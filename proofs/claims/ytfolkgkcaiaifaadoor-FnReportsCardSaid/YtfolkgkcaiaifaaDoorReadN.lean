
/- A number read from a text, by the one program. No condition. -/
import Derived.Test.YtfolkgkcaiaifaaDoorLogS
import Derived.Test.YtfolkgkcaiaifaaDoorNums
import Derived.Test.YtfolkgkcaiaifaaDoorH3
namespace Go.Proofs.YtfolkgkcaiaifaaDoor
open Go.HH Go.Proofs
set_option linter.unusedSimpArgs false
set_option linter.unusedVariables false

def isNumC (c : UInt8) : Bool := isDg c || decide (c = 45)
/-- What reading a text as a number gives, as far as it is needed. -/
def ReadsN (s : ByteArray) (n : Int) (b : Bool) : Prop := (∀ v : Nat, v < 1000000 → s = num v → n = v ∧ b = true) ∧ (b = true → ∀ c ∈ bl s, isNumC c = true) ∧ (b = false → n = 0)

section
variable {h : Heap} {M : Nat → Prop}

theorem c_l1NumN (n : Int) (hn : -1000000000 < n ∧ n < 1000000000) : vCall [] Tryd.prog M 63 [.int .i64 n] h (fun r h' => (∃ s : ByteArray, r = .string s ∧ (0 ≤ n → s = num n.toNat)) ∧ h = h') := by
  by_cases h0 : 0 ≤ n
  · obtain ⟨m, rfl⟩ := Int.eq_ofNat_of_zero_le h0
    obtain ⟨_, _, a, rfl, rfl⟩ := c_l1Num (h := h) (M := M) m (by omega)
    exact ⟨.string (num m), h, a, ⟨num m, ⟨rfl, fun _ => rfl⟩⟩, rfl⟩
  · obtain ⟨m, hm⟩ := Int.eq_ofNat_of_zero_le (show 0 ≤ -n by omega)
    have w : IntKind.i64.wrap (0 - n) = ((m : Nat) : Int) := by rw [show (0 : Int) - n = m by omega]; exact wrap64 (by omega)
    have zs := num_less (n := m) (by omega)
    have a1 : hBin .add (.string ⟨#[45]⟩) (.string (num m)) = some (.string (⟨#[45]⟩ ++ num m)) := adds (by have : (⟨#[45]⟩ : ByteArray).size = 1 := rfl; omega)
    refine body_of mo Tryd.func63 rfl (by kernel_rfl) (Nat.le_of_ble_eq_true (by kernel_rfl)) rfl ?_
    simp only [go_sem, Nat.reduceBEq, Nat.reduceAdd, Nat.reduceMul, Nat.reduceSub, Nat.reduceLeDiff, Nat.le_refl, implies_true, Nat.reduceLT, reduceIte, decide_true, decide_false, true_and, and_true, reduceCtorEq, Nat.mul_one, Int.reduceToNat, Int.reduceLE, Int.reduceLT, Int.reduceAdd, Int.reduceSub, Int.reduceMul, Int.cast_ofNat_Int, cast_zero_int, cast_one_int, Nat.reducePow, Nat.reduceEqDiff, Nat.reduceMod, Nat.zero_add, Nat.sub_zero, Nat.add_zero, show n < 0 by omega, w]
    refine ⟨by kernel_rfl, (c_l1Num m (by omega)).use (fun _ m => m) ?_⟩
    rintro _ _ ⟨rfl, rfl⟩
    simp only [go_sem, Nat.reduceBEq, Nat.reduceAdd, Nat.reduceMul, Nat.reduceSub, Nat.reduceLeDiff, Nat.le_refl, implies_true, Nat.reduceLT, reduceIte, decide_true, decide_false, true_and, and_true, reduceCtorEq, Nat.mul_one, Int.reduceToNat, Int.reduceLE, Int.reduceLT, Int.reduceAdd, Int.reduceSub, Int.reduceMul, Int.cast_ofNat_Int, cast_zero_int, cast_one_int, Nat.reducePow, Nat.reduceEqDiff, Nat.reduceMod, Nat.zero_add, Nat.sub_zero, Nat.add_zero, a1]
    exact ⟨_, rfl, fun h => absurd h h0⟩

set_option maxRecDepth 20000 in
theorem c_l1Read (s : ByteArray) (hs0 : s.size ≤ 10000000) : vCall [] Tryd.prog M 51 [.string s] h (fun r h' => (∃ n b, r = .tuple #[.int .i64 n, .bool b] ∧ ReadsN s n b) ∧ h = h') := by
  refine body_of mo Tryd.func51 rfl (by kernel_rfl) (Nat.le_of_ble_eq_true (by kernel_rfl)) rfl ?_
  by_cases g0 : 1 < s.size ∧ (bl s)[0]? = some 45
  · obtain ⟨g1, g2⟩ := g0
    have hb := bl_get (s := s) (i := 0) (by omega)
    obtain ⟨hl, g3⟩ := List.getElem?_eq_some_iff.1 g2
    rw [g3] at hb
    obtain ⟨t, ht⟩ : ∃ t, t = s.extract 1 s.size := ⟨_, rfl⟩
    have zT : t.size = s.size - 1 := by rw [ht, ByteArray.size_extract]; omega
    have hbs : bl s = 45 :: bl t := by
      rw [ht, bl_extract, ← bl_len, List.take_length]
      cases hx : bl s with
      | nil => rw [hx] at hl; simp at hl
      | cons a r => simp only [hx] at g3; simp at g3; rw [g3]; rfl
    have hno : ∀ v : Nat, s ≠ num v := fun v hv => by
      have h1 := dec_dg v 45 (by rw [← bl_num, ← hv, hbs]; simp)
      cases h1
    have neg : (1 : Int) < s.size := by omega
    have e45 : (((45 : UInt8).toNat : Int) == 45) = true := rfl
    simp only [go_sem, Nat.reduceBEq, Nat.reduceAdd, Nat.reduceMul, Nat.reduceSub, Nat.reduceLeDiff, Nat.le_refl, implies_true, Nat.reduceLT, reduceIte, decide_true, decide_false, true_and, and_true, reduceCtorEq, Nat.mul_one, Int.reduceToNat, Int.reduceLE, Int.reduceLT, Int.reduceAdd, Int.reduceSub, Int.reduceMul, Int.cast_ofNat_Int, cast_zero_int, cast_one_int, Nat.reducePow, Nat.reduceEqDiff, Nat.reduceMod, Nat.zero_add, Nat.sub_zero, Nat.add_zero, neg, hb, e45, show 1 ≤ s.size by omega, ← ht]
    refine ⟨by kernel_rfl, (c_l1In _ _ _).use (fun _ m => m) ?_⟩
    rintro _ _ ⟨rfl, rfl⟩
    have zt : t.size ≤ 9223372036854775807 := by omega
    by_cases q0 : 1 ≤ t.size ∧ t.size ≤ 6
    · have q1 : decide ((1 : Int) ≤ t.size ∧ (t.size : Int) ≤ 6) = true := decide_eq_true (by omega)
      simp only [go_sem, Nat.reduceBEq, Nat.reduceAdd, Nat.reduceMul, Nat.reduceSub, Nat.reduceLeDiff, Nat.le_refl, implies_true, Nat.reduceLT, reduceIte, decide_true, decide_false, true_and, and_true, reduceCtorEq, Nat.mul_one, Int.reduceToNat, Int.reduceLE, Int.reduceLT, Int.reduceAdd, Int.reduceSub, Int.reduceMul, Int.cast_ofNat_Int, cast_zero_int, cast_one_int, Nat.reducePow, Nat.reduceEqDiff, Nat.reduceMod, Nat.zero_add, Nat.sub_zero, Nat.add_zero, neg, ← ht, q1]
      refine vLoop.count mo t.size (fun i e h' => e 0 = .string s ∧ e 4 = .string t ∧ e 5 = .int .i64 (valL ((bl t).take i) : Nat) ∧ e 6 = .int .i64 i ∧ HeapIs h h' ∧ ∀ c ∈ (bl t).take i, isDg c = true) ?_ ?_
      · exact ⟨rfl, rfl, rfl, rfl, HeapIs.rfl, fun c hc => by simp at hc⟩
      · rintro i e _ hi ⟨e0, e4, e5, e6, hh, hdg⟩
        cases hh
        have pk : ((bl t).take i).length = i := by rw [List.length_take, bl_len]; omega
        have vlt := valL_lt _ hdg
        rw [pk] at vlt
        have p6 : 10 ^ i ≤ 10 ^ 6 := Nat.pow_le_pow_right (by omega) (by omega)
        by_cases hlt : i < t.size
        · have hz : (i : Int) < t.size := by omega
          have hlt' : i < (bl t).length := by rw [bl_len]; exact hlt
          have hb := bl_get hlt
          obtain ⟨c, hce⟩ : ∃ c, c = (bl t)[i] := ⟨_, rfl⟩
          rw [← hce] at hb
          have hc2 : (c.toNat : Int) ≤ 255 := by have := c.toNat_lt; omega
          have tk : (bl t).take (i + 1) = (bl t).take i ++ [c] := by rw [List.take_add_one, List.getElem?_eq_getElem hlt', hce]; rfl
          by_cases q2 : isDg c = true
          · have q3 : 48 ≤ c.toNat ∧ c.toNat ≤ 57 := by simpa [isDg] using q2
            have w1 : IntKind.i64.wrap (10 * ((valL ((bl t).take i) : Nat) : Int)) = 10 * ((valL ((bl t).take i) : Nat) : Int) := wrap64 (by omega)
            have w2 : IntKind.u8.wrap ((c.toNat : Int) - 48) = ((c.toNat - 48 : Nat) : Int) := by rw [IntWalk.u8_in _ (by omega)]; omega
            have w3 : IntKind.i64.wrap ((c.toNat - 48 : Nat) : Int) = ((c.toNat - 48 : Nat) : Int) := wrap64 (by omega)
            have w4 : IntKind.i64.wrap (10 * ((valL ((bl t).take i) : Nat) : Int) + ((c.toNat - 48 : Nat) : Int)) = ((valL ((bl t).take (i + 1)) : Nat) : Int) := by rw [wrap64 (by omega), tk, valL_snoc]; omega
            simp only [go_sem, Nat.reduceBEq, Nat.reduceAdd, Nat.reduceMul, Nat.reduceSub, Nat.reduceLeDiff, Nat.le_refl, implies_true, Nat.reduceLT, reduceIte, decide_true, decide_false, true_and, and_true, reduceCtorEq, Nat.mul_one, Int.reduceToNat, Int.reduceLE, Int.reduceLT, Int.reduceAdd, Int.reduceSub, Int.reduceMul, Int.cast_ofNat_Int, cast_zero_int, cast_one_int, Nat.reducePow, Nat.reduceEqDiff, Nat.reduceMod, Nat.zero_add, Nat.sub_zero, Nat.add_zero, e0, e4, e5, e6, hz, hb, show ¬ ((c.toNat : Int) < 48) by omega, show ¬ ((57 : Int) < c.toNat) by omega, w1, w2, w3, w4]
            refine ⟨hlt, by rw [wrap64 (by omega)]; rfl, HeapIs.rfl, fun x hx => ?_⟩
            rw [tk] at hx
            rcases List.mem_append.1 hx with hx | hx
            · exact hdg x hx
            · rw [List.mem_singleton.1 hx]; exact q2
          · have no : ReadsN s 0 false := ⟨fun v hv hs => absurd (absurd hs (hno v)) q2, by simp, fun _ => rfl⟩
            have q3 : ¬ (48 ≤ c.toNat ∧ c.toNat ≤ 57) := by simpa [isDg] using q2
            by_cases q5 : (c.toNat : Int) < 48
            · simp only [go_sem, Nat.reduceBEq, Nat.reduceAdd, Nat.reduceMul, Nat.reduceSub, Nat.reduceLeDiff, Nat.le_refl, implies_true, Nat.reduceLT, reduceIte, decide_true, decide_false, true_and, and_true, reduceCtorEq, Nat.mul_one, Int.reduceToNat, Int.reduceLE, Int.reduceLT, Int.reduceAdd, Int.reduceSub, Int.reduceMul, Int.cast_ofNat_Int, cast_zero_int, cast_one_int, Nat.reducePow, Nat.reduceEqDiff, Nat.reduceMod, Nat.zero_add, Nat.sub_zero, Nat.add_zero, e0, e4, e5, e6, hz, hb, q5]
              exact ⟨_, _, rfl, no⟩
            · simp only [go_sem, Nat.reduceBEq, Nat.reduceAdd, Nat.reduceMul, Nat.reduceSub, Nat.reduceLeDiff, Nat.le_refl, implies_true, Nat.reduceLT, reduceIte, decide_true, decide_false, true_and, and_true, reduceCtorEq, Nat.mul_one, Int.reduceToNat, Int.reduceLE, Int.reduceLT, Int.reduceAdd, Int.reduceSub, Int.reduceMul, Int.cast_ofNat_Int, cast_zero_int, cast_one_int, Nat.reducePow, Nat.reduceEqDiff, Nat.reduceMod, Nat.zero_add, Nat.sub_zero, Nat.add_zero, e0, e4, e5, e6, hz, hb, q5, show (57 : Int) < c.toNat by omega]
              exact ⟨_, _, rfl, no⟩
        · obtain rfl : i = t.size := by omega
          rw [List.take_of_length_le (by rw [bl_len]; exact Nat.le_refl _)] at e5 hdg vlt
          have w5 : IntKind.i64.wrap (0 - ((valL (bl t) : Nat) : Int)) = 0 - ((valL (bl t) : Nat) : Int) := wrap64 (by omega)
          simp only [go_sem, Nat.reduceBEq, Nat.reduceAdd, Nat.reduceMul, Nat.reduceSub, Nat.reduceLeDiff, Nat.le_refl, implies_true, Nat.reduceLT, reduceIte, decide_true, decide_false, true_and, and_true, reduceCtorEq, Nat.mul_one, Int.reduceToNat, Int.reduceLE, Int.reduceLT, Int.reduceAdd, Int.reduceSub, Int.reduceMul, Int.cast_ofNat_Int, cast_zero_int, cast_one_int, Nat.reducePow, Nat.reduceEqDiff, Nat.reduceMod, Nat.zero_add, Nat.sub_zero, Nat.add_zero, e0, e4, e5, e6, show (t.size : Int) < s.size by omega, show ¬ ((t.size : Int) < t.size) by omega, w5]
          refine ⟨by kernel_rfl, (c_l1NumN (0 - ((valL (bl t) : Nat) : Int)) (by omega)).use (fun _ m => m) ?_⟩
          rintro _ _ ⟨⟨u, rfl, hu⟩, rfl⟩
          by_cases g : u = s
          · simp only [go_sem, Nat.reduceBEq, Nat.reduceAdd, Nat.reduceMul, Nat.reduceSub, Nat.reduceLeDiff, Nat.le_refl, implies_true, Nat.reduceLT, reduceIte, decide_true, decide_false, true_and, and_true, reduceCtorEq, Nat.mul_one, Int.reduceToNat, Int.reduceLE, Int.reduceLT, Int.reduceAdd, Int.reduceSub, Int.reduceMul, Int.cast_ofNat_Int, cast_zero_int, cast_one_int, Nat.reducePow, Nat.reduceEqDiff, Nat.reduceMod, Nat.zero_add, Nat.sub_zero, Nat.add_zero, e0, e4, e5, e6, show (t.size : Int) < s.size by omega, w5, show (u.toList == s.toList) = true from by rw [g]; exact beq_self_eq_true _, Bool.not_true]
            refine ⟨_, _, rfl, fun v hv hs => absurd hs (hno v), fun _ c hc => ?_, by simp⟩
            rw [hbs] at hc
            rcases List.mem_cons.1 hc with rfl | hc
            · rfl
            · rw [isNumC, hdg c hc]; rfl
          · simp only [go_sem, Nat.reduceBEq, Nat.reduceAdd, Nat.reduceMul, Nat.reduceSub, Nat.reduceLeDiff, Nat.le_refl, implies_true, Nat.reduceLT, reduceIte, decide_true, decide_false, true_and, and_true, reduceCtorEq, Nat.mul_one, Int.reduceToNat, Int.reduceLE, Int.reduceLT, Int.reduceAdd, Int.reduceSub, Int.reduceMul, Int.cast_ofNat_Int, cast_zero_int, cast_one_int, Nat.reducePow, Nat.reduceEqDiff, Nat.reduceMod, Nat.zero_add, Nat.sub_zero, Nat.add_zero, e0, e4, e5, e6, show (t.size : Int) < s.size by omega, w5, show (u.toList == s.toList) = false from by rw [toList_eq]; exact decide_eq_false g, Bool.not_false]
            exact ⟨_, _, rfl, fun v hv hs => absurd hs (hno v), by simp, fun _ => rfl⟩
    · have q1 : decide ((1 : Int) ≤ t.size ∧ (t.size : Int) ≤ 6) = false := decide_eq_false (by omega)
      simp only [go_sem, Nat.reduceBEq, Nat.reduceAdd, Nat.reduceMul, Nat.reduceSub, Nat.reduceLeDiff, Nat.le_refl, implies_true, Nat.reduceLT, reduceIte, decide_true, decide_false, true_and, and_true, reduceCtorEq, Nat.mul_one, Int.reduceToNat, Int.reduceLE, Int.reduceLT, Int.reduceAdd, Int.reduceSub, Int.reduceMul, Int.cast_ofNat_Int, cast_zero_int, cast_one_int, Nat.reducePow, Nat.reduceEqDiff, Nat.reduceMod, Nat.zero_add, Nat.sub_zero, Nat.add_zero, neg, ← ht, q1]
      exact ⟨_, _, rfl, fun v hv hs => absurd hs (hno v), by simp, fun _ => rfl⟩
  · by_cases g1 : 1 < s.size
    · have g2 : (bl s)[0]? ≠ some 45 := fun h => g0 ⟨g1, h⟩
      have hb := bl_get (s := s) (i := 0) (by omega)
      have neg : (1 : Int) < s.size := by omega
      have e45 : ((((bl s)[0]'(by rw [bl_len]; omega)).toNat : Int) == 45) = false := by
        rw [beq_eq_false_iff_ne]
        intro hh
        refine g2 ?_
        rw [List.getElem?_eq_getElem (by rw [bl_len]; omega)]
        exact congrArg some (UInt8.toNat_inj.1 (Int.ofNat.inj hh))
      simp only [go_sem, Nat.reduceBEq, Nat.reduceAdd, Nat.reduceMul, Nat.reduceSub, Nat.reduceLeDiff, Nat.le_refl, implies_true, Nat.reduceLT, reduceIte, decide_true, decide_false, true_and, and_true, reduceCtorEq, Nat.mul_one, Int.reduceToNat, Int.reduceLE, Int.reduceLT, Int.reduceAdd, Int.reduceSub, Int.reduceMul, Int.cast_ofNat_Int, cast_zero_int, cast_one_int, Nat.reducePow, Nat.reduceEqDiff, Nat.reduceMod, Nat.zero_add, Nat.sub_zero, Nat.add_zero, neg, hb, e45]
      refine ⟨by kernel_rfl, (c_l1In _ _ _).use (fun _ m => m) ?_⟩
      rintro _ _ ⟨rfl, rfl⟩
      have zt : s.size ≤ 9223372036854775807 := by omega
      by_cases q0 : 1 ≤ s.size ∧ s.size ≤ 6
      · have q1 : decide ((1 : Int) ≤ s.size ∧ (s.size : Int) ≤ 6) = true := decide_eq_true (by omega)
        simp only [go_sem, Nat.reduceBEq, Nat.reduceAdd, Nat.reduceMul, Nat.reduceSub, Nat.reduceLeDiff, Nat.le_refl, implies_true, Nat.reduceLT, reduceIte, decide_true, decide_false, true_and, and_true, reduceCtorEq, Nat.mul_one, Int.reduceToNat, Int.reduceLE, Int.reduceLT, Int.reduceAdd, Int.reduceSub, Int.reduceMul, Int.cast_ofNat_Int, cast_zero_int, cast_one_int, Nat.reducePow, Nat.reduceEqDiff, Nat.reduceMod, Nat.zero_add, Nat.sub_zero, Nat.add_zero, neg, hb, e45, q1]
        refine vLoop.count mo s.size (fun i e h' => e 0 = .string s ∧ e 4 = .string s ∧ e 5 = .int .i64 (valL ((bl s).take i) : Nat) ∧ e 6 = .int .i64 i ∧ HeapIs h h' ∧ ∀ c ∈ (bl s).take i, isDg c = true) ?_ ?_
        · exact ⟨rfl, rfl, rfl, rfl, HeapIs.rfl, fun c hc => by simp at hc⟩
        · rintro i e _ hi ⟨e0, e4, e5, e6, hh, hdg⟩
          cases hh
          have pk : ((bl s).take i).length = i := by rw [List.length_take, bl_len]; omega
          have vlt := valL_lt _ hdg
          rw [pk] at vlt
          have p6 : 10 ^ i ≤ 10 ^ 6 := Nat.pow_le_pow_right (by omega) (by omega)
          by_cases hlt : i < s.size
          · have hz : (i : Int) < s.size := by omega
            have hlt' : i < (bl s).length := by rw [bl_len]; exact hlt
            have hb := bl_get hlt
            obtain ⟨c, hce⟩ : ∃ c, c = (bl s)[i] := ⟨_, rfl⟩
            rw [← hce] at hb
            have hc2 : (c.toNat : Int) ≤ 255 := by have := c.toNat_lt; omega
            have tk : (bl s).take (i + 1) = (bl s).take i ++ [c] := by rw [List.take_add_one, List.getElem?_eq_getElem hlt', hce]; rfl
            by_cases q2 : isDg c = true
            · have q3 : 48 ≤ c.toNat ∧ c.toNat ≤ 57 := by simpa [isDg] using q2
              have w1 : IntKind.i64.wrap (10 * ((valL ((bl s).take i) : Nat) : Int)) = 10 * ((valL ((bl s).take i) : Nat) : Int) := wrap64 (by omega)
              have w2 : IntKind.u8.wrap ((c.toNat : Int) - 48) = ((c.toNat - 48 : Nat) : Int) := by rw [IntWalk.u8_in _ (by omega)]; omega
              have w3 : IntKind.i64.wrap ((c.toNat - 48 : Nat) : Int) = ((c.toNat - 48 : Nat) : Int) := wrap64 (by omega)
              have w4 : IntKind.i64.wrap (10 * ((valL ((bl s).take i) : Nat) : Int) + ((c.toNat - 48 : Nat) : Int)) = ((valL ((bl s).take (i + 1)) : Nat) : Int) := by rw [wrap64 (by omega), tk, valL_snoc]; omega
              simp only [go_sem, Nat.reduceBEq, Nat.reduceAdd, Nat.reduceMul, Nat.reduceSub, Nat.reduceLeDiff, Nat.le_refl, implies_true, Nat.reduceLT, reduceIte, decide_true, decide_false, true_and, and_true, reduceCtorEq, Nat.mul_one, Int.reduceToNat, Int.reduceLE, Int.reduceLT, Int.reduceAdd, Int.reduceSub, Int.reduceMul, Int.cast_ofNat_Int, cast_zero_int, cast_one_int, Nat.reducePow, Nat.reduceEqDiff, Nat.reduceMod, Nat.zero_add, Nat.sub_zero, Nat.add_zero, e0, e4, e5, e6, hz, hb, show ¬ ((c.toNat : Int) < 48) by omega, show ¬ ((57 : Int) < c.toNat) by omega, w1, w2, w3, w4]
              refine ⟨hlt, by rw [wrap64 (by omega)]; rfl, HeapIs.rfl, fun x hx => ?_⟩
              rw [tk] at hx
              rcases List.mem_append.1 hx with hx | hx
              · exact hdg x hx
              · rw [List.mem_singleton.1 hx]; exact q2
            · have no : ReadsN s 0 false := ⟨fun v hv hs => absurd (dec_dg v c (by rw [← bl_num, ← hs, hce]; exact List.getElem_mem _)) q2, by simp, fun _ => rfl⟩
              have q3 : ¬ (48 ≤ c.toNat ∧ c.toNat ≤ 57) := by simpa [isDg] using q2
              by_cases q5 : (c.toNat : Int) < 48
              · simp only [go_sem, Nat.reduceBEq, Nat.reduceAdd, Nat.reduceMul, Nat.reduceSub, Nat.reduceLeDiff, Nat.le_refl, implies_true, Nat.reduceLT, reduceIte, decide_true, decide_false, true_and, and_true, reduceCtorEq, Nat.mul_one, Int.reduceToNat, Int.reduceLE, Int.reduceLT, Int.reduceAdd, Int.reduceSub, Int.reduceMul, Int.cast_ofNat_Int, cast_zero_int, cast_one_int, Nat.reducePow, Nat.reduceEqDiff, Nat.reduceMod, Nat.zero_add, Nat.sub_zero, Nat.add_zero, e0, e4, e5, e6, hz, hb, q5]
                exact ⟨_, _, rfl, no⟩
              · simp only [go_sem, Nat.reduceBEq, Nat.reduceAdd, Nat.reduceMul, Nat.reduceSub, Nat.reduceLeDiff, Nat.le_refl, implies_true, Nat.reduceLT, reduceIte, decide_true, decide_false, true_and, and_true, reduceCtorEq, Nat.mul_one, Int.reduceToNat, Int.reduceLE, Int.reduceLT, Int.reduceAdd, Int.reduceSub, Int.reduceMul, Int.cast_ofNat_Int, cast_zero_int, cast_one_int, Nat.reducePow, Nat.reduceEqDiff, Nat.reduceMod, Nat.zero_add, Nat.sub_zero, Nat.add_zero, e0, e4, e5, e6, hz, hb, q5, show (57 : Int) < c.toNat by omega]
                exact ⟨_, _, rfl, no⟩
          · obtain rfl : i = s.size := by omega
            rw [List.take_of_length_le (by rw [bl_len]; exact Nat.le_refl _)] at e5 hdg vlt
            simp only [go_sem, Nat.reduceBEq, Nat.reduceAdd, Nat.reduceMul, Nat.reduceSub, Nat.reduceLeDiff, Nat.le_refl, implies_true, Nat.reduceLT, reduceIte, decide_true, decide_false, true_and, and_true, reduceCtorEq, Nat.mul_one, Int.reduceToNat, Int.reduceLE, Int.reduceLT, Int.reduceAdd, Int.reduceSub, Int.reduceMul, Int.cast_ofNat_Int, cast_zero_int, cast_one_int, Nat.reducePow, Nat.reduceEqDiff, Nat.reduceMod, Nat.zero_add, Nat.sub_zero, Nat.add_zero, e0, e4, e5, e6, show ¬ ((s.size : Int) < s.size) by omega]
            refine ⟨by kernel_rfl, (c_l1NumN ((valL (bl s) : Nat) : Int) (by omega)).use (fun _ m => m) ?_⟩
            rintro _ _ ⟨⟨u, rfl, hu⟩, rfl⟩
            have hu := hu (by omega)
            rw [Int.toNat_natCast] at hu
            by_cases g : u = s
            · simp only [go_sem, Nat.reduceBEq, Nat.reduceAdd, Nat.reduceMul, Nat.reduceSub, Nat.reduceLeDiff, Nat.le_refl, implies_true, Nat.reduceLT, reduceIte, decide_true, decide_false, true_and, and_true, reduceCtorEq, Nat.mul_one, Int.reduceToNat, Int.reduceLE, Int.reduceLT, Int.reduceAdd, Int.reduceSub, Int.reduceMul, Int.cast_ofNat_Int, cast_zero_int, cast_one_int, Nat.reducePow, Nat.reduceEqDiff, Nat.reduceMod, Nat.zero_add, Nat.sub_zero, Nat.add_zero, e0, e4, e5, e6, show ¬ ((s.size : Int) < s.size) by omega, show (u.toList == s.toList) = true from by rw [g]; exact beq_self_eq_true _, Bool.not_true]
              refine ⟨_, _, rfl, fun v hv hs => ⟨?_, rfl⟩, fun _ c hc => by rw [isNumC, hdg c hc]; rfl, by simp⟩
              rw [hs, bl_num, dec_val]
            · simp only [go_sem, Nat.reduceBEq, Nat.reduceAdd, Nat.reduceMul, Nat.reduceSub, Nat.reduceLeDiff, Nat.le_refl, implies_true, Nat.reduceLT, reduceIte, decide_true, decide_false, true_and, and_true, reduceCtorEq, Nat.mul_one, Int.reduceToNat, Int.reduceLE, Int.reduceLT, Int.reduceAdd, Int.reduceSub, Int.reduceMul, Int.cast_ofNat_Int, cast_zero_int, cast_one_int, Nat.reducePow, Nat.reduceEqDiff, Nat.reduceMod, Nat.zero_add, Nat.sub_zero, Nat.add_zero, e0, e4, e5, e6, show ¬ ((s.size : Int) < s.size) by omega, show (u.toList == s.toList) = false from by rw [toList_eq]; exact decide_eq_false g, Bool.not_false]
              refine ⟨_, _, rfl, fun v hv hs => absurd ?_ g, by simp, fun _ => rfl⟩
              rw [hu, hs, bl_num, dec_val]
      · have q1 : decide ((1 : Int) ≤ s.size ∧ (s.size : Int) ≤ 6) = false := decide_eq_false (by omega)
        simp only [go_sem, Nat.reduceBEq, Nat.reduceAdd, Nat.reduceMul, Nat.reduceSub, Nat.reduceLeDiff, Nat.le_refl, implies_true, Nat.reduceLT, reduceIte, decide_true, decide_false, true_and, and_true, reduceCtorEq, Nat.mul_one, Int.reduceToNat, Int.reduceLE, Int.reduceLT, Int.reduceAdd, Int.reduceSub, Int.reduceMul, Int.cast_ofNat_Int, cast_zero_int, cast_one_int, Nat.reducePow, Nat.reduceEqDiff, Nat.reduceMod, Nat.zero_add, Nat.sub_zero, Nat.add_zero, neg, hb, e45, q1]
        exact ⟨_, _, rfl, fun v hv hs => absurd (by have h1 := dec_len (k := 6) hv (by omega); have h2 := dec_pos v; rw [hs, ← bl_len, bl_num]; obtain ⟨x, r, h3⟩ := h2; rw [h3] at h1 ⊢; simp at h1 ⊢; omega) q0, by simp, fun _ => rfl⟩
    · have neg : ¬ (1 : Int) < s.size := by omega
      simp only [go_sem, Nat.reduceBEq, Nat.reduceAdd, Nat.reduceMul, Nat.reduceSub, Nat.reduceLeDiff, Nat.le_refl, implies_true, Nat.reduceLT, reduceIte, decide_true, decide_false, true_and, and_true, reduceCtorEq, Nat.mul_one, Int.reduceToNat, Int.reduceLE, Int.reduceLT, Int.reduceAdd, Int.reduceSub, Int.reduceMul, Int.cast_ofNat_Int, cast_zero_int, cast_one_int, Nat.reducePow, Nat.reduceEqDiff, Nat.reduceMod, Nat.zero_add, Nat.sub_zero, Nat.add_zero, neg]
      refine ⟨by kernel_rfl, (c_l1In _ _ _).use (fun _ m => m) ?_⟩
      rintro _ _ ⟨rfl, rfl⟩
      have zt : s.size ≤ 9223372036854775807 := by omega
      by_cases q0 : 1 ≤ s.size ∧ s.size ≤ 6
      · have q1 : decide ((1 : Int) ≤ s.size ∧ (s.size : Int) ≤ 6) = true := decide_eq_true (by omega)
        simp only [go_sem, Nat.reduceBEq, Nat.reduceAdd, Nat.reduceMul, Nat.reduceSub, Nat.reduceLeDiff, Nat.le_refl, implies_true, Nat.reduceLT, reduceIte, decide_true, decide_false, true_and, and_true, reduceCtorEq, Nat.mul_one, Int.reduceToNat, Int.reduceLE, Int.reduceLT, Int.reduceAdd, Int.reduceSub, Int.reduceMul, Int.cast_ofNat_Int, cast_zero_int, cast_one_int, Nat.reducePow, Nat.reduceEqDiff, Nat.reduceMod, Nat.zero_add, Nat.sub_zero, Nat.add_zero, neg, q1]
        refine vLoop.count mo s.size (fun i e h' => e 0 = .string s ∧ e 4 = .string s ∧ e 5 = .int .i64 (valL ((bl s).take i) : Nat) ∧ e 6 = .int .i64 i ∧ HeapIs h h' ∧ ∀ c ∈ (bl s).take i, isDg c = true) ?_ ?_
        · exact ⟨rfl, rfl, rfl, rfl, HeapIs.rfl, fun c hc => by simp at hc⟩
        · rintro i e _ hi ⟨e0, e4, e5, e6, hh, hdg⟩
          cases hh
          have pk : ((bl s).take i).length = i := by rw [List.length_take, bl_len]; omega
          have vlt := valL_lt _ hdg
          rw [pk] at vlt
          have p6 : 10 ^ i ≤ 10 ^ 6 := Nat.pow_le_pow_right (by omega) (by omega)
          by_cases hlt : i < s.size
          · have hz : (i : Int) < s.size := by omega
            have hlt' : i < (bl s).length := by rw [bl_len]; exact hlt
            have hb := bl_get hlt
            obtain ⟨c, hce⟩ : ∃ c, c = (bl s)[i] := ⟨_, rfl⟩
            rw [← hce] at hb
            have hc2 : (c.toNat : Int) ≤ 255 := by have := c.toNat_lt; omega
            have tk : (bl s).take (i + 1) = (bl s).take i ++ [c] := by rw [List.take_add_one, List.getElem?_eq_getElem hlt', hce]; rfl
            by_cases q2 : isDg c = true
            · have q3 : 48 ≤ c.toNat ∧ c.toNat ≤ 57 := by simpa [isDg] using q2
              have w1 : IntKind.i64.wrap (10 * ((valL ((bl s).take i) : Nat) : Int)) = 10 * ((valL ((bl s).take i) : Nat) : Int) := wrap64 (by omega)
              have w2 : IntKind.u8.wrap ((c.toNat : Int) - 48) = ((c.toNat - 48 : Nat) : Int) := by rw [IntWalk.u8_in _ (by omega)]; omega
              have w3 : IntKind.i64.wrap ((c.toNat - 48 : Nat) : Int) = ((c.toNat - 48 : Nat) : Int) := wrap64 (by omega)
              have w4 : IntKind.i64.wrap (10 * ((valL ((bl s).take i) : Nat) : Int) + ((c.toNat - 48 : Nat) : Int)) = ((valL ((bl s).take (i + 1)) : Nat) : Int) := by rw [wrap64 (by omega), tk, valL_snoc]; omega
              simp only [go_sem, Nat.reduceBEq, Nat.reduceAdd, Nat.reduceMul, Nat.reduceSub, Nat.reduceLeDiff, Nat.le_refl, implies_true, Nat.reduceLT, reduceIte, decide_true, decide_false, true_and, and_true, reduceCtorEq, Nat.mul_one, Int.reduceToNat, Int.reduceLE, Int.reduceLT, Int.reduceAdd, Int.reduceSub, Int.reduceMul, Int.cast_ofNat_Int, cast_zero_int, cast_one_int, Nat.reducePow, Nat.reduceEqDiff, Nat.reduceMod, Nat.zero_add, Nat.sub_zero, Nat.add_zero, e0, e4, e5, e6, hz, hb, show ¬ ((c.toNat : Int) < 48) by omega, show ¬ ((57 : Int) < c.toNat) by omega, w1, w2, w3, w4]
              refine ⟨hlt, by rw [wrap64 (by omega)]; rfl, HeapIs.rfl, fun x hx => ?_⟩
              rw [tk] at hx
              rcases List.mem_append.1 hx with hx | hx
              · exact hdg x hx
              · rw [List.mem_singleton.1 hx]; exact q2
            · have no : ReadsN s 0 false := ⟨fun v hv hs => absurd (dec_dg v c (by rw [← bl_num, ← hs, hce]; exact List.getElem_mem _)) q2, by simp, fun _ => rfl⟩
              have q3 : ¬ (48 ≤ c.toNat ∧ c.toNat ≤ 57) := by simpa [isDg] using q2
              by_cases q5 : (c.toNat : Int) < 48
              · simp only [go_sem, Nat.reduceBEq, Nat.reduceAdd, Nat.reduceMul, Nat.reduceSub, Nat.reduceLeDiff, Nat.le_refl, implies_true, Nat.reduceLT, reduceIte, decide_true, decide_false, true_and, and_true, reduceCtorEq, Nat.mul_one, Int.reduceToNat, Int.reduceLE, Int.reduceLT, Int.reduceAdd, Int.reduceSub, Int.reduceMul, Int.cast_ofNat_Int, cast_zero_int, cast_one_int, Nat.reducePow, Nat.reduceEqDiff, Nat.reduceMod, Nat.zero_add, Nat.sub_zero, Nat.add_zero, e0, e4, e5, e6, hz, hb, q5]
                exact ⟨_, _, rfl, no⟩
              · simp only [go_sem, Nat.reduceBEq, Nat.reduceAdd, Nat.reduceMul, Nat.reduceSub, Nat.reduceLeDiff, Nat.le_refl, implies_true, Nat.reduceLT, reduceIte, decide_true, decide_false, true_and, and_true, reduceCtorEq, Nat.mul_one, Int.reduceToNat, Int.reduceLE, Int.reduceLT, Int.reduceAdd, Int.reduceSub, Int.reduceMul, Int.cast_ofNat_Int, cast_zero_int, cast_one_int, Nat.reducePow, Nat.reduceEqDiff, Nat.reduceMod, Nat.zero_add, Nat.sub_zero, Nat.add_zero, e0, e4, e5, e6, hz, hb, q5, show (57 : Int) < c.toNat by omega]
                exact ⟨_, _, rfl, no⟩
          · obtain rfl : i = s.size := by omega
            rw [List.take_of_length_le (by rw [bl_len]; exact Nat.le_refl _)] at e5 hdg vlt
            simp only [go_sem, Nat.reduceBEq, Nat.reduceAdd, Nat.reduceMul, Nat.reduceSub, Nat.reduceLeDiff, Nat.le_refl, implies_true, Nat.reduceLT, reduceIte, decide_true, decide_false, true_and, and_true, reduceCtorEq, Nat.mul_one, Int.reduceToNat, Int.reduceLE, Int.reduceLT, Int.reduceAdd, Int.reduceSub, Int.reduceMul, Int.cast_ofNat_Int, cast_zero_int, cast_one_int, Nat.reducePow, Nat.reduceEqDiff, Nat.reduceMod, Nat.zero_add, Nat.sub_zero, Nat.add_zero, e0, e4, e5, e6, show ¬ ((s.size : Int) < s.size) by omega]
            refine ⟨by kernel_rfl, (c_l1NumN ((valL (bl s) : Nat) : Int) (by omega)).use (fun _ m => m) ?_⟩
            rintro _ _ ⟨⟨u, rfl, hu⟩, rfl⟩
            have hu := hu (by omega)
            rw [Int.toNat_natCast] at hu
            by_cases g : u = s
            · simp only [go_sem, Nat.reduceBEq, Nat.reduceAdd, Nat.reduceMul, Nat.reduceSub, Nat.reduceLeDiff, Nat.le_refl, implies_true, Nat.reduceLT, reduceIte, decide_true, decide_false, true_and, and_true, reduceCtorEq, Nat.mul_one, Int.reduceToNat, Int.reduceLE, Int.reduceLT, Int.reduceAdd, Int.reduceSub, Int.reduceMul, Int.cast_ofNat_Int, cast_zero_int, cast_one_int, Nat.reducePow, Nat.reduceEqDiff, Nat.reduceMod, Nat.zero_add, Nat.sub_zero, Nat.add_zero, e0, e4, e5, e6, show ¬ ((s.size : Int) < s.size) by omega, show (u.toList == s.toList) = true from by rw [g]; exact beq_self_eq_true _, Bool.not_true]
              refine ⟨_, _, rfl, fun v hv hs => ⟨?_, rfl⟩, fun _ c hc => by rw [isNumC, hdg c hc]; rfl, by simp⟩
              rw [hs, bl_num, dec_val]
            · simp only [go_sem, Nat.reduceBEq, Nat.reduceAdd, Nat.reduceMul, Nat.reduceSub, Nat.reduceLeDiff, Nat.le_refl, implies_true, Nat.reduceLT, reduceIte, decide_true, decide_false, true_and, and_true, reduceCtorEq, Nat.mul_one, Int.reduceToNat, Int.reduceLE, Int.reduceLT, Int.reduceAdd, Int.reduceSub, Int.reduceMul, Int.cast_ofNat_Int, cast_zero_int, cast_one_int, Nat.reducePow, Nat.reduceEqDiff, Nat.reduceMod, Nat.zero_add, Nat.sub_zero, Nat.add_zero, e0, e4, e5, e6, show ¬ ((s.size : Int) < s.size) by omega, show (u.toList == s.toList) = false from by rw [toList_eq]; exact decide_eq_false g, Bool.not_false]
              refine ⟨_, _, rfl, fun v hv hs => absurd ?_ g, by simp, fun _ => rfl⟩
              rw [hu, hs, bl_num, dec_val]
      · have q1 : decide ((1 : Int) ≤ s.size ∧ (s.size : Int) ≤ 6) = false := decide_eq_false (by omega)
        simp only [go_sem, Nat.reduceBEq, Nat.reduceAdd, Nat.reduceMul, Nat.reduceSub, Nat.reduceLeDiff, Nat.le_refl, implies_true, Nat.reduceLT, reduceIte, decide_true, decide_false, true_and, and_true, reduceCtorEq, Nat.mul_one, Int.reduceToNat, Int.reduceLE, Int.reduceLT, Int.reduceAdd, Int.reduceSub, Int.reduceMul, Int.cast_ofNat_Int, cast_zero_int, cast_one_int, Nat.reducePow, Nat.reduceEqDiff, Nat.reduceMod, Nat.zero_add, Nat.sub_zero, Nat.add_zero, neg, q1]
        exact ⟨_, _, rfl, fun v hv hs => absurd (by have h1 := dec_len (k := 6) hv (by omega); have h2 := dec_pos v; rw [hs, ← bl_len, bl_num]; obtain ⟨x, r, h3⟩ := h2; rw [h3] at h1 ⊢; simp at h1 ⊢; omega) q0, by simp, fun _ => rfl⟩
end
end Go.Proofs.YtfolkgkcaiaifaaDoor
