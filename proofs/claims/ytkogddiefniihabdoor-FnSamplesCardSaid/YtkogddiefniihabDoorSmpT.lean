
/- The text of a sample: what both programs say. No condition. -/
import Derived.Test.YtkogddiefniihabDoorSamples
import Derived.Test.YtkogddiefniihabDoorGlobS
import Derived.Test.YtkogddiefniihabDoorLogL
import Derived.Test.YtkogddiefniihabDoorH3
namespace Go.Proofs.YtkogddiefniihabDoor
open Go.HH Go.Proofs
set_option linter.unusedSimpArgs false
set_option linter.unusedVariables false

def tDay : ByteArray := ⟨#[100, 97, 121, 32]⟩
def tAt : ByteArray := ⟨#[44, 32, 110, 111, 100, 101, 32]⟩
def tCol : ByteArray := ⟨#[58, 32]⟩
def tSp : ByteArray := ⟨#[32]⟩
def tDot : ByteArray := ⟨#[46]⟩
/-- Three digits. -/
def dl3 (x : Nat) : List UInt8 := [UInt8.ofNat (48 + x / 100), UInt8.ofNat (48 + x / 10 % 10), UInt8.ofNat (48 + x % 10)]
def d3 (x : Nat) : ByteArray := ⟨(dl3 x).toArray⟩
def smpS (a n k v : Nat) : ByteArray := tDay ++ num a ++ tAt ++ num n ++ tCol ++ wordB k ++ tSp ++ num (v / 1000) ++ tDot ++ d3 (v % 1000)
theorem t_addS {a b : ByteArray} {n m : Nat} (h1 : a.size ≤ n) (h2 : b.size ≤ m) (h : n + m ≤ 9223372036854775807) : hBin .add (.string a) (.string b) = some (.string (a ++ b)) := hBin_sadd (by omega)
theorem t_sizeS {a b : ByteArray} {n m : Nat} (h1 : a.size ≤ n) (h2 : b.size ≤ m) : (a ++ b).size ≤ n + m := by rw [ByteArray.size_append]; omega
theorem wordB_size {k : Nat} (hk : k ≤ 4) : (wordB k).size ≤ 9 := by
  rcases k with _ | _ | _ | _ | _ | k <;> first | decide | omega
theorem wordV_at {k : Nat} (hk : k ≤ 4) : wordV[k]? = some (.string (wordB k)) := by
  rcases k with _ | _ | _ | _ | _ | k <;> first | rfl | omega
theorem dec4 {x : Nat} (hx : x < 1000) : Lib.decDigits (1000 + x) = 49 :: dl3 x := by
  have step : ∀ n, ¬ n < 10 → Lib.decDigits n = Lib.decDigits (n / 10) ++ [UInt8.ofNat (48 + n % 10)] := fun n h => by rw [Lib.decDigits, dif_neg h]
  rw [step (1000 + x) (by omega), step ((1000 + x) / 10) (by omega), step ((1000 + x) / 10 / 10) (by omega), Lib.decDigits_one (by omega)]
  rw [show (1000 + x) / 10 / 10 / 10 = 1 by omega, show (1000 + x) / 10 / 10 % 10 = x / 100 by omega, show (1000 + x) / 10 % 10 = x / 10 % 10 by omega, show (1000 + x) % 10 = x % 10 by omega]
  rfl
theorem num4 {x : Nat} (hx : x < 1000) : (num (1000 + x)).size = 4 ∧ (num (1000 + x)).extract 1 4 = d3 x := by
  have e : bl (num (1000 + x)) = 49 :: dl3 x := dec4 hx
  refine ⟨by rw [← bl_len, e]; rfl, bl_ext ?_⟩
  rw [bl_extract, e]; rfl

section
variable {G : List (Nat × Nat)} {h : Heap} {M : Nat → Prop}

theorem c_sampleTextS (pw : PowAt glGS h) (wa : WordsAt glGS h) (a n k v : Nat) (ha : a ≤ 3650) (hn : n ≤ 8) (hk : k ≤ 4) (hv : v ≤ 100000) :
    vCall glGS Tryd.prog M 61 [.agg #[.int .i64 a, .int .i64 n, .int .i64 k, .int .i64 v]] h (fun r h' => r = .string (smpS a n k v) ∧ h <+: h') := by
  have na : (num a).size ≤ 10 := num_less (by omega)
  have nn : (num n).size ≤ 10 := num_less (by omega)
  have nv : (num (v / 1000)).size ≤ 10 := num_less (by omega)
  have nk := wordB_size hk
  have z1 : (tDay ++ num a).size ≤ 14 := t_sizeS (n := 4) (by decide) na
  have z2 : (tDay ++ num a ++ tAt).size ≤ 21 := t_sizeS (m := 7) z1 (by decide)
  have z3 : (tDay ++ num a ++ tAt ++ num n).size ≤ 31 := t_sizeS z2 nn
  have z4 : (tDay ++ num a ++ tAt ++ num n ++ tCol).size ≤ 33 := t_sizeS (m := 2) z3 (by decide)
  have z5 : (tDay ++ num a ++ tAt ++ num n ++ tCol ++ wordB k).size ≤ 42 := t_sizeS z4 nk
  have z6 : (tDay ++ num a ++ tAt ++ num n ++ tCol ++ wordB k ++ tSp).size ≤ 43 := t_sizeS (m := 1) z5 (by decide)
  have z7 : (tDay ++ num a ++ tAt ++ num n ++ tCol ++ wordB k ++ tSp ++ num (v / 1000)).size ≤ 53 := t_sizeS z6 nv
  have z8 : (tDay ++ num a ++ tAt ++ num n ++ tCol ++ wordB k ++ tSp ++ num (v / 1000) ++ tDot).size ≤ 54 := t_sizeS (m := 1) z7 (by decide)
  have a1 : hBin .add (.string ⟨#[100, 97, 121, 32]⟩) (.string (num a)) = some (.string (tDay ++ num a)) := t_addS (n := 4) (by decide) na (by omega)
  have a2 : hBin .add (.string (tDay ++ num a)) (.string ⟨#[44, 32, 110, 111, 100, 101, 32]⟩) = some (.string (tDay ++ num a ++ tAt)) := t_addS (m := 7) z1 (by decide) (by omega)
  have a3 : hBin .add (.string (tDay ++ num a ++ tAt)) (.string (num n)) = some (.string (tDay ++ num a ++ tAt ++ num n)) := t_addS z2 nn (by omega)
  have a4 : hBin .add (.string (tDay ++ num a ++ tAt ++ num n)) (.string ⟨#[58, 32]⟩) = some (.string (tDay ++ num a ++ tAt ++ num n ++ tCol)) := t_addS (m := 2) z3 (by decide) (by omega)
  have a5 : hBin .add (.string (tDay ++ num a ++ tAt ++ num n ++ tCol)) (.string (wordB k)) = some (.string (tDay ++ num a ++ tAt ++ num n ++ tCol ++ wordB k)) := t_addS z4 nk (by omega)
  have a6 : hBin .add (.string (tDay ++ num a ++ tAt ++ num n ++ tCol ++ wordB k)) (.string ⟨#[32]⟩) = some (.string (tDay ++ num a ++ tAt ++ num n ++ tCol ++ wordB k ++ tSp)) := t_addS (m := 1) z5 (by decide) (by omega)
  have a7 : hBin .add (.string (tDay ++ num a ++ tAt ++ num n ++ tCol ++ wordB k ++ tSp)) (.string (num (v / 1000))) = some (.string (tDay ++ num a ++ tAt ++ num n ++ tCol ++ wordB k ++ tSp ++ num (v / 1000))) := t_addS z6 nv (by omega)
  have a8 : hBin .add (.string (tDay ++ num a ++ tAt ++ num n ++ tCol ++ wordB k ++ tSp ++ num (v / 1000))) (.string ⟨#[46]⟩) = some (.string (tDay ++ num a ++ tAt ++ num n ++ tCol ++ wordB k ++ tSp ++ num (v / 1000) ++ tDot)) := t_addS (m := 1) z7 (by decide) (by omega)
  have a9 : hBin .add (.string (tDay ++ num a ++ tAt ++ num n ++ tCol ++ wordB k ++ tSp ++ num (v / 1000) ++ tDot)) (.string (d3 (v % 1000))) = some (.string (smpS a n k v)) := t_addS (m := 3) z8 (Nat.le_refl 3) (by omega)
  obtain ⟨f1, f2⟩ := num4 (x := v % 1000) (by omega)
  have wg : ∀ t, hget (h ++ t) 0 = some ⟨wordV, 1, .ro⟩ := fun t => (wa.mono (List.prefix_append _ _)).2
  have d1 : (v : Int).tdiv 1000 = ((v / 1000 : Nat) : Int) := by rw [Int.tdiv_eq_ediv_of_nonneg (by omega)]; rfl
  have d2 : (v : Int).tmod 1000 = ((v % 1000 : Nat) : Int) := by rw [Int.tmod_eq_emod_of_nonneg (by omega)]; rfl
  have w1 : IntKind.i64.wrap ((v / 1000 : Nat) : Int) = ((v / 1000 : Nat) : Int) := wrap64 (by omega)
  have w2 : IntKind.i64.wrap ((v % 1000 : Nat) : Int) = ((v % 1000 : Nat) : Int) := wrap64 (by omega)
  have w3 : IntKind.i64.wrap (1000 + ((v % 1000 : Nat) : Int)) = ((1000 + v % 1000 : Nat) : Int) := by rw [wrap64 (by omega)]; omega
  refine body_of mo Tryd.func61 rfl (by kernel_rfl) (Nat.le_of_ble_eq_true (by kernel_rfl)) rfl ?_
  simp only [go_sem, Nat.reduceBEq, Nat.reduceAdd, Nat.reduceMul, Nat.reduceSub, Nat.reduceLeDiff, Nat.le_refl, implies_true, Nat.reduceLT, reduceIte, decide_true, decide_false, true_and, and_true, reduceCtorEq, Nat.mul_one, Int.reduceToNat, Int.reduceLE, Int.reduceLT, Int.reduceAdd, Int.reduceSub, Int.reduceMul, Int.cast_ofNat_Int, cast_zero_int, cast_one_int, Nat.reducePow, Nat.reduceEqDiff, Nat.reduceMod, Nat.zero_add, Nat.sub_zero, Nat.add_zero]
  refine ⟨by kernel_rfl, (c_ItoaG (pw.app _) a (by omega)).use (fun _ m => m) ?_⟩
  rintro _ _ ⟨rfl, rfl⟩
  simp only [go_sem, Nat.reduceBEq, Nat.reduceAdd, Nat.reduceMul, Nat.reduceSub, Nat.reduceLeDiff, Nat.le_refl, implies_true, Nat.reduceLT, reduceIte, decide_true, decide_false, true_and, and_true, reduceCtorEq, Nat.mul_one, Int.reduceToNat, Int.reduceLE, Int.reduceLT, Int.reduceAdd, Int.reduceSub, Int.reduceMul, Int.cast_ofNat_Int, cast_zero_int, cast_one_int, Nat.reducePow, Nat.reduceEqDiff, Nat.reduceMod, Nat.zero_add, Nat.sub_zero, Nat.add_zero, a1, a2]
  refine ⟨by kernel_rfl, (c_ItoaG (pw.app _) n (by omega)).use (fun _ m => m) ?_⟩
  rintro _ _ ⟨rfl, rfl⟩
  simp only [go_sem, Nat.reduceBEq, Nat.reduceAdd, Nat.reduceMul, Nat.reduceSub, Nat.reduceLeDiff, Nat.le_refl, implies_true, Nat.reduceLT, reduceIte, decide_true, decide_false, true_and, and_true, reduceCtorEq, Nat.mul_one, Int.reduceToNat, Int.reduceLE, Int.reduceLT, Int.reduceAdd, Int.reduceSub, Int.reduceMul, Int.cast_ofNat_Int, cast_zero_int, cast_one_int, Nat.reducePow, Nat.reduceEqDiff, Nat.reduceMod, Nat.zero_add, Nat.sub_zero, Nat.add_zero, a3, a4, wg, wordV_at hk, show (k : Int) < 5 by omega, a5, a6, hBin_quo (show (1000 : Int) ≠ 0 by omega), d1, w1]
  refine ⟨by kernel_rfl, (c_ItoaG (pw.app _) (v / 1000) (by omega)).use (fun _ m => m) ?_⟩
  rintro _ _ ⟨rfl, rfl⟩
  simp only [go_sem, Nat.reduceBEq, Nat.reduceAdd, Nat.reduceMul, Nat.reduceSub, Nat.reduceLeDiff, Nat.le_refl, implies_true, Nat.reduceLT, reduceIte, decide_true, decide_false, true_and, and_true, reduceCtorEq, Nat.mul_one, Int.reduceToNat, Int.reduceLE, Int.reduceLT, Int.reduceAdd, Int.reduceSub, Int.reduceMul, Int.cast_ofNat_Int, cast_zero_int, cast_one_int, Nat.reducePow, Nat.reduceEqDiff, Nat.reduceMod, Nat.zero_add, Nat.sub_zero, Nat.add_zero, a7, a8, hBin_rem (show (1000 : Int) ≠ 0 by omega), d2, w2, w3]
  refine ⟨by kernel_rfl, (c_ItoaG (pw.app _) (1000 + v % 1000) (by omega)).use (fun _ m => m) ?_⟩
  rintro _ _ ⟨rfl, rfl⟩
  simp only [go_sem, Nat.reduceBEq, Nat.reduceAdd, Nat.reduceMul, Nat.reduceSub, Nat.reduceLeDiff, Nat.le_refl, implies_true, Nat.reduceLT, reduceIte, decide_true, decide_false, true_and, and_true, reduceCtorEq, Nat.mul_one, Int.reduceToNat, Int.reduceLE, Int.reduceLT, Int.reduceAdd, Int.reduceSub, Int.reduceMul, Int.cast_ofNat_Int, cast_zero_int, cast_one_int, Nat.reducePow, Nat.reduceEqDiff, Nat.reduceMod, Nat.zero_add, Nat.sub_zero, Nat.add_zero, f1, f2, a9]
  all_goals first | exact rfl | exact ⟨rfl, rfl⟩ | exact List.prefix_append _ _ | exact ⟨rfl, List.prefix_append _ _⟩ | assumption | exact ⟨rfl, by assumption⟩ | exact List.prefix_rfl | exact ⟨rfl, List.prefix_rfl⟩ | exact List.IsPrefix.trans (by assumption) (by assumption) | exact ⟨rfl, List.IsPrefix.trans (by assumption) (by assumption)⟩

theorem div3 {x : Nat} (hx : x < 1000) : ∀ i, i < 3 → (dl3 x).drop (3 - (i + 1)) = UInt8.ofNat (48 + x / 10 ^ i % 10) :: (dl3 x).drop (3 - i)
  | 0, _ => by simp [dl3]
  | 1, _ => by simp [dl3]
  | 2, _ => by
    have : x / 100 % 10 = x / 100 := Nat.mod_eq_of_lt (by omega)
    simp [dl3, this]
  | i + 3, h => by omega
theorem wrap8 {n : Int} (h : 0 ≤ n ∧ n ≤ 255) : IntKind.u8.wrap n = n := IntWalk.u8_in _ h
set_option maxRecDepth 20000 in
theorem c_l3Digits3 (x : Nat) (hx : x < 1000) : vCall [] Tryd.prog M 110 [.int .i64 x, .int .i64 3] h (fun r h' => r = .string (d3 x) ∧ h <+: h') := by
  refine body_of mo Tryd.func110 rfl (by kernel_rfl) (Nat.le_of_ble_eq_true (by kernel_rfl)) rfl ?_
  simp only [go_sem, Nat.reduceBEq, Nat.reduceAdd, Nat.reduceMul, Nat.reduceSub, Nat.reduceLeDiff, Nat.le_refl, implies_true, Nat.reduceLT, reduceIte, decide_true, decide_false, true_and, and_true, reduceCtorEq, Nat.mul_one, Int.reduceToNat, Int.reduceLE, Int.reduceLT, Int.reduceAdd, Int.reduceSub, Int.reduceMul, Int.cast_ofNat_Int, cast_zero_int, cast_one_int, Nat.reducePow, Nat.reduceEqDiff, Nat.reduceMod, Nat.zero_add, Nat.sub_zero, Nat.add_zero]
  refine vLoop.count mo 3 (fun i e h' => ∃ t : Heap, e 0 = .int .i64 (x / 10 ^ i : Nat) ∧ e 1 = .int .i64 3 ∧ e 5 = .string ⟨((dl3 x).drop (3 - i)).toArray⟩ ∧ h' = h ++ t) ?_ ?_
  · exact ⟨[], by simp [upd, env0], rfl, rfl, by simp⟩
  · rintro i e _ hi ⟨t, e0, e1, e5, rfl⟩
    have zs : (⟨((dl3 x).drop (3 - i)).toArray⟩ : ByteArray).size = i := by
      show ((dl3 x).drop (3 - i)).toArray.size = i
      rw [List.size_toArray, List.length_drop]; show 3 - (3 - i) = i; omega
    have zl : ((dl3 x).drop (3 - i)).length = i := by rw [List.length_drop]; show 3 - (3 - i) = i; omega
    by_cases h3 : i < 3
    · obtain ⟨m, hm⟩ : ∃ m, m = x / 10 ^ i := ⟨_, rfl⟩
      have hmx : m ≤ x := by rw [hm]; exact Nat.div_le_self _ _
      have q1 : ((m : Nat) : Int).tmod 10 = ((m % 10 : Nat) : Int) := by rw [Int.tmod_eq_emod_of_nonneg (by omega)]; omega
      have w1 : IntKind.i64.wrap (48 + ((m % 10 : Nat) : Int)) = ((48 + m % 10 : Nat) : Int) := by rw [wrap64 (by omega)]; omega
      have w2 : IntKind.u8.wrap ((48 + m % 10 : Nat) : Int) = ((48 + m % 10 : Nat) : Int) := wrap8 (by omega)
      have st : strOfV [Value.int .u8 ((48 + m % 10 : Nat) : Int)] = some ⟨#[UInt8.ofNat (48 + m % 10)]⟩ := rfl
      have e2 : (⟨#[UInt8.ofNat (48 + m % 10)]⟩ : ByteArray) ++ ⟨((dl3 x).drop (3 - i)).toArray⟩ = ⟨((dl3 x).drop (3 - (i + 1))).toArray⟩ := by
        rw [div3 hx i h3, ← hm]
        exact bl_ext (by rw [bl_app]; rfl)
      have a1 : hBin .add (.string ⟨#[UInt8.ofNat (48 + m % 10)]⟩) (.string ⟨((dl3 x).drop (3 - i)).toArray⟩) = some (.string ⟨((dl3 x).drop (3 - (i + 1))).toArray⟩) := by
        rw [← e2]; exact t_addS (n := 1) (m := 3) (Nat.le_refl 1) (by omega) (by omega)
      have q2 : ((m : Nat) : Int).tdiv 10 = ((m / 10 : Nat) : Int) := by rw [Int.tdiv_eq_ediv_of_nonneg (by omega)]; omega
      have w3 : IntKind.i64.wrap ((m / 10 : Nat) : Int) = ((m / 10 : Nat) : Int) := wrap64 (by omega)
      have e10 : x / 10 ^ (i + 1) = m / 10 := by rw [hm, Nat.pow_succ, Nat.div_div_eq_div_mul]
      rw [← hm] at e0
      by_cases h0 : (0 : Int) < (m : Nat)
      · simp only [go_sem, Nat.reduceBEq, Nat.reduceAdd, Nat.reduceMul, Nat.reduceSub, Nat.reduceLeDiff, Nat.le_refl, implies_true, Nat.reduceLT, reduceIte, decide_true, decide_false, true_and, and_true, reduceCtorEq, Nat.mul_one, Int.reduceToNat, Int.reduceLE, Int.reduceLT, Int.reduceAdd, Int.reduceSub, Int.reduceMul, Int.cast_ofNat_Int, cast_zero_int, cast_one_int, Nat.reducePow, Nat.reduceEqDiff, Nat.reduceMod, Nat.zero_add, Nat.sub_zero, Nat.add_zero, e0, e1, e5, h0, hBin_rem (show (10 : Int) ≠ 0 by omega), q1, w1, w2, onCv_more (Nat.one_pos), st, a1, hBin_quo (show (10 : Int) ≠ 0 by omega), q2, w3]
        exact ⟨h3, _, by rw [e10], rfl⟩
      · simp only [go_sem, Nat.reduceBEq, Nat.reduceAdd, Nat.reduceMul, Nat.reduceSub, Nat.reduceLeDiff, Nat.le_refl, implies_true, Nat.reduceLT, reduceIte, decide_true, decide_false, true_and, and_true, reduceCtorEq, Nat.mul_one, Int.reduceToNat, Int.reduceLE, Int.reduceLT, Int.reduceAdd, Int.reduceSub, Int.reduceMul, Int.cast_ofNat_Int, cast_zero_int, cast_one_int, Nat.reducePow, Nat.reduceEqDiff, Nat.reduceMod, Nat.zero_add, Nat.sub_zero, Nat.add_zero, e0, e1, e5, h0, zl, show (i : Int) < 3 by omega, hBin_rem (show (10 : Int) ≠ 0 by omega), q1, w1, w2, onCv_more (Nat.one_pos), st, a1, hBin_quo (show (10 : Int) ≠ 0 by omega), q2, w3]
        exact ⟨h3, _, by rw [e10], rfl⟩
    · obtain rfl : i = 3 := by omega
      rw [show x / 10 ^ 3 = 0 by omega] at e0
      simp only [go_sem, Nat.reduceBEq, Nat.reduceAdd, Nat.reduceMul, Nat.reduceSub, Nat.reduceLeDiff, Nat.le_refl, implies_true, Nat.reduceLT, reduceIte, decide_true, decide_false, true_and, and_true, reduceCtorEq, Nat.mul_one, Int.reduceToNat, Int.reduceLE, Int.reduceLT, Int.reduceAdd, Int.reduceSub, Int.reduceMul, Int.cast_ofNat_Int, cast_zero_int, cast_one_int, Nat.reducePow, Nat.reduceEqDiff, Nat.reduceMod, Nat.zero_add, Nat.sub_zero, Nat.add_zero, e0, e1, e5, zs, show (dl3 x).length = 3 from rfl]
      try all_goals first | exact rfl | exact ⟨rfl, rfl⟩ | exact List.prefix_append _ _ | exact ⟨rfl, List.prefix_append _ _⟩ | assumption | exact ⟨rfl, by assumption⟩ | exact List.prefix_rfl | exact ⟨rfl, List.prefix_rfl⟩ | exact List.IsPrefix.trans (by assumption) (by assumption) | exact ⟨rfl, List.IsPrefix.trans (by assumption) (by assumption)⟩

theorem c_l23Words : vCall [] Tryd.prog M 81 [] h (fun r h' => r = .slice (some ⟨h.length, 0, none⟩) 5 0 ∧ h' = h ++ [⟨wordV, 1, .rw⟩]) := by
  refine body_of mo Tryd.func81 rfl (by kernel_rfl) (Nat.le_of_ble_eq_true (by kernel_rfl)) rfl ?_
  simp only [go_sem, Nat.reduceBEq, Nat.reduceAdd, Nat.reduceMul, Nat.reduceSub, Nat.reduceLeDiff, Nat.le_refl, implies_true, Nat.reduceLT, reduceIte, decide_true, decide_false, true_and, and_true, reduceCtorEq, Nat.mul_one, Int.reduceToNat, Int.reduceLE, Int.reduceLT, Int.reduceAdd, Int.reduceSub, Int.reduceMul, Int.cast_ofNat_Int, cast_zero_int, cast_one_int, Nat.reducePow, Nat.reduceEqDiff, Nat.reduceMod, Nat.zero_add, Nat.sub_zero, Nat.add_zero]
  try all_goals first | exact rfl | exact ⟨rfl, rfl⟩ | exact List.prefix_append _ _ | exact ⟨rfl, List.prefix_append _ _⟩ | assumption | exact ⟨rfl, by assumption⟩ | exact List.prefix_rfl | exact ⟨rfl, List.prefix_rfl⟩ | exact List.IsPrefix.trans (by assumption) (by assumption) | exact ⟨rfl, List.IsPrefix.trans (by assumption) (by assumption)⟩
  try (exact ⟨rfl, rfl⟩)

theorem c_l23Text (a n k v : Nat) (ha : a ≤ 3650) (hn : n ≤ 8) (hk : k ≤ 4) (hv : v ≤ 100000) :
    vCall [] Tryd.prog M 60 [.agg #[.int .i64 a, .int .i64 n, .int .i64 k, .int .i64 v]] h (fun r h' => r = .string (smpS a n k v) ∧ h <+: h') := by
  have na : (num a).size ≤ 10 := num_less (by omega)
  have nn : (num n).size ≤ 10 := num_less (by omega)
  have nv : (num (v / 1000)).size ≤ 10 := num_less (by omega)
  have nk := wordB_size hk
  have z1 : (tDay ++ num a).size ≤ 14 := t_sizeS (n := 4) (by decide) na
  have z2 : (tDay ++ num a ++ tAt).size ≤ 21 := t_sizeS (m := 7) z1 (by decide)
  have z3 : (tDay ++ num a ++ tAt ++ num n).size ≤ 31 := t_sizeS z2 nn
  have z4 : (tDay ++ num a ++ tAt ++ num n ++ tCol).size ≤ 33 := t_sizeS (m := 2) z3 (by decide)
  have z5 : (tDay ++ num a ++ tAt ++ num n ++ tCol ++ wordB k).size ≤ 42 := t_sizeS z4 nk
  have z6 : (tDay ++ num a ++ tAt ++ num n ++ tCol ++ wordB k ++ tSp).size ≤ 43 := t_sizeS (m := 1) z5 (by decide)
  have z7 : (tDay ++ num a ++ tAt ++ num n ++ tCol ++ wordB k ++ tSp ++ num (v / 1000)).size ≤ 53 := t_sizeS z6 nv
  have z8 : (tDay ++ num a ++ tAt ++ num n ++ tCol ++ wordB k ++ tSp ++ num (v / 1000) ++ tDot).size ≤ 54 := t_sizeS (m := 1) z7 (by decide)
  have a1 : hBin .add (.string ⟨#[100, 97, 121, 32]⟩) (.string (num a)) = some (.string (tDay ++ num a)) := t_addS (n := 4) (by decide) na (by omega)
  have a2 : hBin .add (.string (tDay ++ num a)) (.string ⟨#[44, 32, 110, 111, 100, 101, 32]⟩) = some (.string (tDay ++ num a ++ tAt)) := t_addS (m := 7) z1 (by decide) (by omega)
  have a3 : hBin .add (.string (tDay ++ num a ++ tAt)) (.string (num n)) = some (.string (tDay ++ num a ++ tAt ++ num n)) := t_addS z2 nn (by omega)
  have a4 : hBin .add (.string (tDay ++ num a ++ tAt ++ num n)) (.string ⟨#[58, 32]⟩) = some (.string (tDay ++ num a ++ tAt ++ num n ++ tCol)) := t_addS (m := 2) z3 (by decide) (by omega)
  have a5 : hBin .add (.string (tDay ++ num a ++ tAt ++ num n ++ tCol)) (.string (wordB k)) = some (.string (tDay ++ num a ++ tAt ++ num n ++ tCol ++ wordB k)) := t_addS z4 nk (by omega)
  have a6 : hBin .add (.string (tDay ++ num a ++ tAt ++ num n ++ tCol ++ wordB k)) (.string ⟨#[32]⟩) = some (.string (tDay ++ num a ++ tAt ++ num n ++ tCol ++ wordB k ++ tSp)) := t_addS (m := 1) z5 (by decide) (by omega)
  have a7 : hBin .add (.string (tDay ++ num a ++ tAt ++ num n ++ tCol ++ wordB k ++ tSp)) (.string (num (v / 1000))) = some (.string (tDay ++ num a ++ tAt ++ num n ++ tCol ++ wordB k ++ tSp ++ num (v / 1000))) := t_addS z6 nv (by omega)
  have a8 : hBin .add (.string (tDay ++ num a ++ tAt ++ num n ++ tCol ++ wordB k ++ tSp ++ num (v / 1000))) (.string ⟨#[46]⟩) = some (.string (tDay ++ num a ++ tAt ++ num n ++ tCol ++ wordB k ++ tSp ++ num (v / 1000) ++ tDot)) := t_addS (m := 1) z7 (by decide) (by omega)
  have a9 : hBin .add (.string (tDay ++ num a ++ tAt ++ num n ++ tCol ++ wordB k ++ tSp ++ num (v / 1000) ++ tDot)) (.string (d3 (v % 1000))) = some (.string (smpS a n k v)) := t_addS (m := 3) z8 (Nat.le_refl 3) (by omega)
  have d1 : (v : Int).tdiv 1000 = ((v / 1000 : Nat) : Int) := by rw [Int.tdiv_eq_ediv_of_nonneg (by omega)]; rfl
  have d2 : (v : Int).tmod 1000 = ((v % 1000 : Nat) : Int) := by rw [Int.tmod_eq_emod_of_nonneg (by omega)]; rfl
  have w1 : IntKind.i64.wrap ((v / 1000 : Nat) : Int) = ((v / 1000 : Nat) : Int) := wrap64 (by omega)
  have w2 : IntKind.i64.wrap ((v % 1000 : Nat) : Int) = ((v % 1000 : Nat) : Int) := wrap64 (by omega)
  refine body_of mo Tryd.func60 rfl (by kernel_rfl) (Nat.le_of_ble_eq_true (by kernel_rfl)) rfl ?_
  simp only [go_sem, Nat.reduceBEq, Nat.reduceAdd, Nat.reduceMul, Nat.reduceSub, Nat.reduceLeDiff, Nat.le_refl, implies_true, Nat.reduceLT, reduceIte, decide_true, decide_false, true_and, and_true, reduceCtorEq, Nat.mul_one, Int.reduceToNat, Int.reduceLE, Int.reduceLT, Int.reduceAdd, Int.reduceSub, Int.reduceMul, Int.cast_ofNat_Int, cast_zero_int, cast_one_int, Nat.reducePow, Nat.reduceEqDiff, Nat.reduceMod, Nat.zero_add, Nat.sub_zero, Nat.add_zero]
  refine ⟨by kernel_rfl, (c_l1Num a (by omega)).use (fun _ m => m) ?_⟩
  rintro _ _ ⟨rfl, rfl⟩
  simp only [go_sem, Nat.reduceBEq, Nat.reduceAdd, Nat.reduceMul, Nat.reduceSub, Nat.reduceLeDiff, Nat.le_refl, implies_true, Nat.reduceLT, reduceIte, decide_true, decide_false, true_and, and_true, reduceCtorEq, Nat.mul_one, Int.reduceToNat, Int.reduceLE, Int.reduceLT, Int.reduceAdd, Int.reduceSub, Int.reduceMul, Int.cast_ofNat_Int, cast_zero_int, cast_one_int, Nat.reducePow, Nat.reduceEqDiff, Nat.reduceMod, Nat.zero_add, Nat.sub_zero, Nat.add_zero, a1, a2]
  refine ⟨by kernel_rfl, (c_l1Num n (by omega)).use (fun _ m => m) ?_⟩
  rintro _ _ ⟨rfl, rfl⟩
  simp only [go_sem, Nat.reduceBEq, Nat.reduceAdd, Nat.reduceMul, Nat.reduceSub, Nat.reduceLeDiff, Nat.le_refl, implies_true, Nat.reduceLT, reduceIte, decide_true, decide_false, true_and, and_true, reduceCtorEq, Nat.mul_one, Int.reduceToNat, Int.reduceLE, Int.reduceLT, Int.reduceAdd, Int.reduceSub, Int.reduceMul, Int.cast_ofNat_Int, cast_zero_int, cast_one_int, Nat.reducePow, Nat.reduceEqDiff, Nat.reduceMod, Nat.zero_add, Nat.sub_zero, Nat.add_zero, a3, a4]
  refine ⟨by kernel_rfl, (c_l23Words).use (fun _ m => m) ?_⟩
  rintro _ _ ⟨rfl, rfl⟩
  simp only [go_sem, Nat.reduceBEq, Nat.reduceAdd, Nat.reduceMul, Nat.reduceSub, Nat.reduceLeDiff, Nat.le_refl, implies_true, Nat.reduceLT, reduceIte, decide_true, decide_false, true_and, and_true, reduceCtorEq, Nat.mul_one, Int.reduceToNat, Int.reduceLE, Int.reduceLT, Int.reduceAdd, Int.reduceSub, Int.reduceMul, Int.cast_ofNat_Int, cast_zero_int, cast_one_int, Nat.reducePow, Nat.reduceEqDiff, Nat.reduceMod, Nat.zero_add, Nat.sub_zero, Nat.add_zero, wordV_at hk, show (k : Int) < 5 by omega, a5, a6, hBin_quo (show (1000 : Int) ≠ 0 by omega), d1, w1]
  refine ⟨by kernel_rfl, (c_l1Num (v / 1000) (by omega)).use (fun _ m => m) ?_⟩
  rintro _ _ ⟨rfl, rfl⟩
  simp only [go_sem, Nat.reduceBEq, Nat.reduceAdd, Nat.reduceMul, Nat.reduceSub, Nat.reduceLeDiff, Nat.le_refl, implies_true, Nat.reduceLT, reduceIte, decide_true, decide_false, true_and, and_true, reduceCtorEq, Nat.mul_one, Int.reduceToNat, Int.reduceLE, Int.reduceLT, Int.reduceAdd, Int.reduceSub, Int.reduceMul, Int.cast_ofNat_Int, cast_zero_int, cast_one_int, Nat.reducePow, Nat.reduceEqDiff, Nat.reduceMod, Nat.zero_add, Nat.sub_zero, Nat.add_zero, a7, a8, hBin_rem (show (1000 : Int) ≠ 0 by omega), d2, w2]
  refine ⟨by kernel_rfl, (c_l3Digits3 (v % 1000) (by omega)).use (fun _ m => m) ?_⟩
  rintro _ _ ⟨rfl, ⟨t, rfl⟩⟩
  simp only [go_sem, Nat.reduceBEq, Nat.reduceAdd, Nat.reduceMul, Nat.reduceSub, Nat.reduceLeDiff, Nat.le_refl, implies_true, Nat.reduceLT, reduceIte, decide_true, decide_false, true_and, and_true, reduceCtorEq, Nat.mul_one, Int.reduceToNat, Int.reduceLE, Int.reduceLT, Int.reduceAdd, Int.reduceSub, Int.reduceMul, Int.cast_ofNat_Int, cast_zero_int, cast_one_int, Nat.reducePow, Nat.reduceEqDiff, Nat.reduceMod, Nat.zero_add, Nat.sub_zero, Nat.add_zero, a9]
  try all_goals first | exact rfl | exact ⟨rfl, rfl⟩ | exact List.prefix_append _ _ | exact ⟨rfl, List.prefix_append _ _⟩ | assumption | exact ⟨rfl, by assumption⟩ | exact List.prefix_rfl | exact ⟨rfl, List.prefix_rfl⟩ | exact List.IsPrefix.trans (by assumption) (by assumption) | exact ⟨rfl, List.IsPrefix.trans (by assumption) (by assumption)⟩
end
end Go.Proofs.YtkogddiefniihabDoor
