
/- Samples: how they are copied, compared and judged. No condition. -/
import Derived.Test.YtfolkgkcaiaifaaDoorInts
namespace Go.Proofs.YtfolkgkcaiaifaaDoor
open Go.HH
set_option linter.unusedSimpArgs false
set_option linter.unusedVariables false

/-- Day, node, kind and value. -/
abbrev Smp := Int × Int × Int × Int
def sag (x : Smp) : Value := .agg #[.int .i64 x.1, .int .i64 x.2.1, .int .i64 x.2.2.1, .int .i64 x.2.2.2]

section
variable {h : Heap} {M : Nat → Prop}

/-- A sample's cells. -/
def smp (x : Smp) : List Value := [.int .i64 x.1, .int .i64 x.2.1, .int .i64 x.2.2.1, .int .i64 x.2.2.2]
theorem smp_len {l : List Smp} : ∀ r ∈ l.map smp, r.length = 4 := by
  intro r hr
  obtain ⟨x, _, rfl⟩ := List.mem_map.1 hr
  rfl

theorem c_smpNode (n : Int) : vCall [] Tryd.prog M 42 [.int .i64 n] h (fun r h' => r = .bool (decide (1 ≤ n ∧ n ≤ 8)) ∧ h = h') := by
  refine body_of mo Tryd.func42 rfl (by kernel_rfl) (Nat.le_of_ble_eq_true (by kernel_rfl)) rfl ?_
  simp only [go_sem, Nat.reduceBEq, Nat.reduceAdd, Nat.reduceMul, Nat.reduceSub, Nat.reduceLeDiff, Nat.le_refl, implies_true, Nat.reduceLT, reduceIte, decide_true, decide_false, true_and, and_true, reduceCtorEq, Nat.mul_one, Int.reduceToNat, Int.reduceLE, Int.reduceLT, Int.reduceAdd, Int.reduceSub, Int.reduceMul, Int.cast_ofNat_Int, cast_zero_int, cast_one_int, Nat.reducePow, Nat.reduceEqDiff, Nat.reduceMod, Nat.zero_add, Nat.sub_zero, Nat.add_zero]
  refine ⟨by kernel_rfl, (c_inside _ _ _).use (fun _ m => m) ?_⟩
  rintro _ _ ⟨rfl, rfl⟩
  simp only [go_sem, Nat.reduceBEq, Nat.reduceAdd, Nat.reduceMul, Nat.reduceSub, Nat.reduceLeDiff, Nat.le_refl, implies_true, Nat.reduceLT, reduceIte, decide_true, decide_false, true_and, and_true, reduceCtorEq, Nat.mul_one, Int.reduceToNat, Int.reduceLE, Int.reduceLT, Int.reduceAdd, Int.reduceSub, Int.reduceMul, Int.cast_ofNat_Int, cast_zero_int, cast_one_int, Nat.reducePow, Nat.reduceEqDiff, Nat.reduceMod, Nat.zero_add, Nat.sub_zero, Nat.add_zero]
  all_goals first | exact rfl | exact ⟨rfl, rfl⟩ | exact List.prefix_append _ _ | exact ⟨rfl, List.prefix_append _ _⟩ | assumption | exact ⟨rfl, by assumption⟩ | exact List.prefix_rfl | exact ⟨rfl, List.prefix_rfl⟩ | exact List.IsPrefix.trans (by assumption) (by assumption) | exact ⟨rfl, List.IsPrefix.trans (by assumption) (by assumption)⟩
theorem c_l23smpNode (n : Int) : vCall [] Tryd.prog M 62 [.int .i64 n] h (fun r h' => r = .bool (decide (1 ≤ n ∧ n ≤ 8)) ∧ h = h') := by
  refine body_of mo Tryd.func62 rfl (by kernel_rfl) (Nat.le_of_ble_eq_true (by kernel_rfl)) rfl ?_
  simp only [go_sem, Nat.reduceBEq, Nat.reduceAdd, Nat.reduceMul, Nat.reduceSub, Nat.reduceLeDiff, Nat.le_refl, implies_true, Nat.reduceLT, reduceIte, decide_true, decide_false, true_and, and_true, reduceCtorEq, Nat.mul_one, Int.reduceToNat, Int.reduceLE, Int.reduceLT, Int.reduceAdd, Int.reduceSub, Int.reduceMul, Int.cast_ofNat_Int, cast_zero_int, cast_one_int, Nat.reducePow, Nat.reduceEqDiff, Nat.reduceMod, Nat.zero_add, Nat.sub_zero, Nat.add_zero]
  refine ⟨by kernel_rfl, (c_l1In _ _ _).use (fun _ m => m) ?_⟩
  rintro _ _ ⟨rfl, rfl⟩
  simp only [go_sem, Nat.reduceBEq, Nat.reduceAdd, Nat.reduceMul, Nat.reduceSub, Nat.reduceLeDiff, Nat.le_refl, implies_true, Nat.reduceLT, reduceIte, decide_true, decide_false, true_and, and_true, reduceCtorEq, Nat.mul_one, Int.reduceToNat, Int.reduceLE, Int.reduceLT, Int.reduceAdd, Int.reduceSub, Int.reduceMul, Int.cast_ofNat_Int, cast_zero_int, cast_one_int, Nat.reducePow, Nat.reduceEqDiff, Nat.reduceMod, Nat.zero_add, Nat.sub_zero, Nat.add_zero]
  all_goals first | exact rfl | exact ⟨rfl, rfl⟩ | exact List.prefix_append _ _ | exact ⟨rfl, List.prefix_append _ _⟩ | assumption | exact ⟨rfl, by assumption⟩ | exact List.prefix_rfl | exact ⟨rfl, List.prefix_rfl⟩ | exact List.IsPrefix.trans (by assumption) (by assumption) | exact ⟨rfl, List.IsPrefix.trans (by assumption) (by assumption)⟩
def smpOk (x : Smp) : Prop := (0 ≤ x.1 ∧ x.1 ≤ 3650) ∧ (1 ≤ x.2.1 ∧ x.2.1 ≤ 8) ∧ (1 ≤ x.2.2.1 ∧ x.2.2.1 ≤ 4) ∧ 0 ≤ x.2.2.2 ∧ x.2.2.2 ≤ 100000
instance {x : Smp} : Decidable (smpOk x) := by unfold smpOk; infer_instance

/-- How far a sample lies outside. -/
def lowOf (k : Int) : Int := if k = 1 then 100 else 0
def highOf (k : Int) : Int := if k = 1 then 500 else if k = 2 then 50000 else if k = 3 then 200 else 1000
def off (x : Smp) : Int := max (max (lowOf x.2.2.1 - x.2.2.2) (x.2.2.2 - highOf x.2.2.1)) 0

set_option maxRecDepth 8000 in
set_option maxRecDepth 8000 in
def smp0 : Smp := (0, 0, 0, 0)
theorem getDs {l : List Smp} {i : Nat} (hi : i < l.length) : l.getD i smp0 = l[i] := by simp [List.getD, hi]
def smpAt (l : List Smp) (i : Nat) : Prop := smpOk (l.getD i smp0) ∧ (0 < i → (l.getD (i - 1) smp0).1 ≤ (l.getD i smp0).1)
instance {l : List Smp} {i : Nat} : Decidable (smpAt l i) := by unfold smpAt; infer_instance
def smpGood (l : List Smp) : Prop := (∀ i, i < l.length → smpAt l i) ∧ l.length ≤ 15
instance {l : List Smp} : Decidable (smpGood l) := by unfold smpGood; infer_instance
theorem smpGood.ok {l : List Smp} (g : smpGood l) {i : Nat} (hi : i < l.length) : smpOk l[i] := by
  have := (g.1 i hi).1
  rwa [getDs hi] at this

end

theorem Fits.smps {h : Heap} {v : Value} (f : FitV h (.slice (.struct (.pair (.int .i64) (.pair (.int .i64) (.pair (.int .i64) (.pair (.int .i64) .unit)))))) v) : ∃ l : List Smp, SB h.length 4 h v (l.map smp) ∧ l.length ≤ 9223372036854775807 := by
  obtain ⟨rows, s, hl, hf⟩ := Fits.sb f
  obtain ⟨l, rfl⟩ := rows_map (f := smp) (rows := rows) (fun r hr => by
    have f' : Fits h (.pair (.int .i64) (.pair (.int .i64) (.pair (.int .i64) (.pair (.int .i64) .unit)))) r := hf r hr
    obtain ⟨_, _, rfl, f0, r0⟩ := f'.pair
    obtain ⟨_, _, rfl, f1, r1⟩ := r0.pair
    obtain ⟨_, _, rfl, f2, r2⟩ := r1.pair
    obtain ⟨_, _, rfl, f3, r3⟩ := r2.pair
    obtain rfl := r3.unit
    obtain ⟨a0, rfl, _⟩ := f0.int
    obtain ⟨a1, rfl, _⟩ := f1.int
    obtain ⟨a2, rfl, _⟩ := f2.int
    obtain ⟨a3, rfl, _⟩ := f3.int
    exact ⟨(a0, a1, a2, a3), rfl⟩)
  exact ⟨l, s, by rw [List.length_map] at hl; exact hl⟩
end Go.Proofs.YtfolkgkcaiaifaaDoor
