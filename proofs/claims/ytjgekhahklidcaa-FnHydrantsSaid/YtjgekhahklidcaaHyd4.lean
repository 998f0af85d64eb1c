
/- Hydrants in a network: the four exported functions, and their references. No condition. -/
import Derived.Test.YtjgekhahklidcaaHyd3
namespace Go.Proofs.Ytjgekhahklidcaa
open Go.HH
set_option linter.unusedSimpArgs false
set_option linter.unusedVariables false

def hydOk (N : Int) (P : List Pip) (l : List Hyd) (nd rc : Int) : Prop := canR N P l rc ∧ 1 ≤ nd ∧ nd ≤ N
instance {N : Int} {P : List Pip} {l : List Hyd} {nd rc : Int} : Decidable (hydOk N P l nd rc) := by unfold hydOk; infer_instance
def hydRes (N : Int) (P : List Pip) (l : List Hyd) (nd rc : Int) : List Int := if hydOk N P l nd rc then reachA P l nd rc.toNat else []
def flowRes (N : Int) (P : List Pip) (l : List Hyd) (nd rc : Int) : Int := if hydOk N P l nd rc then sumF l (reachA P l nd rc.toNat) else 0
def weakOk (N : Int) (P : List Pip) (l : List Hyd) (rc cl : Int) : Prop := canR N P l rc ∧ 1 ≤ cl ∧ cl ≤ 3
instance {N : Int} {P : List Pip} {l : List Hyd} {rc cl : Int} : Decidable (weakOk N P l rc cl) := by unfold weakOk; infer_instance
def weakRes (N : Int) (P : List Pip) (l : List Hyd) (rc cl : Int) : List Int := if weakOk N P l rc cl then weakL P l rc.toNat (need cl) N.toNat else []
def bestOk (N : Int) (P : List Pip) (l : List Hyd) (rc cl fl : Int) : Prop := canR N P l rc ∧ (1 ≤ cl ∧ cl ≤ 3) ∧ (1 ≤ fl ∧ fl ≤ 5000) ∧ l.length ≠ 10
instance {N : Int} {P : List Pip} {l : List Hyd} {rc cl fl : Int} : Decidable (bestOk N P l rc cl fl) := by unfold bestOk; infer_instance
/-- How many lack water if a hydrant is built at a node. -/
def lack (P : List Pip) (l : List Hyd) (rc : Nat) (nd fl : Int) (N i : Nat) : Int := (weakL P (l ++ [(((i + 1 : Nat) : Int), fl)]) rc nd N).length
def bestL (P : List Pip) (l : List Hyd) (rc : Nat) (nd fl : Int) (N : Nat) : Nat → Int × Int
  | 0 => (0, -1)
  | i + 1 => let b := bestL P l rc nd fl N i
    if b.2 < 0 ∨ lack P l rc nd fl N i < b.2 then (((i + 1 : Nat) : Int), lack P l rc nd fl N i) else b
def bestRes (N : Int) (P : List Pip) (l : List Hyd) (rc cl fl : Int) : Int × Int := if bestOk N P l rc cl fl then bestL P l rc.toNat (need cl) fl N.toNat N.toNat else (0, 0)

section
variable {h : Heap} {M : Nat → Prop}

theorem c_HydrantsFor {n : Nat} (v vl : Value) (N : Int) (P : List Pip) (l : List Hyd) (nd rc : Int) (hv : NA n h v N P) (sl : Sl h 2 vl (l.map hyd)) (hmP : P.length ≤ 1048576) (hml : l.length ≤ 1048576) :
    vCall [] Try.prog M 45 [v, vl, .int .i64 nd, .int .i64 rc] h (fun r h' => (∃ w, r = .tuple #[w, .bool (decide (hydOk N P l nd rc))] ∧ FI h.length h'.length h' w (hydRes N P l nd rc)) ∧ h <+: h') := by
  have hv0 := id hv
  obtain ⟨w, rfl, _⟩ := hv0
  refine body_of mo Try.func45 rfl (by kernel_rfl) (Nat.le_of_ble_eq_true (by kernel_rfl)) rfl ?_
  simp only [go_sem, Nat.reduceBEq, Nat.reduceAdd, Nat.reduceMul, Nat.reduceSub, Nat.reduceLeDiff, Nat.le_refl, implies_true, Nat.reduceLT, reduceIte, decide_true, decide_false, true_and, and_true, reduceCtorEq, Nat.mul_one, Int.reduceToNat, Int.reduceLE, Int.reduceLT, Int.reduceAdd, Int.reduceSub, Int.reduceMul, Int.cast_ofNat_Int, cast_zero_int, cast_one_int, Nat.reducePow, Nat.reduceEqDiff, Nat.reduceMod, Nat.zero_add, Nat.sub_zero, Nat.add_zero]
  refine ⟨by kernel_rfl, (c_canReach _ _ N P l rc (hv.mono (by simp)) (sl.mono (by simp)) hmP hml).use (fun _ m => m) ?_⟩
  rintro _ _ ⟨rfl, ⟨t, rfl⟩⟩
  simp only [go_sem, Nat.reduceBEq, Nat.reduceAdd, Nat.reduceMul, Nat.reduceSub, Nat.reduceLeDiff, Nat.le_refl, implies_true, Nat.reduceLT, reduceIte, decide_true, decide_false, true_and, and_true, reduceCtorEq, Nat.mul_one, Int.reduceToNat, Int.reduceLE, Int.reduceLT, Int.reduceAdd, Int.reduceSub, Int.reduceMul, Int.cast_ofNat_Int, cast_zero_int, cast_one_int, Nat.reducePow, Nat.reduceEqDiff, Nat.reduceMod, Nat.zero_add, Nat.sub_zero, Nat.add_zero]
  have bad : ¬ hydOk N P l nd rc → ∀ (m : Nat) (H : Heap) (a : Option Addr), ∃ w, (Value.tuple #[Value.slice a 0 0, .bool false]) = .tuple #[w, .bool (decide (hydOk N P l nd rc))] ∧ FI h.length m H w (hydRes N P l nd rc) := fun hn m H a =>
    ⟨_, by rw [decide_eq_false hn], by rw [hydRes, if_neg hn]; exact .nil⟩
  by_cases h1 : canR N P l rc
  · simp only [go_sem, Nat.reduceBEq, Nat.reduceAdd, Nat.reduceMul, Nat.reduceSub, Nat.reduceLeDiff, Nat.le_refl, implies_true, Nat.reduceLT, reduceIte, decide_true, decide_false, true_and, and_true, reduceCtorEq, Nat.mul_one, Int.reduceToNat, Int.reduceLE, Int.reduceLT, Int.reduceAdd, Int.reduceSub, Int.reduceMul, Int.cast_ofNat_Int, cast_zero_int, cast_one_int, Nat.reducePow, Nat.reduceEqDiff, Nat.reduceMod, Nat.zero_add, Nat.sub_zero, Nat.add_zero, decb h1]
    refine ⟨by kernel_rfl, (c_has _ _ _).use (fun _ m => m) ?_⟩
    rintro _ _ ⟨rfl, ⟨t2, rfl⟩⟩
    by_cases h2 : 1 ≤ nd ∧ nd ≤ N
    · simp only [go_sem, Nat.reduceBEq, Nat.reduceAdd, Nat.reduceMul, Nat.reduceSub, Nat.reduceLeDiff, Nat.le_refl, implies_true, Nat.reduceLT, reduceIte, decide_true, decide_false, true_and, and_true, reduceCtorEq, Nat.mul_one, Int.reduceToNat, Int.reduceLE, Int.reduceLT, Int.reduceAdd, Int.reduceSub, Int.reduceMul, Int.cast_ofNat_Int, cast_zero_int, cast_one_int, Nat.reducePow, Nat.reduceEqDiff, Nat.reduceMod, Nat.zero_add, Nat.sub_zero, Nat.add_zero, decb h1, decb h2]
      obtain ⟨Nn, rfl⟩ : ∃ m : Nat, N = m := ⟨N.toNat, by omega⟩
      obtain ⟨r, rfl⟩ : ∃ m : Nat, rc = m := ⟨rc.toNat, by have := h1.2.2.1; omega⟩
      refine ⟨by kernel_rfl, (c_hydrantsFor _ _ Nn P l nd r (hv.mono (by simp)) (sl.mono (by simp)) h1.1 h1.hin h2).use (fun _ m => m) ?_⟩
      rintro v2 _ ⟨s2, ⟨t3, rfl⟩⟩
      simp only [List.append_assoc, List.cons_append] at s2
      simp only [go_sem, Nat.reduceBEq, Nat.reduceAdd, Nat.reduceMul, Nat.reduceSub, Nat.reduceLeDiff, Nat.le_refl, implies_true, Nat.reduceLT, reduceIte, decide_true, decide_false, true_and, and_true, reduceCtorEq, Nat.mul_one, Int.reduceToNat, Int.reduceLE, Int.reduceLT, Int.reduceAdd, Int.reduceSub, Int.reduceMul, Int.cast_ofNat_Int, cast_zero_int, cast_one_int, Nat.reducePow, Nat.reduceEqDiff, Nat.reduceMod, Nat.zero_add, Nat.sub_zero, Nat.add_zero]
      have hok : hydOk Nn P l nd r := ⟨h1, h2⟩
      refine ⟨_, by rw [decide_eq_true hok], ?_⟩
      rw [hydRes, if_pos hok]
      exact FI.wide (by simpa using s2) (by omega) (by omega)
    · simp only [go_sem, Nat.reduceBEq, Nat.reduceAdd, Nat.reduceMul, Nat.reduceSub, Nat.reduceLeDiff, Nat.le_refl, implies_true, Nat.reduceLT, reduceIte, decide_true, decide_false, true_and, and_true, reduceCtorEq, Nat.mul_one, Int.reduceToNat, Int.reduceLE, Int.reduceLT, Int.reduceAdd, Int.reduceSub, Int.reduceMul, Int.cast_ofNat_Int, cast_zero_int, cast_one_int, Nat.reducePow, Nat.reduceEqDiff, Nat.reduceMod, Nat.zero_add, Nat.sub_zero, Nat.add_zero, decb h1, dect h2]
      exact bad (fun hh => h2 hh.2) _ _ _
  · simp only [go_sem, Nat.reduceBEq, Nat.reduceAdd, Nat.reduceMul, Nat.reduceSub, Nat.reduceLeDiff, Nat.le_refl, implies_true, Nat.reduceLT, reduceIte, decide_true, decide_false, true_and, and_true, reduceCtorEq, Nat.mul_one, Int.reduceToNat, Int.reduceLE, Int.reduceLT, Int.reduceAdd, Int.reduceSub, Int.reduceMul, Int.cast_ofNat_Int, cast_zero_int, cast_one_int, Nat.reducePow, Nat.reduceEqDiff, Nat.reduceMod, Nat.zero_add, Nat.sub_zero, Nat.add_zero, dect h1]
    exact bad (fun hh => h1 hh.1) _ _ _

theorem c_FlowFor {n : Nat} (v vl : Value) (N : Int) (P : List Pip) (l : List Hyd) (nd rc : Int) (hv : NA n h v N P) (sl : Sl h 2 vl (l.map hyd)) (hmP : P.length ≤ 1048576) (hml : l.length ≤ 1048576) :
    vCall [] Try.prog M 47 [v, vl, .int .i64 nd, .int .i64 rc] h (fun r h' => r = .tuple #[.int .i64 (flowRes N P l nd rc), .bool (decide (hydOk N P l nd rc))] ∧ h <+: h') := by
  have hv0 := id hv
  obtain ⟨w, rfl, _⟩ := hv0
  refine body_of mo Try.func47 rfl (by kernel_rfl) (Nat.le_of_ble_eq_true (by kernel_rfl)) rfl ?_
  simp only [go_sem, Nat.reduceBEq, Nat.reduceAdd, Nat.reduceMul, Nat.reduceSub, Nat.reduceLeDiff, Nat.le_refl, implies_true, Nat.reduceLT, reduceIte, decide_true, decide_false, true_and, and_true, reduceCtorEq, Nat.mul_one, Int.reduceToNat, Int.reduceLE, Int.reduceLT, Int.reduceAdd, Int.reduceSub, Int.reduceMul, Int.cast_ofNat_Int, cast_zero_int, cast_one_int, Nat.reducePow, Nat.reduceEqDiff, Nat.reduceMod, Nat.zero_add, Nat.sub_zero, Nat.add_zero]
  refine ⟨by kernel_rfl, (c_canReach _ _ N P l rc (hv.mono (by simp)) (sl.mono (by simp)) hmP hml).use (fun _ m => m) ?_⟩
  rintro _ _ ⟨rfl, ⟨t, rfl⟩⟩
  simp only [go_sem, Nat.reduceBEq, Nat.reduceAdd, Nat.reduceMul, Nat.reduceSub, Nat.reduceLeDiff, Nat.le_refl, implies_true, Nat.reduceLT, reduceIte, decide_true, decide_false, true_and, and_true, reduceCtorEq, Nat.mul_one, Int.reduceToNat, Int.reduceLE, Int.reduceLT, Int.reduceAdd, Int.reduceSub, Int.reduceMul, Int.cast_ofNat_Int, cast_zero_int, cast_one_int, Nat.reducePow, Nat.reduceEqDiff, Nat.reduceMod, Nat.zero_add, Nat.sub_zero, Nat.add_zero]
  have bad : ¬ hydOk N P l nd rc → (Value.tuple #[.int .i64 0, .bool false]) = .tuple #[.int .i64 (flowRes N P l nd rc), .bool (decide (hydOk N P l nd rc))] := fun hn => by
    rw [decide_eq_false hn, flowRes, if_neg hn]
  by_cases h1 : canR N P l rc
  · simp only [go_sem, Nat.reduceBEq, Nat.reduceAdd, Nat.reduceMul, Nat.reduceSub, Nat.reduceLeDiff, Nat.le_refl, implies_true, Nat.reduceLT, reduceIte, decide_true, decide_false, true_and, and_true, reduceCtorEq, Nat.mul_one, Int.reduceToNat, Int.reduceLE, Int.reduceLT, Int.reduceAdd, Int.reduceSub, Int.reduceMul, Int.cast_ofNat_Int, cast_zero_int, cast_one_int, Nat.reducePow, Nat.reduceEqDiff, Nat.reduceMod, Nat.zero_add, Nat.sub_zero, Nat.add_zero, decb h1]
    refine ⟨by kernel_rfl, (c_has _ _ _).use (fun _ m => m) ?_⟩
    rintro _ _ ⟨rfl, ⟨t2, rfl⟩⟩
    by_cases h2 : 1 ≤ nd ∧ nd ≤ N
    · simp only [go_sem, Nat.reduceBEq, Nat.reduceAdd, Nat.reduceMul, Nat.reduceSub, Nat.reduceLeDiff, Nat.le_refl, implies_true, Nat.reduceLT, reduceIte, decide_true, decide_false, true_and, and_true, reduceCtorEq, Nat.mul_one, Int.reduceToNat, Int.reduceLE, Int.reduceLT, Int.reduceAdd, Int.reduceSub, Int.reduceMul, Int.cast_ofNat_Int, cast_zero_int, cast_one_int, Nat.reducePow, Nat.reduceEqDiff, Nat.reduceMod, Nat.zero_add, Nat.sub_zero, Nat.add_zero, decb h1, decb h2]
      obtain ⟨Nn, rfl⟩ : ∃ m : Nat, N = m := ⟨N.toNat, by omega⟩
      obtain ⟨r, rfl⟩ : ∃ m : Nat, rc = m := ⟨rc.toNat, by have := h1.2.2.1; omega⟩
      refine ⟨by kernel_rfl, (c_flowFor _ _ Nn P l nd r (hv.mono (by simp)) (sl.mono (by simp)) h1.1 h1.hin h2).use (fun _ m => m) ?_⟩
      rintro _ _ ⟨rfl, ⟨t3, rfl⟩⟩
      try simp only [go_sem, Nat.reduceBEq, Nat.reduceAdd, Nat.reduceMul, Nat.reduceSub, Nat.reduceLeDiff, Nat.le_refl, implies_true, Nat.reduceLT, reduceIte, decide_true, decide_false, true_and, and_true, reduceCtorEq, Nat.mul_one, Int.reduceToNat, Int.reduceLE, Int.reduceLT, Int.reduceAdd, Int.reduceSub, Int.reduceMul, Int.cast_ofNat_Int, cast_zero_int, cast_one_int, Nat.reducePow, Nat.reduceEqDiff, Nat.reduceMod, Nat.zero_add, Nat.sub_zero, Nat.add_zero]
      have hok : hydOk Nn P l nd r := ⟨h1, h2⟩
      rw [decide_eq_true hok, flowRes, if_pos hok, Int.toNat_natCast]
    · simp only [go_sem, Nat.reduceBEq, Nat.reduceAdd, Nat.reduceMul, Nat.reduceSub, Nat.reduceLeDiff, Nat.le_refl, implies_true, Nat.reduceLT, reduceIte, decide_true, decide_false, true_and, and_true, reduceCtorEq, Nat.mul_one, Int.reduceToNat, Int.reduceLE, Int.reduceLT, Int.reduceAdd, Int.reduceSub, Int.reduceMul, Int.cast_ofNat_Int, cast_zero_int, cast_one_int, Nat.reducePow, Nat.reduceEqDiff, Nat.reduceMod, Nat.zero_add, Nat.sub_zero, Nat.add_zero, decb h1, dect h2]
      exact bad (fun hh => h2 hh.2)
  · simp only [go_sem, Nat.reduceBEq, Nat.reduceAdd, Nat.reduceMul, Nat.reduceSub, Nat.reduceLeDiff, Nat.le_refl, implies_true, Nat.reduceLT, reduceIte, decide_true, decide_false, true_and, and_true, reduceCtorEq, Nat.mul_one, Int.reduceToNat, Int.reduceLE, Int.reduceLT, Int.reduceAdd, Int.reduceSub, Int.reduceMul, Int.cast_ofNat_Int, cast_zero_int, cast_one_int, Nat.reducePow, Nat.reduceEqDiff, Nat.reduceMod, Nat.zero_add, Nat.sub_zero, Nat.add_zero, dect h1]
    exact bad (fun hh => h1 hh.1)

theorem c_ThirstyNodes {n : Nat} (v vl : Value) (N : Int) (P : List Pip) (l : List Hyd) (rc cl : Int) (hv : NA n h v N P) (sl : Sl h 2 vl (l.map hyd)) (hmP : P.length ≤ 1048576) (hml : l.length ≤ 1048576) :
    vCall [] Try.prog M 54 [v, vl, .int .i64 rc, .int .i64 cl] h (fun r h' => (∃ w, r = .tuple #[w, .bool (decide (weakOk N P l rc cl))] ∧ FI h.length h'.length h' w (weakRes N P l rc cl)) ∧ h <+: h') := by
  have hv0 := id hv
  obtain ⟨w, rfl, _⟩ := hv0
  refine body_of mo Try.func54 rfl (by kernel_rfl) (Nat.le_of_ble_eq_true (by kernel_rfl)) rfl ?_
  simp only [go_sem, Nat.reduceBEq, Nat.reduceAdd, Nat.reduceMul, Nat.reduceSub, Nat.reduceLeDiff, Nat.le_refl, implies_true, Nat.reduceLT, reduceIte, decide_true, decide_false, true_and, and_true, reduceCtorEq, Nat.mul_one, Int.reduceToNat, Int.reduceLE, Int.reduceLT, Int.reduceAdd, Int.reduceSub, Int.reduceMul, Int.cast_ofNat_Int, cast_zero_int, cast_one_int, Nat.reducePow, Nat.reduceEqDiff, Nat.reduceMod, Nat.zero_add, Nat.sub_zero, Nat.add_zero]
  refine ⟨by kernel_rfl, (c_canReach _ _ N P l rc (hv.mono (by simp)) (sl.mono (by simp)) hmP hml).use (fun _ m => m) ?_⟩
  rintro _ _ ⟨rfl, ⟨t, rfl⟩⟩
  simp only [go_sem, Nat.reduceBEq, Nat.reduceAdd, Nat.reduceMul, Nat.reduceSub, Nat.reduceLeDiff, Nat.le_refl, implies_true, Nat.reduceLT, reduceIte, decide_true, decide_false, true_and, and_true, reduceCtorEq, Nat.mul_one, Int.reduceToNat, Int.reduceLE, Int.reduceLT, Int.reduceAdd, Int.reduceSub, Int.reduceMul, Int.cast_ofNat_Int, cast_zero_int, cast_one_int, Nat.reducePow, Nat.reduceEqDiff, Nat.reduceMod, Nat.zero_add, Nat.sub_zero, Nat.add_zero]
  have bad : ¬ weakOk N P l rc cl → ∀ (m : Nat) (H : Heap) (a : Option Addr), ∃ w, (Value.tuple #[Value.slice a 0 0, .bool false]) = .tuple #[w, .bool (decide (weakOk N P l rc cl))] ∧ FI h.length m H w (weakRes N P l rc cl) := fun hn m H a =>
    ⟨_, by rw [decide_eq_false hn], by rw [weakRes, if_neg hn]; exact .nil⟩
  by_cases h1 : canR N P l rc
  · simp only [go_sem, Nat.reduceBEq, Nat.reduceAdd, Nat.reduceMul, Nat.reduceSub, Nat.reduceLeDiff, Nat.le_refl, implies_true, Nat.reduceLT, reduceIte, decide_true, decide_false, true_and, and_true, reduceCtorEq, Nat.mul_one, Int.reduceToNat, Int.reduceLE, Int.reduceLT, Int.reduceAdd, Int.reduceSub, Int.reduceMul, Int.cast_ofNat_Int, cast_zero_int, cast_one_int, Nat.reducePow, Nat.reduceEqDiff, Nat.reduceMod, Nat.zero_add, Nat.sub_zero, Nat.add_zero, decb h1]
    refine ⟨by kernel_rfl, (c_isClass _).use (fun _ m => m) ?_⟩
    rintro _ _ ⟨rfl, rfl⟩
    by_cases h2 : 1 ≤ cl ∧ cl ≤ 3
    · simp only [go_sem, Nat.reduceBEq, Nat.reduceAdd, Nat.reduceMul, Nat.reduceSub, Nat.reduceLeDiff, Nat.le_refl, implies_true, Nat.reduceLT, reduceIte, decide_true, decide_false, true_and, and_true, reduceCtorEq, Nat.mul_one, Int.reduceToNat, Int.reduceLE, Int.reduceLT, Int.reduceAdd, Int.reduceSub, Int.reduceMul, Int.cast_ofNat_Int, cast_zero_int, cast_one_int, Nat.reducePow, Nat.reduceEqDiff, Nat.reduceMod, Nat.zero_add, Nat.sub_zero, Nat.add_zero, decb h1, decb h2]
      obtain ⟨Nn, rfl⟩ : ∃ m : Nat, N = m := ⟨N.toNat, by have := h1.1.2.1; omega⟩
      obtain ⟨r, rfl⟩ : ∃ m : Nat, rc = m := ⟨rc.toNat, by have := h1.2.2.1; omega⟩
      refine ⟨by kernel_rfl, (c_thirstyNodes _ _ Nn P l r cl (hv.mono (by simp)) (sl.mono (by simp)) h1.1 h1.hin h2).use (fun _ m => m) ?_⟩
      rintro v2 _ ⟨s2, ⟨t3, rfl⟩⟩
      simp only [List.append_assoc, List.cons_append] at s2
      simp only [go_sem, Nat.reduceBEq, Nat.reduceAdd, Nat.reduceMul, Nat.reduceSub, Nat.reduceLeDiff, Nat.le_refl, implies_true, Nat.reduceLT, reduceIte, decide_true, decide_false, true_and, and_true, reduceCtorEq, Nat.mul_one, Int.reduceToNat, Int.reduceLE, Int.reduceLT, Int.reduceAdd, Int.reduceSub, Int.reduceMul, Int.cast_ofNat_Int, cast_zero_int, cast_one_int, Nat.reducePow, Nat.reduceEqDiff, Nat.reduceMod, Nat.zero_add, Nat.sub_zero, Nat.add_zero]
      have hok : weakOk Nn P l r cl := ⟨h1, h2⟩
      refine ⟨_, by rw [decide_eq_true hok], ?_⟩
      rw [weakRes, if_pos hok]
      exact FI.wide (by simpa using s2) (by omega) (by omega)
    · simp only [go_sem, Nat.reduceBEq, Nat.reduceAdd, Nat.reduceMul, Nat.reduceSub, Nat.reduceLeDiff, Nat.le_refl, implies_true, Nat.reduceLT, reduceIte, decide_true, decide_false, true_and, and_true, reduceCtorEq, Nat.mul_one, Int.reduceToNat, Int.reduceLE, Int.reduceLT, Int.reduceAdd, Int.reduceSub, Int.reduceMul, Int.cast_ofNat_Int, cast_zero_int, cast_one_int, Nat.reducePow, Nat.reduceEqDiff, Nat.reduceMod, Nat.zero_add, Nat.sub_zero, Nat.add_zero, decb h1, dect h2]
      exact bad (fun hh => h2 hh.2) _ _ _
  · simp only [go_sem, Nat.reduceBEq, Nat.reduceAdd, Nat.reduceMul, Nat.reduceSub, Nat.reduceLeDiff, Nat.le_refl, implies_true, Nat.reduceLT, reduceIte, decide_true, decide_false, true_and, and_true, reduceCtorEq, Nat.mul_one, Int.reduceToNat, Int.reduceLE, Int.reduceLT, Int.reduceAdd, Int.reduceSub, Int.reduceMul, Int.cast_ofNat_Int, cast_zero_int, cast_one_int, Nat.reducePow, Nat.reduceEqDiff, Nat.reduceMod, Nat.zero_add, Nat.sub_zero, Nat.add_zero, dect h1]
    exact bad (fun hh => h1 hh.1) _ _ _

theorem c_BestHydrant {n : Nat} (v vl : Value) (N : Int) (P : List Pip) (l : List Hyd) (rc cl fl : Int) (hv : NA n h v N P) (sl : Sl h 2 vl (l.map hyd)) (hmP : P.length ≤ 1048576) (hml : l.length ≤ 1048576) :
    vCall [] Try.prog M 52 [v, vl, .int .i64 rc, .int .i64 cl, .int .i64 fl] h (fun r h' => r = .tuple #[.int .i64 (bestRes N P l rc cl fl).1, .int .i64 (bestRes N P l rc cl fl).2, .bool (decide (bestOk N P l rc cl fl))] ∧ h <+: h') := by
  obtain ⟨a, rfl⟩ := Sl.len2 sl
  have hv0 := id hv
  obtain ⟨w, rfl, _⟩ := hv0
  refine body_of mo Try.func52 rfl (by kernel_rfl) (Nat.le_of_ble_eq_true (by kernel_rfl)) rfl ?_
  simp only [go_sem, Nat.reduceBEq, Nat.reduceAdd, Nat.reduceMul, Nat.reduceSub, Nat.reduceLeDiff, Nat.le_refl, implies_true, Nat.reduceLT, reduceIte, decide_true, decide_false, true_and, and_true, reduceCtorEq, Nat.mul_one, Int.reduceToNat, Int.reduceLE, Int.reduceLT, Int.reduceAdd, Int.reduceSub, Int.reduceMul, Int.cast_ofNat_Int, cast_zero_int, cast_one_int, Nat.reducePow, Nat.reduceEqDiff, Nat.reduceMod, Nat.zero_add, Nat.sub_zero, Nat.add_zero]
  refine ⟨by kernel_rfl, (c_canReach _ _ N P l rc (hv.mono (by simp)) (sl.mono (by simp)) hmP hml).use (fun _ m => m) ?_⟩
  rintro _ _ ⟨rfl, ⟨t, rfl⟩⟩
  simp only [go_sem, Nat.reduceBEq, Nat.reduceAdd, Nat.reduceMul, Nat.reduceSub, Nat.reduceLeDiff, Nat.le_refl, implies_true, Nat.reduceLT, reduceIte, decide_true, decide_false, true_and, and_true, reduceCtorEq, Nat.mul_one, Int.reduceToNat, Int.reduceLE, Int.reduceLT, Int.reduceAdd, Int.reduceSub, Int.reduceMul, Int.cast_ofNat_Int, cast_zero_int, cast_one_int, Nat.reducePow, Nat.reduceEqDiff, Nat.reduceMod, Nat.zero_add, Nat.sub_zero, Nat.add_zero]
  have bad : ¬ bestOk N P l rc cl fl → (Value.tuple #[.int .i64 0, .int .i64 0, .bool false]) = .tuple #[.int .i64 (bestRes N P l rc cl fl).1, .int .i64 (bestRes N P l rc cl fl).2, .bool (decide (bestOk N P l rc cl fl))] := fun hn => by
    rw [decide_eq_false hn, bestRes, if_neg hn]
  by_cases h1 : canR N P l rc
  · simp only [go_sem, Nat.reduceBEq, Nat.reduceAdd, Nat.reduceMul, Nat.reduceSub, Nat.reduceLeDiff, Nat.le_refl, implies_true, Nat.reduceLT, reduceIte, decide_true, decide_false, true_and, and_true, reduceCtorEq, Nat.mul_one, Int.reduceToNat, Int.reduceLE, Int.reduceLT, Int.reduceAdd, Int.reduceSub, Int.reduceMul, Int.cast_ofNat_Int, cast_zero_int, cast_one_int, Nat.reducePow, Nat.reduceEqDiff, Nat.reduceMod, Nat.zero_add, Nat.sub_zero, Nat.add_zero, decb h1]
    refine ⟨by kernel_rfl, (c_isClass _).use (fun _ m => m) ?_⟩
    rintro _ _ ⟨rfl, rfl⟩
    by_cases h2 : 1 ≤ cl ∧ cl ≤ 3
    · simp only [go_sem, Nat.reduceBEq, Nat.reduceAdd, Nat.reduceMul, Nat.reduceSub, Nat.reduceLeDiff, Nat.le_refl, implies_true, Nat.reduceLT, reduceIte, decide_true, decide_false, true_and, and_true, reduceCtorEq, Nat.mul_one, Int.reduceToNat, Int.reduceLE, Int.reduceLT, Int.reduceAdd, Int.reduceSub, Int.reduceMul, Int.cast_ofNat_Int, cast_zero_int, cast_one_int, Nat.reducePow, Nat.reduceEqDiff, Nat.reduceMod, Nat.zero_add, Nat.sub_zero, Nat.add_zero, decb h1, decb h2]
      refine ⟨by kernel_rfl, (c_inside _ _ _).use (fun _ m => m) ?_⟩
      rintro _ _ ⟨rfl, rfl⟩
      by_cases h3 : 1 ≤ fl ∧ fl ≤ 5000
      · simp only [go_sem, Nat.reduceBEq, Nat.reduceAdd, Nat.reduceMul, Nat.reduceSub, Nat.reduceLeDiff, Nat.le_refl, implies_true, Nat.reduceLT, reduceIte, decide_true, decide_false, true_and, and_true, reduceCtorEq, Nat.mul_one, Int.reduceToNat, Int.reduceLE, Int.reduceLT, Int.reduceAdd, Int.reduceSub, Int.reduceMul, Int.cast_ofNat_Int, cast_zero_int, cast_one_int, Nat.reducePow, Nat.reduceEqDiff, Nat.reduceMod, Nat.zero_add, Nat.sub_zero, Nat.add_zero, decb h1, decb h2, decb h3]
        by_cases h4 : l.length = 10
        · simp only [go_sem, Nat.reduceBEq, Nat.reduceAdd, Nat.reduceMul, Nat.reduceSub, Nat.reduceLeDiff, Nat.le_refl, implies_true, Nat.reduceLT, reduceIte, decide_true, decide_false, true_and, and_true, reduceCtorEq, Nat.mul_one, Int.reduceToNat, Int.reduceLE, Int.reduceLT, Int.reduceAdd, Int.reduceSub, Int.reduceMul, Int.cast_ofNat_Int, cast_zero_int, cast_one_int, Nat.reducePow, Nat.reduceEqDiff, Nat.reduceMod, Nat.zero_add, Nat.sub_zero, Nat.add_zero, show ((l.length : Int) == 10) = true by simp [h4]]
          exact bad (fun hh => hh.2.2.2 h4)
        · simp only [go_sem, Nat.reduceBEq, Nat.reduceAdd, Nat.reduceMul, Nat.reduceSub, Nat.reduceLeDiff, Nat.le_refl, implies_true, Nat.reduceLT, reduceIte, decide_true, decide_false, true_and, and_true, reduceCtorEq, Nat.mul_one, Int.reduceToNat, Int.reduceLE, Int.reduceLT, Int.reduceAdd, Int.reduceSub, Int.reduceMul, Int.cast_ofNat_Int, cast_zero_int, cast_one_int, Nat.reducePow, Nat.reduceEqDiff, Nat.reduceMod, Nat.zero_add, Nat.sub_zero, Nat.add_zero, show ((l.length : Int) == 10) = false by simpa using fun hh : (l.length : Int) = 10 => h4 (by omega)]
          obtain ⟨Nn, rfl⟩ : ∃ m : Nat, N = m := ⟨N.toNat, by have := h1.1.2.1; omega⟩
          obtain ⟨r, rfl⟩ : ∃ m : Nat, rc = m := ⟨rc.toNat, by have := h1.2.2.1; omega⟩
          have hok : bestOk Nn P l r cl fl := ⟨h1, h2, h3, h4⟩
          have hlen : l.length ≤ 10 := h1.2.1.2
          have hNn := h1.1.2.1
          rw [decide_eq_true hok, bestRes, if_pos hok, Int.toNat_natCast, Int.toNat_natCast]
          refine vLoop.count mo Nn (fun i e h' => ∃ (t : Heap), Regs e [(1, .slice a l.length 0), (2, .int .i64 r), (3, .int .i64 cl), (4, .int .i64 fl), (5, .pointer (some ⟨h.length, 0, none⟩)), (13, .int .i64 (bestL P l r (need cl) fl Nn i).1), (14, .int .i64 (bestL P l r (need cl) fl Nn i).2), (15, .int .i64 ((i + 1 : Nat) : Int))] ∧
            HeapIs h' (h ++ ⟨[.int .i64 Nn, w], 2, .rw⟩ :: t)) ?_ ?_
          · exact ⟨_, ⟨rfl, rfl, rfl, rfl, rfl, rfl, rfl, rfl, trivial⟩, .rfl⟩
          · rintro i e _ hi ⟨t, ⟨e1, e2, e3, e4, e5, e13, e14, e15, _⟩, rfl⟩
            simp only [go_sem, Nat.reduceBEq, Nat.reduceAdd, Nat.reduceMul, Nat.reduceSub, Nat.reduceLeDiff, Nat.le_refl, implies_true, Nat.reduceLT, reduceIte, decide_true, decide_false, true_and, and_true, reduceCtorEq, Nat.mul_one, Int.reduceToNat, Int.reduceLE, Int.reduceLT, Int.reduceAdd, Int.reduceSub, Int.reduceMul, Int.cast_ofNat_Int, cast_zero_int, cast_one_int, Nat.reducePow, Nat.reduceEqDiff, Nat.reduceMod, Nat.zero_add, Nat.sub_zero, Nat.add_zero, e1, e2, e3, e4, e5, e13, e14, e15]
            by_cases hlt : i < Nn
            · have ws := wsucc (i := i + 1) (N := Nn + 1) (by omega) (by omega)
              simp only [go_sem, Nat.reduceBEq, Nat.reduceAdd, Nat.reduceMul, Nat.reduceSub, Nat.reduceLeDiff, Nat.le_refl, implies_true, Nat.reduceLT, reduceIte, decide_true, decide_false, true_and, and_true, reduceCtorEq, Nat.mul_one, Int.reduceToNat, Int.reduceLE, Int.reduceLT, Int.reduceAdd, Int.reduceSub, Int.reduceMul, Int.cast_ofNat_Int, cast_zero_int, cast_one_int, Nat.reducePow, Nat.reduceEqDiff, Nat.reduceMod, Nat.zero_add, Nat.sub_zero, Nat.add_zero, e1, e2, e3, e4, e5, e13, e14, e15, show ((i + 1 : Nat) : Int) ≤ Nn by omega]
              have fin : ∀ (H : Heap) (v16 : Value), h ++ ⟨[.int .i64 Nn, w], 2, .rw⟩ :: t <+: H → Sl H 2 v16 ((l ++ [(((i + 1 : Nat) : Int), fl)]).map hyd) → vCall [] Try.prog (own h.length M) 99 [.agg #[.int .i64 Nn, w], v16, .int .i64 r, .int .i64 cl] H (fun r' h' => FI H.length h'.length h' r' (weakL P (l ++ [(((i + 1 : Nat) : Int), fl)]) r (need cl) Nn) ∧ H <+: h') := fun H v16 hp s16 =>
                c_thirstyNodes _ _ Nn P _ r cl (hv.mono ((List.prefix_append _ _).trans hp)) s16 h1.1 ⟨fun x hx => by
                  rcases List.mem_append.1 hx with hx | hx
                  · exact h1.hin.1 x hx
                  · obtain rfl : x = _ := by simpa using hx
                    exact ⟨by simp; omega, h3⟩, by simp; omega⟩ h2
              have step : bestL P l r (need cl) fl Nn (i + 1) = if (bestL P l r (need cl) fl Nn i).2 < 0 ∨ lack P l r (need cl) fl Nn i < (bestL P l r (need cl) fl Nn i).2 then (((i + 1 : Nat) : Int), lack P l r (need cl) fl Nn i) else bestL P l r (need cl) fl Nn i := rfl
              have hlack : ((weakL P (l ++ [(((i + 1 : Nat) : Int), fl)]) r (need cl) Nn).length : Int) = lack P l r (need cl) fl Nn i := rfl
              by_cases h0 : l = []
              · subst h0
                simp only [List.nil_append] at hlack
                simp only [go_sem, Nat.reduceBEq, Nat.reduceAdd, Nat.reduceMul, Nat.reduceSub, Nat.reduceLeDiff, Nat.le_refl, implies_true, Nat.reduceLT, reduceIte, decide_true, decide_false, true_and, and_true, reduceCtorEq, Nat.mul_one, Int.reduceToNat, Int.reduceLE, Int.reduceLT, Int.reduceAdd, Int.reduceSub, Int.reduceMul, Int.cast_ofNat_Int, cast_zero_int, cast_one_int, Nat.reducePow, Nat.reduceEqDiff, Nat.reduceMod, Nat.zero_add, Nat.sub_zero, Nat.add_zero, e1, e2, e3, e4, e5, e13, e14, e15, List.length_nil]
                refine ⟨by kernel_rfl, (fin _ _ (by simp) ?_).use (fun _ m => m) ?_⟩
                · have e1 : (1 : Nat) = (([] ++ [(((i + 1 : Nat) : Int), fl)]).map hyd).length := rfl
                  rw [e1]
                  refine Sl.whole (st := .rw) (esz := 2) (by simp) hyd_len ?_
                  simp only [go_sem, Nat.reduceBEq, Nat.reduceAdd, Nat.reduceMul, Nat.reduceSub, Nat.reduceLeDiff, Nat.le_refl, implies_true, Nat.reduceLT, reduceIte, decide_true, decide_false, true_and, and_true, reduceCtorEq, Nat.mul_one, Int.reduceToNat, Int.reduceLE, Int.reduceLT, Int.reduceAdd, Int.reduceSub, Int.reduceMul, Int.cast_ofNat_Int, cast_zero_int, cast_one_int, Nat.reducePow, Nat.reduceEqDiff, Nat.reduceMod, Nat.zero_add, Nat.sub_zero, Nat.add_zero]
                  rfl
                · rintro vR _ ⟨sR, ⟨t3, rfl⟩⟩
                  obtain ⟨b, rfl⟩ := sR.ai.len
                  simp only [go_sem, Nat.reduceBEq, Nat.reduceAdd, Nat.reduceMul, Nat.reduceSub, Nat.reduceLeDiff, Nat.le_refl, implies_true, Nat.reduceLT, reduceIte, decide_true, decide_false, true_and, and_true, reduceCtorEq, Nat.mul_one, Int.reduceToNat, Int.reduceLE, Int.reduceLT, Int.reduceAdd, Int.reduceSub, Int.reduceMul, Int.cast_ofNat_Int, cast_zero_int, cast_one_int, Nat.reducePow, Nat.reduceEqDiff, Nat.reduceMod, Nat.zero_add, Nat.sub_zero, Nat.add_zero, e1, e2, e3, e4, e5, e13, e14, e15, hlack]
                  by_cases c1 : (bestL P [] r (need cl) fl Nn i).2 < 0
                  · simp only [go_sem, Nat.reduceBEq, Nat.reduceAdd, Nat.reduceMul, Nat.reduceSub, Nat.reduceLeDiff, Nat.le_refl, implies_true, Nat.reduceLT, reduceIte, decide_true, decide_false, true_and, and_true, reduceCtorEq, Nat.mul_one, Int.reduceToNat, Int.reduceLE, Int.reduceLT, Int.reduceAdd, Int.reduceSub, Int.reduceMul, Int.cast_ofNat_Int, cast_zero_int, cast_one_int, Nat.reducePow, Nat.reduceEqDiff, Nat.reduceMod, Nat.zero_add, Nat.sub_zero, Nat.add_zero, e1, e2, e3, e4, e5, e13, e14, e15, c1]
                    exact ⟨hlt, _, ⟨e1, e2, e3, e4, e5, by rw [step, if_pos (.inl c1)]; rfl, by rw [step, if_pos (.inl c1)]; rfl, congrArg _ ws, trivial⟩, .rfl⟩
                  · by_cases c2 : lack P [] r (need cl) fl Nn i < (bestL P [] r (need cl) fl Nn i).2
                    · simp only [go_sem, Nat.reduceBEq, Nat.reduceAdd, Nat.reduceMul, Nat.reduceSub, Nat.reduceLeDiff, Nat.le_refl, implies_true, Nat.reduceLT, reduceIte, decide_true, decide_false, true_and, and_true, reduceCtorEq, Nat.mul_one, Int.reduceToNat, Int.reduceLE, Int.reduceLT, Int.reduceAdd, Int.reduceSub, Int.reduceMul, Int.cast_ofNat_Int, cast_zero_int, cast_one_int, Nat.reducePow, Nat.reduceEqDiff, Nat.reduceMod, Nat.zero_add, Nat.sub_zero, Nat.add_zero, e1, e2, e3, e4, e5, e13, e14, e15, c1, c2]
                      exact ⟨hlt, _, ⟨e1, e2, e3, e4, e5, by rw [step, if_pos (.inr c2)]; rfl, by rw [step, if_pos (.inr c2)]; rfl, congrArg _ ws, trivial⟩, .rfl⟩
                    · simp only [go_sem, Nat.reduceBEq, Nat.reduceAdd, Nat.reduceMul, Nat.reduceSub, Nat.reduceLeDiff, Nat.le_refl, implies_true, Nat.reduceLT, reduceIte, decide_true, decide_false, true_and, and_true, reduceCtorEq, Nat.mul_one, Int.reduceToNat, Int.reduceLE, Int.reduceLT, Int.reduceAdd, Int.reduceSub, Int.reduceMul, Int.cast_ofNat_Int, cast_zero_int, cast_one_int, Nat.reducePow, Nat.reduceEqDiff, Nat.reduceMod, Nat.zero_add, Nat.sub_zero, Nat.add_zero, e1, e2, e3, e4, e5, e13, e14, e15, c1, c2]
                      exact ⟨hlt, _, ⟨e1, e2, e3, e4, e5, by rw [step, if_neg (by omega)]; exact e13, by rw [step, if_neg (by omega)]; exact e14, congrArg _ ws, trivial⟩, .rfl⟩
              · obtain ⟨id, o, K, hv', hk, hd, hb, hfl⟩ := sl.copy (by simpa using h0)
                obtain rfl : a = some ⟨id, o, none⟩ := by simpa using hv'
                rw [List.length_map] at hb hfl
                have hp : 0 < l.length := List.length_pos_iff.2 h0
                have h1c : ((l.map hyd).flatten).all oneC = true := rows_one (fun r hr => by obtain ⟨x, _, rfl⟩ := List.mem_map.1 hr; rfl)
                have hfln : ((l.map hyd).flatten).length = l.length * 2 := by rw [flatten_len (sz := 2) hyd_len, List.length_map]
                simp only [go_sem, Nat.reduceBEq, Nat.reduceAdd, Nat.reduceMul, Nat.reduceSub, Nat.reduceLeDiff, Nat.le_refl, implies_true, Nat.reduceLT, reduceIte, decide_true, decide_false, true_and, and_true, reduceCtorEq, Nat.mul_one, Int.reduceToNat, Int.reduceLE, Int.reduceLT, Int.reduceAdd, Int.reduceSub, Int.reduceMul, Int.cast_ofNat_Int, cast_zero_int, cast_one_int, Nat.reducePow, Nat.reduceEqDiff, Nat.reduceMod, Nat.zero_add, Nat.sub_zero, Nat.add_zero, e1, e2, e3, e4, e5, e13, e14, e15, hk, hd, hb, hfl, onApp_more hp, h1c, hfln, hp]
                refine ⟨by omega, by omega, by omega, by omega, by kernel_rfl, (fin _ _ (by simp) ?_).use (fun _ m => m) ?_⟩
                · have e1 : l.length + 1 = ((l ++ [(((i + 1 : Nat) : Int), fl)]).map hyd).length := by simp
                  rw [e1]
                  refine Sl.whole (st := .rw) (esz := 2) (by simp) hyd_len ?_
                  simp only [go_sem, Nat.reduceBEq, Nat.reduceAdd, Nat.reduceMul, Nat.reduceSub, Nat.reduceLeDiff, Nat.le_refl, implies_true, Nat.reduceLT, reduceIte, decide_true, decide_false, true_and, and_true, reduceCtorEq, Nat.mul_one, Int.reduceToNat, Int.reduceLE, Int.reduceLT, Int.reduceAdd, Int.reduceSub, Int.reduceMul, Int.cast_ofNat_Int, cast_zero_int, cast_one_int, Nat.reducePow, Nat.reduceEqDiff, Nat.reduceMod, Nat.zero_add, Nat.sub_zero, Nat.add_zero]
                  simp [hyd]
                · rintro vR _ ⟨sR, ⟨t3, rfl⟩⟩
                  obtain ⟨b, rfl⟩ := sR.ai.len
                  simp only [go_sem, Nat.reduceBEq, Nat.reduceAdd, Nat.reduceMul, Nat.reduceSub, Nat.reduceLeDiff, Nat.le_refl, implies_true, Nat.reduceLT, reduceIte, decide_true, decide_false, true_and, and_true, reduceCtorEq, Nat.mul_one, Int.reduceToNat, Int.reduceLE, Int.reduceLT, Int.reduceAdd, Int.reduceSub, Int.reduceMul, Int.cast_ofNat_Int, cast_zero_int, cast_one_int, Nat.reducePow, Nat.reduceEqDiff, Nat.reduceMod, Nat.zero_add, Nat.sub_zero, Nat.add_zero, e1, e2, e3, e4, e5, e13, e14, e15, hlack]
                  by_cases c1 : (bestL P l r (need cl) fl Nn i).2 < 0
                  · simp only [go_sem, Nat.reduceBEq, Nat.reduceAdd, Nat.reduceMul, Nat.reduceSub, Nat.reduceLeDiff, Nat.le_refl, implies_true, Nat.reduceLT, reduceIte, decide_true, decide_false, true_and, and_true, reduceCtorEq, Nat.mul_one, Int.reduceToNat, Int.reduceLE, Int.reduceLT, Int.reduceAdd, Int.reduceSub, Int.reduceMul, Int.cast_ofNat_Int, cast_zero_int, cast_one_int, Nat.reducePow, Nat.reduceEqDiff, Nat.reduceMod, Nat.zero_add, Nat.sub_zero, Nat.add_zero, e1, e2, e3, e4, e5, e13, e14, e15, c1]
                    exact ⟨hlt, _, ⟨e1, e2, e3, e4, e5, by rw [step, if_pos (.inl c1)]; rfl, by rw [step, if_pos (.inl c1)]; rfl, congrArg _ ws, trivial⟩, .rfl⟩
                  · by_cases c2 : lack P l r (need cl) fl Nn i < (bestL P l r (need cl) fl Nn i).2
                    · simp only [go_sem, Nat.reduceBEq, Nat.reduceAdd, Nat.reduceMul, Nat.reduceSub, Nat.reduceLeDiff, Nat.le_refl, implies_true, Nat.reduceLT, reduceIte, decide_true, decide_false, true_and, and_true, reduceCtorEq, Nat.mul_one, Int.reduceToNat, Int.reduceLE, Int.reduceLT, Int.reduceAdd, Int.reduceSub, Int.reduceMul, Int.cast_ofNat_Int, cast_zero_int, cast_one_int, Nat.reducePow, Nat.reduceEqDiff, Nat.reduceMod, Nat.zero_add, Nat.sub_zero, Nat.add_zero, e1, e2, e3, e4, e5, e13, e14, e15, c1, c2]
                      exact ⟨hlt, _, ⟨e1, e2, e3, e4, e5, by rw [step, if_pos (.inr c2)]; rfl, by rw [step, if_pos (.inr c2)]; rfl, congrArg _ ws, trivial⟩, .rfl⟩
                    · simp only [go_sem, Nat.reduceBEq, Nat.reduceAdd, Nat.reduceMul, Nat.reduceSub, Nat.reduceLeDiff, Nat.le_refl, implies_true, Nat.reduceLT, reduceIte, decide_true, decide_false, true_and, and_true, reduceCtorEq, Nat.mul_one, Int.reduceToNat, Int.reduceLE, Int.reduceLT, Int.reduceAdd, Int.reduceSub, Int.reduceMul, Int.cast_ofNat_Int, cast_zero_int, cast_one_int, Nat.reducePow, Nat.reduceEqDiff, Nat.reduceMod, Nat.zero_add, Nat.sub_zero, Nat.add_zero, e1, e2, e3, e4, e5, e13, e14, e15, c1, c2]
                      exact ⟨hlt, _, ⟨e1, e2, e3, e4, e5, by rw [step, if_neg (by omega)]; exact e13, by rw [step, if_neg (by omega)]; exact e14, congrArg _ ws, trivial⟩, .rfl⟩
            · obtain rfl : i = Nn := by omega
              simp only [go_sem, Nat.reduceBEq, Nat.reduceAdd, Nat.reduceMul, Nat.reduceSub, Nat.reduceLeDiff, Nat.le_refl, implies_true, Nat.reduceLT, reduceIte, decide_true, decide_false, true_and, and_true, reduceCtorEq, Nat.mul_one, Int.reduceToNat, Int.reduceLE, Int.reduceLT, Int.reduceAdd, Int.reduceSub, Int.reduceMul, Int.cast_ofNat_Int, cast_zero_int, cast_one_int, Nat.reducePow, Nat.reduceEqDiff, Nat.reduceMod, Nat.zero_add, Nat.sub_zero, Nat.add_zero, e1, e2, e3, e4, e5, e13, e14, e15, show ¬ (((i + 1 : Nat) : Int) ≤ i) by omega]
      · simp only [go_sem, Nat.reduceBEq, Nat.reduceAdd, Nat.reduceMul, Nat.reduceSub, Nat.reduceLeDiff, Nat.le_refl, implies_true, Nat.reduceLT, reduceIte, decide_true, decide_false, true_and, and_true, reduceCtorEq, Nat.mul_one, Int.reduceToNat, Int.reduceLE, Int.reduceLT, Int.reduceAdd, Int.reduceSub, Int.reduceMul, Int.cast_ofNat_Int, cast_zero_int, cast_one_int, Nat.reducePow, Nat.reduceEqDiff, Nat.reduceMod, Nat.zero_add, Nat.sub_zero, Nat.add_zero, decb h1, decb h2, dect h3]
        exact bad (fun hh => h3 hh.2.2.1)
    · simp only [go_sem, Nat.reduceBEq, Nat.reduceAdd, Nat.reduceMul, Nat.reduceSub, Nat.reduceLeDiff, Nat.le_refl, implies_true, Nat.reduceLT, reduceIte, decide_true, decide_false, true_and, and_true, reduceCtorEq, Nat.mul_one, Int.reduceToNat, Int.reduceLE, Int.reduceLT, Int.reduceAdd, Int.reduceSub, Int.reduceMul, Int.cast_ofNat_Int, cast_zero_int, cast_one_int, Nat.reducePow, Nat.reduceEqDiff, Nat.reduceMod, Nat.zero_add, Nat.sub_zero, Nat.add_zero, decb h1, dect h2]
      exact bad (fun hh => h2 hh.2.1)
  · simp only [go_sem, Nat.reduceBEq, Nat.reduceAdd, Nat.reduceMul, Nat.reduceSub, Nat.reduceLeDiff, Nat.le_refl, implies_true, Nat.reduceLT, reduceIte, decide_true, decide_false, true_and, and_true, reduceCtorEq, Nat.mul_one, Int.reduceToNat, Int.reduceLE, Int.reduceLT, Int.reduceAdd, Int.reduceSub, Int.reduceMul, Int.cast_ofNat_Int, cast_zero_int, cast_one_int, Nat.reducePow, Nat.reduceEqDiff, Nat.reduceMod, Nat.zero_add, Nat.sub_zero, Nat.add_zero, dect h1]
    exact bad (fun hh => h1 hh.1)

theorem c_sHydrantsFor {n : Nat} (v vl : Value) (N : Int) (P : List Pip) (l : List Hyd) (nd rc : Int) (hv : NA n h v N P) (sl : Sl h 2 vl (l.map hyd)) (hmP : P.length ≤ 1048576) (hml : l.length ≤ 1048576) :
    vCall [] Try.prog M 46 [v, vl, .int .i64 nd, .int .i64 rc] h (fun r h' => (∃ w, r = .tuple #[w, .bool (decide (hydOk N P l nd rc))] ∧ FI h.length h'.length h' w (hydRes N P l nd rc)) ∧ h <+: h') := by
  have hv0 := id hv
  obtain ⟨w, rfl, _⟩ := hv0
  refine body_of mo Try.func46 rfl (by kernel_rfl) (Nat.le_of_ble_eq_true (by kernel_rfl)) rfl ?_
  simp only [go_sem, Nat.reduceBEq, Nat.reduceAdd, Nat.reduceMul, Nat.reduceSub, Nat.reduceLeDiff, Nat.le_refl, implies_true, Nat.reduceLT, reduceIte, decide_true, decide_false, true_and, and_true, reduceCtorEq, Nat.mul_one, Int.reduceToNat, Int.reduceLE, Int.reduceLT, Int.reduceAdd, Int.reduceSub, Int.reduceMul, Int.cast_ofNat_Int, cast_zero_int, cast_one_int, Nat.reducePow, Nat.reduceEqDiff, Nat.reduceMod, Nat.zero_add, Nat.sub_zero, Nat.add_zero]
  refine ⟨by kernel_rfl, (c_l24Asked _ _ N P l rc (hv.mono (by simp)) (sl.mono (by simp)) hmP hml).use (fun _ m => m) ?_⟩
  rintro _ _ ⟨rfl, ⟨t, rfl⟩⟩
  simp only [go_sem, Nat.reduceBEq, Nat.reduceAdd, Nat.reduceMul, Nat.reduceSub, Nat.reduceLeDiff, Nat.le_refl, implies_true, Nat.reduceLT, reduceIte, decide_true, decide_false, true_and, and_true, reduceCtorEq, Nat.mul_one, Int.reduceToNat, Int.reduceLE, Int.reduceLT, Int.reduceAdd, Int.reduceSub, Int.reduceMul, Int.cast_ofNat_Int, cast_zero_int, cast_one_int, Nat.reducePow, Nat.reduceEqDiff, Nat.reduceMod, Nat.zero_add, Nat.sub_zero, Nat.add_zero]
  have bad : ¬ hydOk N P l nd rc → ∀ (m : Nat) (H : Heap) (a : Option Addr), ∃ w, (Value.tuple #[Value.slice a 0 0, .bool false]) = .tuple #[w, .bool (decide (hydOk N P l nd rc))] ∧ FI h.length m H w (hydRes N P l nd rc) := fun hn m H a =>
    ⟨_, by rw [decide_eq_false hn], by rw [hydRes, if_neg hn]; exact .nil⟩
  by_cases h1 : canR N P l rc
  · simp only [go_sem, Nat.reduceBEq, Nat.reduceAdd, Nat.reduceMul, Nat.reduceSub, Nat.reduceLeDiff, Nat.le_refl, implies_true, Nat.reduceLT, reduceIte, decide_true, decide_false, true_and, and_true, reduceCtorEq, Nat.mul_one, Int.reduceToNat, Int.reduceLE, Int.reduceLT, Int.reduceAdd, Int.reduceSub, Int.reduceMul, Int.cast_ofNat_Int, cast_zero_int, cast_one_int, Nat.reducePow, Nat.reduceEqDiff, Nat.reduceMod, Nat.zero_add, Nat.sub_zero, Nat.add_zero, decb h1]
    refine ⟨by kernel_rfl, (c_l2Node _ N P _ (hv.mono (by simp)) hmP).use (fun _ m => m) ?_⟩
    rintro _ _ ⟨rfl, ⟨t2, rfl⟩⟩
    rw [show decide (netGood N P ∧ 1 ≤ nd ∧ nd ≤ N) = decide (1 ≤ nd ∧ nd ≤ N) by simp [h1.1]]
    by_cases h2 : 1 ≤ nd ∧ nd ≤ N
    · simp only [go_sem, Nat.reduceBEq, Nat.reduceAdd, Nat.reduceMul, Nat.reduceSub, Nat.reduceLeDiff, Nat.le_refl, implies_true, Nat.reduceLT, reduceIte, decide_true, decide_false, true_and, and_true, reduceCtorEq, Nat.mul_one, Int.reduceToNat, Int.reduceLE, Int.reduceLT, Int.reduceAdd, Int.reduceSub, Int.reduceMul, Int.cast_ofNat_Int, cast_zero_int, cast_one_int, Nat.reducePow, Nat.reduceEqDiff, Nat.reduceMod, Nat.zero_add, Nat.sub_zero, Nat.add_zero, decb h1, decb h2]
      obtain ⟨Nn, rfl⟩ : ∃ m : Nat, N = m := ⟨N.toNat, by omega⟩
      obtain ⟨r, rfl⟩ : ∃ m : Nat, rc = m := ⟨rc.toNat, by have := h1.2.2.1; omega⟩
      refine ⟨by kernel_rfl, (c_l24Reaching _ _ Nn P l nd r (hv.mono (by simp)) (sl.mono (by simp)) h1.1 h1.hin h2).use (fun _ m => m) ?_⟩
      rintro v2 _ ⟨s2, ⟨t3, rfl⟩⟩
      simp only [List.append_assoc, List.cons_append] at s2
      simp only [go_sem, Nat.reduceBEq, Nat.reduceAdd, Nat.reduceMul, Nat.reduceSub, Nat.reduceLeDiff, Nat.le_refl, implies_true, Nat.reduceLT, reduceIte, decide_true, decide_false, true_and, and_true, reduceCtorEq, Nat.mul_one, Int.reduceToNat, Int.reduceLE, Int.reduceLT, Int.reduceAdd, Int.reduceSub, Int.reduceMul, Int.cast_ofNat_Int, cast_zero_int, cast_one_int, Nat.reducePow, Nat.reduceEqDiff, Nat.reduceMod, Nat.zero_add, Nat.sub_zero, Nat.add_zero]
      have hok : hydOk Nn P l nd r := ⟨h1, h2⟩
      refine ⟨_, by rw [decide_eq_true hok], ?_⟩
      rw [hydRes, if_pos hok]
      exact FI.wide (by simpa using s2) (by omega) (by omega)
    · simp only [go_sem, Nat.reduceBEq, Nat.reduceAdd, Nat.reduceMul, Nat.reduceSub, Nat.reduceLeDiff, Nat.le_refl, implies_true, Nat.reduceLT, reduceIte, decide_true, decide_false, true_and, and_true, reduceCtorEq, Nat.mul_one, Int.reduceToNat, Int.reduceLE, Int.reduceLT, Int.reduceAdd, Int.reduceSub, Int.reduceMul, Int.cast_ofNat_Int, cast_zero_int, cast_one_int, Nat.reducePow, Nat.reduceEqDiff, Nat.reduceMod, Nat.zero_add, Nat.sub_zero, Nat.add_zero, decb h1, dect h2]
      exact bad (fun hh => h2 hh.2) _ _ _
  · simp only [go_sem, Nat.reduceBEq, Nat.reduceAdd, Nat.reduceMul, Nat.reduceSub, Nat.reduceLeDiff, Nat.le_refl, implies_true, Nat.reduceLT, reduceIte, decide_true, decide_false, true_and, and_true, reduceCtorEq, Nat.mul_one, Int.reduceToNat, Int.reduceLE, Int.reduceLT, Int.reduceAdd, Int.reduceSub, Int.reduceMul, Int.cast_ofNat_Int, cast_zero_int, cast_one_int, Nat.reducePow, Nat.reduceEqDiff, Nat.reduceMod, Nat.zero_add, Nat.sub_zero, Nat.add_zero, dect h1]
    exact bad (fun hh => h1 hh.1) _ _ _

theorem c_sFlowFor {n : Nat} (v vl : Value) (N : Int) (P : List Pip) (l : List Hyd) (nd rc : Int) (hv : NA n h v N P) (sl : Sl h 2 vl (l.map hyd)) (hmP : P.length ≤ 1048576) (hml : l.length ≤ 1048576) :
    vCall [] Try.prog M 48 [v, vl, .int .i64 nd, .int .i64 rc] h (fun r h' => r = .tuple #[.int .i64 (flowRes N P l nd rc), .bool (decide (hydOk N P l nd rc))] ∧ h <+: h') := by
  have hv0 := id hv
  obtain ⟨w, rfl, _⟩ := hv0
  refine body_of mo Try.func48 rfl (by kernel_rfl) (Nat.le_of_ble_eq_true (by kernel_rfl)) rfl ?_
  simp only [go_sem, Nat.reduceBEq, Nat.reduceAdd, Nat.reduceMul, Nat.reduceSub, Nat.reduceLeDiff, Nat.le_refl, implies_true, Nat.reduceLT, reduceIte, decide_true, decide_false, true_and, and_true, reduceCtorEq, Nat.mul_one, Int.reduceToNat, Int.reduceLE, Int.reduceLT, Int.reduceAdd, Int.reduceSub, Int.reduceMul, Int.cast_ofNat_Int, cast_zero_int, cast_one_int, Nat.reducePow, Nat.reduceEqDiff, Nat.reduceMod, Nat.zero_add, Nat.sub_zero, Nat.add_zero]
  refine ⟨by kernel_rfl, (c_l24Asked _ _ N P l rc (hv.mono (by simp)) (sl.mono (by simp)) hmP hml).use (fun _ m => m) ?_⟩
  rintro _ _ ⟨rfl, ⟨t, rfl⟩⟩
  simp only [go_sem, Nat.reduceBEq, Nat.reduceAdd, Nat.reduceMul, Nat.reduceSub, Nat.reduceLeDiff, Nat.le_refl, implies_true, Nat.reduceLT, reduceIte, decide_true, decide_false, true_and, and_true, reduceCtorEq, Nat.mul_one, Int.reduceToNat, Int.reduceLE, Int.reduceLT, Int.reduceAdd, Int.reduceSub, Int.reduceMul, Int.cast_ofNat_Int, cast_zero_int, cast_one_int, Nat.reducePow, Nat.reduceEqDiff, Nat.reduceMod, Nat.zero_add, Nat.sub_zero, Nat.add_zero]
  have bad : ¬ hydOk N P l nd rc → (Value.tuple #[.int .i64 0, .bool false]) = .tuple #[.int .i64 (flowRes N P l nd rc), .bool (decide (hydOk N P l nd rc))] := fun hn => by
    rw [decide_eq_false hn, flowRes, if_neg hn]
  by_cases h1 : canR N P l rc
  · simp only [go_sem, Nat.reduceBEq, Nat.reduceAdd, Nat.reduceMul, Nat.reduceSub, Nat.reduceLeDiff, Nat.le_refl, implies_true, Nat.reduceLT, reduceIte, decide_true, decide_false, true_and, and_true, reduceCtorEq, Nat.mul_one, Int.reduceToNat, Int.reduceLE, Int.reduceLT, Int.reduceAdd, Int.reduceSub, Int.reduceMul, Int.cast_ofNat_Int, cast_zero_int, cast_one_int, Nat.reducePow, Nat.reduceEqDiff, Nat.reduceMod, Nat.zero_add, Nat.sub_zero, Nat.add_zero, decb h1]
    refine ⟨by kernel_rfl, (c_l2Node _ N P _ (hv.mono (by simp)) hmP).use (fun _ m => m) ?_⟩
    rintro _ _ ⟨rfl, ⟨t2, rfl⟩⟩
    rw [show decide (netGood N P ∧ 1 ≤ nd ∧ nd ≤ N) = decide (1 ≤ nd ∧ nd ≤ N) by simp [h1.1]]
    by_cases h2 : 1 ≤ nd ∧ nd ≤ N
    · simp only [go_sem, Nat.reduceBEq, Nat.reduceAdd, Nat.reduceMul, Nat.reduceSub, Nat.reduceLeDiff, Nat.le_refl, implies_true, Nat.reduceLT, reduceIte, decide_true, decide_false, true_and, and_true, reduceCtorEq, Nat.mul_one, Int.reduceToNat, Int.reduceLE, Int.reduceLT, Int.reduceAdd, Int.reduceSub, Int.reduceMul, Int.cast_ofNat_Int, cast_zero_int, cast_one_int, Nat.reducePow, Nat.reduceEqDiff, Nat.reduceMod, Nat.zero_add, Nat.sub_zero, Nat.add_zero, decb h1, decb h2]
      obtain ⟨Nn, rfl⟩ : ∃ m : Nat, N = m := ⟨N.toNat, by omega⟩
      obtain ⟨r, rfl⟩ : ∃ m : Nat, rc = m := ⟨rc.toNat, by have := h1.2.2.1; omega⟩
      refine ⟨by kernel_rfl, (c_l24Reaching _ _ Nn P l nd r (hv.mono (by simp)) (sl.mono (by simp)) h1.1 h1.hin h2).use (fun _ m => m) ?_⟩
      rintro vr _ ⟨sR, ⟨t3, rfl⟩⟩
      replace sR := sR.ai
      simp only [List.append_assoc, List.cons_append] at sR
      have hRl : (reachA P l nd r).length ≤ l.length := reachL_len
      have hl12 := h1.hin.2
      try simp only [go_sem, Nat.reduceBEq, Nat.reduceAdd, Nat.reduceMul, Nat.reduceSub, Nat.reduceLeDiff, Nat.le_refl, implies_true, Nat.reduceLT, reduceIte, decide_true, decide_false, true_and, and_true, reduceCtorEq, Nat.mul_one, Int.reduceToNat, Int.reduceLE, Int.reduceLT, Int.reduceAdd, Int.reduceSub, Int.reduceMul, Int.cast_ofNat_Int, cast_zero_int, cast_one_int, Nat.reducePow, Nat.reduceEqDiff, Nat.reduceMod, Nat.zero_add, Nat.sub_zero, Nat.add_zero]
      refine ⟨by kernel_rfl, (c_l24Sum _ _ l (reachA P l nd r) (sl.mono (by simp)) sR h1.hin reach_in (by omega)).use (fun _ m => m) ?_⟩
      rintro _ _ ⟨rfl, rfl⟩
      try simp only [go_sem, Nat.reduceBEq, Nat.reduceAdd, Nat.reduceMul, Nat.reduceSub, Nat.reduceLeDiff, Nat.le_refl, implies_true, Nat.reduceLT, reduceIte, decide_true, decide_false, true_and, and_true, reduceCtorEq, Nat.mul_one, Int.reduceToNat, Int.reduceLE, Int.reduceLT, Int.reduceAdd, Int.reduceSub, Int.reduceMul, Int.cast_ofNat_Int, cast_zero_int, cast_one_int, Nat.reducePow, Nat.reduceEqDiff, Nat.reduceMod, Nat.zero_add, Nat.sub_zero, Nat.add_zero]
      have hok : hydOk Nn P l nd r := ⟨h1, h2⟩
      rw [decide_eq_true hok, flowRes, if_pos hok, Int.toNat_natCast]
    · simp only [go_sem, Nat.reduceBEq, Nat.reduceAdd, Nat.reduceMul, Nat.reduceSub, Nat.reduceLeDiff, Nat.le_refl, implies_true, Nat.reduceLT, reduceIte, decide_true, decide_false, true_and, and_true, reduceCtorEq, Nat.mul_one, Int.reduceToNat, Int.reduceLE, Int.reduceLT, Int.reduceAdd, Int.reduceSub, Int.reduceMul, Int.cast_ofNat_Int, cast_zero_int, cast_one_int, Nat.reducePow, Nat.reduceEqDiff, Nat.reduceMod, Nat.zero_add, Nat.sub_zero, Nat.add_zero, decb h1, dect h2]
      exact bad (fun hh => h2 hh.2)
  · simp only [go_sem, Nat.reduceBEq, Nat.reduceAdd, Nat.reduceMul, Nat.reduceSub, Nat.reduceLeDiff, Nat.le_refl, implies_true, Nat.reduceLT, reduceIte, decide_true, decide_false, true_and, and_true, reduceCtorEq, Nat.mul_one, Int.reduceToNat, Int.reduceLE, Int.reduceLT, Int.reduceAdd, Int.reduceSub, Int.reduceMul, Int.cast_ofNat_Int, cast_zero_int, cast_one_int, Nat.reducePow, Nat.reduceEqDiff, Nat.reduceMod, Nat.zero_add, Nat.sub_zero, Nat.add_zero, dect h1]
    exact bad (fun hh => h1 hh.1)

theorem c_sThirstyNodes {n : Nat} (v vl : Value) (N : Int) (P : List Pip) (l : List Hyd) (rc cl : Int) (hv : NA n h v N P) (sl : Sl h 2 vl (l.map hyd)) (hmP : P.length ≤ 1048576) (hml : l.length ≤ 1048576) :
    vCall [] Try.prog M 55 [v, vl, .int .i64 rc, .int .i64 cl] h (fun r h' => (∃ w, r = .tuple #[w, .bool (decide (weakOk N P l rc cl))] ∧ FI h.length h'.length h' w (weakRes N P l rc cl)) ∧ h <+: h') := by
  have hv0 := id hv
  obtain ⟨w, rfl, _⟩ := hv0
  refine body_of mo Try.func55 rfl (by kernel_rfl) (Nat.le_of_ble_eq_true (by kernel_rfl)) rfl ?_
  simp only [go_sem, Nat.reduceBEq, Nat.reduceAdd, Nat.reduceMul, Nat.reduceSub, Nat.reduceLeDiff, Nat.le_refl, implies_true, Nat.reduceLT, reduceIte, decide_true, decide_false, true_and, and_true, reduceCtorEq, Nat.mul_one, Int.reduceToNat, Int.reduceLE, Int.reduceLT, Int.reduceAdd, Int.reduceSub, Int.reduceMul, Int.cast_ofNat_Int, cast_zero_int, cast_one_int, Nat.reducePow, Nat.reduceEqDiff, Nat.reduceMod, Nat.zero_add, Nat.sub_zero, Nat.add_zero]
  refine ⟨by kernel_rfl, (c_l24Asked _ _ N P l rc (hv.mono (by simp)) (sl.mono (by simp)) hmP hml).use (fun _ m => m) ?_⟩
  rintro _ _ ⟨rfl, ⟨t, rfl⟩⟩
  simp only [go_sem, Nat.reduceBEq, Nat.reduceAdd, Nat.reduceMul, Nat.reduceSub, Nat.reduceLeDiff, Nat.le_refl, implies_true, Nat.reduceLT, reduceIte, decide_true, decide_false, true_and, and_true, reduceCtorEq, Nat.mul_one, Int.reduceToNat, Int.reduceLE, Int.reduceLT, Int.reduceAdd, Int.reduceSub, Int.reduceMul, Int.cast_ofNat_Int, cast_zero_int, cast_one_int, Nat.reducePow, Nat.reduceEqDiff, Nat.reduceMod, Nat.zero_add, Nat.sub_zero, Nat.add_zero]
  have bad : ¬ weakOk N P l rc cl → ∀ (m : Nat) (H : Heap) (a : Option Addr), ∃ w, (Value.tuple #[Value.slice a 0 0, .bool false]) = .tuple #[w, .bool (decide (weakOk N P l rc cl))] ∧ FI h.length m H w (weakRes N P l rc cl) := fun hn m H a =>
    ⟨_, by rw [decide_eq_false hn], by rw [weakRes, if_neg hn]; exact .nil⟩
  by_cases h1 : canR N P l rc
  · simp only [go_sem, Nat.reduceBEq, Nat.reduceAdd, Nat.reduceMul, Nat.reduceSub, Nat.reduceLeDiff, Nat.le_refl, implies_true, Nat.reduceLT, reduceIte, decide_true, decide_false, true_and, and_true, reduceCtorEq, Nat.mul_one, Int.reduceToNat, Int.reduceLE, Int.reduceLT, Int.reduceAdd, Int.reduceSub, Int.reduceMul, Int.cast_ofNat_Int, cast_zero_int, cast_one_int, Nat.reducePow, Nat.reduceEqDiff, Nat.reduceMod, Nat.zero_add, Nat.sub_zero, Nat.add_zero, decb h1]
    refine ⟨by kernel_rfl, (c_l24Class _).use (fun _ m => m) ?_⟩
    rintro _ _ ⟨rfl, rfl⟩
    by_cases h2 : 1 ≤ cl ∧ cl ≤ 3
    · simp only [go_sem, Nat.reduceBEq, Nat.reduceAdd, Nat.reduceMul, Nat.reduceSub, Nat.reduceLeDiff, Nat.le_refl, implies_true, Nat.reduceLT, reduceIte, decide_true, decide_false, true_and, and_true, reduceCtorEq, Nat.mul_one, Int.reduceToNat, Int.reduceLE, Int.reduceLT, Int.reduceAdd, Int.reduceSub, Int.reduceMul, Int.cast_ofNat_Int, cast_zero_int, cast_one_int, Nat.reducePow, Nat.reduceEqDiff, Nat.reduceMod, Nat.zero_add, Nat.sub_zero, Nat.add_zero, decb h1, decb h2]
      obtain ⟨Nn, rfl⟩ : ∃ m : Nat, N = m := ⟨N.toNat, by have := h1.1.2.1; omega⟩
      obtain ⟨r, rfl⟩ : ∃ m : Nat, rc = m := ⟨rc.toNat, by have := h1.2.2.1; omega⟩
      refine ⟨by kernel_rfl, (c_l24Weak _ _ Nn P l r cl (hv.mono (by simp)) (sl.mono (by simp)) h1.1 h1.hin h2).use (fun _ m => m) ?_⟩
      rintro v2 _ ⟨s2, ⟨t3, rfl⟩⟩
      simp only [List.append_assoc, List.cons_append] at s2
      simp only [go_sem, Nat.reduceBEq, Nat.reduceAdd, Nat.reduceMul, Nat.reduceSub, Nat.reduceLeDiff, Nat.le_refl, implies_true, Nat.reduceLT, reduceIte, decide_true, decide_false, true_and, and_true, reduceCtorEq, Nat.mul_one, Int.reduceToNat, Int.reduceLE, Int.reduceLT, Int.reduceAdd, Int.reduceSub, Int.reduceMul, Int.cast_ofNat_Int, cast_zero_int, cast_one_int, Nat.reducePow, Nat.reduceEqDiff, Nat.reduceMod, Nat.zero_add, Nat.sub_zero, Nat.add_zero]
      have hok : weakOk Nn P l r cl := ⟨h1, h2⟩
      refine ⟨_, by rw [decide_eq_true hok], ?_⟩
      rw [weakRes, if_pos hok]
      exact FI.wide (by simpa using s2) (by omega) (by omega)
    · simp only [go_sem, Nat.reduceBEq, Nat.reduceAdd, Nat.reduceMul, Nat.reduceSub, Nat.reduceLeDiff, Nat.le_refl, implies_true, Nat.reduceLT, reduceIte, decide_true, decide_false, true_and, and_true, reduceCtorEq, Nat.mul_one, Int.reduceToNat, Int.reduceLE, Int.reduceLT, Int.reduceAdd, Int.reduceSub, Int.reduceMul, Int.cast_ofNat_Int, cast_zero_int, cast_one_int, Nat.reducePow, Nat.reduceEqDiff, Nat.reduceMod, Nat.zero_add, Nat.sub_zero, Nat.add_zero, decb h1, dect h2]
      exact bad (fun hh => h2 hh.2) _ _ _
  · simp only [go_sem, Nat.reduceBEq, Nat.reduceAdd, Nat.reduceMul, Nat.reduceSub, Nat.reduceLeDiff, Nat.le_refl, implies_true, Nat.reduceLT, reduceIte, decide_true, decide_false, true_and, and_true, reduceCtorEq, Nat.mul_one, Int.reduceToNat, Int.reduceLE, Int.reduceLT, Int.reduceAdd, Int.reduceSub, Int.reduceMul, Int.cast_ofNat_Int, cast_zero_int, cast_one_int, Nat.reducePow, Nat.reduceEqDiff, Nat.reduceMod, Nat.zero_add, Nat.sub_zero, Nat.add_zero, dect h1]
    exact bad (fun hh => h1 hh.1) _ _ _

theorem c_sBestHydrant {n : Nat} (v vl : Value) (N : Int) (P : List Pip) (l : List Hyd) (rc cl fl : Int) (hv : NA n h v N P) (sl : Sl h 2 vl (l.map hyd)) (hmP : P.length ≤ 1048576) (hml : l.length ≤ 1048576) :
    vCall [] Try.prog M 53 [v, vl, .int .i64 rc, .int .i64 cl, .int .i64 fl] h (fun r h' => r = .tuple #[.int .i64 (bestRes N P l rc cl fl).1, .int .i64 (bestRes N P l rc cl fl).2, .bool (decide (bestOk N P l rc cl fl))] ∧ h <+: h') := by
  obtain ⟨a, rfl⟩ := Sl.len2 sl
  have hv0 := id hv
  obtain ⟨w, rfl, _⟩ := hv0
  refine body_of mo Try.func53 rfl (by kernel_rfl) (Nat.le_of_ble_eq_true (by kernel_rfl)) rfl ?_
  simp only [go_sem, Nat.reduceBEq, Nat.reduceAdd, Nat.reduceMul, Nat.reduceSub, Nat.reduceLeDiff, Nat.le_refl, implies_true, Nat.reduceLT, reduceIte, decide_true, decide_false, true_and, and_true, reduceCtorEq, Nat.mul_one, Int.reduceToNat, Int.reduceLE, Int.reduceLT, Int.reduceAdd, Int.reduceSub, Int.reduceMul, Int.cast_ofNat_Int, cast_zero_int, cast_one_int, Nat.reducePow, Nat.reduceEqDiff, Nat.reduceMod, Nat.zero_add, Nat.sub_zero, Nat.add_zero]
  refine ⟨by kernel_rfl, (c_l24Asked _ _ N P l rc (hv.mono (by simp)) (sl.mono (by simp)) hmP hml).use (fun _ m => m) ?_⟩
  rintro _ _ ⟨rfl, ⟨t, rfl⟩⟩
  simp only [go_sem, Nat.reduceBEq, Nat.reduceAdd, Nat.reduceMul, Nat.reduceSub, Nat.reduceLeDiff, Nat.le_refl, implies_true, Nat.reduceLT, reduceIte, decide_true, decide_false, true_and, and_true, reduceCtorEq, Nat.mul_one, Int.reduceToNat, Int.reduceLE, Int.reduceLT, Int.reduceAdd, Int.reduceSub, Int.reduceMul, Int.cast_ofNat_Int, cast_zero_int, cast_one_int, Nat.reducePow, Nat.reduceEqDiff, Nat.reduceMod, Nat.zero_add, Nat.sub_zero, Nat.add_zero]
  have bad : ¬ bestOk N P l rc cl fl → (Value.tuple #[.int .i64 0, .int .i64 0, .bool false]) = .tuple #[.int .i64 (bestRes N P l rc cl fl).1, .int .i64 (bestRes N P l rc cl fl).2, .bool (decide (bestOk N P l rc cl fl))] := fun hn => by
    rw [decide_eq_false hn, bestRes, if_neg hn]
  by_cases h1 : canR N P l rc
  · simp only [go_sem, Nat.reduceBEq, Nat.reduceAdd, Nat.reduceMul, Nat.reduceSub, Nat.reduceLeDiff, Nat.le_refl, implies_true, Nat.reduceLT, reduceIte, decide_true, decide_false, true_and, and_true, reduceCtorEq, Nat.mul_one, Int.reduceToNat, Int.reduceLE, Int.reduceLT, Int.reduceAdd, Int.reduceSub, Int.reduceMul, Int.cast_ofNat_Int, cast_zero_int, cast_one_int, Nat.reducePow, Nat.reduceEqDiff, Nat.reduceMod, Nat.zero_add, Nat.sub_zero, Nat.add_zero, decb h1]
    refine ⟨by kernel_rfl, (c_l24Class _).use (fun _ m => m) ?_⟩
    rintro _ _ ⟨rfl, rfl⟩
    by_cases h2 : 1 ≤ cl ∧ cl ≤ 3
    · simp only [go_sem, Nat.reduceBEq, Nat.reduceAdd, Nat.reduceMul, Nat.reduceSub, Nat.reduceLeDiff, Nat.le_refl, implies_true, Nat.reduceLT, reduceIte, decide_true, decide_false, true_and, and_true, reduceCtorEq, Nat.mul_one, Int.reduceToNat, Int.reduceLE, Int.reduceLT, Int.reduceAdd, Int.reduceSub, Int.reduceMul, Int.cast_ofNat_Int, cast_zero_int, cast_one_int, Nat.reducePow, Nat.reduceEqDiff, Nat.reduceMod, Nat.zero_add, Nat.sub_zero, Nat.add_zero, decb h1, decb h2]
      refine ⟨by kernel_rfl, (c_l24Flow _).use (fun _ m => m) ?_⟩
      rintro _ _ ⟨rfl, rfl⟩
      by_cases h3 : 1 ≤ fl ∧ fl ≤ 5000
      · simp only [go_sem, Nat.reduceBEq, Nat.reduceAdd, Nat.reduceMul, Nat.reduceSub, Nat.reduceLeDiff, Nat.le_refl, implies_true, Nat.reduceLT, reduceIte, decide_true, decide_false, true_and, and_true, reduceCtorEq, Nat.mul_one, Int.reduceToNat, Int.reduceLE, Int.reduceLT, Int.reduceAdd, Int.reduceSub, Int.reduceMul, Int.cast_ofNat_Int, cast_zero_int, cast_one_int, Nat.reducePow, Nat.reduceEqDiff, Nat.reduceMod, Nat.zero_add, Nat.sub_zero, Nat.add_zero, decb h1, decb h2, decb h3]
        by_cases h4 : l.length = 10
        · simp only [go_sem, Nat.reduceBEq, Nat.reduceAdd, Nat.reduceMul, Nat.reduceSub, Nat.reduceLeDiff, Nat.le_refl, implies_true, Nat.reduceLT, reduceIte, decide_true, decide_false, true_and, and_true, reduceCtorEq, Nat.mul_one, Int.reduceToNat, Int.reduceLE, Int.reduceLT, Int.reduceAdd, Int.reduceSub, Int.reduceMul, Int.cast_ofNat_Int, cast_zero_int, cast_one_int, Nat.reducePow, Nat.reduceEqDiff, Nat.reduceMod, Nat.zero_add, Nat.sub_zero, Nat.add_zero, show ((l.length : Int) == 10) = true by simp [h4]]
          exact bad (fun hh => hh.2.2.2 h4)
        · simp only [go_sem, Nat.reduceBEq, Nat.reduceAdd, Nat.reduceMul, Nat.reduceSub, Nat.reduceLeDiff, Nat.le_refl, implies_true, Nat.reduceLT, reduceIte, decide_true, decide_false, true_and, and_true, reduceCtorEq, Nat.mul_one, Int.reduceToNat, Int.reduceLE, Int.reduceLT, Int.reduceAdd, Int.reduceSub, Int.reduceMul, Int.cast_ofNat_Int, cast_zero_int, cast_one_int, Nat.reducePow, Nat.reduceEqDiff, Nat.reduceMod, Nat.zero_add, Nat.sub_zero, Nat.add_zero, show ((l.length : Int) == 10) = false by simpa using fun hh : (l.length : Int) = 10 => h4 (by omega)]
          obtain ⟨Nn, rfl⟩ : ∃ m : Nat, N = m := ⟨N.toNat, by have := h1.1.2.1; omega⟩
          obtain ⟨r, rfl⟩ : ∃ m : Nat, rc = m := ⟨rc.toNat, by have := h1.2.2.1; omega⟩
          have hok : bestOk Nn P l r cl fl := ⟨h1, h2, h3, h4⟩
          have hlen : l.length ≤ 10 := h1.2.1.2
          have hNn := h1.1.2.1
          rw [decide_eq_true hok, bestRes, if_pos hok, Int.toNat_natCast, Int.toNat_natCast]
          refine vLoop.count mo Nn (fun i e h' => ∃ (t : Heap), Regs e [(1, .slice a l.length 0), (2, .int .i64 r), (3, .int .i64 cl), (4, .int .i64 fl), (5, .pointer (some ⟨h.length, 0, none⟩)), (13, .int .i64 (bestL P l r (need cl) fl Nn i).1), (14, .int .i64 (bestL P l r (need cl) fl Nn i).2), (15, .int .i64 ((i + 1 : Nat) : Int))] ∧
            HeapIs h' (h ++ ⟨[.int .i64 Nn, w], 2, .rw⟩ :: t)) ?_ ?_
          · exact ⟨_, ⟨rfl, rfl, rfl, rfl, rfl, rfl, rfl, rfl, trivial⟩, .rfl⟩
          · rintro i e _ hi ⟨t, ⟨e1, e2, e3, e4, e5, e13, e14, e15, _⟩, rfl⟩
            simp only [go_sem, Nat.reduceBEq, Nat.reduceAdd, Nat.reduceMul, Nat.reduceSub, Nat.reduceLeDiff, Nat.le_refl, implies_true, Nat.reduceLT, reduceIte, decide_true, decide_false, true_and, and_true, reduceCtorEq, Nat.mul_one, Int.reduceToNat, Int.reduceLE, Int.reduceLT, Int.reduceAdd, Int.reduceSub, Int.reduceMul, Int.cast_ofNat_Int, cast_zero_int, cast_one_int, Nat.reducePow, Nat.reduceEqDiff, Nat.reduceMod, Nat.zero_add, Nat.sub_zero, Nat.add_zero, e1, e2, e3, e4, e5, e13, e14, e15]
            by_cases hlt : i < Nn
            · have ws := wsucc (i := i + 1) (N := Nn + 1) (by omega) (by omega)
              simp only [go_sem, Nat.reduceBEq, Nat.reduceAdd, Nat.reduceMul, Nat.reduceSub, Nat.reduceLeDiff, Nat.le_refl, implies_true, Nat.reduceLT, reduceIte, decide_true, decide_false, true_and, and_true, reduceCtorEq, Nat.mul_one, Int.reduceToNat, Int.reduceLE, Int.reduceLT, Int.reduceAdd, Int.reduceSub, Int.reduceMul, Int.cast_ofNat_Int, cast_zero_int, cast_one_int, Nat.reducePow, Nat.reduceEqDiff, Nat.reduceMod, Nat.zero_add, Nat.sub_zero, Nat.add_zero, e1, e2, e3, e4, e5, e13, e14, e15, show ((i + 1 : Nat) : Int) ≤ Nn by omega]
              have fin : ∀ (H : Heap) (v16 : Value), h ++ ⟨[.int .i64 Nn, w], 2, .rw⟩ :: t <+: H → Sl H 2 v16 ((l ++ [(((i + 1 : Nat) : Int), fl)]).map hyd) → vCall [] Try.prog (own h.length M) 102 [.agg #[.int .i64 Nn, w], v16, .int .i64 r, .int .i64 cl] H (fun r' h' => FI H.length h'.length h' r' (weakL P (l ++ [(((i + 1 : Nat) : Int), fl)]) r (need cl) Nn) ∧ H <+: h') := fun H v16 hp s16 =>
                c_l24Weak _ _ Nn P _ r cl (hv.mono ((List.prefix_append _ _).trans hp)) s16 h1.1 ⟨fun x hx => by
                  rcases List.mem_append.1 hx with hx | hx
                  · exact h1.hin.1 x hx
                  · obtain rfl : x = _ := by simpa using hx
                    exact ⟨by simp; omega, h3⟩, by simp; omega⟩ h2
              have step : bestL P l r (need cl) fl Nn (i + 1) = if (bestL P l r (need cl) fl Nn i).2 < 0 ∨ lack P l r (need cl) fl Nn i < (bestL P l r (need cl) fl Nn i).2 then (((i + 1 : Nat) : Int), lack P l r (need cl) fl Nn i) else bestL P l r (need cl) fl Nn i := rfl
              have hlack : ((weakL P (l ++ [(((i + 1 : Nat) : Int), fl)]) r (need cl) Nn).length : Int) = lack P l r (need cl) fl Nn i := rfl
              by_cases h0 : l = []
              · subst h0
                simp only [List.nil_append] at hlack
                simp only [go_sem, Nat.reduceBEq, Nat.reduceAdd, Nat.reduceMul, Nat.reduceSub, Nat.reduceLeDiff, Nat.le_refl, implies_true, Nat.reduceLT, reduceIte, decide_true, decide_false, true_and, and_true, reduceCtorEq, Nat.mul_one, Int.reduceToNat, Int.reduceLE, Int.reduceLT, Int.reduceAdd, Int.reduceSub, Int.reduceMul, Int.cast_ofNat_Int, cast_zero_int, cast_one_int, Nat.reducePow, Nat.reduceEqDiff, Nat.reduceMod, Nat.zero_add, Nat.sub_zero, Nat.add_zero, e1, e2, e3, e4, e5, e13, e14, e15, List.length_nil]
                refine ⟨by kernel_rfl, (fin _ _ (by simp) ?_).use (fun _ m => m) ?_⟩
                · have e1 : (1 : Nat) = (([] ++ [(((i + 1 : Nat) : Int), fl)]).map hyd).length := rfl
                  rw [e1]
                  refine Sl.whole (st := .rw) (esz := 2) (by simp) hyd_len ?_
                  simp only [go_sem, Nat.reduceBEq, Nat.reduceAdd, Nat.reduceMul, Nat.reduceSub, Nat.reduceLeDiff, Nat.le_refl, implies_true, Nat.reduceLT, reduceIte, decide_true, decide_false, true_and, and_true, reduceCtorEq, Nat.mul_one, Int.reduceToNat, Int.reduceLE, Int.reduceLT, Int.reduceAdd, Int.reduceSub, Int.reduceMul, Int.cast_ofNat_Int, cast_zero_int, cast_one_int, Nat.reducePow, Nat.reduceEqDiff, Nat.reduceMod, Nat.zero_add, Nat.sub_zero, Nat.add_zero]
                  rfl
                · rintro vR _ ⟨sR, ⟨t3, rfl⟩⟩
                  obtain ⟨b, rfl⟩ := sR.ai.len
                  simp only [go_sem, Nat.reduceBEq, Nat.reduceAdd, Nat.reduceMul, Nat.reduceSub, Nat.reduceLeDiff, Nat.le_refl, implies_true, Nat.reduceLT, reduceIte, decide_true, decide_false, true_and, and_true, reduceCtorEq, Nat.mul_one, Int.reduceToNat, Int.reduceLE, Int.reduceLT, Int.reduceAdd, Int.reduceSub, Int.reduceMul, Int.cast_ofNat_Int, cast_zero_int, cast_one_int, Nat.reducePow, Nat.reduceEqDiff, Nat.reduceMod, Nat.zero_add, Nat.sub_zero, Nat.add_zero, e1, e2, e3, e4, e5, e13, e14, e15, hlack]
                  by_cases c1 : (bestL P [] r (need cl) fl Nn i).2 < 0
                  · simp only [go_sem, Nat.reduceBEq, Nat.reduceAdd, Nat.reduceMul, Nat.reduceSub, Nat.reduceLeDiff, Nat.le_refl, implies_true, Nat.reduceLT, reduceIte, decide_true, decide_false, true_and, and_true, reduceCtorEq, Nat.mul_one, Int.reduceToNat, Int.reduceLE, Int.reduceLT, Int.reduceAdd, Int.reduceSub, Int.reduceMul, Int.cast_ofNat_Int, cast_zero_int, cast_one_int, Nat.reducePow, Nat.reduceEqDiff, Nat.reduceMod, Nat.zero_add, Nat.sub_zero, Nat.add_zero, e1, e2, e3, e4, e5, e13, e14, e15, c1]
                    exact ⟨hlt, _, ⟨e1, e2, e3, e4, e5, by rw [step, if_pos (.inl c1)]; rfl, by rw [step, if_pos (.inl c1)]; rfl, congrArg _ ws, trivial⟩, .rfl⟩
                  · by_cases c2 : lack P [] r (need cl) fl Nn i < (bestL P [] r (need cl) fl Nn i).2
                    · simp only [go_sem, Nat.reduceBEq, Nat.reduceAdd, Nat.reduceMul, Nat.reduceSub, Nat.reduceLeDiff, Nat.le_refl, implies_true, Nat.reduceLT, reduceIte, decide_true, decide_false, true_and, and_true, reduceCtorEq, Nat.mul_one, Int.reduceToNat, Int.reduceLE, Int.reduceLT, Int.reduceAdd, Int.reduceSub, Int.reduceMul, Int.cast_ofNat_Int, cast_zero_int, cast_one_int, Nat.reducePow, Nat.reduceEqDiff, Nat.reduceMod, Nat.zero_add, Nat.sub_zero, Nat.add_zero, e1, e2, e3, e4, e5, e13, e14, e15, c1, c2]
                      exact ⟨hlt, _, ⟨e1, e2, e3, e4, e5, by rw [step, if_pos (.inr c2)]; rfl, by rw [step, if_pos (.inr c2)]; rfl, congrArg _ ws, trivial⟩, .rfl⟩
                    · simp only [go_sem, Nat.reduceBEq, Nat.reduceAdd, Nat.reduceMul, Nat.reduceSub, Nat.reduceLeDiff, Nat.le_refl, implies_true, Nat.reduceLT, reduceIte, decide_true, decide_false, true_and, and_true, reduceCtorEq, Nat.mul_one, Int.reduceToNat, Int.reduceLE, Int.reduceLT, Int.reduceAdd, Int.reduceSub, Int.reduceMul, Int.cast_ofNat_Int, cast_zero_int, cast_one_int, Nat.reducePow, Nat.reduceEqDiff, Nat.reduceMod, Nat.zero_add, Nat.sub_zero, Nat.add_zero, e1, e2, e3, e4, e5, e13, e14, e15, c1, c2]
                      exact ⟨hlt, _, ⟨e1, e2, e3, e4, e5, by rw [step, if_neg (by omega)]; exact e13, by rw [step, if_neg (by omega)]; exact e14, congrArg _ ws, trivial⟩, .rfl⟩
              · obtain ⟨id, o, K, hv', hk, hd, hb, hfl⟩ := sl.copy (by simpa using h0)
                obtain rfl : a = some ⟨id, o, none⟩ := by simpa using hv'
                rw [List.length_map] at hb hfl
                have hp : 0 < l.length := List.length_pos_iff.2 h0
                have h1c : ((l.map hyd).flatten).all oneC = true := rows_one (fun r hr => by obtain ⟨x, _, rfl⟩ := List.mem_map.1 hr; rfl)
                have hfln : ((l.map hyd).flatten).length = l.length * 2 := by rw [flatten_len (sz := 2) hyd_len, List.length_map]
                simp only [go_sem, Nat.reduceBEq, Nat.reduceAdd, Nat.reduceMul, Nat.reduceSub, Nat.reduceLeDiff, Nat.le_refl, implies_true, Nat.reduceLT, reduceIte, decide_true, decide_false, true_and, and_true, reduceCtorEq, Nat.mul_one, Int.reduceToNat, Int.reduceLE, Int.reduceLT, Int.reduceAdd, Int.reduceSub, Int.reduceMul, Int.cast_ofNat_Int, cast_zero_int, cast_one_int, Nat.reducePow, Nat.reduceEqDiff, Nat.reduceMod, Nat.zero_add, Nat.sub_zero, Nat.add_zero, e1, e2, e3, e4, e5, e13, e14, e15, hk, hd, hb, hfl, onApp_more hp, h1c, hfln, hp]
                refine ⟨by omega, by omega, by omega, by omega, by kernel_rfl, (fin _ _ (by simp) ?_).use (fun _ m => m) ?_⟩
                · have e1 : l.length + 1 = ((l ++ [(((i + 1 : Nat) : Int), fl)]).map hyd).length := by simp
                  rw [e1]
                  refine Sl.whole (st := .rw) (esz := 2) (by simp) hyd_len ?_
                  simp only [go_sem, Nat.reduceBEq, Nat.reduceAdd, Nat.reduceMul, Nat.reduceSub, Nat.reduceLeDiff, Nat.le_refl, implies_true, Nat.reduceLT, reduceIte, decide_true, decide_false, true_and, and_true, reduceCtorEq, Nat.mul_one, Int.reduceToNat, Int.reduceLE, Int.reduceLT, Int.reduceAdd, Int.reduceSub, Int.reduceMul, Int.cast_ofNat_Int, cast_zero_int, cast_one_int, Nat.reducePow, Nat.reduceEqDiff, Nat.reduceMod, Nat.zero_add, Nat.sub_zero, Nat.add_zero]
                  simp [hyd]
                · rintro vR _ ⟨sR, ⟨t3, rfl⟩⟩
                  obtain ⟨b, rfl⟩ := sR.ai.len
                  simp only [go_sem, Nat.reduceBEq, Nat.reduceAdd, Nat.reduceMul, Nat.reduceSub, Nat.reduceLeDiff, Nat.le_refl, implies_true, Nat.reduceLT, reduceIte, decide_true, decide_false, true_and, and_true, reduceCtorEq, Nat.mul_one, Int.reduceToNat, Int.reduceLE, Int.reduceLT, Int.reduceAdd, Int.reduceSub, Int.reduceMul, Int.cast_ofNat_Int, cast_zero_int, cast_one_int, Nat.reducePow, Nat.reduceEqDiff, Nat.reduceMod, Nat.zero_add, Nat.sub_zero, Nat.add_zero, e1, e2, e3, e4, e5, e13, e14, e15, hlack]
                  by_cases c1 : (bestL P l r (need cl) fl Nn i).2 < 0
                  · simp only [go_sem, Nat.reduceBEq, Nat.reduceAdd, Nat.reduceMul, Nat.reduceSub, Nat.reduceLeDiff, Nat.le_refl, implies_true, Nat.reduceLT, reduceIte, decide_true, decide_false, true_and, and_true, reduceCtorEq, Nat.mul_one, Int.reduceToNat, Int.reduceLE, Int.reduceLT, Int.reduceAdd, Int.reduceSub, Int.reduceMul, Int.cast_ofNat_Int, cast_zero_int, cast_one_int, Nat.reducePow, Nat.reduceEqDiff, Nat.reduceMod, Nat.zero_add, Nat.sub_zero, Nat.add_zero, e1, e2, e3, e4, e5, e13, e14, e15, c1]
                    exact ⟨hlt, _, ⟨e1, e2, e3, e4, e5, by rw [step, if_pos (.inl c1)]; rfl, by rw [step, if_pos (.inl c1)]; rfl, congrArg _ ws, trivial⟩, .rfl⟩
                  · by_cases c2 : lack P l r (need cl) fl Nn i < (bestL P l r (need cl) fl Nn i).2
                    · simp only [go_sem, Nat.reduceBEq, Nat.reduceAdd, Nat.reduceMul, Nat.reduceSub, Nat.reduceLeDiff, Nat.le_refl, implies_true, Nat.reduceLT, reduceIte, decide_true, decide_false, true_and, and_true, reduceCtorEq, Nat.mul_one, Int.reduceToNat, Int.reduceLE, Int.reduceLT, Int.reduceAdd, Int.reduceSub, Int.reduceMul, Int.cast_ofNat_Int, cast_zero_int, cast_one_int, Nat.reducePow, Nat.reduceEqDiff, Nat.reduceMod, Nat.zero_add, Nat.sub_zero, Nat.add_zero, e1, e2, e3, e4, e5, e13, e14, e15, c1, c2]
                      exact ⟨hlt, _, ⟨e1, e2, e3, e4, e5, by rw [step, if_pos (.inr c2)]; rfl, by rw [step, if_pos (.inr c2)]; rfl, congrArg _ ws, trivial⟩, .rfl⟩
                    · simp only [go_sem, Nat.reduceBEq, Nat.reduceAdd, Nat.reduceMul, Nat.reduceSub, Nat.reduceLeDiff, Nat.le_refl, implies_true, Nat.reduceLT, reduceIte, decide_true, decide_false, true_and, and_true, reduceCtorEq, Nat.mul_one, Int.reduceToNat, Int.reduceLE, Int.reduceLT, Int.reduceAdd, Int.reduceSub, Int.reduceMul, Int.cast_ofNat_Int, cast_zero_int, cast_one_int, Nat.reducePow, Nat.reduceEqDiff, Nat.reduceMod, Nat.zero_add, Nat.sub_zero, Nat.add_zero, e1, e2, e3, e4, e5, e13, e14, e15, c1, c2]
                      exact ⟨hlt, _, ⟨e1, e2, e3, e4, e5, by rw [step, if_neg (by omega)]; exact e13, by rw [step, if_neg (by omega)]; exact e14, congrArg _ ws, trivial⟩, .rfl⟩
            · obtain rfl : i = Nn := by omega
              simp only [go_sem, Nat.reduceBEq, Nat.reduceAdd, Nat.reduceMul, Nat.reduceSub, Nat.reduceLeDiff, Nat.le_refl, implies_true, Nat.reduceLT, reduceIte, decide_true, decide_false, true_and, and_true, reduceCtorEq, Nat.mul_one, Int.reduceToNat, Int.reduceLE, Int.reduceLT, Int.reduceAdd, Int.reduceSub, Int.reduceMul, Int.cast_ofNat_Int, cast_zero_int, cast_one_int, Nat.reducePow, Nat.reduceEqDiff, Nat.reduceMod, Nat.zero_add, Nat.sub_zero, Nat.add_zero, e1, e2, e3, e4, e5, e13, e14, e15, show ¬ (((i + 1 : Nat) : Int) ≤ i) by omega]
      · simp only [go_sem, Nat.reduceBEq, Nat.reduceAdd, Nat.reduceMul, Nat.reduceSub, Nat.reduceLeDiff, Nat.le_refl, implies_true, Nat.reduceLT, reduceIte, decide_true, decide_false, true_and, and_true, reduceCtorEq, Nat.mul_one, Int.reduceToNat, Int.reduceLE, Int.reduceLT, Int.reduceAdd, Int.reduceSub, Int.reduceMul, Int.cast_ofNat_Int, cast_zero_int, cast_one_int, Nat.reducePow, Nat.reduceEqDiff, Nat.reduceMod, Nat.zero_add, Nat.sub_zero, Nat.add_zero, decb h1, decb h2, dect h3]
        exact bad (fun hh => h3 hh.2.2.1)
    · simp only [go_sem, Nat.reduceBEq, Nat.reduceAdd, Nat.reduceMul, Nat.reduceSub, Nat.reduceLeDiff, Nat.le_refl, implies_true, Nat.reduceLT, reduceIte, decide_true, decide_false, true_and, and_true, reduceCtorEq, Nat.mul_one, Int.reduceToNat, Int.reduceLE, Int.reduceLT, Int.reduceAdd, Int.reduceSub, Int.reduceMul, Int.cast_ofNat_Int, cast_zero_int, cast_one_int, Nat.reducePow, Nat.reduceEqDiff, Nat.reduceMod, Nat.zero_add, Nat.sub_zero, Nat.add_zero, decb h1, dect h2]
      exact bad (fun hh => h2 hh.2.1)
  · simp only [go_sem, Nat.reduceBEq, Nat.reduceAdd, Nat.reduceMul, Nat.reduceSub, Nat.reduceLeDiff, Nat.le_refl, implies_true, Nat.reduceLT, reduceIte, decide_true, decide_false, true_and, and_true, reduceCtorEq, Nat.mul_one, Int.reduceToNat, Int.reduceLE, Int.reduceLT, Int.reduceAdd, Int.reduceSub, Int.reduceMul, Int.cast_ofNat_Int, cast_zero_int, cast_one_int, Nat.reducePow, Nat.reduceEqDiff, Nat.reduceMod, Nat.zero_add, Nat.sub_zero, Nat.add_zero, dect h1]
    exact bad (fun hh => h1 hh.1)
end
end Go.Proofs.Ytjgekhahklidcaa
