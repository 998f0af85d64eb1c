
/- Hydrants in a network: what may be asked, and the nodes that lack water. No condition. -/
import Derived.Test.YtjgekhahklidcaaHyd
import Derived.Test.YtjgekhahklidcaaReserve
namespace Go.Proofs.Ytjgekhahklidcaa
open Go.HH
set_option linter.unusedSimpArgs false
set_option linter.unusedVariables false

/-- The index of the first for which a predicate holds, or -1. -/
def idxI {α : Type} (p : α → Bool) (l : List α) : Int := if l.any p = true then (l.findIdx p : Int) else -1

def canR (N : Int) (P : List Pip) (l : List Hyd) (rc : Int) : Prop := netGood N P ∧ hydGood l ∧ (0 ≤ rc ∧ rc ≤ 10) ∧ ∀ x ∈ l, x.1 ≤ N
instance {N : Int} {P : List Pip} {l : List Hyd} {rc : Int} : Decidable (canR N P l rc) := by unfold canR; infer_instance
theorem hydGood.at {l : List Hyd} (g : hydGood l) {x : Hyd} (hx : x ∈ l) : (1 ≤ x.1 ∧ x.1 ≤ 8) ∧ 1 ≤ x.2 ∧ x.2 ≤ 5000 := by
  obtain ⟨i, hi, rfl⟩ := List.mem_iff_getElem.1 hx
  have := g.1 i hi
  unfold hydAt at this
  rw [getD_at hi] at this
  exact ⟨this.1, this.2.1⟩
theorem canR.hin {N : Int} {P : List Pip} {l : List Hyd} {rc : Int} (c : canR N P l rc) : hydIn N l :=
  ⟨fun x hx => ⟨⟨(c.2.1.at hx).1.1, c.2.2.2 x hx⟩, (c.2.1.at hx).2⟩, by have := c.2.1.2; omega⟩

section
variable {h : Heap} {M : Nat → Prop}

theorem c_hydIndex {fid : Nat} {cap : Array Value} (hf : callable Try.prog fid = true) (p : Hyd → Bool) (v : Value) (l : List Hyd) (s : Sl h 2 v (l.map hyd)) (hmax : l.length ≤ 1048576)
    (hcb : ∀ (M : Nat → Prop) (h' : Heap) (x : Hyd), h <+: h' → x ∈ l → vCall [] Try.prog M fid (.agg (hyd x).toArray :: cap.toList) h' (fun r h'' => r = .bool (p x) ∧ h' <+: h'')) :
    vCall [] Try.prog M 120 [v, .func (.func fid) #[] cap] h (fun r h' => r = .int .i64 (idxI p l) ∧ h <+: h') := by
  obtain ⟨a, hv, _, _⟩ := id s
  rw [List.length_map] at hv
  subst hv
  refine body_of mo Try.func120 rfl (by kernel_rfl) (Nat.le_of_ble_eq_true (by kernel_rfl)) rfl ?_
  simp only [go_sem, Nat.reduceBEq, Nat.reduceAdd, Nat.reduceMul, Nat.reduceSub, Nat.reduceLeDiff, Nat.le_refl, implies_true, Nat.reduceLT, reduceIte, decide_true, decide_false, true_and, and_true, reduceCtorEq, Nat.mul_one, Int.reduceToNat, Int.reduceLE, Int.reduceLT, Int.reduceAdd, Int.reduceSub, Int.reduceMul, Int.cast_ofNat_Int, cast_zero_int, cast_one_int, Nat.reducePow, Nat.reduceEqDiff, Nat.reduceMod, Nat.zero_add, Nat.sub_zero, Nat.add_zero]
  refine vLoop.count mo l.length (fun i e h' => ∃ t : Heap, Regs e [(0, .slice a l.length 0), (1, .func (.func fid) #[] cap), (7, .int .i64 l.length), (8, .int .i64 i)] ∧ HeapIs h' (h ++ t) ∧ ∀ (j : Nat) (hj : j < l.length), j < i → p l[j] = false) ?_ ?_
  · exact ⟨[], ⟨rfl, rfl, rfl, rfl, trivial⟩, by simp [HeapIs], fun j _ hj => absurd hj (by omega)⟩
  · rintro i e _ hi ⟨t, ⟨e0, e1, e7, e8, _⟩, rfl, hno⟩
    simp only [go_sem, Nat.reduceBEq, Nat.reduceAdd, Nat.reduceMul, Nat.reduceSub, Nat.reduceLeDiff, Nat.le_refl, implies_true, Nat.reduceLT, reduceIte, decide_true, decide_false, true_and, and_true, reduceCtorEq, Nat.mul_one, Int.reduceToNat, Int.reduceLE, Int.reduceLT, Int.reduceAdd, Int.reduceSub, Int.reduceMul, Int.cast_ofNat_Int, cast_zero_int, cast_one_int, Nat.reducePow, Nat.reduceEqDiff, Nat.reduceMod, Nat.zero_add, Nat.sub_zero, Nat.add_zero, e0, e1, e7, e8]
    by_cases hlt : i < l.length
    · have ws := wsucc hlt (by omega)
      have hz : (i : Int) < l.length := by omega
      have hlt' : i < (l.map hyd).length := by simpa using hlt
      obtain ⟨id, o, k, hv, hk, _, hd, hb, hrow, hat⟩ := s.at hlt'
      obtain rfl : a = some ⟨id, o, none⟩ := by simpa using hv
      rw [List.getElem_map] at hrow
      simp only [go_sem, Nat.reduceBEq, Nat.reduceAdd, Nat.reduceMul, Nat.reduceSub, Nat.reduceLeDiff, Nat.le_refl, implies_true, Nat.reduceLT, reduceIte, decide_true, decide_false, true_and, and_true, reduceCtorEq, Nat.mul_one, Int.reduceToNat, Int.reduceLE, Int.reduceLT, Int.reduceAdd, Int.reduceSub, Int.reduceMul, Int.cast_ofNat_Int, cast_zero_int, cast_one_int, Nat.reducePow, Nat.reduceEqDiff, Nat.reduceMod, Nat.zero_add, Nat.sub_zero, Nat.add_zero, e0, e1, e7, e8, hz, hk, hd, hb, hrow]
      refine ⟨hf, (hcb _ _ l[i] (List.prefix_append _ _) (List.getElem_mem hlt)).use (fun _ m => m) ?_⟩
      rintro _ _ ⟨rfl, ⟨t2, rfl⟩⟩
      simp only [go_sem, Nat.reduceBEq, Nat.reduceAdd, Nat.reduceMul, Nat.reduceSub, Nat.reduceLeDiff, Nat.le_refl, implies_true, Nat.reduceLT, reduceIte, decide_true, decide_false, true_and, and_true, reduceCtorEq, Nat.mul_one, Int.reduceToNat, Int.reduceLE, Int.reduceLT, Int.reduceAdd, Int.reduceSub, Int.reduceMul, Int.cast_ofNat_Int, cast_zero_int, cast_one_int, Nat.reducePow, Nat.reduceEqDiff, Nat.reduceMod, Nat.zero_add, Nat.sub_zero, Nat.add_zero, e0, e1, e7, e8]
      cases hp : p l[i] with
      | true =>
        simp only [go_sem, Nat.reduceBEq, Nat.reduceAdd, Nat.reduceMul, Nat.reduceSub, Nat.reduceLeDiff, Nat.le_refl, implies_true, Nat.reduceLT, reduceIte, decide_true, decide_false, true_and, and_true, reduceCtorEq, Nat.mul_one, Int.reduceToNat, Int.reduceLE, Int.reduceLT, Int.reduceAdd, Int.reduceSub, Int.reduceMul, Int.cast_ofNat_Int, cast_zero_int, cast_one_int, Nat.reducePow, Nat.reduceEqDiff, Nat.reduceMod, Nat.zero_add, Nat.sub_zero, Nat.add_zero, e0, e1, e7, e8]
        refine congrArg (Value.int .i64) ?_
        have h1 : l.findIdx p = i := (List.findIdx_eq hlt).2 ⟨hp, fun j hj => hno j (by omega) hj⟩
        have h2 : l.any p = true := List.any_eq_true.2 ⟨_, List.getElem_mem hlt, hp⟩
        rw [idxI, if_pos h2, h1]
      | false =>
        simp only [go_sem, Nat.reduceBEq, Nat.reduceAdd, Nat.reduceMul, Nat.reduceSub, Nat.reduceLeDiff, Nat.le_refl, implies_true, Nat.reduceLT, reduceIte, decide_true, decide_false, true_and, and_true, reduceCtorEq, Nat.mul_one, Int.reduceToNat, Int.reduceLE, Int.reduceLT, Int.reduceAdd, Int.reduceSub, Int.reduceMul, Int.cast_ofNat_Int, cast_zero_int, cast_one_int, Nat.reducePow, Nat.reduceEqDiff, Nat.reduceMod, Nat.zero_add, Nat.sub_zero, Nat.add_zero, e0, e1, e7, e8]
        refine ⟨hlt, t ++ t2, ⟨e0, e1, e7, congrArg _ ws, trivial⟩, .rfl, fun j hj hji => ?_⟩
        by_cases h3 : j < i
        · exact hno j hj h3
        · obtain rfl : j = i := by omega
          exact hp
    · obtain rfl : i = l.length := by omega
      simp only [go_sem, Nat.reduceBEq, Nat.reduceAdd, Nat.reduceMul, Nat.reduceSub, Nat.reduceLeDiff, Nat.le_refl, implies_true, Nat.reduceLT, reduceIte, decide_true, decide_false, true_and, and_true, reduceCtorEq, Nat.mul_one, Int.reduceToNat, Int.reduceLE, Int.reduceLT, Int.reduceAdd, Int.reduceSub, Int.reduceMul, Int.cast_ofNat_Int, cast_zero_int, cast_one_int, Nat.reducePow, Nat.reduceEqDiff, Nat.reduceMod, Nat.zero_add, Nat.sub_zero, Nat.add_zero, e0, e1, e7, e8, show ¬ ((l.length : Int) < l.length) by omega]
      rw [idxI, if_neg]
      rw [Bool.not_eq_true, List.any_eq_false]
      intro x hx
      obtain ⟨j, hj, rfl⟩ := List.mem_iff_getElem.1 hx
      rw [hno j hj hj]; simp
theorem c_hydContains {fid : Nat} {cap : Array Value} (hf : callable Try.prog fid = true) (p : Hyd → Bool) (v : Value) (l : List Hyd) (s : Sl h 2 v (l.map hyd)) (hmax : l.length ≤ 1048576)
    (hcb : ∀ (M : Nat → Prop) (h' : Heap) (x : Hyd), h <+: h' → x ∈ l → vCall [] Try.prog M fid (.agg (hyd x).toArray :: cap.toList) h' (fun r h'' => r = .bool (p x) ∧ h' <+: h'')) :
    vCall [] Try.prog M 111 [v, .func (.func fid) #[] cap] h (fun r h' => r = .bool (l.any p) ∧ h <+: h') := by
  refine body_of mo Try.func111 rfl (by kernel_rfl) (Nat.le_of_ble_eq_true (by kernel_rfl)) rfl ?_
  simp only [go_sem, Nat.reduceBEq, Nat.reduceAdd, Nat.reduceMul, Nat.reduceSub, Nat.reduceLeDiff, Nat.le_refl, implies_true, Nat.reduceLT, reduceIte, decide_true, decide_false, true_and, and_true, reduceCtorEq, Nat.mul_one, Int.reduceToNat, Int.reduceLE, Int.reduceLT, Int.reduceAdd, Int.reduceSub, Int.reduceMul, Int.cast_ofNat_Int, cast_zero_int, cast_one_int, Nat.reducePow, Nat.reduceEqDiff, Nat.reduceMod, Nat.zero_add, Nat.sub_zero, Nat.add_zero]
  refine ⟨by kernel_rfl, (c_hydIndex hf p v l s hmax hcb).use (fun _ m => m) ?_⟩
  rintro _ _ ⟨rfl, ⟨t, rfl⟩⟩
  simp only [go_sem, Nat.reduceBEq, Nat.reduceAdd, Nat.reduceMul, Nat.reduceSub, Nat.reduceLeDiff, Nat.le_refl, implies_true, Nat.reduceLT, reduceIte, decide_true, decide_false, true_and, and_true, reduceCtorEq, Nat.mul_one, Int.reduceToNat, Int.reduceLE, Int.reduceLT, Int.reduceAdd, Int.reduceSub, Int.reduceMul, Int.cast_ofNat_Int, cast_zero_int, cast_one_int, Nat.reducePow, Nat.reduceEqDiff, Nat.reduceMod, Nat.zero_add, Nat.sub_zero, Nat.add_zero]
  refine congrArg Value.bool ?_
  unfold idxI
  cases h1 : l.any p <;> simp


theorem c_canReach1 (x : Hyd) (id : Nat) (N : Int) (w : Value) (hb : hget h id = some ⟨[.int .i64 N, w], 2, .rw⟩) :
    vCall [] Try.prog M 112 [.agg #[.int .i64 x.1, .int .i64 x.2], .pointer (some ⟨id, 0, none⟩)] h (fun r h' => r = .bool (!decide (1 ≤ x.1 ∧ x.1 ≤ N)) ∧ h <+: h') := by
  refine body_of mo Try.func112 rfl (by kernel_rfl) (Nat.le_of_ble_eq_true (by kernel_rfl)) rfl ?_
  have hb1 := self_get hb
  simp only [go_sem, Nat.reduceBEq, Nat.reduceAdd, Nat.reduceMul, Nat.reduceSub, Nat.reduceLeDiff, Nat.le_refl, implies_true, Nat.reduceLT, reduceIte, decide_true, decide_false, true_and, and_true, reduceCtorEq, Nat.mul_one, Int.reduceToNat, Int.reduceLE, Int.reduceLT, Int.reduceAdd, Int.reduceSub, Int.reduceMul, Int.cast_ofNat_Int, cast_zero_int, cast_one_int, Nat.reducePow, Nat.reduceEqDiff, Nat.reduceMod, Nat.zero_add, Nat.sub_zero, Nat.add_zero, hb1]
  refine ⟨by kernel_rfl, (c_has _ _ _).use (fun _ m => m) ?_⟩
  rintro _ _ ⟨rfl, ⟨t, rfl⟩⟩
  simp only [go_sem, Nat.reduceBEq, Nat.reduceAdd, Nat.reduceMul, Nat.reduceSub, Nat.reduceLeDiff, Nat.le_refl, implies_true, Nat.reduceLT, reduceIte, decide_true, decide_false, true_and, and_true, reduceCtorEq, Nat.mul_one, Int.reduceToNat, Int.reduceLE, Int.reduceLT, Int.reduceAdd, Int.reduceSub, Int.reduceMul, Int.cast_ofNat_Int, cast_zero_int, cast_one_int, Nat.reducePow, Nat.reduceEqDiff, Nat.reduceMod, Nat.zero_add, Nat.sub_zero, Nat.add_zero]

theorem c_canReach {n : Nat} (v vl : Value) (N : Int) (P : List Pip) (l : List Hyd) (rc : Int) (hv : NA n h v N P) (sl : Sl h 2 vl (l.map hyd)) (hmP : P.length ≤ 1048576) (hml : l.length ≤ 1048576) :
    vCall [] Try.prog M 88 [v, vl, .int .i64 rc] h (fun r h' => r = .bool (decide (canR N P l rc)) ∧ h <+: h') := by
  have hv0 := id hv
  obtain ⟨w, rfl, _⟩ := hv0
  refine body_of mo Try.func88 rfl (by kernel_rfl) (Nat.le_of_ble_eq_true (by kernel_rfl)) rfl ?_
  simp only [go_sem, Nat.reduceBEq, Nat.reduceAdd, Nat.reduceMul, Nat.reduceSub, Nat.reduceLeDiff, Nat.le_refl, implies_true, Nat.reduceLT, reduceIte, decide_true, decide_false, true_and, and_true, reduceCtorEq, Nat.mul_one, Int.reduceToNat, Int.reduceLE, Int.reduceLT, Int.reduceAdd, Int.reduceSub, Int.reduceMul, Int.cast_ofNat_Int, cast_zero_int, cast_one_int, Nat.reducePow, Nat.reduceEqDiff, Nat.reduceMod, Nat.zero_add, Nat.sub_zero, Nat.add_zero]
  refine ⟨by kernel_rfl, (c_IsValidNetwork _ N P (hv.mono (by simp)) hmP).use (fun _ m => m) ?_⟩
  rintro _ _ ⟨rfl, ⟨t, rfl⟩⟩
  simp only [go_sem, Nat.reduceBEq, Nat.reduceAdd, Nat.reduceMul, Nat.reduceSub, Nat.reduceLeDiff, Nat.le_refl, implies_true, Nat.reduceLT, reduceIte, decide_true, decide_false, true_and, and_true, reduceCtorEq, Nat.mul_one, Int.reduceToNat, Int.reduceLE, Int.reduceLT, Int.reduceAdd, Int.reduceSub, Int.reduceMul, Int.cast_ofNat_Int, cast_zero_int, cast_one_int, Nat.reducePow, Nat.reduceEqDiff, Nat.reduceMod, Nat.zero_add, Nat.sub_zero, Nat.add_zero]
  by_cases h1 : netGood N P
  · simp only [go_sem, Nat.reduceBEq, Nat.reduceAdd, Nat.reduceMul, Nat.reduceSub, Nat.reduceLeDiff, Nat.le_refl, implies_true, Nat.reduceLT, reduceIte, decide_true, decide_false, true_and, and_true, reduceCtorEq, Nat.mul_one, Int.reduceToNat, Int.reduceLE, Int.reduceLT, Int.reduceAdd, Int.reduceSub, Int.reduceMul, Int.cast_ofNat_Int, cast_zero_int, cast_one_int, Nat.reducePow, Nat.reduceEqDiff, Nat.reduceMod, Nat.zero_add, Nat.sub_zero, Nat.add_zero, decb h1]
    refine ⟨by kernel_rfl, (c_IsValidHydrants _ l (sl.mono (by simp)) hml).use (fun _ m => m) ?_⟩
    rintro _ _ ⟨⟨g, rfl, hg⟩, ⟨t2, rfl⟩⟩
    obtain rfl : g = decide (hydGood l) := by rw [Bool.eq_iff_iff, hg]; simp
    simp only [go_sem, Nat.reduceBEq, Nat.reduceAdd, Nat.reduceMul, Nat.reduceSub, Nat.reduceLeDiff, Nat.le_refl, implies_true, Nat.reduceLT, reduceIte, decide_true, decide_false, true_and, and_true, reduceCtorEq, Nat.mul_one, Int.reduceToNat, Int.reduceLE, Int.reduceLT, Int.reduceAdd, Int.reduceSub, Int.reduceMul, Int.cast_ofNat_Int, cast_zero_int, cast_one_int, Nat.reducePow, Nat.reduceEqDiff, Nat.reduceMod, Nat.zero_add, Nat.sub_zero, Nat.add_zero, decb h1]
    by_cases h2 : hydGood l
    · simp only [go_sem, Nat.reduceBEq, Nat.reduceAdd, Nat.reduceMul, Nat.reduceSub, Nat.reduceLeDiff, Nat.le_refl, implies_true, Nat.reduceLT, reduceIte, decide_true, decide_false, true_and, and_true, reduceCtorEq, Nat.mul_one, Int.reduceToNat, Int.reduceLE, Int.reduceLT, Int.reduceAdd, Int.reduceSub, Int.reduceMul, Int.cast_ofNat_Int, cast_zero_int, cast_one_int, Nat.reducePow, Nat.reduceEqDiff, Nat.reduceMod, Nat.zero_add, Nat.sub_zero, Nat.add_zero, decb h1, decb h2]
      refine ⟨by kernel_rfl, (c_inside _ _ _).use (fun _ m => m) ?_⟩
      rintro _ _ ⟨rfl, rfl⟩
      by_cases h3 : 0 ≤ rc ∧ rc ≤ 10
      · simp only [go_sem, Nat.reduceBEq, Nat.reduceAdd, Nat.reduceMul, Nat.reduceSub, Nat.reduceLeDiff, Nat.le_refl, implies_true, Nat.reduceLT, reduceIte, decide_true, decide_false, true_and, and_true, reduceCtorEq, Nat.mul_one, Int.reduceToNat, Int.reduceLE, Int.reduceLT, Int.reduceAdd, Int.reduceSub, Int.reduceMul, Int.cast_ofNat_Int, cast_zero_int, cast_one_int, Nat.reducePow, Nat.reduceEqDiff, Nat.reduceMod, Nat.zero_add, Nat.sub_zero, Nat.add_zero, decb h1, decb h2, decb h3]
        refine ⟨by kernel_rfl, (c_hydContains (by kernel_rfl) (fun x => !decide (1 ≤ x.1 ∧ x.1 ≤ N)) _ l (sl.mono (by simp)) hml (fun M h' x hp _ => c_canReach1 x _ _ w (by rw [hget_prefix hp (by simp)]; simp only [go_sem, Nat.reduceBEq, Nat.reduceAdd, Nat.reduceMul, Nat.reduceSub, Nat.reduceLeDiff, Nat.le_refl, implies_true, Nat.reduceLT, reduceIte, decide_true, decide_false, true_and, and_true, reduceCtorEq, Nat.mul_one, Int.reduceToNat, Int.reduceLE, Int.reduceLT, Int.reduceAdd, Int.reduceSub, Int.reduceMul, Int.cast_ofNat_Int, cast_zero_int, cast_one_int, Nat.reducePow, Nat.reduceEqDiff, Nat.reduceMod, Nat.zero_add, Nat.sub_zero, Nat.add_zero]))).use (fun _ m => m) ?_⟩
        rintro _ _ ⟨rfl, ⟨t3, rfl⟩⟩
        simp only [go_sem, Nat.reduceBEq, Nat.reduceAdd, Nat.reduceMul, Nat.reduceSub, Nat.reduceLeDiff, Nat.le_refl, implies_true, Nat.reduceLT, reduceIte, decide_true, decide_false, true_and, and_true, reduceCtorEq, Nat.mul_one, Int.reduceToNat, Int.reduceLE, Int.reduceLT, Int.reduceAdd, Int.reduceSub, Int.reduceMul, Int.cast_ofNat_Int, cast_zero_int, cast_one_int, Nat.reducePow, Nat.reduceEqDiff, Nat.reduceMod, Nat.zero_add, Nat.sub_zero, Nat.add_zero, decb h1, decb h2, decb h3]
        refine congrArg Value.bool ?_
        rw [Bool.eq_iff_iff, decide_eq_true_iff, Bool.not_eq_true', List.any_eq_false]
        refine ⟨fun hh => ⟨h1, h2, h3, fun x hx => ?_⟩, fun hh x hx => ?_⟩
        · have := hh x hx; simp at this; exact this.2
        · have := hh.2.2.2 x hx; have := (h2.at hx).1; simp; omega
      · simp only [go_sem, Nat.reduceBEq, Nat.reduceAdd, Nat.reduceMul, Nat.reduceSub, Nat.reduceLeDiff, Nat.le_refl, implies_true, Nat.reduceLT, reduceIte, decide_true, decide_false, true_and, and_true, reduceCtorEq, Nat.mul_one, Int.reduceToNat, Int.reduceLE, Int.reduceLT, Int.reduceAdd, Int.reduceSub, Int.reduceMul, Int.cast_ofNat_Int, cast_zero_int, cast_one_int, Nat.reducePow, Nat.reduceEqDiff, Nat.reduceMod, Nat.zero_add, Nat.sub_zero, Nat.add_zero, decb h1, decb h2, dect h3]
        exact congrArg Value.bool (decide_eq_false (fun hh : canR N P l rc => h3 hh.2.2.1)).symm
    · simp only [go_sem, Nat.reduceBEq, Nat.reduceAdd, Nat.reduceMul, Nat.reduceSub, Nat.reduceLeDiff, Nat.le_refl, implies_true, Nat.reduceLT, reduceIte, decide_true, decide_false, true_and, and_true, reduceCtorEq, Nat.mul_one, Int.reduceToNat, Int.reduceLE, Int.reduceLT, Int.reduceAdd, Int.reduceSub, Int.reduceMul, Int.cast_ofNat_Int, cast_zero_int, cast_one_int, Nat.reducePow, Nat.reduceEqDiff, Nat.reduceMod, Nat.zero_add, Nat.sub_zero, Nat.add_zero, decb h1, dect h2]
      exact congrArg Value.bool (decide_eq_false (fun hh : canR N P l rc => h2 hh.2.1)).symm
  · simp only [go_sem, Nat.reduceBEq, Nat.reduceAdd, Nat.reduceMul, Nat.reduceSub, Nat.reduceLeDiff, Nat.le_refl, implies_true, Nat.reduceLT, reduceIte, decide_true, decide_false, true_and, and_true, reduceCtorEq, Nat.mul_one, Int.reduceToNat, Int.reduceLE, Int.reduceLT, Int.reduceAdd, Int.reduceSub, Int.reduceMul, Int.cast_ofNat_Int, cast_zero_int, cast_one_int, Nat.reducePow, Nat.reduceEqDiff, Nat.reduceMod, Nat.zero_add, Nat.sub_zero, Nat.add_zero, dect h1]
    exact congrArg Value.bool (decide_eq_false (fun hh : canR N P l rc => h1 hh.1)).symm

theorem c_l24Asked {n : Nat} (v vl : Value) (N : Int) (P : List Pip) (l : List Hyd) (rc : Int) (hv : NA n h v N P) (sl : Sl h 2 vl (l.map hyd)) (hmP : P.length ≤ 1048576) (hml : l.length ≤ 1048576) :
    vCall [] Try.prog M 91 [v, vl, .int .i64 rc] h (fun r h' => r = .bool (decide (canR N P l rc)) ∧ h <+: h') := by
  obtain ⟨a, rfl⟩ := Sl.len2 sl
  have hv0 := id hv
  obtain ⟨w, rfl, _⟩ := hv0
  refine body_of mo Try.func91 rfl (by kernel_rfl) (Nat.le_of_ble_eq_true (by kernel_rfl)) rfl ?_
  simp only [go_sem, Nat.reduceBEq, Nat.reduceAdd, Nat.reduceMul, Nat.reduceSub, Nat.reduceLeDiff, Nat.le_refl, implies_true, Nat.reduceLT, reduceIte, decide_true, decide_false, true_and, and_true, reduceCtorEq, Nat.mul_one, Int.reduceToNat, Int.reduceLE, Int.reduceLT, Int.reduceAdd, Int.reduceSub, Int.reduceMul, Int.cast_ofNat_Int, cast_zero_int, cast_one_int, Nat.reducePow, Nat.reduceEqDiff, Nat.reduceMod, Nat.zero_add, Nat.sub_zero, Nat.add_zero]
  refine ⟨by kernel_rfl, (c_l2Good _ N P (hv.mono (by simp)) hmP).use (fun _ m => m) ?_⟩
  rintro _ _ ⟨rfl, ⟨t, rfl⟩⟩
  simp only [go_sem, Nat.reduceBEq, Nat.reduceAdd, Nat.reduceMul, Nat.reduceSub, Nat.reduceLeDiff, Nat.le_refl, implies_true, Nat.reduceLT, reduceIte, decide_true, decide_false, true_and, and_true, reduceCtorEq, Nat.mul_one, Int.reduceToNat, Int.reduceLE, Int.reduceLT, Int.reduceAdd, Int.reduceSub, Int.reduceMul, Int.cast_ofNat_Int, cast_zero_int, cast_one_int, Nat.reducePow, Nat.reduceEqDiff, Nat.reduceMod, Nat.zero_add, Nat.sub_zero, Nat.add_zero]
  by_cases h1 : netGood N P
  · simp only [go_sem, Nat.reduceBEq, Nat.reduceAdd, Nat.reduceMul, Nat.reduceSub, Nat.reduceLeDiff, Nat.le_refl, implies_true, Nat.reduceLT, reduceIte, decide_true, decide_false, true_and, and_true, reduceCtorEq, Nat.mul_one, Int.reduceToNat, Int.reduceLE, Int.reduceLT, Int.reduceAdd, Int.reduceSub, Int.reduceMul, Int.cast_ofNat_Int, cast_zero_int, cast_one_int, Nat.reducePow, Nat.reduceEqDiff, Nat.reduceMod, Nat.zero_add, Nat.sub_zero, Nat.add_zero, decb h1]
    refine ⟨by kernel_rfl, (c_l24Good _ l (sl.mono (by simp)) hml).use (fun _ m => m) ?_⟩
    rintro _ _ ⟨⟨g, rfl, hg⟩, ⟨t2, rfl⟩⟩
    obtain rfl : g = decide (hydGood l) := by rw [Bool.eq_iff_iff, hg]; simp
    simp only [go_sem, Nat.reduceBEq, Nat.reduceAdd, Nat.reduceMul, Nat.reduceSub, Nat.reduceLeDiff, Nat.le_refl, implies_true, Nat.reduceLT, reduceIte, decide_true, decide_false, true_and, and_true, reduceCtorEq, Nat.mul_one, Int.reduceToNat, Int.reduceLE, Int.reduceLT, Int.reduceAdd, Int.reduceSub, Int.reduceMul, Int.cast_ofNat_Int, cast_zero_int, cast_one_int, Nat.reducePow, Nat.reduceEqDiff, Nat.reduceMod, Nat.zero_add, Nat.sub_zero, Nat.add_zero, decb h1]
    by_cases h2 : hydGood l
    · simp only [go_sem, Nat.reduceBEq, Nat.reduceAdd, Nat.reduceMul, Nat.reduceSub, Nat.reduceLeDiff, Nat.le_refl, implies_true, Nat.reduceLT, reduceIte, decide_true, decide_false, true_and, and_true, reduceCtorEq, Nat.mul_one, Int.reduceToNat, Int.reduceLE, Int.reduceLT, Int.reduceAdd, Int.reduceSub, Int.reduceMul, Int.cast_ofNat_Int, cast_zero_int, cast_one_int, Nat.reducePow, Nat.reduceEqDiff, Nat.reduceMod, Nat.zero_add, Nat.sub_zero, Nat.add_zero, decb h1, decb h2]
      refine ⟨by kernel_rfl, (c_l1In _ _ _).use (fun _ m => m) ?_⟩
      rintro _ _ ⟨rfl, rfl⟩
      by_cases h3 : 0 ≤ rc ∧ rc ≤ 10
      · simp only [go_sem, Nat.reduceBEq, Nat.reduceAdd, Nat.reduceMul, Nat.reduceSub, Nat.reduceLeDiff, Nat.le_refl, implies_true, Nat.reduceLT, reduceIte, decide_true, decide_false, true_and, and_true, reduceCtorEq, Nat.mul_one, Int.reduceToNat, Int.reduceLE, Int.reduceLT, Int.reduceAdd, Int.reduceSub, Int.reduceMul, Int.cast_ofNat_Int, cast_zero_int, cast_one_int, Nat.reducePow, Nat.reduceEqDiff, Nat.reduceMod, Nat.zero_add, Nat.sub_zero, Nat.add_zero, decb h1, decb h2, decb h3]
        refine vLoop.count mo l.length (fun i e h' => Regs e [(1, .slice a l.length 0), (3, .pointer (some ⟨h.length, 0, none⟩)), (7, .int .i64 i)] ∧ HeapIs h' (h ++ ⟨[.int .i64 N, w], 2, .rw⟩ :: (t ++ t2)) ∧ ∀ (j : Nat) (hj : j < l.length), j < i → l[j].1 ≤ N) ?_ ?_
        · exact ⟨⟨rfl, rfl, rfl, trivial⟩, .rfl, fun j _ hj => absurd hj (by omega)⟩
        · rintro i e _ hi ⟨⟨e1, e3, e7, _⟩, rfl, hno⟩
          simp only [go_sem, Nat.reduceBEq, Nat.reduceAdd, Nat.reduceMul, Nat.reduceSub, Nat.reduceLeDiff, Nat.le_refl, implies_true, Nat.reduceLT, reduceIte, decide_true, decide_false, true_and, and_true, reduceCtorEq, Nat.mul_one, Int.reduceToNat, Int.reduceLE, Int.reduceLT, Int.reduceAdd, Int.reduceSub, Int.reduceMul, Int.cast_ofNat_Int, cast_zero_int, cast_one_int, Nat.reducePow, Nat.reduceEqDiff, Nat.reduceMod, Nat.zero_add, Nat.sub_zero, Nat.add_zero, e1, e3, e7]
          by_cases hlt : i < l.length
          · have ws := wsucc hlt (by omega)
            have hz : (i : Int) < l.length := by omega
            have hlt' : i < (l.map hyd).length := by simpa using hlt
            obtain ⟨id, o, K, hv, hk, _, hd, hb, hrow, hat⟩ := sl.at hlt'
            obtain rfl : a = some ⟨id, o, none⟩ := by simpa using hv
            have g0 := hat 0 (by omega)
            rw [List.getElem_map] at g0
            simp only [hyd, List.getElem?_cons_zero, Nat.add_zero] at g0
            simp only [go_sem, Nat.reduceBEq, Nat.reduceAdd, Nat.reduceMul, Nat.reduceSub, Nat.reduceLeDiff, Nat.le_refl, implies_true, Nat.reduceLT, reduceIte, decide_true, decide_false, true_and, and_true, reduceCtorEq, Nat.mul_one, Int.reduceToNat, Int.reduceLE, Int.reduceLT, Int.reduceAdd, Int.reduceSub, Int.reduceMul, Int.cast_ofNat_Int, cast_zero_int, cast_one_int, Nat.reducePow, Nat.reduceEqDiff, Nat.reduceMod, Nat.zero_add, Nat.sub_zero, Nat.add_zero, e1, e3, e7, hz, hk, hd, g0]
            by_cases h4 : N < l[i].1
            · simp only [go_sem, Nat.reduceBEq, Nat.reduceAdd, Nat.reduceMul, Nat.reduceSub, Nat.reduceLeDiff, Nat.le_refl, implies_true, Nat.reduceLT, reduceIte, decide_true, decide_false, true_and, and_true, reduceCtorEq, Nat.mul_one, Int.reduceToNat, Int.reduceLE, Int.reduceLT, Int.reduceAdd, Int.reduceSub, Int.reduceMul, Int.cast_ofNat_Int, cast_zero_int, cast_one_int, Nat.reducePow, Nat.reduceEqDiff, Nat.reduceMod, Nat.zero_add, Nat.sub_zero, Nat.add_zero, e1, e3, e7, h4]
              exact congrArg Value.bool (decide_eq_false (fun hh : canR N P l rc => by have := hh.2.2.2 l[i] (List.getElem_mem hlt); omega)).symm
            · simp only [go_sem, Nat.reduceBEq, Nat.reduceAdd, Nat.reduceMul, Nat.reduceSub, Nat.reduceLeDiff, Nat.le_refl, implies_true, Nat.reduceLT, reduceIte, decide_true, decide_false, true_and, and_true, reduceCtorEq, Nat.mul_one, Int.reduceToNat, Int.reduceLE, Int.reduceLT, Int.reduceAdd, Int.reduceSub, Int.reduceMul, Int.cast_ofNat_Int, cast_zero_int, cast_one_int, Nat.reducePow, Nat.reduceEqDiff, Nat.reduceMod, Nat.zero_add, Nat.sub_zero, Nat.add_zero, e1, e3, e7, h4]
              refine ⟨hlt, ⟨e1, e3, congrArg _ ws, trivial⟩, .rfl, fun j hj hji => ?_⟩
              by_cases hji2 : j < i
              · exact hno j hj hji2
              · obtain rfl : j = i := by omega
                omega
          · obtain rfl : i = l.length := by omega
            simp only [go_sem, Nat.reduceBEq, Nat.reduceAdd, Nat.reduceMul, Nat.reduceSub, Nat.reduceLeDiff, Nat.le_refl, implies_true, Nat.reduceLT, reduceIte, decide_true, decide_false, true_and, and_true, reduceCtorEq, Nat.mul_one, Int.reduceToNat, Int.reduceLE, Int.reduceLT, Int.reduceAdd, Int.reduceSub, Int.reduceMul, Int.cast_ofNat_Int, cast_zero_int, cast_one_int, Nat.reducePow, Nat.reduceEqDiff, Nat.reduceMod, Nat.zero_add, Nat.sub_zero, Nat.add_zero, e1, e3, e7, show ¬ ((l.length : Int) < l.length) by omega]
            refine congrArg Value.bool (decide_eq_true (⟨h1, h2, h3, fun x hx => ?_⟩ : canR N P l rc)).symm
            obtain ⟨j, hj, rfl⟩ := List.mem_iff_getElem.1 hx
            exact hno j hj hj
      · simp only [go_sem, Nat.reduceBEq, Nat.reduceAdd, Nat.reduceMul, Nat.reduceSub, Nat.reduceLeDiff, Nat.le_refl, implies_true, Nat.reduceLT, reduceIte, decide_true, decide_false, true_and, and_true, reduceCtorEq, Nat.mul_one, Int.reduceToNat, Int.reduceLE, Int.reduceLT, Int.reduceAdd, Int.reduceSub, Int.reduceMul, Int.cast_ofNat_Int, cast_zero_int, cast_one_int, Nat.reducePow, Nat.reduceEqDiff, Nat.reduceMod, Nat.zero_add, Nat.sub_zero, Nat.add_zero, decb h1, decb h2, dect h3]
        exact congrArg Value.bool (decide_eq_false (fun hh : canR N P l rc => h3 hh.2.2.1)).symm
    · simp only [go_sem, Nat.reduceBEq, Nat.reduceAdd, Nat.reduceMul, Nat.reduceSub, Nat.reduceLeDiff, Nat.le_refl, implies_true, Nat.reduceLT, reduceIte, decide_true, decide_false, true_and, and_true, reduceCtorEq, Nat.mul_one, Int.reduceToNat, Int.reduceLE, Int.reduceLT, Int.reduceAdd, Int.reduceSub, Int.reduceMul, Int.cast_ofNat_Int, cast_zero_int, cast_one_int, Nat.reducePow, Nat.reduceEqDiff, Nat.reduceMod, Nat.zero_add, Nat.sub_zero, Nat.add_zero, decb h1, dect h2]
      exact congrArg Value.bool (decide_eq_false (fun hh : canR N P l rc => h2 hh.2.1)).symm
  · simp only [go_sem, Nat.reduceBEq, Nat.reduceAdd, Nat.reduceMul, Nat.reduceSub, Nat.reduceLeDiff, Nat.le_refl, implies_true, Nat.reduceLT, reduceIte, decide_true, decide_false, true_and, and_true, reduceCtorEq, Nat.mul_one, Int.reduceToNat, Int.reduceLE, Int.reduceLT, Int.reduceAdd, Int.reduceSub, Int.reduceMul, Int.cast_ofNat_Int, cast_zero_int, cast_one_int, Nat.reducePow, Nat.reduceEqDiff, Nat.reduceMod, Nat.zero_add, Nat.sub_zero, Nat.add_zero, dect h1]
    exact congrArg Value.bool (decide_eq_false (fun hh : canR N P l rc => h1 hh.1)).symm

theorem c_l2Node {n : Nat} (v : Value) (N : Int) (P : List Pip) (nd : Int) (hv : NA n h v N P) (hmP : P.length ≤ 1048576) :
    vCall [] Try.prog M 92 [v, .int .i64 nd] h (fun r h' => r = .bool (decide (netGood N P ∧ 1 ≤ nd ∧ nd ≤ N)) ∧ h <+: h') := by
  have hv0 := id hv
  obtain ⟨w, rfl, _⟩ := hv0
  refine body_of mo Try.func92 rfl (by kernel_rfl) (Nat.le_of_ble_eq_true (by kernel_rfl)) rfl ?_
  simp only [go_sem, Nat.reduceBEq, Nat.reduceAdd, Nat.reduceMul, Nat.reduceSub, Nat.reduceLeDiff, Nat.le_refl, implies_true, Nat.reduceLT, reduceIte, decide_true, decide_false, true_and, and_true, reduceCtorEq, Nat.mul_one, Int.reduceToNat, Int.reduceLE, Int.reduceLT, Int.reduceAdd, Int.reduceSub, Int.reduceMul, Int.cast_ofNat_Int, cast_zero_int, cast_one_int, Nat.reducePow, Nat.reduceEqDiff, Nat.reduceMod, Nat.zero_add, Nat.sub_zero, Nat.add_zero]
  refine ⟨by kernel_rfl, (c_l2Good _ N P (hv.mono (by simp)) hmP).use (fun _ m => m) ?_⟩
  rintro _ _ ⟨rfl, ⟨t, rfl⟩⟩
  simp only [go_sem, Nat.reduceBEq, Nat.reduceAdd, Nat.reduceMul, Nat.reduceSub, Nat.reduceLeDiff, Nat.le_refl, implies_true, Nat.reduceLT, reduceIte, decide_true, decide_false, true_and, and_true, reduceCtorEq, Nat.mul_one, Int.reduceToNat, Int.reduceLE, Int.reduceLT, Int.reduceAdd, Int.reduceSub, Int.reduceMul, Int.cast_ofNat_Int, cast_zero_int, cast_one_int, Nat.reducePow, Nat.reduceEqDiff, Nat.reduceMod, Nat.zero_add, Nat.sub_zero, Nat.add_zero]
  by_cases h1 : netGood N P
  · simp only [go_sem, Nat.reduceBEq, Nat.reduceAdd, Nat.reduceMul, Nat.reduceSub, Nat.reduceLeDiff, Nat.le_refl, implies_true, Nat.reduceLT, reduceIte, decide_true, decide_false, true_and, and_true, reduceCtorEq, Nat.mul_one, Int.reduceToNat, Int.reduceLE, Int.reduceLT, Int.reduceAdd, Int.reduceSub, Int.reduceMul, Int.cast_ofNat_Int, cast_zero_int, cast_one_int, Nat.reducePow, Nat.reduceEqDiff, Nat.reduceMod, Nat.zero_add, Nat.sub_zero, Nat.add_zero, decb h1]
    refine ⟨by kernel_rfl, (c_l1In _ _ _).use (fun _ m => m) ?_⟩
    rintro _ _ ⟨rfl, rfl⟩
    simp only [go_sem, Nat.reduceBEq, Nat.reduceAdd, Nat.reduceMul, Nat.reduceSub, Nat.reduceLeDiff, Nat.le_refl, implies_true, Nat.reduceLT, reduceIte, decide_true, decide_false, true_and, and_true, reduceCtorEq, Nat.mul_one, Int.reduceToNat, Int.reduceLE, Int.reduceLT, Int.reduceAdd, Int.reduceSub, Int.reduceMul, Int.cast_ofNat_Int, cast_zero_int, cast_one_int, Nat.reducePow, Nat.reduceEqDiff, Nat.reduceMod, Nat.zero_add, Nat.sub_zero, Nat.add_zero, decb h1]
    simp [h1]
  · simp only [go_sem, Nat.reduceBEq, Nat.reduceAdd, Nat.reduceMul, Nat.reduceSub, Nat.reduceLeDiff, Nat.le_refl, implies_true, Nat.reduceLT, reduceIte, decide_true, decide_false, true_and, and_true, reduceCtorEq, Nat.mul_one, Int.reduceToNat, Int.reduceLE, Int.reduceLT, Int.reduceAdd, Int.reduceSub, Int.reduceMul, Int.cast_ofNat_Int, cast_zero_int, cast_one_int, Nat.reducePow, Nat.reduceEqDiff, Nat.reduceMod, Nat.zero_add, Nat.sub_zero, Nat.add_zero, dect h1]
    simp [h1]
end
end Go.Proofs.Ytjgekhahklidcaa
