
/- Which hydrants reach a node, and their flow. No condition. -/
import Derived.Test.YtjgekhahklidcaaPut
namespace Go.Proofs.Ytjgekhahklidcaa
open Go.HH
set_option linter.unusedSimpArgs false
set_option linter.unusedVariables false

def hyd0 : Hyd := (0, 0)
theorem getDh {l : List Hyd} {i : Nat} (hi : i < l.length) : l.getD i hyd0 = l[i] := by simp [List.getD, hi]
/-- The indices of the hydrants that reach a node, of the first 'i'. -/
def reachL (P : List Pip) (l : List Hyd) (nd : Int) (rc : Nat) (i : Nat) : List Int := ((List.range i).filter fun j => ball P nd rc (l.getD j hyd0).1).map fun j : Nat => (j : Int)
theorem reachL_yes {P : List Pip} {l : List Hyd} {nd : Int} {rc i : Nat} (h : ball P nd rc (l.getD i hyd0).1 = true) : reachL P l nd rc (i + 1) = reachL P l nd rc i ++ [(i : Int)] := by
  simp only [reachL, List.range_succ, List.filter_append, List.map_append, List.filter_cons, List.filter_nil]
  rw [if_pos h]; rfl
theorem reachL_no {P : List Pip} {l : List Hyd} {nd : Int} {rc i : Nat} (h : ¬ ball P nd rc (l.getD i hyd0).1 = true) : reachL P l nd rc (i + 1) = reachL P l nd rc i := by
  simp only [reachL, List.range_succ, List.filter_append, List.map_append, List.filter_cons, List.filter_nil]
  rw [if_neg h]; simp
theorem reachL_len {P : List Pip} {l : List Hyd} {nd : Int} {rc i : Nat} : (reachL P l nd rc i).length ≤ i := by
  unfold reachL
  rw [List.length_map]
  exact Nat.le_trans (List.length_filter_le _ _) (by simp)
theorem reachL_mem {P : List Pip} {l : List Hyd} {nd x : Int} {rc i : Nat} : x ∈ reachL P l nd rc i ↔ ∃ j : Nat, j < i ∧ x = j ∧ ball P nd rc (l.getD j hyd0).1 = true := by
  simp only [reachL, List.mem_map, List.mem_filter, List.mem_range]
  constructor
  · rintro ⟨j, ⟨h1, h2⟩, rfl⟩; exact ⟨j, h1, rfl, h2⟩
  · rintro ⟨j, h1, rfl, h2⟩; exact ⟨j, ⟨h1, h2⟩, rfl⟩
def reachA (P : List Pip) (l : List Hyd) (nd : Int) (rc : Nat) : List Int := reachL P l nd rc l.length
/-- The sum of the flows of some hydrants. -/
def sumF (l : List Hyd) (R : List Int) : Int := (R.map fun j => (l.getD j.toNat hyd0).2).sum
theorem sumF_snoc {l : List Hyd} {R : List Int} {x : Int} : sumF l (R ++ [x]) = sumF l R + (l.getD x.toNat hyd0).2 := by simp [sumF]
theorem sumF_take {l : List Hyd} {R : List Int} {i : Nat} (hi : i < R.length) : sumF l (R.take (i + 1)) = sumF l (R.take i) + (l.getD R[i].toNat hyd0).2 := by
  rw [List.take_add_one, List.getElem?_eq_getElem hi]; exact sumF_snoc
/-- The hydrants may be counted: their nodes are the network's, and so are the flows. -/
def hydIn (N : Int) (l : List Hyd) : Prop := (∀ x ∈ l, (1 ≤ x.1 ∧ x.1 ≤ N) ∧ 1 ≤ x.2 ∧ x.2 ≤ 5000) ∧ l.length ≤ 12
theorem hydIn.at {N : Int} {l : List Hyd} (g : hydIn N l) {i : Nat} (hi : i < l.length) : (1 ≤ l[i].1 ∧ l[i].1 ≤ N) ∧ 1 ≤ l[i].2 ∧ l[i].2 ≤ 5000 := g.1 _ (List.getElem_mem hi)
theorem sumF_bound {N : Int} {l : List Hyd} (g : hydIn N l) : ∀ {R : List Int}, (∀ x ∈ R, 0 ≤ x ∧ x < l.length) → (R.length : Int) ≤ sumF l R ∧ sumF l R ≤ 5000 * R.length
  | [], _ => by simp [sumF]
  | x :: R, h => by
    have h1 := sumF_bound g (R := R) (fun y hy => h y (by simp [hy]))
    have h2 := h x (by simp)
    have h3 : x.toNat < l.length := by omega
    have h4 := (g.at h3).2
    have e : sumF l (x :: R) = (l.getD x.toNat hyd0).2 + sumF l R := by simp [sumF]
    rw [e, getDh h3, List.length_cons]
    omega

section
variable {h : Heap} {M : Nat → Prop}

theorem c_hydrantsFor {n : Nat} (v vl : Value) (N : Nat) (P : List Pip) (l : List Hyd) (nd : Int) (rc : Nat) (hv : NA n h v N P) (sl : Sl h 2 vl (l.map hyd)) (g : netGood N P) (gl : hydIn N l) (hnd : 1 ≤ nd ∧ nd ≤ N) :
    vCall [] Try.prog M 90 [v, vl, .int .i64 nd, .int .i64 rc] h (fun r h' => FI h.length h'.length h' r (reachA P l nd rc) ∧ h <+: h') := by
  obtain ⟨a, rfl⟩ := Sl.len2 sl
  have hv0 := id hv
  obtain ⟨w, rfl, _⟩ := hv0
  have hN : N ≤ 8 := by have := g.2.1; omega
  have hl12 := gl.2
  refine body_of mo Try.func90 rfl (by kernel_rfl) (Nat.le_of_ble_eq_true (by kernel_rfl)) rfl ?_
  simp only [go_sem, Nat.reduceBEq, Nat.reduceAdd, Nat.reduceMul, Nat.reduceSub, Nat.reduceLeDiff, Nat.le_refl, implies_true, Nat.reduceLT, reduceIte, decide_true, decide_false, true_and, and_true, reduceCtorEq, Nat.mul_one, Int.reduceToNat, Int.reduceLE, Int.reduceLT, Int.reduceAdd, Int.reduceSub, Int.reduceMul, Int.cast_ofNat_Int, cast_zero_int, cast_one_int, Nat.reducePow, Nat.reduceEqDiff, Nat.reduceMod, Nat.zero_add, Nat.sub_zero, Nat.add_zero]
  refine ⟨by kernel_rfl, (c_distances _ N P nd 0 (hv.mono (by simp)) g hnd).use (fun _ m => m) ?_⟩
  rintro v9 h1 ⟨⟨D, sD, b⟩, hp⟩
  rw [but_none (fun p hp => by obtain ⟨i, hi, rfl⟩ := List.mem_iff_getElem.1 hp; have := (g.1 i hi).1; rw [getDp hi] at this; have := this.1; omega)] at b
  replace sl := sl.mono ((List.prefix_append _ _).trans hp)
  have hle : h.length ≤ h1.length := by have := hp.length_le; simp at this; omega
  obtain ⟨idD, offD, kD, rfl, _, hkD, _, hdD, heD, hbD, hrD, hatD⟩ := sD.ai.at (by rw [b.len]; omega)
  have hDl := b.len
  refine vLoop.count mo l.length (fun i e h' => ∃ (t : Heap) (v10 : Value), Regs e [(3, .int .i64 rc), (9, .slice (some ⟨idD, offD, none⟩) D.length 0), (10, v10), (17, .slice a l.length 0), (18, .int .i64 l.length), (19, .int .i64 i)] ∧
    HeapIs h' (h1 ++ t) ∧ OF h1.length 0 t v10 (reachL P l nd rc i)) ?_ ?_
  · exact ⟨_, _, ⟨rfl, rfl, rfl, rfl, rfl, rfl, trivial⟩, .rfl, .mk' 0 rfl rfl rfl⟩
  · rintro i e _ hi ⟨t, v10, ⟨e3, e9, e10, e17, e18, e19, _⟩, rfl, oi⟩
    obtain ⟨j, rfl, hj⟩ := id oi
    simp only [go_sem, Nat.reduceBEq, Nat.reduceAdd, Nat.reduceMul, Nat.reduceSub, Nat.reduceLeDiff, Nat.le_refl, implies_true, Nat.reduceLT, reduceIte, decide_true, decide_false, true_and, and_true, reduceCtorEq, Nat.mul_one, Int.reduceToNat, Int.reduceLE, Int.reduceLT, Int.reduceAdd, Int.reduceSub, Int.reduceMul, Int.cast_ofNat_Int, cast_zero_int, cast_one_int, Nat.reducePow, Nat.reduceEqDiff, Nat.reduceMod, Nat.zero_add, Nat.sub_zero, Nat.add_zero, e3, e9, e10, e17, e18, e19, own_base hle]
    by_cases hlt : i < l.length
    · have ws := wsucc hlt (by omega)
      have hz : (i : Int) < l.length := by omega
      have hlt' : i < (l.map hyd).length := by simpa using hlt
      obtain ⟨id, o, K, hv, hk, _, hd, hb, hrow, hat⟩ := sl.at hlt'
      obtain rfl : a = some ⟨id, o, none⟩ := by simpa using hv
      rw [List.getElem_map] at hrow
      simp only [hyd] at hrow
      have g1 := (gl.at hlt).1
      have g2 := hatD l[i].1.toNat (by omega)
      have g3 := b.fin g.ends hnd g1.1 g1.2 rc
      have g4 : dv D l[i].1 = D[l[i].1.toNat]'(by omega) := by
        have : l[i].1.toNat < D.length := by omega
        simp [dv, List.getD, this]
      rw [g4] at g3
      have gd := getDh hlt
      have hrl := reachL_len (P := P) (l := l) (nd := nd) (rc := rc) (i := i)
      simp only [go_sem, Nat.reduceBEq, Nat.reduceAdd, Nat.reduceMul, Nat.reduceSub, Nat.reduceLeDiff, Nat.le_refl, implies_true, Nat.reduceLT, reduceIte, decide_true, decide_false, true_and, and_true, reduceCtorEq, Nat.mul_one, Int.reduceToNat, Int.reduceLE, Int.reduceLT, Int.reduceAdd, Int.reduceSub, Int.reduceMul, Int.cast_ofNat_Int, cast_zero_int, cast_one_int, Nat.reducePow, Nat.reduceEqDiff, Nat.reduceMod, Nat.zero_add, Nat.sub_zero, Nat.add_zero, e3, e9, e10, e17, e18, e19, own_base hle, hz, hk, hd, hb, hrow, show l[i].1 < (D.length : Int) by omega, show 0 ≤ l[i].1 by omega, hkD, hdD, g2]
      refine ⟨by kernel_rfl, (c_inside _ _ _).use (fun _ m => m) ?_⟩
      rintro _ _ ⟨rfl, rfl⟩
      by_cases c : 0 ≤ D[l[i].1.toNat]'(by omega) ∧ D[l[i].1.toNat]'(by omega) ≤ rc
      · have hyes := reachL_yes (P := P) (l := l) (nd := nd) (rc := rc) (i := i) (by rw [gd]; exact g3.1 c)
        simp only [go_sem, Nat.reduceBEq, Nat.reduceAdd, Nat.reduceMul, Nat.reduceSub, Nat.reduceLeDiff, Nat.le_refl, implies_true, Nat.reduceLT, reduceIte, decide_true, decide_false, true_and, and_true, reduceCtorEq, Nat.mul_one, Int.reduceToNat, Int.reduceLE, Int.reduceLT, Int.reduceAdd, Int.reduceSub, Int.reduceMul, Int.cast_ofNat_Int, cast_zero_int, cast_one_int, Nat.reducePow, Nat.reduceEqDiff, Nat.reduceMod, Nat.zero_add, Nat.sub_zero, Nat.add_zero, e3, e9, e10, e17, e18, e19, own_base hle, decb c, own_base hle, app_old hj, List.length_map]
        refine ⟨by omega, by omega, hlt, _, _, ⟨e3, e9, rfl, e17, e18, congrArg _ ws, trivial⟩, .rfl, (.mk' (t.length + 2) ?_ (by rw [hyes]; simp) ?_)⟩
        · simp
        · exact (new_at (by simp)).trans (by simp [iv, hyes])
      · have hno := reachL_no (P := P) (l := l) (nd := nd) (rc := rc) (i := i) (by rw [gd]; exact fun hh => c (g3.2 hh))
        simp only [go_sem, Nat.reduceBEq, Nat.reduceAdd, Nat.reduceMul, Nat.reduceSub, Nat.reduceLeDiff, Nat.le_refl, implies_true, Nat.reduceLT, reduceIte, decide_true, decide_false, true_and, and_true, reduceCtorEq, Nat.mul_one, Int.reduceToNat, Int.reduceLE, Int.reduceLT, Int.reduceAdd, Int.reduceSub, Int.reduceMul, Int.cast_ofNat_Int, cast_zero_int, cast_one_int, Nat.reducePow, Nat.reduceEqDiff, Nat.reduceMod, Nat.zero_add, Nat.sub_zero, Nat.add_zero, e3, e9, e10, e17, e18, e19, own_base hle, dect c]
        exact ⟨hlt, _, _, ⟨e3, e9, e10, e17, e18, congrArg _ ws, trivial⟩, .rfl, by rw [hno]; exact oi.mono _⟩
    · obtain rfl : i = l.length := by omega
      simp only [go_sem, Nat.reduceBEq, Nat.reduceAdd, Nat.reduceMul, Nat.reduceSub, Nat.reduceLeDiff, Nat.le_refl, implies_true, Nat.reduceLT, reduceIte, decide_true, decide_false, true_and, and_true, reduceCtorEq, Nat.mul_one, Int.reduceToNat, Int.reduceLE, Int.reduceLT, Int.reduceAdd, Int.reduceSub, Int.reduceMul, Int.cast_ofNat_Int, cast_zero_int, cast_one_int, Nat.reducePow, Nat.reduceEqDiff, Nat.reduceMod, Nat.zero_add, Nat.sub_zero, Nat.add_zero, e3, e9, e10, e17, e18, e19, own_base hle, show ¬ ((l.length : Int) < l.length) by omega]
      have f1 := OF.fi0 oi hle
      have f2 := (List.prefix_append _ _).trans (hp.trans (List.prefix_append _ t))
      exact ⟨by simpa [reachA] using f1, f2⟩

theorem c_l24Reaching {n : Nat} (v vl : Value) (N : Nat) (P : List Pip) (l : List Hyd) (nd : Int) (rc : Nat) (hv : NA n h v N P) (sl : Sl h 2 vl (l.map hyd)) (g : netGood N P) (gl : hydIn N l) (hnd : 1 ≤ nd ∧ nd ≤ N) :
    vCall [] Try.prog M 93 [v, vl, .int .i64 nd, .int .i64 rc] h (fun r h' => FI h.length h'.length h' r (reachA P l nd rc) ∧ h <+: h') := by
  obtain ⟨a, rfl⟩ := Sl.len2 sl
  have hv0 := id hv
  obtain ⟨w, rfl, _⟩ := hv0
  have hN : N ≤ 8 := by have := g.2.1; omega
  have hl12 := gl.2
  refine body_of mo Try.func93 rfl (by kernel_rfl) (Nat.le_of_ble_eq_true (by kernel_rfl)) rfl ?_
  simp only [go_sem, Nat.reduceBEq, Nat.reduceAdd, Nat.reduceMul, Nat.reduceSub, Nat.reduceLeDiff, Nat.le_refl, implies_true, Nat.reduceLT, reduceIte, decide_true, decide_false, true_and, and_true, reduceCtorEq, Nat.mul_one, Int.reduceToNat, Int.reduceLE, Int.reduceLT, Int.reduceAdd, Int.reduceSub, Int.reduceMul, Int.cast_ofNat_Int, cast_zero_int, cast_one_int, Nat.reducePow, Nat.reduceEqDiff, Nat.reduceMod, Nat.zero_add, Nat.sub_zero, Nat.add_zero]
  refine vLoop.count mo l.length (fun i e h' => ∃ (t : Heap) (v9 : Value), Regs e [(1, .slice a l.length 0), (2, .int .i64 nd), (3, .int .i64 rc), (4, .pointer (some ⟨h.length, 0, none⟩)), (9, v9), (10, .int .i64 i)] ∧
    HeapIs h' (h ++ ⟨[.int .i64 N, w], 2, .rw⟩ :: t) ∧ OF h.length 1 t v9 (reachL P l nd rc i)) ?_ ?_
  · exact ⟨_, _, ⟨rfl, rfl, rfl, rfl, rfl, rfl, trivial⟩, .rfl, .mk' 0 rfl rfl rfl⟩
  · rintro i e _ hi ⟨t, v9, ⟨e1, e2, e3, e4, e9, e10, _⟩, rfl, oi⟩
    obtain ⟨j, rfl, hj⟩ := id oi
    simp only [go_sem, Nat.reduceBEq, Nat.reduceAdd, Nat.reduceMul, Nat.reduceSub, Nat.reduceLeDiff, Nat.le_refl, implies_true, Nat.reduceLT, reduceIte, decide_true, decide_false, true_and, and_true, reduceCtorEq, Nat.mul_one, Int.reduceToNat, Int.reduceLE, Int.reduceLT, Int.reduceAdd, Int.reduceSub, Int.reduceMul, Int.cast_ofNat_Int, cast_zero_int, cast_one_int, Nat.reducePow, Nat.reduceEqDiff, Nat.reduceMod, Nat.zero_add, Nat.sub_zero, Nat.add_zero, e1, e2, e3, e4, e9, e10]
    by_cases hlt : i < l.length
    · have ws := wsucc hlt (by omega)
      have hz : (i : Int) < l.length := by omega
      have hlt' : i < (l.map hyd).length := by simpa using hlt
      obtain ⟨id, o, K, hv, hk, _, hd, hb, hrow, hat⟩ := sl.at hlt'
      obtain rfl : a = some ⟨id, o, none⟩ := by simpa using hv
      have g0 := hat 0 (by omega)
      rw [List.getElem_map] at g0
      simp only [hyd, List.getElem?_cons_zero, Nat.add_zero] at g0
      have g1 := (gl.at hlt).1
      have gd := getDh hlt
      have hrl := reachL_len (P := P) (l := l) (nd := nd) (rc := rc) (i := i)
      simp only [go_sem, Nat.reduceBEq, Nat.reduceAdd, Nat.reduceMul, Nat.reduceSub, Nat.reduceLeDiff, Nat.le_refl, implies_true, Nat.reduceLT, reduceIte, decide_true, decide_false, true_and, and_true, reduceCtorEq, Nat.mul_one, Int.reduceToNat, Int.reduceLE, Int.reduceLT, Int.reduceAdd, Int.reduceSub, Int.reduceMul, Int.cast_ofNat_Int, cast_zero_int, cast_one_int, Nat.reducePow, Nat.reduceEqDiff, Nat.reduceMod, Nat.zero_add, Nat.sub_zero, Nat.add_zero, e1, e2, e3, e4, e9, e10, hz, hk, hd, g0]
      refine ⟨by kernel_rfl, (c_l22Steps _ N P l[i].1 nd (NA.mono (by assumption) (by simp)) g g1).use (fun _ m => m) ?_⟩
      rintro _ _ ⟨⟨d, rfl, hdm⟩, ⟨t2, rfl⟩⟩
      simp only [go_sem, Nat.reduceBEq, Nat.reduceAdd, Nat.reduceMul, Nat.reduceSub, Nat.reduceLeDiff, Nat.le_refl, implies_true, Nat.reduceLT, reduceIte, decide_true, decide_false, true_and, and_true, reduceCtorEq, Nat.mul_one, Int.reduceToNat, Int.reduceLE, Int.reduceLT, Int.reduceAdd, Int.reduceSub, Int.reduceMul, Int.cast_ofNat_Int, cast_zero_int, cast_one_int, Nat.reducePow, Nat.reduceEqDiff, Nat.reduceMod, Nat.zero_add, Nat.sub_zero, Nat.add_zero, e1, e2, e3, e4, e9, e10]
      refine ⟨by kernel_rfl, (c_l1In _ _ _).use (fun _ m => m) ?_⟩
      rintro _ _ ⟨rfl, rfl⟩
      have g3 : (0 ≤ d ∧ d ≤ rc) ↔ ball P nd rc l[i].1 = true := (hdm rc).trans ⟨ball_symm, ball_symm⟩
      by_cases c : 0 ≤ d ∧ d ≤ rc
      · have hyes := reachL_yes (P := P) (l := l) (nd := nd) (rc := rc) (i := i) (by rw [gd]; exact g3.1 c)
        simp only [go_sem, Nat.reduceBEq, Nat.reduceAdd, Nat.reduceMul, Nat.reduceSub, Nat.reduceLeDiff, Nat.le_refl, implies_true, Nat.reduceLT, reduceIte, decide_true, decide_false, true_and, and_true, reduceCtorEq, Nat.mul_one, Int.reduceToNat, Int.reduceLE, Int.reduceLT, Int.reduceAdd, Int.reduceSub, Int.reduceMul, Int.cast_ofNat_Int, cast_zero_int, cast_one_int, Nat.reducePow, Nat.reduceEqDiff, Nat.reduceMod, Nat.zero_add, Nat.sub_zero, Nat.add_zero, e1, e2, e3, e4, e9, e10, decb c, app_old hj, List.length_map]
        refine ⟨by omega, by omega, hlt, _, _, ⟨e1, e2, e3, e4, rfl, congrArg _ ws, trivial⟩, .rfl, (.mk' (t.length + t2.length + 1) ?_ (by rw [hyes]; simp) ?_)⟩
        · simp; try omega
        · exact (new_at (by simp; try omega)).trans (by simp [iv, hyes])
      · have hno := reachL_no (P := P) (l := l) (nd := nd) (rc := rc) (i := i) (by rw [gd]; exact fun hh => c (g3.2 hh))
        simp only [go_sem, Nat.reduceBEq, Nat.reduceAdd, Nat.reduceMul, Nat.reduceSub, Nat.reduceLeDiff, Nat.le_refl, implies_true, Nat.reduceLT, reduceIte, decide_true, decide_false, true_and, and_true, reduceCtorEq, Nat.mul_one, Int.reduceToNat, Int.reduceLE, Int.reduceLT, Int.reduceAdd, Int.reduceSub, Int.reduceMul, Int.cast_ofNat_Int, cast_zero_int, cast_one_int, Nat.reducePow, Nat.reduceEqDiff, Nat.reduceMod, Nat.zero_add, Nat.sub_zero, Nat.add_zero, e1, e2, e3, e4, e9, e10, dect c]
        exact ⟨hlt, _, _, ⟨e1, e2, e3, e4, e9, congrArg _ ws, trivial⟩, .rfl, by rw [hno]; exact oi.mono _⟩
    · obtain rfl : i = l.length := by omega
      simp only [go_sem, Nat.reduceBEq, Nat.reduceAdd, Nat.reduceMul, Nat.reduceSub, Nat.reduceLeDiff, Nat.le_refl, implies_true, Nat.reduceLT, reduceIte, decide_true, decide_false, true_and, and_true, reduceCtorEq, Nat.mul_one, Int.reduceToNat, Int.reduceLE, Int.reduceLT, Int.reduceAdd, Int.reduceSub, Int.reduceMul, Int.cast_ofNat_Int, cast_zero_int, cast_one_int, Nat.reducePow, Nat.reduceEqDiff, Nat.reduceMod, Nat.zero_add, Nat.sub_zero, Nat.add_zero, e1, e2, e3, e4, e9, e10, show ¬ ((l.length : Int) < l.length) by omega]
      exact OF.fix [_] oi rfl (by omega) (by omega)

/-- What is counted is among the hydrants. -/
theorem reach_in {P : List Pip} {l : List Hyd} {nd : Int} {rc : Nat} : ∀ x ∈ reachA P l nd rc, 0 ≤ x ∧ x < l.length := by
  intro x hx
  obtain ⟨j, hj, rfl, _⟩ := reachL_mem.1 hx
  omega

theorem c_l24Sum {n : Nat} {N : Int} (vl vs : Value) (l : List Hyd) (R : List Int) (sl : Sl h 2 vl (l.map hyd)) (sR : AI n h vs R) (gl : hydIn N l) (hR : ∀ x ∈ R, 0 ≤ x ∧ x < l.length) (hm : R.length ≤ 1000) :
    vCall [] Try.prog M 95 [vl, vs] h (fun r h' => r = .int .i64 (sumF l R) ∧ h = h') := by
  obtain ⟨a, rfl⟩ := Sl.len2 sl
  obtain ⟨b, rfl⟩ := sR.len
  have hl12 := gl.2
  refine body_of mo Try.func95 rfl (by kernel_rfl) (Nat.le_of_ble_eq_true (by kernel_rfl)) rfl ?_
  simp only [go_sem, Nat.reduceBEq, Nat.reduceAdd, Nat.reduceMul, Nat.reduceSub, Nat.reduceLeDiff, Nat.le_refl, implies_true, Nat.reduceLT, reduceIte, decide_true, decide_false, true_and, and_true, reduceCtorEq, Nat.mul_one, Int.reduceToNat, Int.reduceLE, Int.reduceLT, Int.reduceAdd, Int.reduceSub, Int.reduceMul, Int.cast_ofNat_Int, cast_zero_int, cast_one_int, Nat.reducePow, Nat.reduceEqDiff, Nat.reduceMod, Nat.zero_add, Nat.sub_zero, Nat.add_zero]
  refine vLoop.count mo R.length (fun i e h' => Regs e [(0, .slice a l.length 0), (1, .slice b R.length 0), (5, .int .i64 (sumF l (R.take i))), (6, .int .i64 i)] ∧ HeapIs h' h) ?_ ?_
  · exact ⟨⟨rfl, rfl, rfl, rfl, trivial⟩, .rfl⟩
  · rintro i e H hi ⟨⟨e0, e1, e5, e6, _⟩, rfl⟩
    simp only [go_sem, Nat.reduceBEq, Nat.reduceAdd, Nat.reduceMul, Nat.reduceSub, Nat.reduceLeDiff, Nat.le_refl, implies_true, Nat.reduceLT, reduceIte, decide_true, decide_false, true_and, and_true, reduceCtorEq, Nat.mul_one, Int.reduceToNat, Int.reduceLE, Int.reduceLT, Int.reduceAdd, Int.reduceSub, Int.reduceMul, Int.cast_ofNat_Int, cast_zero_int, cast_one_int, Nat.reducePow, Nat.reduceEqDiff, Nat.reduceMod, Nat.zero_add, Nat.sub_zero, Nat.add_zero, e0, e1, e5, e6]
    by_cases hlt : i < R.length
    · have ws := wsucc hlt (by omega)
      have hz : (i : Int) < R.length := by omega
      obtain ⟨id2, o2, K2, hv2, _, _, hk2, hd2, _, _, _, hat2⟩ := sR.at (Nat.zero_lt_of_lt hlt)
      obtain rfl : b = some ⟨id2, o2, none⟩ := by simpa using hv2
      have hx := hR R[i] (List.getElem_mem hlt)
      have hlt' : R[i].toNat < (l.map hyd).length := by simp; omega
      obtain ⟨id, o, K, hv, _, hk, hd, hb, hrow, hat⟩ := sl.at hlt'
      obtain rfl : a = some ⟨id, o, none⟩ := by simpa using hv
      have g1 := hat 1 (by omega)
      rw [List.getElem_map] at g1
      simp only [hyd, List.getElem?_cons_zero, List.getElem?_cons_succ] at g1
      have hb1 := sumF_bound gl (R := R.take i) (fun x hx => hR x (List.mem_of_mem_take hx))
      have hb2 := (gl.at (i := R[i].toNat) (by omega)).2
      rw [List.length_take, Nat.min_eq_left (by omega)] at hb1
      have hs := sumF_take (l := l) hlt
      rw [getDh (by omega)] at hs
      have w1 : IntKind.i64.wrap (sumF l (R.take i) + l[R[i].toNat].2) = sumF l (R.take (i + 1)) := by rw [hs, wrap64 (by omega)]
      simp only [go_sem, Nat.reduceBEq, Nat.reduceAdd, Nat.reduceMul, Nat.reduceSub, Nat.reduceLeDiff, Nat.le_refl, implies_true, Nat.reduceLT, reduceIte, decide_true, decide_false, true_and, and_true, reduceCtorEq, Nat.mul_one, Int.reduceToNat, Int.reduceLE, Int.reduceLT, Int.reduceAdd, Int.reduceSub, Int.reduceMul, Int.cast_ofNat_Int, cast_zero_int, cast_one_int, Nat.reducePow, Nat.reduceEqDiff, Nat.reduceMod, Nat.zero_add, Nat.sub_zero, Nat.add_zero, e0, e1, e5, e6, hz, hk, hd, hk2, hd2, hat2 i hlt, show R[i] < (l.length : Int) by omega, show 0 ≤ R[i] by omega, g1]
      exact ⟨hlt, ⟨e0, e1, congrArg _ w1, congrArg _ ws, trivial⟩, .rfl⟩
    · obtain rfl : i = R.length := by omega
      simp only [go_sem, Nat.reduceBEq, Nat.reduceAdd, Nat.reduceMul, Nat.reduceSub, Nat.reduceLeDiff, Nat.le_refl, implies_true, Nat.reduceLT, reduceIte, decide_true, decide_false, true_and, and_true, reduceCtorEq, Nat.mul_one, Int.reduceToNat, Int.reduceLE, Int.reduceLT, Int.reduceAdd, Int.reduceSub, Int.reduceMul, Int.cast_ofNat_Int, cast_zero_int, cast_one_int, Nat.reducePow, Nat.reduceEqDiff, Nat.reduceMod, Nat.zero_add, Nat.sub_zero, Nat.add_zero, e0, e1, e5, e6, show ¬ ((R.length : Int) < R.length) by omega, List.take_length]

theorem c_flowFor {n : Nat} (v vl : Value) (N : Nat) (P : List Pip) (l : List Hyd) (nd : Int) (rc : Nat) (hv : NA n h v N P) (sl : Sl h 2 vl (l.map hyd)) (g : netGood N P) (gl : hydIn N l) (hnd : 1 ≤ nd ∧ nd ≤ N) :
    vCall [] Try.prog M 94 [v, vl, .int .i64 nd, .int .i64 rc] h (fun r h' => r = .int .i64 (sumF l (reachA P l nd rc)) ∧ h <+: h') := by
  obtain ⟨a, rfl⟩ := Sl.len2 sl
  have hv0 := id hv
  obtain ⟨w, rfl, _⟩ := hv0
  have hl12 := gl.2
  refine body_of mo Try.func94 rfl (by kernel_rfl) (Nat.le_of_ble_eq_true (by kernel_rfl)) rfl ?_
  simp only [go_sem, Nat.reduceBEq, Nat.reduceAdd, Nat.reduceMul, Nat.reduceSub, Nat.reduceLeDiff, Nat.le_refl, implies_true, Nat.reduceLT, reduceIte, decide_true, decide_false, true_and, and_true, reduceCtorEq, Nat.mul_one, Int.reduceToNat, Int.reduceLE, Int.reduceLT, Int.reduceAdd, Int.reduceSub, Int.reduceMul, Int.cast_ofNat_Int, cast_zero_int, cast_one_int, Nat.reducePow, Nat.reduceEqDiff, Nat.reduceMod, Nat.zero_add, Nat.sub_zero, Nat.add_zero]
  refine ⟨by kernel_rfl, (c_hydrantsFor _ _ N P l nd rc (hv.mono (by simp)) (sl.mono (by simp)) g gl hnd).use (fun _ m => m) ?_⟩
  rintro v16 h1 ⟨sR, hp⟩
  replace sl := sl.mono ((List.prefix_append _ _).trans hp)
  have hR := reach_in (P := P) (l := l) (nd := nd) (rc := rc)
  have hRl : (reachA P l nd rc).length ≤ l.length := reachL_len
  generalize reachA P l nd rc = R at *
  replace sR := sR.ai
  obtain ⟨b, rfl⟩ := sR.len
  simp only [go_sem, Nat.reduceBEq, Nat.reduceAdd, Nat.reduceMul, Nat.reduceSub, Nat.reduceLeDiff, Nat.le_refl, implies_true, Nat.reduceLT, reduceIte, decide_true, decide_false, true_and, and_true, reduceCtorEq, Nat.mul_one, Int.reduceToNat, Int.reduceLE, Int.reduceLT, Int.reduceAdd, Int.reduceSub, Int.reduceMul, Int.cast_ofNat_Int, cast_zero_int, cast_one_int, Nat.reducePow, Nat.reduceEqDiff, Nat.reduceMod, Nat.zero_add, Nat.sub_zero, Nat.add_zero]
  refine vLoop.count mo R.length (fun i e h' => Regs e [(1, .slice a l.length 0), (9, .int .i64 (sumF l (R.take i))), (16, .slice b R.length 0), (17, .int .i64 R.length), (18, .int .i64 i)] ∧ HeapIs h' h1) ?_ ?_
  · exact ⟨⟨rfl, rfl, rfl, rfl, rfl, trivial⟩, .rfl⟩
  · rintro i e H hi ⟨⟨e1, e9, e16, e17, e18, _⟩, rfl⟩
    simp only [go_sem, Nat.reduceBEq, Nat.reduceAdd, Nat.reduceMul, Nat.reduceSub, Nat.reduceLeDiff, Nat.le_refl, implies_true, Nat.reduceLT, reduceIte, decide_true, decide_false, true_and, and_true, reduceCtorEq, Nat.mul_one, Int.reduceToNat, Int.reduceLE, Int.reduceLT, Int.reduceAdd, Int.reduceSub, Int.reduceMul, Int.cast_ofNat_Int, cast_zero_int, cast_one_int, Nat.reducePow, Nat.reduceEqDiff, Nat.reduceMod, Nat.zero_add, Nat.sub_zero, Nat.add_zero, e1, e9, e16, e17, e18]
    by_cases hlt : i < R.length
    · have ws := wsucc hlt (by omega)
      have hz : (i : Int) < R.length := by omega
      obtain ⟨id2, o2, K2, hv2, _, _, hk2, hd2, _, _, _, hat2⟩ := sR.at (Nat.zero_lt_of_lt hlt)
      obtain rfl : b = some ⟨id2, o2, none⟩ := by simpa using hv2
      have hx := hR R[i] (List.getElem_mem hlt)
      have hlt' : R[i].toNat < (l.map hyd).length := by simp; omega
      obtain ⟨id, o, K, hv, _, hk, hd, hb, hrow, hat⟩ := sl.at hlt'
      obtain rfl : a = some ⟨id, o, none⟩ := by simpa using hv
      have g1 := hat 1 (by omega)
      rw [List.getElem_map] at g1
      simp only [hyd, List.getElem?_cons_zero, List.getElem?_cons_succ] at g1
      have hb1 := sumF_bound gl (R := R.take i) (fun x hx => hR x (List.mem_of_mem_take hx))
      have hb2 := (gl.at (i := R[i].toNat) (by omega)).2
      rw [List.length_take, Nat.min_eq_left (by omega)] at hb1
      have hs := sumF_take (l := l) hlt
      rw [getDh (by omega)] at hs
      have w1 : IntKind.i64.wrap (sumF l (R.take i) + l[R[i].toNat].2) = sumF l (R.take (i + 1)) := by rw [hs, wrap64 (by omega)]
      simp only [go_sem, Nat.reduceBEq, Nat.reduceAdd, Nat.reduceMul, Nat.reduceSub, Nat.reduceLeDiff, Nat.le_refl, implies_true, Nat.reduceLT, reduceIte, decide_true, decide_false, true_and, and_true, reduceCtorEq, Nat.mul_one, Int.reduceToNat, Int.reduceLE, Int.reduceLT, Int.reduceAdd, Int.reduceSub, Int.reduceMul, Int.cast_ofNat_Int, cast_zero_int, cast_one_int, Nat.reducePow, Nat.reduceEqDiff, Nat.reduceMod, Nat.zero_add, Nat.sub_zero, Nat.add_zero, e1, e9, e16, e17, e18, hz, hk, hd, hk2, hd2, hat2 i hlt, show R[i] < (l.length : Int) by omega, show 0 ≤ R[i] by omega, g1]
      exact ⟨hlt, ⟨e1, congrArg _ w1, e16, e17, congrArg _ ws, trivial⟩, .rfl⟩
    · obtain rfl : i = R.length := by omega
      simp only [go_sem, Nat.reduceBEq, Nat.reduceAdd, Nat.reduceMul, Nat.reduceSub, Nat.reduceLeDiff, Nat.le_refl, implies_true, Nat.reduceLT, reduceIte, decide_true, decide_false, true_and, and_true, reduceCtorEq, Nat.mul_one, Int.reduceToNat, Int.reduceLE, Int.reduceLT, Int.reduceAdd, Int.reduceSub, Int.reduceMul, Int.cast_ofNat_Int, cast_zero_int, cast_one_int, Nat.reducePow, Nat.reduceEqDiff, Nat.reduceMod, Nat.zero_add, Nat.sub_zero, Nat.add_zero, e1, e9, e16, e17, e18, show ¬ ((R.length : Int) < R.length) by omega, List.take_length]
      exact (List.prefix_append _ _).trans hp

end
end Go.Proofs.Ytjgekhahklidcaa
