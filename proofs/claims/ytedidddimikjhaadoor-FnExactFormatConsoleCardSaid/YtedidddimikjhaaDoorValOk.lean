
/- Valid valves, told of both sides. No condition. -/
import Derived.Test.YtedidddimikjhaaDoorValves
import Derived.Test.YtedidddimikjhaaDoorNet
namespace Go.Proofs.YtedidddimikjhaaDoor
open Go.HH
set_option linter.unusedSimpArgs false
set_option linter.unusedVariables false

/-- The index of the first for which a predicate holds, or -1. -/
def idxI {α : Type} (p : α → Bool) (l : List α) : Int := if l.any p = true then (l.findIdx p : Int) else -1
theorem idxI_lt {α : Type} {p : α → Bool} {l : List α} : -1 ≤ idxI p l ∧ idxI p l < l.length ∨ l = [] ∧ idxI p l = -1 := by
  unfold idxI
  split
  · rename_i h
    have := List.findIdx_lt_length.2 (List.any_eq_true.1 h)
    exact .inl ⟨by omega, by omega⟩
  · cases l with
    | nil => exact .inr ⟨rfl, rfl⟩
    | cons x l => exact .inl ⟨by omega, by simp; omega⟩
theorem idxI_at {α : Type} {p : α → Bool} {l : List α} {k : Nat} (h : idxI p l = (k : Int)) : ∃ hk : k < l.length, p l[k] = true := by
  unfold idxI at h
  split at h
  · rename_i h1
    have hlt := List.findIdx_lt_length.2 (List.any_eq_true.1 h1)
    have e : l.findIdx p = k := by omega
    subst e
    exact ⟨hlt, List.findIdx_getElem⟩
  · omega
theorem idxI_is {α : Type} {p : α → Bool} {l : List α} {i : Nat} (hi : i < l.length) (hp : p l[i] = true) (hno : ∀ (j : Nat) (hj : j < l.length), j < i → p l[j] = false) : idxI p l = i := by
  have h1 : l.findIdx p = i := (List.findIdx_eq hi).2 ⟨hp, fun j hj => hno j (by omega) hj⟩
  rw [idxI, if_pos (List.any_eq_true.2 ⟨_, List.getElem_mem hi, hp⟩), h1]
theorem idxI_no {α : Type} {p : α → Bool} {l : List α} (hno : ∀ (j : Nat) (hj : j < l.length), p l[j] = false) : idxI p l = -1 := by
  rw [idxI, if_neg]
  rw [Bool.not_eq_true, List.any_eq_false]
  intro x hx
  obtain ⟨j, hj, rfl⟩ := List.mem_iff_getElem.1 hx
  rw [hno j hj]; simp
/-- The place of the pipe with an id. -/
def pidx (P : List Pip) (id : Int) : Int := idxI (fun p => decide (p.1 = id)) P
def vidx (V : List Vlv) (id : Int) : Int := idxI (fun v => decide (v.1 = id)) V
def vlv0 : Vlv := (0, 0, 0, false)
theorem getDv {l : List Vlv} {i : Nat} (hi : i < l.length) : l.getD i vlv0 = l[i] := by simp [List.getD, hi]
/-- The node is an end of the pipe with that id. -/
def isEnd (P : List Pip) (pid nd : Int) : Prop := 0 ≤ pidx P pid ∧ ((P.getD (pidx P pid).toNat pip0).2.1 = nd ∨ (P.getD (pidx P pid).toNat pip0).2.2.1 = nd)
def vlvAt (P : List Pip) (V : List Vlv) (i : Nat) : Prop := ((1 ≤ (V.getD i vlv0).1 ∧ (V.getD i vlv0).1 ≤ 99) ∧ (0 < i → (V.getD (i - 1) vlv0).1 < (V.getD i vlv0).1) ∧ isEnd P (V.getD i vlv0).2.1 (V.getD i vlv0).2.2.1) ∧
  ∀ m, m < i → ¬ ((V.getD m vlv0).2.1 = (V.getD i vlv0).2.1 ∧ (V.getD m vlv0).2.2.1 = (V.getD i vlv0).2.2.1)
def valOk (N : Int) (P : List Pip) (V : List Vlv) : Prop := netGood N P ∧ V.length ≤ 10 ∧ ∀ i, i < V.length → vlvAt P V i
open Classical in
noncomputable instance {N : Int} {P : List Pip} {V : List Vlv} : Decidable (valOk N P V) := propDecidable _
theorem val_bad {N : Int} {P : List Pip} {V : List Vlv} {i : Nat} (hi : i < V.length) (hb : ¬ vlvAt P V i) : Value.bool false = Value.bool (decide (valOk N P V)) :=
  congrArg Value.bool (decide_eq_false (fun hh : valOk N P V => hb (hh.2.2 i hi))).symm
def othE (p : Pip) (x : Int) : Int := if x = p.2.1 then p.2.2.1 else if x = p.2.2.1 then p.2.1 else 0
theorem othE_zero {N : Int} {P : List Pip} (g : netGood N P) {k : Nat} (hk : k < P.length) {nd : Int} : ((¬ nd < 1) ∧ ¬ othE P[k] nd = 0) ↔ (P[k].2.1 = nd ∨ P[k].2.2.1 = nd) := by
  have h1 := (g.1 k hk).1
  rw [getDp hk] at h1
  obtain ⟨_, a, b, c, _⟩ := h1
  unfold othE
  constructor
  · rintro ⟨_, h3⟩
    by_cases q1 : nd = P[k].2.1
    · exact .inl q1.symm
    · rw [if_neg q1] at h3
      by_cases q2 : nd = P[k].2.2.1
      · exact .inr q2.symm
      · rw [if_neg q2] at h3; exact absurd rfl h3
  · intro hh
    refine ⟨by omega, ?_⟩
    by_cases q1 : nd = P[k].2.1
    · rw [if_pos q1]; omega
    · rw [if_neg q1]
      by_cases q2 : nd = P[k].2.2.1
      · rw [if_pos q2]; omega
      · rcases hh with h | h
        · exact absurd h.symm q1
        · exact absurd h.symm q2
/-- The cells of the slice's block are those of its rows' type. -/
def EszC (h : Heap) (sz : Nat) (v : Value) : Prop := ∀ id o n, v = .slice (some ⟨id, o, none⟩) n 0 → 0 < n → ∃ k, hget h id = some k ∧ k.esz = sz
theorem EszC.mono {h h' : Heap} {sz : Nat} {v : Value} (s : EszC h sz v) (hp : h <+: h') : EszC h' sz v := fun id o n e hn => by
  obtain ⟨k, a, b⟩ := s id o n e hn
  exact ⟨k, by rw [hget_prefix hp (hget_lt a)]; exact a, b⟩
theorem FR.eszC {lo hi sz : Nat} {h : Heap} {v : Value} {rows : List (List Value)} (s : FR lo hi sz h v rows) : EszC h sz v := fun id o n e hn => by
  obtain ⟨id2, rfl, _, _, hg, _⟩ := s
  simp only [Value.slice.injEq, Option.some.injEq, Addr.mk.injEq] at e
  obtain ⟨⟨rfl, _, _⟩, _⟩ := e
  exact ⟨_, hg, rfl⟩
section
variable {h : Heap} {M : Nat → Prop}
theorem c_pipIndex {fid : Nat} {cap : Array Value} (hf : callable Tryd.prog fid = true) (p : Pip → Bool) (v : Value) (l : List Pip) (s : Sl h 4 v (l.map pip)) (hmax : l.length ≤ 1048576)
    (hcb : ∀ (M : Nat → Prop) (h' : Heap) (x : Pip), h <+: h' → x ∈ l → vCall [] Tryd.prog M fid (.agg (pip x).toArray :: cap.toList) h' (fun r h'' => r = .bool (p x) ∧ h' <+: h'')) :
    vCall [] Tryd.prog M 50 [v, .func (.func fid) #[] cap] h (fun r h' => r = .int .i64 (idxI p l) ∧ h <+: h') := by
  obtain ⟨a, hv, _, _⟩ := id s
  rw [List.length_map] at hv
  subst hv
  refine body_of mo Tryd.func50 rfl (by kernel_rfl) (Nat.le_of_ble_eq_true (by kernel_rfl)) rfl ?_
  simp only [go_sem, Nat.reduceBEq, Nat.reduceAdd, Nat.reduceMul, Nat.reduceSub, Nat.reduceLeDiff, Nat.le_refl, implies_true, Nat.reduceLT, reduceIte, decide_true, decide_false, true_and, and_true, reduceCtorEq, Nat.mul_one, Int.reduceToNat, Int.reduceLE, Int.reduceLT, Int.reduceAdd, Int.reduceSub, Int.reduceMul, Int.cast_ofNat_Int, cast_zero_int, cast_one_int, Nat.reducePow, Nat.reduceEqDiff, Nat.reduceMod, Nat.zero_add, Nat.sub_zero, Nat.add_zero]
  refine vLoop.count mo l.length (fun i e h' => ∃ t : Heap, Regs e [(0, .slice a l.length 0), (1, .func (.func fid) #[] cap), (7, .int .i64 l.length), (8, .int .i64 i)] ∧ HeapIs h' (h ++ t) ∧ ∀ (j : Nat) (hj : j < l.length), j < i → p l[j] = false) ?_ ?_
  · exact ⟨[], ⟨rfl, rfl, rfl, rfl, trivial⟩, by simp [HeapIs], fun j _ hj => absurd hj (by omega)⟩
  · rintro i e _ hi ⟨t, ⟨e0, e1, e7, e8, _⟩, rfl, hno⟩
    simp only [go_sem, Nat.reduceBEq, Nat.reduceAdd, Nat.reduceMul, Nat.reduceSub, Nat.reduceLeDiff, Nat.le_refl, implies_true, Nat.reduceLT, reduceIte, decide_true, decide_false, true_and, and_true, reduceCtorEq, Nat.mul_one, Int.reduceToNat, Int.reduceLE, Int.reduceLT, Int.reduceAdd, Int.reduceSub, Int.reduceMul, Int.cast_ofNat_Int, cast_zero_int, cast_one_int, Nat.reducePow, Nat.reduceEqDiff, Nat.reduceMod, Nat.zero_add, Nat.sub_zero, Nat.add_zero, e0, e1, e7, e8]
    by_cases hlt : i < l.length
    · have ws := wsucc hlt (by omega)
      have hz : (i : Int) < l.length := by omega
      have hlt' : i < (l.map pip).length := by simpa using hlt
      obtain ⟨id, o, k, hv, hk, _, hd, hb, hrow, hat⟩ := s.at hlt'
      obtain rfl : a = some ⟨id, o, none⟩ := by simpa using hv
      rw [List.getElem_map] at hrow
      simp only [go_sem, Nat.reduceBEq, Nat.reduceAdd, Nat.reduceMul, Nat.reduceSub, Nat.reduceLeDiff, Nat.le_refl, implies_true, Nat.reduceLT, reduceIte, decide_true, decide_false, true_and, and_true, reduceCtorEq, Nat.mul_one, Int.reduceToNat, Int.reduceLE, Int.reduceLT, Int.reduceAdd, Int.reduceSub, Int.reduceMul, Int.cast_ofNat_Int, cast_zero_int, cast_one_int, Nat.reducePow, Nat.reduceEqDiff, Nat.reduceMod, Nat.zero_add, Nat.sub_zero, Nat.add_zero, e0, e1, e7, e8, hz, hk, hd, hb, hrow]
      refine ⟨hf, (hcb _ _ l[i] (List.prefix_append _ _) (List.getElem_mem hlt)).use (fun _ m => m) ?_⟩
      rintro _ _ ⟨rfl, ⟨t2, rfl⟩⟩
      simp only [go_sem, Nat.reduceBEq, Nat.reduceAdd, Nat.reduceMul, Nat.reduceSub, Nat.reduceLeDiff, Nat.le_refl, implies_true, Nat.reduceLT, reduceIte, decide_true, decide_false, true_and, and_true, reduceCtorEq, Nat.mul_one, Int.reduceToNat, Int.reduceLE, Int.reduceLT, Int.reduceAdd, Int.reduceSub, Int.reduceMul, Int.cast_ofNat_Int, cast_zero_int, cast_one_int, Nat.reducePow, Nat.reduceEqDiff, Nat.reduceMod, Nat.zero_add, Nat.sub_zero, Nat.add_zero, e0, e1, e7, e8]
      cases hp : p l[i] with
      | true =>
        simp only [go_sem, Nat.reduceBEq, Nat.reduceAdd, Nat.reduceMul, Nat.reduceSub, Nat.reduceLeDiff, Nat.le_refl, implies_true, Nat.reduceLT, reduceIte, decide_true, decide_false, true_and, and_true, reduceCtorEq, Nat.mul_one, Int.reduceToNat, Int.reduceLE, Int.reduceLT, Int.reduceAdd, Int.reduceSub, Int.reduceMul, Int.cast_ofNat_Int, cast_zero_int, cast_one_int, Nat.reducePow, Nat.reduceEqDiff, Nat.reduceMod, Nat.zero_add, Nat.sub_zero, Nat.add_zero, e0, e1, e7, e8]
        refine congrArg (Value.int .i64) ?_
        have h1 : l.findIdx p = i := (List.findIdx_eq hlt).2 ⟨hp, fun j hj => hno j (by omega) hj⟩
        have h2 : l.any p = true := List.any_eq_true.2 ⟨_, List.getElem_mem hlt, hp⟩
        rw [idxI, if_pos h2, h1]
      | false =>
        simp only [go_sem, Nat.reduceBEq, Nat.reduceAdd, Nat.reduceMul, Nat.reduceSub, Nat.reduceLeDiff, Nat.le_refl, implies_true, Nat.reduceLT, reduceIte, decide_true, decide_false, true_and, and_true, reduceCtorEq, Nat.mul_one, Int.reduceToNat, Int.reduceLE, Int.reduceLT, Int.reduceAdd, Int.reduceSub, Int.reduceMul, Int.cast_ofNat_Int, cast_zero_int, cast_one_int, Nat.reducePow, Nat.reduceEqDiff, Nat.reduceMod, Nat.zero_add, Nat.sub_zero, Nat.add_zero, e0, e1, e7, e8]
        refine ⟨hlt, t ++ t2, ⟨e0, e1, e7, congrArg _ ws, trivial⟩, .rfl, fun j hj hji => ?_⟩
        by_cases h3 : j < i
        · exact hno j hj h3
        · obtain rfl : j = i := by omega
          exact hp
    · obtain rfl : i = l.length := by omega
      simp only [go_sem, Nat.reduceBEq, Nat.reduceAdd, Nat.reduceMul, Nat.reduceSub, Nat.reduceLeDiff, Nat.le_refl, implies_true, Nat.reduceLT, reduceIte, decide_true, decide_false, true_and, and_true, reduceCtorEq, Nat.mul_one, Int.reduceToNat, Int.reduceLE, Int.reduceLT, Int.reduceAdd, Int.reduceSub, Int.reduceMul, Int.cast_ofNat_Int, cast_zero_int, cast_one_int, Nat.reducePow, Nat.reduceEqDiff, Nat.reduceMod, Nat.zero_add, Nat.sub_zero, Nat.add_zero, e0, e1, e7, e8, show ¬ ((l.length : Int) < l.length) by omega]
      rw [idxI, if_neg]
      rw [Bool.not_eq_true, List.any_eq_false]
      intro x hx
      obtain ⟨j, hj, rfl⟩ := List.mem_iff_getElem.1 hx
      rw [hno j hj hj]; simp
theorem c_vlvIndex {fid : Nat} {cap : Array Value} (hf : callable Tryd.prog fid = true) (p : Vlv → Bool) (v : Value) (l : List Vlv) (s : Sl h 4 v (l.map vlv)) (hmax : l.length ≤ 1048576)
    (hcb : ∀ (M : Nat → Prop) (h' : Heap) (x : Vlv), h <+: h' → x ∈ l → vCall [] Tryd.prog M fid (.agg (vlv x).toArray :: cap.toList) h' (fun r h'' => r = .bool (p x) ∧ h' <+: h'')) :
    vCall [] Tryd.prog M 52 [v, .func (.func fid) #[] cap] h (fun r h' => r = .int .i64 (idxI p l) ∧ h <+: h') := by
  obtain ⟨a, hv, _, _⟩ := id s
  rw [List.length_map] at hv
  subst hv
  refine body_of mo Tryd.func52 rfl (by kernel_rfl) (Nat.le_of_ble_eq_true (by kernel_rfl)) rfl ?_
  simp only [go_sem, Nat.reduceBEq, Nat.reduceAdd, Nat.reduceMul, Nat.reduceSub, Nat.reduceLeDiff, Nat.le_refl, implies_true, Nat.reduceLT, reduceIte, decide_true, decide_false, true_and, and_true, reduceCtorEq, Nat.mul_one, Int.reduceToNat, Int.reduceLE, Int.reduceLT, Int.reduceAdd, Int.reduceSub, Int.reduceMul, Int.cast_ofNat_Int, cast_zero_int, cast_one_int, Nat.reducePow, Nat.reduceEqDiff, Nat.reduceMod, Nat.zero_add, Nat.sub_zero, Nat.add_zero]
  refine vLoop.count mo l.length (fun i e h' => ∃ t : Heap, Regs e [(0, .slice a l.length 0), (1, .func (.func fid) #[] cap), (7, .int .i64 l.length), (8, .int .i64 i)] ∧ HeapIs h' (h ++ t) ∧ ∀ (j : Nat) (hj : j < l.length), j < i → p l[j] = false) ?_ ?_
  · exact ⟨[], ⟨rfl, rfl, rfl, rfl, trivial⟩, by simp [HeapIs], fun j _ hj => absurd hj (by omega)⟩
  · rintro i e _ hi ⟨t, ⟨e0, e1, e7, e8, _⟩, rfl, hno⟩
    simp only [go_sem, Nat.reduceBEq, Nat.reduceAdd, Nat.reduceMul, Nat.reduceSub, Nat.reduceLeDiff, Nat.le_refl, implies_true, Nat.reduceLT, reduceIte, decide_true, decide_false, true_and, and_true, reduceCtorEq, Nat.mul_one, Int.reduceToNat, Int.reduceLE, Int.reduceLT, Int.reduceAdd, Int.reduceSub, Int.reduceMul, Int.cast_ofNat_Int, cast_zero_int, cast_one_int, Nat.reducePow, Nat.reduceEqDiff, Nat.reduceMod, Nat.zero_add, Nat.sub_zero, Nat.add_zero, e0, e1, e7, e8]
    by_cases hlt : i < l.length
    · have ws := wsucc hlt (by omega)
      have hz : (i : Int) < l.length := by omega
      have hlt' : i < (l.map vlv).length := by simpa using hlt
      obtain ⟨id, o, k, hv, hk, _, hd, hb, hrow, hat⟩ := s.at hlt'
      obtain rfl : a = some ⟨id, o, none⟩ := by simpa using hv
      rw [List.getElem_map] at hrow
      simp only [go_sem, Nat.reduceBEq, Nat.reduceAdd, Nat.reduceMul, Nat.reduceSub, Nat.reduceLeDiff, Nat.le_refl, implies_true, Nat.reduceLT, reduceIte, decide_true, decide_false, true_and, and_true, reduceCtorEq, Nat.mul_one, Int.reduceToNat, Int.reduceLE, Int.reduceLT, Int.reduceAdd, Int.reduceSub, Int.reduceMul, Int.cast_ofNat_Int, cast_zero_int, cast_one_int, Nat.reducePow, Nat.reduceEqDiff, Nat.reduceMod, Nat.zero_add, Nat.sub_zero, Nat.add_zero, e0, e1, e7, e8, hz, hk, hd, hb, hrow]
      refine ⟨hf, (hcb _ _ l[i] (List.prefix_append _ _) (List.getElem_mem hlt)).use (fun _ m => m) ?_⟩
      rintro _ _ ⟨rfl, ⟨t2, rfl⟩⟩
      simp only [go_sem, Nat.reduceBEq, Nat.reduceAdd, Nat.reduceMul, Nat.reduceSub, Nat.reduceLeDiff, Nat.le_refl, implies_true, Nat.reduceLT, reduceIte, decide_true, decide_false, true_and, and_true, reduceCtorEq, Nat.mul_one, Int.reduceToNat, Int.reduceLE, Int.reduceLT, Int.reduceAdd, Int.reduceSub, Int.reduceMul, Int.cast_ofNat_Int, cast_zero_int, cast_one_int, Nat.reducePow, Nat.reduceEqDiff, Nat.reduceMod, Nat.zero_add, Nat.sub_zero, Nat.add_zero, e0, e1, e7, e8]
      cases hp : p l[i] with
      | true =>
        simp only [go_sem, Nat.reduceBEq, Nat.reduceAdd, Nat.reduceMul, Nat.reduceSub, Nat.reduceLeDiff, Nat.le_refl, implies_true, Nat.reduceLT, reduceIte, decide_true, decide_false, true_and, and_true, reduceCtorEq, Nat.mul_one, Int.reduceToNat, Int.reduceLE, Int.reduceLT, Int.reduceAdd, Int.reduceSub, Int.reduceMul, Int.cast_ofNat_Int, cast_zero_int, cast_one_int, Nat.reducePow, Nat.reduceEqDiff, Nat.reduceMod, Nat.zero_add, Nat.sub_zero, Nat.add_zero, e0, e1, e7, e8]
        refine congrArg (Value.int .i64) ?_
        have h1 : l.findIdx p = i := (List.findIdx_eq hlt).2 ⟨hp, fun j hj => hno j (by omega) hj⟩
        have h2 : l.any p = true := List.any_eq_true.2 ⟨_, List.getElem_mem hlt, hp⟩
        rw [idxI, if_pos h2, h1]
      | false =>
        simp only [go_sem, Nat.reduceBEq, Nat.reduceAdd, Nat.reduceMul, Nat.reduceSub, Nat.reduceLeDiff, Nat.le_refl, implies_true, Nat.reduceLT, reduceIte, decide_true, decide_false, true_and, and_true, reduceCtorEq, Nat.mul_one, Int.reduceToNat, Int.reduceLE, Int.reduceLT, Int.reduceAdd, Int.reduceSub, Int.reduceMul, Int.cast_ofNat_Int, cast_zero_int, cast_one_int, Nat.reducePow, Nat.reduceEqDiff, Nat.reduceMod, Nat.zero_add, Nat.sub_zero, Nat.add_zero, e0, e1, e7, e8]
        refine ⟨hlt, t ++ t2, ⟨e0, e1, e7, congrArg _ ws, trivial⟩, .rfl, fun j hj hji => ?_⟩
        by_cases h3 : j < i
        · exact hno j hj h3
        · obtain rfl : j = i := by omega
          exact hp
    · obtain rfl : i = l.length := by omega
      simp only [go_sem, Nat.reduceBEq, Nat.reduceAdd, Nat.reduceMul, Nat.reduceSub, Nat.reduceLeDiff, Nat.le_refl, implies_true, Nat.reduceLT, reduceIte, decide_true, decide_false, true_and, and_true, reduceCtorEq, Nat.mul_one, Int.reduceToNat, Int.reduceLE, Int.reduceLT, Int.reduceAdd, Int.reduceSub, Int.reduceMul, Int.cast_ofNat_Int, cast_zero_int, cast_one_int, Nat.reducePow, Nat.reduceEqDiff, Nat.reduceMod, Nat.zero_add, Nat.sub_zero, Nat.add_zero, e0, e1, e7, e8, show ¬ ((l.length : Int) < l.length) by omega]
      rw [idxI, if_neg]
      rw [Bool.not_eq_true, List.any_eq_false]
      intro x hx
      obtain ⟨j, hj, rfl⟩ := List.mem_iff_getElem.1 hx
      rw [hno j hj hj]; simp
theorem c_vlvContains {fid : Nat} {cap : Array Value} (hf : callable Tryd.prog fid = true) (p : Vlv → Bool) (v : Value) (l : List Vlv) (s : Sl h 4 v (l.map vlv)) (hmax : l.length ≤ 1048576)
    (hcb : ∀ (M : Nat → Prop) (h' : Heap) (x : Vlv), h <+: h' → x ∈ l → vCall [] Tryd.prog M fid (.agg (vlv x).toArray :: cap.toList) h' (fun r h'' => r = .bool (p x) ∧ h' <+: h'')) :
    vCall [] Tryd.prog M 39 [v, .func (.func fid) #[] cap] h (fun r h' => r = .bool (l.any p) ∧ h <+: h') := by
  refine body_of mo Tryd.func39 rfl (by kernel_rfl) (Nat.le_of_ble_eq_true (by kernel_rfl)) rfl ?_
  simp only [go_sem, Nat.reduceBEq, Nat.reduceAdd, Nat.reduceMul, Nat.reduceSub, Nat.reduceLeDiff, Nat.le_refl, implies_true, Nat.reduceLT, reduceIte, decide_true, decide_false, true_and, and_true, reduceCtorEq, Nat.mul_one, Int.reduceToNat, Int.reduceLE, Int.reduceLT, Int.reduceAdd, Int.reduceSub, Int.reduceMul, Int.cast_ofNat_Int, cast_zero_int, cast_one_int, Nat.reducePow, Nat.reduceEqDiff, Nat.reduceMod, Nat.zero_add, Nat.sub_zero, Nat.add_zero]
  refine ⟨by kernel_rfl, (c_vlvIndex hf p v l s hmax hcb).use (fun _ m => m) ?_⟩
  rintro _ _ ⟨rfl, ⟨t, rfl⟩⟩
  simp only [go_sem, Nat.reduceBEq, Nat.reduceAdd, Nat.reduceMul, Nat.reduceSub, Nat.reduceLeDiff, Nat.le_refl, implies_true, Nat.reduceLT, reduceIte, decide_true, decide_false, true_and, and_true, reduceCtorEq, Nat.mul_one, Int.reduceToNat, Int.reduceLE, Int.reduceLT, Int.reduceAdd, Int.reduceSub, Int.reduceMul, Int.cast_ofNat_Int, cast_zero_int, cast_one_int, Nat.reducePow, Nat.reduceEqDiff, Nat.reduceMod, Nat.zero_add, Nat.sub_zero, Nat.add_zero]
  refine congrArg Value.bool ?_
  unfold idxI
  cases h1 : l.any p <;> simp


theorem c_otherE (p : Pip) (x : Int) : vCall [] Tryd.prog M 38 [.agg #[.int .i64 p.1, .int .i64 p.2.1, .int .i64 p.2.2.1, .int .i64 p.2.2.2], .int .i64 x] h (fun r h' => r = .int .i64 (othE p x) ∧ h <+: h') := by
  refine body_of mo Tryd.func38 rfl (by kernel_rfl) (Nat.le_of_ble_eq_true (by kernel_rfl)) rfl ?_
  simp only [go_sem, Nat.reduceBEq, Nat.reduceAdd, Nat.reduceMul, Nat.reduceSub, Nat.reduceLeDiff, Nat.le_refl, implies_true, Nat.reduceLT, reduceIte, decide_true, decide_false, true_and, and_true, reduceCtorEq, Nat.mul_one, Int.reduceToNat, Int.reduceLE, Int.reduceLT, Int.reduceAdd, Int.reduceSub, Int.reduceMul, Int.cast_ofNat_Int, cast_zero_int, cast_one_int, Nat.reducePow, Nat.reduceEqDiff, Nat.reduceMod, Nat.zero_add, Nat.sub_zero, Nat.add_zero]
  by_cases h1 : x = p.2.1
  · simp only [go_sem, Nat.reduceBEq, Nat.reduceAdd, Nat.reduceMul, Nat.reduceSub, Nat.reduceLeDiff, Nat.le_refl, implies_true, Nat.reduceLT, reduceIte, decide_true, decide_false, true_and, and_true, reduceCtorEq, Nat.mul_one, Int.reduceToNat, Int.reduceLE, Int.reduceLT, Int.reduceAdd, Int.reduceSub, Int.reduceMul, Int.cast_ofNat_Int, cast_zero_int, cast_one_int, Nat.reducePow, Nat.reduceEqDiff, Nat.reduceMod, Nat.zero_add, Nat.sub_zero, Nat.add_zero, show (x == p.2.1) = true by simpa using h1]
    rw [othE, if_pos h1]
  · simp only [go_sem, Nat.reduceBEq, Nat.reduceAdd, Nat.reduceMul, Nat.reduceSub, Nat.reduceLeDiff, Nat.le_refl, implies_true, Nat.reduceLT, reduceIte, decide_true, decide_false, true_and, and_true, reduceCtorEq, Nat.mul_one, Int.reduceToNat, Int.reduceLE, Int.reduceLT, Int.reduceAdd, Int.reduceSub, Int.reduceMul, Int.cast_ofNat_Int, cast_zero_int, cast_one_int, Nat.reducePow, Nat.reduceEqDiff, Nat.reduceMod, Nat.zero_add, Nat.sub_zero, Nat.add_zero, show (x == p.2.1) = false by simpa using h1]
    by_cases h2 : x = p.2.2.1
    · simp only [go_sem, Nat.reduceBEq, Nat.reduceAdd, Nat.reduceMul, Nat.reduceSub, Nat.reduceLeDiff, Nat.le_refl, implies_true, Nat.reduceLT, reduceIte, decide_true, decide_false, true_and, and_true, reduceCtorEq, Nat.mul_one, Int.reduceToNat, Int.reduceLE, Int.reduceLT, Int.reduceAdd, Int.reduceSub, Int.reduceMul, Int.cast_ofNat_Int, cast_zero_int, cast_one_int, Nat.reducePow, Nat.reduceEqDiff, Nat.reduceMod, Nat.zero_add, Nat.sub_zero, Nat.add_zero, show (x == p.2.2.1) = true by simpa using h2]
      rw [othE, if_neg h1, if_pos h2]
    · simp only [go_sem, Nat.reduceBEq, Nat.reduceAdd, Nat.reduceMul, Nat.reduceSub, Nat.reduceLeDiff, Nat.le_refl, implies_true, Nat.reduceLT, reduceIte, decide_true, decide_false, true_and, and_true, reduceCtorEq, Nat.mul_one, Int.reduceToNat, Int.reduceLE, Int.reduceLT, Int.reduceAdd, Int.reduceSub, Int.reduceMul, Int.cast_ofNat_Int, cast_zero_int, cast_one_int, Nat.reducePow, Nat.reduceEqDiff, Nat.reduceMod, Nat.zero_add, Nat.sub_zero, Nat.add_zero, show (x == p.2.2.1) = false by simpa using h2]
      rw [othE, if_neg h1, if_neg h2]
theorem c_pipeIndex1 (x : Pip) (id : Nat) (n : Int) (hb : hget h id = some ⟨[.int .i64 n], 1, .rw⟩) :
    vCall [] Tryd.prog M 51 [.agg #[.int .i64 x.1, .int .i64 x.2.1, .int .i64 x.2.2.1, .int .i64 x.2.2.2], .pointer (some ⟨id, 0, none⟩)] h (fun r h' => r = .bool (decide (x.1 = n)) ∧ h <+: h') := by
  refine body_of mo Tryd.func51 rfl (by kernel_rfl) (Nat.le_of_ble_eq_true (by kernel_rfl)) rfl ?_
  have hb1 := self_get hb
  simp only [go_sem, Nat.reduceBEq, Nat.reduceAdd, Nat.reduceMul, Nat.reduceSub, Nat.reduceLeDiff, Nat.le_refl, implies_true, Nat.reduceLT, reduceIte, decide_true, decide_false, true_and, and_true, reduceCtorEq, Nat.mul_one, Int.reduceToNat, Int.reduceLE, Int.reduceLT, Int.reduceAdd, Int.reduceSub, Int.reduceMul, Int.cast_ofNat_Int, cast_zero_int, cast_one_int, Nat.reducePow, Nat.reduceEqDiff, Nat.reduceMod, Nat.zero_add, Nat.sub_zero, Nat.add_zero, hb1]
  by_cases q : x.1 = n
  · simp [q]
  · simp [q]
theorem c_pipeIndex {n : Nat} (v : Value) (N : Int) (P : List Pip) (id : Int) (hv : NA n h v N P) (hmax : P.length ≤ 1048576) :
    vCall [] Tryd.prog M 36 [v, .int .i64 id] h (fun r h' => r = .int .i64 (pidx P id) ∧ h <+: h') := by
  obtain ⟨w, rfl, s⟩ := hv
  refine body_of mo Tryd.func36 rfl (by kernel_rfl) (Nat.le_of_ble_eq_true (by kernel_rfl)) rfl ?_
  simp only [go_sem, Nat.reduceBEq, Nat.reduceAdd, Nat.reduceMul, Nat.reduceSub, Nat.reduceLeDiff, Nat.le_refl, implies_true, Nat.reduceLT, reduceIte, decide_true, decide_false, true_and, and_true, reduceCtorEq, Nat.mul_one, Int.reduceToNat, Int.reduceLE, Int.reduceLT, Int.reduceAdd, Int.reduceSub, Int.reduceMul, Int.cast_ofNat_Int, cast_zero_int, cast_one_int, Nat.reducePow, Nat.reduceEqDiff, Nat.reduceMod, Nat.zero_add, Nat.sub_zero, Nat.add_zero]
  refine ⟨by kernel_rfl, (c_pipIndex (by kernel_rfl) (fun p => decide (p.1 = id)) _ P (s.1.mono (by simp)) hmax (fun M h' x hp _ => c_pipeIndex1 x _ _ (by rw [hget_prefix hp (by simp)]; simp only [go_sem, Nat.reduceBEq, Nat.reduceAdd, Nat.reduceMul, Nat.reduceSub, Nat.reduceLeDiff, Nat.le_refl, implies_true, Nat.reduceLT, reduceIte, decide_true, decide_false, true_and, and_true, reduceCtorEq, Nat.mul_one, Int.reduceToNat, Int.reduceLE, Int.reduceLT, Int.reduceAdd, Int.reduceSub, Int.reduceMul, Int.cast_ofNat_Int, cast_zero_int, cast_one_int, Nat.reducePow, Nat.reduceEqDiff, Nat.reduceMod, Nat.zero_add, Nat.sub_zero, Nat.add_zero]))).use (fun _ m => m) ?_⟩
  rintro _ _ ⟨rfl, ⟨t, rfl⟩⟩
  simp only [go_sem, Nat.reduceBEq, Nat.reduceAdd, Nat.reduceMul, Nat.reduceSub, Nat.reduceLeDiff, Nat.le_refl, implies_true, Nat.reduceLT, reduceIte, decide_true, decide_false, true_and, and_true, reduceCtorEq, Nat.mul_one, Int.reduceToNat, Int.reduceLE, Int.reduceLT, Int.reduceAdd, Int.reduceSub, Int.reduceMul, Int.cast_ofNat_Int, cast_zero_int, cast_one_int, Nat.reducePow, Nat.reduceEqDiff, Nat.reduceMod, Nat.zero_add, Nat.sub_zero, Nat.add_zero]
  rfl
theorem c_l2Find {n : Nat} (v : Value) (N : Int) (P : List Pip) (id : Int) (hv : NA n h v N P) (hmax : P.length ≤ 1048576) :
    vCall [] Tryd.prog M 46 [v, .int .i64 id] h (fun r h' => r = .int .i64 (pidx P id) ∧ h <+: h') := by
  obtain ⟨w, rfl, s⟩ := hv
  obtain ⟨a, rfl⟩ := Sl.len4 s.1
  refine body_of mo Tryd.func46 rfl (by kernel_rfl) (Nat.le_of_ble_eq_true (by kernel_rfl)) rfl ?_
  simp only [go_sem, Nat.reduceBEq, Nat.reduceAdd, Nat.reduceMul, Nat.reduceSub, Nat.reduceLeDiff, Nat.le_refl, implies_true, Nat.reduceLT, reduceIte, decide_true, decide_false, true_and, and_true, reduceCtorEq, Nat.mul_one, Int.reduceToNat, Int.reduceLE, Int.reduceLT, Int.reduceAdd, Int.reduceSub, Int.reduceMul, Int.cast_ofNat_Int, cast_zero_int, cast_one_int, Nat.reducePow, Nat.reduceEqDiff, Nat.reduceMod, Nat.zero_add, Nat.sub_zero, Nat.add_zero]
  refine vLoop.count mo P.length (fun i e h' => ∃ t : Heap, e 1 = .int .i64 id ∧ e 2 = .pointer (some ⟨h.length, 0, none⟩) ∧ e 5 = .int .i64 i ∧ h' = h ++ ⟨[.int .i64 N, .slice a P.length 0], 2, .rw⟩ :: t ∧ ∀ (j : Nat) (hj : j < P.length), j < i → decide (P[j].1 = id) = false) ?_ ?_
  · exact ⟨[], rfl, rfl, rfl, rfl, fun j _ hj => absurd hj (by omega)⟩
  · rintro i e _ hi ⟨t, e1, e2, e5, rfl, hno⟩
    simp only [go_sem, Nat.reduceBEq, Nat.reduceAdd, Nat.reduceMul, Nat.reduceSub, Nat.reduceLeDiff, Nat.le_refl, implies_true, Nat.reduceLT, reduceIte, decide_true, decide_false, true_and, and_true, reduceCtorEq, Nat.mul_one, Int.reduceToNat, Int.reduceLE, Int.reduceLT, Int.reduceAdd, Int.reduceSub, Int.reduceMul, Int.cast_ofNat_Int, cast_zero_int, cast_one_int, Nat.reducePow, Nat.reduceEqDiff, Nat.reduceMod, Nat.zero_add, Nat.sub_zero, Nat.add_zero, e1, e2, e5]
    by_cases hlt : i < P.length
    · have ws := wsucc hlt (by omega)
      have hlt' : i < (P.map pip).length := by simpa using hlt
      obtain ⟨id2, o, K, hv, hK, _, hd, hb, hrow, hcell⟩ := s.1.at hlt'
      obtain rfl : a = some ⟨id2, o, none⟩ := by simpa using hv
      have hc0 := hcell 0 (by omega)
      rw [List.getElem_map] at hc0
      simp only [pip, List.getElem?_cons_zero, Nat.add_zero] at hc0
      by_cases q : P[i].1 = id
      · simp only [go_sem, Nat.reduceBEq, Nat.reduceAdd, Nat.reduceMul, Nat.reduceSub, Nat.reduceLeDiff, Nat.le_refl, implies_true, Nat.reduceLT, reduceIte, decide_true, decide_false, true_and, and_true, reduceCtorEq, Nat.mul_one, Int.reduceToNat, Int.reduceLE, Int.reduceLT, Int.reduceAdd, Int.reduceSub, Int.reduceMul, Int.cast_ofNat_Int, cast_zero_int, cast_one_int, Nat.reducePow, Nat.reduceEqDiff, Nat.reduceMod, Nat.zero_add, Nat.sub_zero, Nat.add_zero, e1, e2, e5, show (i : Int) < P.length by omega, hK, hd, hc0, show (P[i].1 == id) = true by simpa using q]
        exact congrArg (Value.int .i64) (idxI_is hlt (decide_eq_true q) hno).symm
      · simp only [go_sem, Nat.reduceBEq, Nat.reduceAdd, Nat.reduceMul, Nat.reduceSub, Nat.reduceLeDiff, Nat.le_refl, implies_true, Nat.reduceLT, reduceIte, decide_true, decide_false, true_and, and_true, reduceCtorEq, Nat.mul_one, Int.reduceToNat, Int.reduceLE, Int.reduceLT, Int.reduceAdd, Int.reduceSub, Int.reduceMul, Int.cast_ofNat_Int, cast_zero_int, cast_one_int, Nat.reducePow, Nat.reduceEqDiff, Nat.reduceMod, Nat.zero_add, Nat.sub_zero, Nat.add_zero, e1, e2, e5, show (i : Int) < P.length by omega, hK, hd, hc0, show (P[i].1 == id) = false by simpa using q]
        refine ⟨hlt, t, congrArg _ ws, rfl, fun j hj hji => ?_⟩
        by_cases e : j = i
        · subst e; exact decide_eq_false q
        · exact hno j hj (by omega)
    · obtain rfl : i = P.length := by omega
      simp only [go_sem, Nat.reduceBEq, Nat.reduceAdd, Nat.reduceMul, Nat.reduceSub, Nat.reduceLeDiff, Nat.le_refl, implies_true, Nat.reduceLT, reduceIte, decide_true, decide_false, true_and, and_true, reduceCtorEq, Nat.mul_one, Int.reduceToNat, Int.reduceLE, Int.reduceLT, Int.reduceAdd, Int.reduceSub, Int.reduceMul, Int.cast_ofNat_Int, cast_zero_int, cast_one_int, Nat.reducePow, Nat.reduceEqDiff, Nat.reduceMod, Nat.zero_add, Nat.sub_zero, Nat.add_zero, e1, e2, e5, show ¬ ((P.length : Int) < P.length) by omega]
      exact congrArg (Value.int .i64) (idxI_no fun j hj => hno j hj hj).symm
theorem slTake {sz n : Nat} {a : Option Addr} {rows : List (List Value)} {i : Nat} (s : Sl h sz (.slice a n 0) rows) (hn : n = rows.length) (hi : i ≤ n) : Sl h sz (.slice a i 0) (rows.take i) := by
  subst hn
  obtain ⟨a', e, hl, f⟩ := s
  obtain rfl : a = a' := by simpa using e
  refine ⟨a, by rw [List.length_take, Nat.min_eq_left hi], fun r hr => hl r (List.mem_of_mem_take hr), fun h0 => ?_⟩
  have hr : rows ≠ [] := fun h1 => h0 (by rw [h1]; simp)
  obtain ⟨id, off, k, e1, e2, e3, e4, e5⟩ := f hr
  have hlen : ((rows.take i).flatten).length = i * sz := by rw [flatten_len (fun r hr => hl r (List.mem_of_mem_take hr)), List.length_take, Nat.min_eq_left hi]
  have hmul : i * sz ≤ rows.length * sz := Nat.mul_le_mul_right _ hi
  refine ⟨id, off, k, e1, e2, e3, by rw [List.length_take, Nat.min_eq_left hi]; omega, ?_⟩
  rw [List.length_take, Nat.min_eq_left hi]
  have e6 : (k.cells.drop off).take (i * sz) = ((k.cells.drop off).take (rows.length * sz)).take (i * sz) := by rw [List.take_take, Nat.min_eq_left hmul]
  rw [e6, e5]
  conv => lhs; rw [← List.take_append_drop i rows, List.flatten_append]
  rw [List.take_left' hlen]
theorem c_sameEnd (x y : Vlv) (id : Nat) (hb : hget h id = some ⟨vlv y, 4, .rw⟩) :
    vCall [] Tryd.prog M 40 [.agg #[.int .i64 x.1, .int .i64 x.2.1, .int .i64 x.2.2.1, .bool x.2.2.2], .pointer (some ⟨id, 0, none⟩)] h (fun r h' => r = .bool (decide (x.2.1 = y.2.1 ∧ x.2.2.1 = y.2.2.1)) ∧ h <+: h') := by
  refine body_of mo Tryd.func40 rfl (by kernel_rfl) (Nat.le_of_ble_eq_true (by kernel_rfl)) rfl ?_
  have hb1 := self_get hb
  simp only [go_sem, Nat.reduceBEq, Nat.reduceAdd, Nat.reduceMul, Nat.reduceSub, Nat.reduceLeDiff, Nat.le_refl, implies_true, Nat.reduceLT, reduceIte, decide_true, decide_false, true_and, and_true, reduceCtorEq, Nat.mul_one, Int.reduceToNat, Int.reduceLE, Int.reduceLT, Int.reduceAdd, Int.reduceSub, Int.reduceMul, Int.cast_ofNat_Int, cast_zero_int, cast_one_int, Nat.reducePow, Nat.reduceEqDiff, Nat.reduceMod, Nat.zero_add, Nat.sub_zero, Nat.add_zero, hb1, vlv]
  by_cases q : x.2.1 = y.2.1
  · simp only [go_sem, Nat.reduceBEq, Nat.reduceAdd, Nat.reduceMul, Nat.reduceSub, Nat.reduceLeDiff, Nat.le_refl, implies_true, Nat.reduceLT, reduceIte, decide_true, decide_false, true_and, and_true, reduceCtorEq, Nat.mul_one, Int.reduceToNat, Int.reduceLE, Int.reduceLT, Int.reduceAdd, Int.reduceSub, Int.reduceMul, Int.cast_ofNat_Int, cast_zero_int, cast_one_int, Nat.reducePow, Nat.reduceEqDiff, Nat.reduceMod, Nat.zero_add, Nat.sub_zero, Nat.add_zero, hb1, vlv, show (x.2.1 == y.2.1) = true by simpa using q]
    by_cases q2 : x.2.2.1 = y.2.2.1
    · simp [q, q2]
    · simp [q, q2]
  · simp only [go_sem, Nat.reduceBEq, Nat.reduceAdd, Nat.reduceMul, Nat.reduceSub, Nat.reduceLeDiff, Nat.le_refl, implies_true, Nat.reduceLT, reduceIte, decide_true, decide_false, true_and, and_true, reduceCtorEq, Nat.mul_one, Int.reduceToNat, Int.reduceLE, Int.reduceLT, Int.reduceAdd, Int.reduceSub, Int.reduceMul, Int.cast_ofNat_Int, cast_zero_int, cast_one_int, Nat.reducePow, Nat.reduceEqDiff, Nat.reduceMod, Nat.zero_add, Nat.sub_zero, Nat.add_zero, hb1, vlv, show (x.2.1 == y.2.1) = false by simpa using q]
    simp [q]
set_option maxHeartbeats 4000000 in
theorem c_IsValidValves {n : Nat} (v vv : Value) (N : Int) (P : List Pip) (V : List Vlv) (hv : NA n h v N P) (s : Sl h 4 vv (V.map vlv)) (hes : EszC h 4 vv) (hP : P.length ≤ 1048576) (hV : V.length ≤ 1048576) :
    vCall [] Tryd.prog M 19 [v, vv] h (fun r h' => r = .bool (decide (valOk N P V)) ∧ h <+: h') := by
  obtain ⟨w, rfl, sw⟩ := id hv
  obtain ⟨pa, rfl⟩ := Sl.len4 sw.1
  obtain ⟨a, ea, _, _⟩ := id s
  rw [List.length_map] at ea
  subst ea
  refine body_of mo Tryd.func19 rfl (by kernel_rfl) (Nat.le_of_ble_eq_true (by kernel_rfl)) rfl ?_
  simp only [go_sem, Nat.reduceBEq, Nat.reduceAdd, Nat.reduceMul, Nat.reduceSub, Nat.reduceLeDiff, Nat.le_refl, implies_true, Nat.reduceLT, reduceIte, decide_true, decide_false, true_and, and_true, reduceCtorEq, Nat.mul_one, Int.reduceToNat, Int.reduceLE, Int.reduceLT, Int.reduceAdd, Int.reduceSub, Int.reduceMul, Int.cast_ofNat_Int, cast_zero_int, cast_one_int, Nat.reducePow, Nat.reduceEqDiff, Nat.reduceMod, Nat.zero_add, Nat.sub_zero, Nat.add_zero]
  refine ⟨by kernel_rfl, (c_IsValidNetwork _ N P (hv.mono (by simp)) hP).use (fun _ m => m) ?_⟩
  rintro _ _ ⟨rfl, ⟨t, rfl⟩⟩
  by_cases g1 : netGood N P
  · simp only [go_sem, Nat.reduceBEq, Nat.reduceAdd, Nat.reduceMul, Nat.reduceSub, Nat.reduceLeDiff, Nat.le_refl, implies_true, Nat.reduceLT, reduceIte, decide_true, decide_false, true_and, and_true, reduceCtorEq, Nat.mul_one, Int.reduceToNat, Int.reduceLE, Int.reduceLT, Int.reduceAdd, Int.reduceSub, Int.reduceMul, Int.cast_ofNat_Int, cast_zero_int, cast_one_int, Nat.reducePow, Nat.reduceEqDiff, Nat.reduceMod, Nat.zero_add, Nat.sub_zero, Nat.add_zero, decb g1]
    by_cases g2 : (10 : Int) < V.length
    · simp only [go_sem, Nat.reduceBEq, Nat.reduceAdd, Nat.reduceMul, Nat.reduceSub, Nat.reduceLeDiff, Nat.le_refl, implies_true, Nat.reduceLT, reduceIte, decide_true, decide_false, true_and, and_true, reduceCtorEq, Nat.mul_one, Int.reduceToNat, Int.reduceLE, Int.reduceLT, Int.reduceAdd, Int.reduceSub, Int.reduceMul, Int.cast_ofNat_Int, cast_zero_int, cast_one_int, Nat.reducePow, Nat.reduceEqDiff, Nat.reduceMod, Nat.zero_add, Nat.sub_zero, Nat.add_zero, g2]
      exact congrArg Value.bool (decide_eq_false (fun hh : valOk N P V => by have := hh.2.1; omega)).symm
    · simp only [go_sem, Nat.reduceBEq, Nat.reduceAdd, Nat.reduceMul, Nat.reduceSub, Nat.reduceLeDiff, Nat.le_refl, implies_true, Nat.reduceLT, reduceIte, decide_true, decide_false, true_and, and_true, reduceCtorEq, Nat.mul_one, Int.reduceToNat, Int.reduceLE, Int.reduceLT, Int.reduceAdd, Int.reduceSub, Int.reduceMul, Int.cast_ofNat_Int, cast_zero_int, cast_one_int, Nat.reducePow, Nat.reduceEqDiff, Nat.reduceMod, Nat.zero_add, Nat.sub_zero, Nat.add_zero, g2]
      refine vLoop.count mo V.length (fun i e h' => ∃ t : Heap, e 1 = .slice a V.length 0 ∧ e 2 = .pointer (some ⟨h.length, 0, none⟩) ∧ e 16 = .slice a V.length 0 ∧ e 17 = .int .i64 V.length ∧ e 18 = .int .i64 i ∧ h' = h ++ ⟨[.int .i64 N, .slice pa P.length 0], 2, .rw⟩ :: t ∧ ∀ j, j < i → vlvAt P V j) ?_ ?_
      · exact ⟨t, rfl, rfl, rfl, rfl, rfl, rfl, fun j hj => absurd hj (by omega)⟩
      · rintro i e _ hi ⟨t, e1, e2, e16, e17, e18, rfl, hok⟩
        simp only [go_sem, Nat.reduceBEq, Nat.reduceAdd, Nat.reduceMul, Nat.reduceSub, Nat.reduceLeDiff, Nat.le_refl, implies_true, Nat.reduceLT, reduceIte, decide_true, decide_false, true_and, and_true, reduceCtorEq, Nat.mul_one, Int.reduceToNat, Int.reduceLE, Int.reduceLT, Int.reduceAdd, Int.reduceSub, Int.reduceMul, Int.cast_ofNat_Int, cast_zero_int, cast_one_int, Nat.reducePow, Nat.reduceEqDiff, Nat.reduceMod, Nat.zero_add, Nat.sub_zero, Nat.add_zero, e1, e2, e16, e17, e18]
        by_cases hlt : i < V.length
        · have ws := wsucc hlt (by omega)
          have hlt' : i < (V.map vlv).length := by simpa using hlt
          obtain ⟨id, o, K, hv2, hK, _, hd, hall⟩ := s.all (Nat.zero_lt_of_lt hlt')
          obtain rfl : a = some ⟨id, o, none⟩ := by simpa using hv2
          obtain ⟨hb, hrow, _⟩ := hall i hlt'
          rw [List.getElem_map] at hrow
          simp only [vlv] at hrow
          have gd : V.getD i vlv0 = V[i] := getDv hlt
          have bad : ¬ vlvAt P V i → Value.bool false = Value.bool (decide (valOk N P V)) := val_bad hlt
          simp only [go_sem, Nat.reduceBEq, Nat.reduceAdd, Nat.reduceMul, Nat.reduceSub, Nat.reduceLeDiff, Nat.le_refl, implies_true, Nat.reduceLT, reduceIte, decide_true, decide_false, true_and, and_true, reduceCtorEq, Nat.mul_one, Int.reduceToNat, Int.reduceLE, Int.reduceLT, Int.reduceAdd, Int.reduceSub, Int.reduceMul, Int.cast_ofNat_Int, cast_zero_int, cast_one_int, Nat.reducePow, Nat.reduceEqDiff, Nat.reduceMod, Nat.zero_add, Nat.sub_zero, Nat.add_zero, e1, e2, e16, e17, e18, show (i : Int) < V.length by omega, hK, hd, hb, hrow]
          refine ⟨by kernel_rfl, (c_pipeIndex _ N P _ (hv.mono (by simp)) hP).use (fun _ m => m) ?_⟩
          rintro _ _ ⟨rfl, ⟨t2, rfl⟩⟩
          simp only [go_sem, Nat.reduceBEq, Nat.reduceAdd, Nat.reduceMul, Nat.reduceSub, Nat.reduceLeDiff, Nat.le_refl, implies_true, Nat.reduceLT, reduceIte, decide_true, decide_false, true_and, and_true, reduceCtorEq, Nat.mul_one, Int.reduceToNat, Int.reduceLE, Int.reduceLT, Int.reduceAdd, Int.reduceSub, Int.reduceMul, Int.cast_ofNat_Int, cast_zero_int, cast_one_int, Nat.reducePow, Nat.reduceEqDiff, Nat.reduceMod, Nat.zero_add, Nat.sub_zero, Nat.add_zero, e1, e2, e16, e17, e18, List.append_assoc]
          refine ⟨by kernel_rfl, (c_inside _ _ _).use (fun _ m => m) ?_⟩
          rintro _ _ ⟨rfl, rfl⟩
          have hV0 : 0 < V.length := by omega
          obtain ⟨K4, hK4, hesz⟩ := hes _ _ _ rfl hV0
          obtain rfl : K = K4 := by
            have := hK []
            rw [List.append_nil] at this
            exact Option.some.inj (this.symm.trans hK4)
          obtain ⟨kx, hkx⟩ : ∃ kx, pidx P V[i].2.1 = kx := ⟨_, rfl⟩
          by_cases q1 : 1 ≤ V[i].1 ∧ V[i].1 ≤ 99
          · by_cases i0 : 0 < i
            · have w1 : IntKind.i64.wrap ((i : Int) - 1) = ((i - 1 : Nat) : Int) := by rw [wrap64 (by omega)]; omega
              have hlt1 : i - 1 < (V.map vlv).length := by omega
              obtain ⟨_, _, hcell1⟩ := hall (i - 1) hlt1
              have hp0 := hcell1 0 (by omega)
              rw [List.getElem_map] at hp0
              simp only [vlv, List.getElem?_cons_zero, Nat.add_zero] at hp0
              have gd1 : V.getD (i - 1) vlv0 = V[i - 1] := getDv (by omega)
              by_cases q2 : V[i].1 ≤ V[i - 1].1
              · simp only [go_sem, Nat.reduceBEq, Nat.reduceAdd, Nat.reduceMul, Nat.reduceSub, Nat.reduceLeDiff, Nat.le_refl, implies_true, Nat.reduceLT, reduceIte, decide_true, decide_false, true_and, and_true, reduceCtorEq, Nat.mul_one, Int.reduceToNat, Int.reduceLE, Int.reduceLT, Int.reduceAdd, Int.reduceSub, Int.reduceMul, Int.cast_ofNat_Int, cast_zero_int, cast_one_int, Nat.reducePow, Nat.reduceEqDiff, Nat.reduceMod, Nat.zero_add, Nat.sub_zero, Nat.add_zero, e1, e2, e16, e17, e18, decb q1, show (0 : Int) < i by omega, w1, show ((i - 1 : Nat) : Int) < V.length by omega, hK, hd, hp0, q2, ge_iff_le, List.append_assoc]
                exact bad (fun hh => by have := hh.1.2.1 i0; rw [gd, gd1] at this; omega)
              · simp only [go_sem, Nat.reduceBEq, Nat.reduceAdd, Nat.reduceMul, Nat.reduceSub, Nat.reduceLeDiff, Nat.le_refl, implies_true, Nat.reduceLT, reduceIte, decide_true, decide_false, true_and, and_true, reduceCtorEq, Nat.mul_one, Int.reduceToNat, Int.reduceLE, Int.reduceLT, Int.reduceAdd, Int.reduceSub, Int.reduceMul, Int.cast_ofNat_Int, cast_zero_int, cast_one_int, Nat.reducePow, Nat.reduceEqDiff, Nat.reduceMod, Nat.zero_add, Nat.sub_zero, Nat.add_zero, e1, e2, e16, e17, e18, decb q1, show (0 : Int) < i by omega, w1, show ((i - 1 : Nat) : Int) < V.length by omega, hK, hd, hp0, q2, ge_iff_le, List.append_assoc, hkx]
                by_cases k0 : kx < 0
                · simp only [go_sem, Nat.reduceBEq, Nat.reduceAdd, Nat.reduceMul, Nat.reduceSub, Nat.reduceLeDiff, Nat.le_refl, implies_true, Nat.reduceLT, reduceIte, decide_true, decide_false, true_and, and_true, reduceCtorEq, Nat.mul_one, Int.reduceToNat, Int.reduceLE, Int.reduceLT, Int.reduceAdd, Int.reduceSub, Int.reduceMul, Int.cast_ofNat_Int, cast_zero_int, cast_one_int, Nat.reducePow, Nat.reduceEqDiff, Nat.reduceMod, Nat.zero_add, Nat.sub_zero, Nat.add_zero, e1, e2, e16, e17, e18, decb q1, show (0 : Int) < i by omega, w1, show ((i - 1 : Nat) : Int) < V.length by omega, hK, hd, hp0, q2, ge_iff_le, k0, hkx, List.append_assoc]
                  exact bad (fun hh => by
                    have := hh.1.2.2.1
                    rw [gd, hkx] at this
                    omega)
                · obtain ⟨k, rfl⟩ := Int.eq_ofNat_of_zero_le (show 0 ≤ kx by omega)
                  obtain ⟨hkl, hkp⟩ := idxI_at hkx
                  have hkl' : k < (P.map pip).length := by simpa using hkl
                  obtain ⟨idp, op, KP, hvp, hKP, _, hdp, hbp, hrowp, hcp⟩ := sw.1.at hkl'
                  obtain rfl : pa = some ⟨idp, op, none⟩ := by simpa using hvp
                  rw [List.getElem_map] at hrowp
                  simp only [pip] at hrowp
                  have ends : isEnd P V[i].2.1 V[i].2.2.1 ↔ (P[k].2.1 = V[i].2.2.1 ∨ P[k].2.2.1 = V[i].2.2.1) := by
                    rw [isEnd, hkx, Int.toNat_natCast, getDp hkl]
                    exact ⟨fun hh => hh.2, fun hh => ⟨by omega, hh⟩⟩
                  have hz := othE_zero g1 hkl (nd := V[i].2.2.1)
                  by_cases n1 : V[i].2.2.1 < 1
                  · simp only [go_sem, Nat.reduceBEq, Nat.reduceAdd, Nat.reduceMul, Nat.reduceSub, Nat.reduceLeDiff, Nat.le_refl, implies_true, Nat.reduceLT, reduceIte, decide_true, decide_false, true_and, and_true, reduceCtorEq, Nat.mul_one, Int.reduceToNat, Int.reduceLE, Int.reduceLT, Int.reduceAdd, Int.reduceSub, Int.reduceMul, Int.cast_ofNat_Int, cast_zero_int, cast_one_int, Nat.reducePow, Nat.reduceEqDiff, Nat.reduceMod, Nat.zero_add, Nat.sub_zero, Nat.add_zero, e1, e2, e16, e17, e18, decb q1, show (0 : Int) < i by omega, w1, show ((i - 1 : Nat) : Int) < V.length by omega, hK, hd, hp0, q2, ge_iff_le, k0, hkx, n1, List.append_assoc]
                    exact bad (fun hh => by
                      have := hh.1.2.2
                      rw [gd] at this
                      exact (hz.2 (ends.1 this)).1 n1)
                  · simp only [go_sem, Nat.reduceBEq, Nat.reduceAdd, Nat.reduceMul, Nat.reduceSub, Nat.reduceLeDiff, Nat.le_refl, implies_true, Nat.reduceLT, reduceIte, decide_true, decide_false, true_and, and_true, reduceCtorEq, Nat.mul_one, Int.reduceToNat, Int.reduceLE, Int.reduceLT, Int.reduceAdd, Int.reduceSub, Int.reduceMul, Int.cast_ofNat_Int, cast_zero_int, cast_one_int, Nat.reducePow, Nat.reduceEqDiff, Nat.reduceMod, Nat.zero_add, Nat.sub_zero, Nat.add_zero, e1, e2, e16, e17, e18, decb q1, show (0 : Int) < i by omega, w1, show ((i - 1 : Nat) : Int) < V.length by omega, hK, hd, hp0, q2, ge_iff_le, k0, hkx, n1, show (k : Int) < P.length by omega, hKP, hdp, hbp, hrowp, List.append_assoc]
                    refine ⟨by kernel_rfl, (c_otherE _ _).use (fun _ m => m) ?_⟩
                    rintro _ _ ⟨rfl, ⟨t3, rfl⟩⟩
                    by_cases o1 : othE P[k] V[i].2.2.1 = 0
                    · simp only [go_sem, Nat.reduceBEq, Nat.reduceAdd, Nat.reduceMul, Nat.reduceSub, Nat.reduceLeDiff, Nat.le_refl, implies_true, Nat.reduceLT, reduceIte, decide_true, decide_false, true_and, and_true, reduceCtorEq, Nat.mul_one, Int.reduceToNat, Int.reduceLE, Int.reduceLT, Int.reduceAdd, Int.reduceSub, Int.reduceMul, Int.cast_ofNat_Int, cast_zero_int, cast_one_int, Nat.reducePow, Nat.reduceEqDiff, Nat.reduceMod, Nat.zero_add, Nat.sub_zero, Nat.add_zero, e1, e2, e16, e17, e18, decb q1, show (0 : Int) < i by omega, w1, show ((i - 1 : Nat) : Int) < V.length by omega, hK, hd, hp0, q2, ge_iff_le, k0, hkx, n1, show (othE P[k] V[i].2.2.1 == 0) = true by simpa using o1, show (k : Int) < P.length by omega, hKP, hdp, hbp, hrowp, List.append_assoc]
                      exact bad (fun hh => by
                        have := hh.1.2.2
                        rw [gd] at this
                        exact (hz.2 (ends.1 this)).2 o1)
                    · have e0 : isEnd P V[i].2.1 V[i].2.2.1 := ends.2 (hz.1 ⟨n1, o1⟩)
                      simp only [go_sem, Nat.reduceBEq, Nat.reduceAdd, Nat.reduceMul, Nat.reduceSub, Nat.reduceLeDiff, Nat.le_refl, implies_true, Nat.reduceLT, reduceIte, decide_true, decide_false, true_and, and_true, reduceCtorEq, Nat.mul_one, Int.reduceToNat, Int.reduceLE, Int.reduceLT, Int.reduceAdd, Int.reduceSub, Int.reduceMul, Int.cast_ofNat_Int, cast_zero_int, cast_one_int, Nat.reducePow, Nat.reduceEqDiff, Nat.reduceMod, Nat.zero_add, Nat.sub_zero, Nat.add_zero, e1, e2, e16, e17, e18, decb q1, show (0 : Int) < i by omega, w1, show ((i - 1 : Nat) : Int) < V.length by omega, hK, hd, hp0, q2, ge_iff_le, k0, hkx, n1, show (othE P[k] V[i].2.2.1 == 0) = false by simpa using o1, show (k : Int) < P.length by omega, hKP, hdp, hbp, hrowp, List.append_assoc, onSl_more hV0, hK, hesz, show i ≤ V.length by omega]
                      refine ⟨Nat.zero_le _, ?_⟩
                      refine ⟨by kernel_rfl, (c_vlvContains (by kernel_rfl) (fun x => decide (x.2.1 = V[i].2.1 ∧ x.2.2.1 = V[i].2.2.1)) _ (V.take i) (by rw [List.map_take]; exact slTake (s.mono (by simp)) (by simp) (by omega)) (by rw [List.length_take]; omega) (fun M h' x hp _ => c_sameEnd x V[i] _ (by rw [hget_prefix hp (by simp)]; simp only [go_sem, Nat.reduceBEq, Nat.reduceAdd, Nat.reduceMul, Nat.reduceSub, Nat.reduceLeDiff, Nat.le_refl, implies_true, Nat.reduceLT, reduceIte, decide_true, decide_false, true_and, and_true, reduceCtorEq, Nat.mul_one, Int.reduceToNat, Int.reduceLE, Int.reduceLT, Int.reduceAdd, Int.reduceSub, Int.reduceMul, Int.cast_ofNat_Int, cast_zero_int, cast_one_int, Nat.reducePow, Nat.reduceEqDiff, Nat.reduceMod, Nat.zero_add, Nat.sub_zero, Nat.add_zero, vlv]))).use (fun _ m => m) ?_⟩
                      rintro _ _ ⟨rfl, ⟨t4, rfl⟩⟩
                      cases hany : (V.take i).any (fun x => decide (x.2.1 = V[i].2.1 ∧ x.2.2.1 = V[i].2.2.1)) with
                      | true =>
                        simp only [go_sem, Nat.reduceBEq, Nat.reduceAdd, Nat.reduceMul, Nat.reduceSub, Nat.reduceLeDiff, Nat.le_refl, implies_true, Nat.reduceLT, reduceIte, decide_true, decide_false, true_and, and_true, reduceCtorEq, Nat.mul_one, Int.reduceToNat, Int.reduceLE, Int.reduceLT, Int.reduceAdd, Int.reduceSub, Int.reduceMul, Int.cast_ofNat_Int, cast_zero_int, cast_one_int, Nat.reducePow, Nat.reduceEqDiff, Nat.reduceMod, Nat.zero_add, Nat.sub_zero, Nat.add_zero, e1, e2, e16, e17, e18, List.append_assoc]
                        exact bad (fun hh => by
                          obtain ⟨x, hx, hp⟩ := List.any_eq_true.1 hany
                          obtain ⟨m, hm, rfl⟩ := List.mem_iff_getElem.1 hx
                          rw [List.length_take] at hm
                          have := hh.2 m (by omega)
                          rw [gd, getDv (by omega)] at this
                          rw [List.getElem_take] at hp
                          exact this (of_decide_eq_true hp))
                      | false =>
                        simp only [go_sem, Nat.reduceBEq, Nat.reduceAdd, Nat.reduceMul, Nat.reduceSub, Nat.reduceLeDiff, Nat.le_refl, implies_true, Nat.reduceLT, reduceIte, decide_true, decide_false, true_and, and_true, reduceCtorEq, Nat.mul_one, Int.reduceToNat, Int.reduceLE, Int.reduceLT, Int.reduceAdd, Int.reduceSub, Int.reduceMul, Int.cast_ofNat_Int, cast_zero_int, cast_one_int, Nat.reducePow, Nat.reduceEqDiff, Nat.reduceMod, Nat.zero_add, Nat.sub_zero, Nat.add_zero, e1, e2, e16, e17, e18, List.append_assoc]
                        refine ⟨hlt, _, congrArg _ ws, rfl, fun j hj => ?_⟩
                        by_cases ej : j = i
                        · subst ej
                          refine ⟨⟨by rw [gd]; exact q1, fun _ => by rw [gd, gd1]; omega, by rw [gd]; exact e0⟩, fun m hm hh => ?_⟩
                          rw [gd, getDv (by omega)] at hh
                          have := List.any_eq_false.1 hany V[m] (List.mem_take_iff_getElem.2 ⟨m, by omega, rfl⟩)
                          exact this (decide_eq_true hh)
                        · exact hok j (by omega)
            · simp only [go_sem, Nat.reduceBEq, Nat.reduceAdd, Nat.reduceMul, Nat.reduceSub, Nat.reduceLeDiff, Nat.le_refl, implies_true, Nat.reduceLT, reduceIte, decide_true, decide_false, true_and, and_true, reduceCtorEq, Nat.mul_one, Int.reduceToNat, Int.reduceLE, Int.reduceLT, Int.reduceAdd, Int.reduceSub, Int.reduceMul, Int.cast_ofNat_Int, cast_zero_int, cast_one_int, Nat.reducePow, Nat.reduceEqDiff, Nat.reduceMod, Nat.zero_add, Nat.sub_zero, Nat.add_zero, e1, e2, e16, e17, e18, decb q1, show ¬ (0 : Int) < i by omega, List.append_assoc, hkx]
              by_cases k0 : kx < 0
              · simp only [go_sem, Nat.reduceBEq, Nat.reduceAdd, Nat.reduceMul, Nat.reduceSub, Nat.reduceLeDiff, Nat.le_refl, implies_true, Nat.reduceLT, reduceIte, decide_true, decide_false, true_and, and_true, reduceCtorEq, Nat.mul_one, Int.reduceToNat, Int.reduceLE, Int.reduceLT, Int.reduceAdd, Int.reduceSub, Int.reduceMul, Int.cast_ofNat_Int, cast_zero_int, cast_one_int, Nat.reducePow, Nat.reduceEqDiff, Nat.reduceMod, Nat.zero_add, Nat.sub_zero, Nat.add_zero, e1, e2, e16, e17, e18, decb q1, show ¬ (0 : Int) < i by omega, k0, hkx, List.append_assoc]
                exact bad (fun hh => by
                  have := hh.1.2.2.1
                  rw [gd, hkx] at this
                  omega)
              · obtain ⟨k, rfl⟩ := Int.eq_ofNat_of_zero_le (show 0 ≤ kx by omega)
                obtain ⟨hkl, hkp⟩ := idxI_at hkx
                have hkl' : k < (P.map pip).length := by simpa using hkl
                obtain ⟨idp, op, KP, hvp, hKP, _, hdp, hbp, hrowp, hcp⟩ := sw.1.at hkl'
                obtain rfl : pa = some ⟨idp, op, none⟩ := by simpa using hvp
                rw [List.getElem_map] at hrowp
                simp only [pip] at hrowp
                have ends : isEnd P V[i].2.1 V[i].2.2.1 ↔ (P[k].2.1 = V[i].2.2.1 ∨ P[k].2.2.1 = V[i].2.2.1) := by
                  rw [isEnd, hkx, Int.toNat_natCast, getDp hkl]
                  exact ⟨fun hh => hh.2, fun hh => ⟨by omega, hh⟩⟩
                have hz := othE_zero g1 hkl (nd := V[i].2.2.1)
                by_cases n1 : V[i].2.2.1 < 1
                · simp only [go_sem, Nat.reduceBEq, Nat.reduceAdd, Nat.reduceMul, Nat.reduceSub, Nat.reduceLeDiff, Nat.le_refl, implies_true, Nat.reduceLT, reduceIte, decide_true, decide_false, true_and, and_true, reduceCtorEq, Nat.mul_one, Int.reduceToNat, Int.reduceLE, Int.reduceLT, Int.reduceAdd, Int.reduceSub, Int.reduceMul, Int.cast_ofNat_Int, cast_zero_int, cast_one_int, Nat.reducePow, Nat.reduceEqDiff, Nat.reduceMod, Nat.zero_add, Nat.sub_zero, Nat.add_zero, e1, e2, e16, e17, e18, decb q1, show ¬ (0 : Int) < i by omega, k0, hkx, n1, List.append_assoc]
                  exact bad (fun hh => by
                    have := hh.1.2.2
                    rw [gd] at this
                    exact (hz.2 (ends.1 this)).1 n1)
                · simp only [go_sem, Nat.reduceBEq, Nat.reduceAdd, Nat.reduceMul, Nat.reduceSub, Nat.reduceLeDiff, Nat.le_refl, implies_true, Nat.reduceLT, reduceIte, decide_true, decide_false, true_and, and_true, reduceCtorEq, Nat.mul_one, Int.reduceToNat, Int.reduceLE, Int.reduceLT, Int.reduceAdd, Int.reduceSub, Int.reduceMul, Int.cast_ofNat_Int, cast_zero_int, cast_one_int, Nat.reducePow, Nat.reduceEqDiff, Nat.reduceMod, Nat.zero_add, Nat.sub_zero, Nat.add_zero, e1, e2, e16, e17, e18, decb q1, show ¬ (0 : Int) < i by omega, k0, hkx, n1, show (k : Int) < P.length by omega, hKP, hdp, hbp, hrowp, List.append_assoc]
                  refine ⟨by kernel_rfl, (c_otherE _ _).use (fun _ m => m) ?_⟩
                  rintro _ _ ⟨rfl, ⟨t3, rfl⟩⟩
                  by_cases o1 : othE P[k] V[i].2.2.1 = 0
                  · simp only [go_sem, Nat.reduceBEq, Nat.reduceAdd, Nat.reduceMul, Nat.reduceSub, Nat.reduceLeDiff, Nat.le_refl, implies_true, Nat.reduceLT, reduceIte, decide_true, decide_false, true_and, and_true, reduceCtorEq, Nat.mul_one, Int.reduceToNat, Int.reduceLE, Int.reduceLT, Int.reduceAdd, Int.reduceSub, Int.reduceMul, Int.cast_ofNat_Int, cast_zero_int, cast_one_int, Nat.reducePow, Nat.reduceEqDiff, Nat.reduceMod, Nat.zero_add, Nat.sub_zero, Nat.add_zero, e1, e2, e16, e17, e18, decb q1, show ¬ (0 : Int) < i by omega, k0, hkx, n1, show (othE P[k] V[i].2.2.1 == 0) = true by simpa using o1, show (k : Int) < P.length by omega, hKP, hdp, hbp, hrowp, List.append_assoc]
                    exact bad (fun hh => by
                      have := hh.1.2.2
                      rw [gd] at this
                      exact (hz.2 (ends.1 this)).2 o1)
                  · have e0 : isEnd P V[i].2.1 V[i].2.2.1 := ends.2 (hz.1 ⟨n1, o1⟩)
                    simp only [go_sem, Nat.reduceBEq, Nat.reduceAdd, Nat.reduceMul, Nat.reduceSub, Nat.reduceLeDiff, Nat.le_refl, implies_true, Nat.reduceLT, reduceIte, decide_true, decide_false, true_and, and_true, reduceCtorEq, Nat.mul_one, Int.reduceToNat, Int.reduceLE, Int.reduceLT, Int.reduceAdd, Int.reduceSub, Int.reduceMul, Int.cast_ofNat_Int, cast_zero_int, cast_one_int, Nat.reducePow, Nat.reduceEqDiff, Nat.reduceMod, Nat.zero_add, Nat.sub_zero, Nat.add_zero, e1, e2, e16, e17, e18, decb q1, show ¬ (0 : Int) < i by omega, k0, hkx, n1, show (othE P[k] V[i].2.2.1 == 0) = false by simpa using o1, show (k : Int) < P.length by omega, hKP, hdp, hbp, hrowp, List.append_assoc, onSl_more hV0, hK, hesz, show i ≤ V.length by omega]
                    refine ⟨Nat.zero_le _, ?_⟩
                    refine ⟨by kernel_rfl, (c_vlvContains (by kernel_rfl) (fun x => decide (x.2.1 = V[i].2.1 ∧ x.2.2.1 = V[i].2.2.1)) _ (V.take i) (by rw [List.map_take]; exact slTake (s.mono (by simp)) (by simp) (by omega)) (by rw [List.length_take]; omega) (fun M h' x hp _ => c_sameEnd x V[i] _ (by rw [hget_prefix hp (by simp)]; simp only [go_sem, Nat.reduceBEq, Nat.reduceAdd, Nat.reduceMul, Nat.reduceSub, Nat.reduceLeDiff, Nat.le_refl, implies_true, Nat.reduceLT, reduceIte, decide_true, decide_false, true_and, and_true, reduceCtorEq, Nat.mul_one, Int.reduceToNat, Int.reduceLE, Int.reduceLT, Int.reduceAdd, Int.reduceSub, Int.reduceMul, Int.cast_ofNat_Int, cast_zero_int, cast_one_int, Nat.reducePow, Nat.reduceEqDiff, Nat.reduceMod, Nat.zero_add, Nat.sub_zero, Nat.add_zero, vlv]))).use (fun _ m => m) ?_⟩
                    rintro _ _ ⟨rfl, ⟨t4, rfl⟩⟩
                    cases hany : (V.take i).any (fun x => decide (x.2.1 = V[i].2.1 ∧ x.2.2.1 = V[i].2.2.1)) with
                    | true =>
                      simp only [go_sem, Nat.reduceBEq, Nat.reduceAdd, Nat.reduceMul, Nat.reduceSub, Nat.reduceLeDiff, Nat.le_refl, implies_true, Nat.reduceLT, reduceIte, decide_true, decide_false, true_and, and_true, reduceCtorEq, Nat.mul_one, Int.reduceToNat, Int.reduceLE, Int.reduceLT, Int.reduceAdd, Int.reduceSub, Int.reduceMul, Int.cast_ofNat_Int, cast_zero_int, cast_one_int, Nat.reducePow, Nat.reduceEqDiff, Nat.reduceMod, Nat.zero_add, Nat.sub_zero, Nat.add_zero, e1, e2, e16, e17, e18, List.append_assoc]
                      exact bad (fun hh => by
                        obtain ⟨x, hx, hp⟩ := List.any_eq_true.1 hany
                        obtain ⟨m, hm, rfl⟩ := List.mem_iff_getElem.1 hx
                        rw [List.length_take] at hm
                        have := hh.2 m (by omega)
                        rw [gd, getDv (by omega)] at this
                        rw [List.getElem_take] at hp
                        exact this (of_decide_eq_true hp))
                    | false =>
                      simp only [go_sem, Nat.reduceBEq, Nat.reduceAdd, Nat.reduceMul, Nat.reduceSub, Nat.reduceLeDiff, Nat.le_refl, implies_true, Nat.reduceLT, reduceIte, decide_true, decide_false, true_and, and_true, reduceCtorEq, Nat.mul_one, Int.reduceToNat, Int.reduceLE, Int.reduceLT, Int.reduceAdd, Int.reduceSub, Int.reduceMul, Int.cast_ofNat_Int, cast_zero_int, cast_one_int, Nat.reducePow, Nat.reduceEqDiff, Nat.reduceMod, Nat.zero_add, Nat.sub_zero, Nat.add_zero, e1, e2, e16, e17, e18, List.append_assoc]
                      refine ⟨hlt, _, congrArg _ ws, rfl, fun j hj => ?_⟩
                      by_cases ej : j = i
                      · subst ej
                        refine ⟨⟨by rw [gd]; exact q1, fun h0 => absurd h0 i0, by rw [gd]; exact e0⟩, fun m hm hh => ?_⟩
                        rw [gd, getDv (by omega)] at hh
                        have := List.any_eq_false.1 hany V[m] (List.mem_take_iff_getElem.2 ⟨m, by omega, rfl⟩)
                        exact this (decide_eq_true hh)
                      · exact hok j (by omega)
          · simp only [go_sem, Nat.reduceBEq, Nat.reduceAdd, Nat.reduceMul, Nat.reduceSub, Nat.reduceLeDiff, Nat.le_refl, implies_true, Nat.reduceLT, reduceIte, decide_true, decide_false, true_and, and_true, reduceCtorEq, Nat.mul_one, Int.reduceToNat, Int.reduceLE, Int.reduceLT, Int.reduceAdd, Int.reduceSub, Int.reduceMul, Int.cast_ofNat_Int, cast_zero_int, cast_one_int, Nat.reducePow, Nat.reduceEqDiff, Nat.reduceMod, Nat.zero_add, Nat.sub_zero, Nat.add_zero, e1, e2, e16, e17, e18, dect q1, List.append_assoc]
            exact bad (fun hh => q1 (by rw [← gd]; exact hh.1.1))
        · obtain rfl : i = V.length := by omega
          simp only [go_sem, Nat.reduceBEq, Nat.reduceAdd, Nat.reduceMul, Nat.reduceSub, Nat.reduceLeDiff, Nat.le_refl, implies_true, Nat.reduceLT, reduceIte, decide_true, decide_false, true_and, and_true, reduceCtorEq, Nat.mul_one, Int.reduceToNat, Int.reduceLE, Int.reduceLT, Int.reduceAdd, Int.reduceSub, Int.reduceMul, Int.cast_ofNat_Int, cast_zero_int, cast_one_int, Nat.reducePow, Nat.reduceEqDiff, Nat.reduceMod, Nat.zero_add, Nat.sub_zero, Nat.add_zero, e1, e2, e16, e17, e18, show ¬ ((V.length : Int) < V.length) by omega]
          exact congrArg Value.bool (decide_eq_true (p := valOk N P V) ⟨g1, by omega, hok⟩).symm
  · simp only [go_sem, Nat.reduceBEq, Nat.reduceAdd, Nat.reduceMul, Nat.reduceSub, Nat.reduceLeDiff, Nat.le_refl, implies_true, Nat.reduceLT, reduceIte, decide_true, decide_false, true_and, and_true, reduceCtorEq, Nat.mul_one, Int.reduceToNat, Int.reduceLE, Int.reduceLT, Int.reduceAdd, Int.reduceSub, Int.reduceMul, Int.cast_ofNat_Int, cast_zero_int, cast_one_int, Nat.reducePow, Nat.reduceEqDiff, Nat.reduceMod, Nat.zero_add, Nat.sub_zero, Nat.add_zero, dect g1]
    exact congrArg Value.bool (decide_eq_false (fun hh : valOk N P V => g1 hh.1)).symm
set_option maxHeartbeats 4000000 in
theorem c_l4Good {n : Nat} (v vv : Value) (N : Int) (P : List Pip) (V : List Vlv) (hv : NA n h v N P) (s : Sl h 4 vv (V.map vlv)) (hP : P.length ≤ 1048576) (hV : V.length ≤ 1048576) :
    vCall [] Tryd.prog M 30 [v, vv] h (fun r h' => r = .bool (decide (valOk N P V)) ∧ h <+: h') := by
  obtain ⟨w, rfl, sw⟩ := id hv
  obtain ⟨pa, rfl⟩ := Sl.len4 sw.1
  obtain ⟨a, ea, _, _⟩ := id s
  rw [List.length_map] at ea
  subst ea
  refine body_of mo Tryd.func30 rfl (by kernel_rfl) (Nat.le_of_ble_eq_true (by kernel_rfl)) rfl ?_
  simp only [go_sem, Nat.reduceBEq, Nat.reduceAdd, Nat.reduceMul, Nat.reduceSub, Nat.reduceLeDiff, Nat.le_refl, implies_true, Nat.reduceLT, reduceIte, decide_true, decide_false, true_and, and_true, reduceCtorEq, Nat.mul_one, Int.reduceToNat, Int.reduceLE, Int.reduceLT, Int.reduceAdd, Int.reduceSub, Int.reduceMul, Int.cast_ofNat_Int, cast_zero_int, cast_one_int, Nat.reducePow, Nat.reduceEqDiff, Nat.reduceMod, Nat.zero_add, Nat.sub_zero, Nat.add_zero]
  refine ⟨by kernel_rfl, (c_l2Good _ N P (hv.mono (by simp)) hP).use (fun _ m => m) ?_⟩
  rintro _ _ ⟨rfl, ⟨t, rfl⟩⟩
  by_cases g1 : netGood N P
  · simp only [go_sem, Nat.reduceBEq, Nat.reduceAdd, Nat.reduceMul, Nat.reduceSub, Nat.reduceLeDiff, Nat.le_refl, implies_true, Nat.reduceLT, reduceIte, decide_true, decide_false, true_and, and_true, reduceCtorEq, Nat.mul_one, Int.reduceToNat, Int.reduceLE, Int.reduceLT, Int.reduceAdd, Int.reduceSub, Int.reduceMul, Int.cast_ofNat_Int, cast_zero_int, cast_one_int, Nat.reducePow, Nat.reduceEqDiff, Nat.reduceMod, Nat.zero_add, Nat.sub_zero, Nat.add_zero, decb g1]
    by_cases g2 : (10 : Int) < V.length
    · simp only [go_sem, Nat.reduceBEq, Nat.reduceAdd, Nat.reduceMul, Nat.reduceSub, Nat.reduceLeDiff, Nat.le_refl, implies_true, Nat.reduceLT, reduceIte, decide_true, decide_false, true_and, and_true, reduceCtorEq, Nat.mul_one, Int.reduceToNat, Int.reduceLE, Int.reduceLT, Int.reduceAdd, Int.reduceSub, Int.reduceMul, Int.cast_ofNat_Int, cast_zero_int, cast_one_int, Nat.reducePow, Nat.reduceEqDiff, Nat.reduceMod, Nat.zero_add, Nat.sub_zero, Nat.add_zero, g2]
      exact congrArg Value.bool (decide_eq_false (fun hh : valOk N P V => by have := hh.2.1; omega)).symm
    · simp only [go_sem, Nat.reduceBEq, Nat.reduceAdd, Nat.reduceMul, Nat.reduceSub, Nat.reduceLeDiff, Nat.le_refl, implies_true, Nat.reduceLT, reduceIte, decide_true, decide_false, true_and, and_true, reduceCtorEq, Nat.mul_one, Int.reduceToNat, Int.reduceLE, Int.reduceLT, Int.reduceAdd, Int.reduceSub, Int.reduceMul, Int.cast_ofNat_Int, cast_zero_int, cast_one_int, Nat.reducePow, Nat.reduceEqDiff, Nat.reduceMod, Nat.zero_add, Nat.sub_zero, Nat.add_zero, g2]
      refine vLoop.count mo V.length (fun i e h' => ∃ t : Heap, e 1 = .slice a V.length 0 ∧ e 2 = .pointer (some ⟨h.length, 0, none⟩) ∧ e 5 = .int .i64 i ∧ h' = h ++ ⟨[.int .i64 N, .slice pa P.length 0], 2, .rw⟩ :: t ∧ ∀ j, j < i → vlvAt P V j) ?_ ?_
      · exact ⟨t, rfl, rfl, rfl, rfl, fun j hj => absurd hj (by omega)⟩
      · rintro i e _ hi ⟨t, e1, e2, e5, rfl, hok⟩
        simp only [go_sem, Nat.reduceBEq, Nat.reduceAdd, Nat.reduceMul, Nat.reduceSub, Nat.reduceLeDiff, Nat.le_refl, implies_true, Nat.reduceLT, reduceIte, decide_true, decide_false, true_and, and_true, reduceCtorEq, Nat.mul_one, Int.reduceToNat, Int.reduceLE, Int.reduceLT, Int.reduceAdd, Int.reduceSub, Int.reduceMul, Int.cast_ofNat_Int, cast_zero_int, cast_one_int, Nat.reducePow, Nat.reduceEqDiff, Nat.reduceMod, Nat.zero_add, Nat.sub_zero, Nat.add_zero, e1, e2, e5]
        by_cases hlt : i < V.length
        · have ws := wsucc hlt (by omega)
          have hlt' : i < (V.map vlv).length := by simpa using hlt
          obtain ⟨id, o, K, hv2, hK, _, hd, hall⟩ := s.all (Nat.zero_lt_of_lt hlt')
          obtain rfl : a = some ⟨id, o, none⟩ := by simpa using hv2
          obtain ⟨hb, hrow, _⟩ := hall i hlt'
          rw [List.getElem_map] at hrow
          simp only [vlv] at hrow
          have gd : V.getD i vlv0 = V[i] := getDv hlt
          have bad : ¬ vlvAt P V i → Value.bool false = Value.bool (decide (valOk N P V)) := val_bad hlt
          simp only [go_sem, Nat.reduceBEq, Nat.reduceAdd, Nat.reduceMul, Nat.reduceSub, Nat.reduceLeDiff, Nat.le_refl, implies_true, Nat.reduceLT, reduceIte, decide_true, decide_false, true_and, and_true, reduceCtorEq, Nat.mul_one, Int.reduceToNat, Int.reduceLE, Int.reduceLT, Int.reduceAdd, Int.reduceSub, Int.reduceMul, Int.cast_ofNat_Int, cast_zero_int, cast_one_int, Nat.reducePow, Nat.reduceEqDiff, Nat.reduceMod, Nat.zero_add, Nat.sub_zero, Nat.add_zero, e1, e2, e5, show (i : Int) < V.length by omega, hK, hd, hb, hrow]
          refine ⟨by kernel_rfl, (c_l2Find _ N P _ (hv.mono (by simp)) hP).use (fun _ m => m) ?_⟩
          rintro _ _ ⟨rfl, ⟨t2, rfl⟩⟩
          simp only [go_sem, Nat.reduceBEq, Nat.reduceAdd, Nat.reduceMul, Nat.reduceSub, Nat.reduceLeDiff, Nat.le_refl, implies_true, Nat.reduceLT, reduceIte, decide_true, decide_false, true_and, and_true, reduceCtorEq, Nat.mul_one, Int.reduceToNat, Int.reduceLE, Int.reduceLT, Int.reduceAdd, Int.reduceSub, Int.reduceMul, Int.cast_ofNat_Int, cast_zero_int, cast_one_int, Nat.reducePow, Nat.reduceEqDiff, Nat.reduceMod, Nat.zero_add, Nat.sub_zero, Nat.add_zero, e1, e2, e5, List.append_assoc]
          refine ⟨by kernel_rfl, (c_l1In _ _ _).use (fun _ m => m) ?_⟩
          rintro _ _ ⟨rfl, rfl⟩
          obtain ⟨kx, hkx⟩ : ∃ kx, pidx P V[i].2.1 = kx := ⟨_, rfl⟩
          by_cases q1 : 1 ≤ V[i].1 ∧ V[i].1 ≤ 99
          · by_cases i0 : 0 < i
            · have w1 : IntKind.i64.wrap ((i : Int) - 1) = ((i - 1 : Nat) : Int) := by rw [wrap64 (by omega)]; omega
              have hlt1 : i - 1 < (V.map vlv).length := by omega
              obtain ⟨_, _, hcell1⟩ := hall (i - 1) hlt1
              have hp0 := hcell1 0 (by omega)
              rw [List.getElem_map] at hp0
              simp only [vlv, List.getElem?_cons_zero, Nat.add_zero] at hp0
              have gd1 : V.getD (i - 1) vlv0 = V[i - 1] := getDv (by omega)
              by_cases q2 : V[i].1 ≤ V[i - 1].1
              · simp only [go_sem, Nat.reduceBEq, Nat.reduceAdd, Nat.reduceMul, Nat.reduceSub, Nat.reduceLeDiff, Nat.le_refl, implies_true, Nat.reduceLT, reduceIte, decide_true, decide_false, true_and, and_true, reduceCtorEq, Nat.mul_one, Int.reduceToNat, Int.reduceLE, Int.reduceLT, Int.reduceAdd, Int.reduceSub, Int.reduceMul, Int.cast_ofNat_Int, cast_zero_int, cast_one_int, Nat.reducePow, Nat.reduceEqDiff, Nat.reduceMod, Nat.zero_add, Nat.sub_zero, Nat.add_zero, e1, e2, e5, decb q1, show (0 : Int) < i by omega, w1, show ((i - 1 : Nat) : Int) < V.length by omega, hK, hd, hp0, q2, ge_iff_le, List.append_assoc]
                exact bad (fun hh => by have := hh.1.2.1 i0; rw [gd, gd1] at this; omega)
              · simp only [go_sem, Nat.reduceBEq, Nat.reduceAdd, Nat.reduceMul, Nat.reduceSub, Nat.reduceLeDiff, Nat.le_refl, implies_true, Nat.reduceLT, reduceIte, decide_true, decide_false, true_and, and_true, reduceCtorEq, Nat.mul_one, Int.reduceToNat, Int.reduceLE, Int.reduceLT, Int.reduceAdd, Int.reduceSub, Int.reduceMul, Int.cast_ofNat_Int, cast_zero_int, cast_one_int, Nat.reducePow, Nat.reduceEqDiff, Nat.reduceMod, Nat.zero_add, Nat.sub_zero, Nat.add_zero, e1, e2, e5, decb q1, show (0 : Int) < i by omega, w1, show ((i - 1 : Nat) : Int) < V.length by omega, hK, hd, hp0, q2, ge_iff_le, List.append_assoc, hkx]
                by_cases k0 : kx < 0
                · simp only [go_sem, Nat.reduceBEq, Nat.reduceAdd, Nat.reduceMul, Nat.reduceSub, Nat.reduceLeDiff, Nat.le_refl, implies_true, Nat.reduceLT, reduceIte, decide_true, decide_false, true_and, and_true, reduceCtorEq, Nat.mul_one, Int.reduceToNat, Int.reduceLE, Int.reduceLT, Int.reduceAdd, Int.reduceSub, Int.reduceMul, Int.cast_ofNat_Int, cast_zero_int, cast_one_int, Nat.reducePow, Nat.reduceEqDiff, Nat.reduceMod, Nat.zero_add, Nat.sub_zero, Nat.add_zero, e1, e2, e5, decb q1, show (0 : Int) < i by omega, w1, show ((i - 1 : Nat) : Int) < V.length by omega, hK, hd, hp0, q2, ge_iff_le, k0, hkx, List.append_assoc]
                  exact bad (fun hh => by
                    have := hh.1.2.2.1
                    rw [gd, hkx] at this
                    omega)
                · obtain ⟨k, rfl⟩ := Int.eq_ofNat_of_zero_le (show 0 ≤ kx by omega)
                  obtain ⟨hkl, hkp⟩ := idxI_at hkx
                  have hkl' : k < (P.map pip).length := by simpa using hkl
                  obtain ⟨idp, op, KP, hvp, hKP, _, hdp, hbp, hrowp, hcp⟩ := sw.1.at hkl'
                  obtain rfl : pa = some ⟨idp, op, none⟩ := by simpa using hvp
                  have p1 := hcp 1 (by omega)
                  have p2 := hcp 2 (by omega)
                  rw [List.getElem_map] at p1 p2
                  simp only [pip, List.getElem?_cons_zero, List.getElem?_cons_succ] at p1 p2
                  have ends : isEnd P V[i].2.1 V[i].2.2.1 ↔ (P[k].2.1 = V[i].2.2.1 ∨ P[k].2.2.1 = V[i].2.2.1) := by
                    rw [isEnd, hkx, Int.toNat_natCast, getDp hkl]
                    exact ⟨fun hh => hh.2, fun hh => ⟨by omega, hh⟩⟩
                  by_cases z1 : P[k].2.1 = V[i].2.2.1
                  · simp only [go_sem, Nat.reduceBEq, Nat.reduceAdd, Nat.reduceMul, Nat.reduceSub, Nat.reduceLeDiff, Nat.le_refl, implies_true, Nat.reduceLT, reduceIte, decide_true, decide_false, true_and, and_true, reduceCtorEq, Nat.mul_one, Int.reduceToNat, Int.reduceLE, Int.reduceLT, Int.reduceAdd, Int.reduceSub, Int.reduceMul, Int.cast_ofNat_Int, cast_zero_int, cast_one_int, Nat.reducePow, Nat.reduceEqDiff, Nat.reduceMod, Nat.zero_add, Nat.sub_zero, Nat.add_zero, e1, e2, e5, decb q1, show (0 : Int) < i by omega, w1, show ((i - 1 : Nat) : Int) < V.length by omega, hK, hd, hp0, q2, ge_iff_le, k0, hkx, show (k : Int) < P.length by omega, hKP, hdp, p1, p2, show (P[k].2.1 != V[i].2.2.1) = false by simpa using z1, List.append_assoc]
                    have hend : P[k].2.1 = V[i].2.2.1 ∨ P[k].2.2.1 = V[i].2.2.1 := .inl z1
                    have e0 : isEnd P V[i].2.1 V[i].2.2.1 := ends.2 hend
                    refine vLoop.count mo i (fun m e h' => ∃ t : Heap, e 1 = .slice (some ⟨id, o, none⟩) V.length 0 ∧ e 2 = .pointer (some ⟨h.length, 0, none⟩) ∧ e 5 = .int .i64 i ∧ e 8 = .int .i64 m ∧ (∃ j : Nat, e 6 = .pointer (some ⟨h.length + j, 0, none⟩) ∧ (⟨[.int .i64 N, .slice (some ⟨idp, op, none⟩) P.length 0], 2, .rw⟩ :: t)[j]? = some ⟨vlv V[i], 4, .rw⟩) ∧
                        h' = h ++ ⟨[.int .i64 N, .slice (some ⟨idp, op, none⟩) P.length 0], 2, .rw⟩ :: t ∧ ∀ q, q < m → ¬ ((V.getD q vlv0).2.1 = V[i].2.1 ∧ (V.getD q vlv0).2.2.1 = V[i].2.2.1)) ?_ ?_
                    · exact ⟨_, by simp [upd, e1], by simp [upd, e2], by simp [upd, e5], by simp [upd], ⟨t.length + 1, by simp [upd], by simp [vlv]⟩, rfl, fun q hq => absurd hq (by omega)⟩
                    · rintro m e _ hm ⟨t, e1, e2, e5, e8, ⟨j6, e6, hj6⟩, rfl, hno⟩
                      simp only [go_sem, Nat.reduceBEq, Nat.reduceAdd, Nat.reduceMul, Nat.reduceSub, Nat.reduceLeDiff, Nat.le_refl, implies_true, Nat.reduceLT, reduceIte, decide_true, decide_false, true_and, and_true, reduceCtorEq, Nat.mul_one, Int.reduceToNat, Int.reduceLE, Int.reduceLT, Int.reduceAdd, Int.reduceSub, Int.reduceMul, Int.cast_ofNat_Int, cast_zero_int, cast_one_int, Nat.reducePow, Nat.reduceEqDiff, Nat.reduceMod, Nat.zero_add, Nat.sub_zero, Nat.add_zero, e1, e2, e5, e6, e8]
                      by_cases hmlt : m < i
                      · have wsm := wsucc hmlt (by omega)
                        have hm' : m < (V.map vlv).length := by omega
                        obtain ⟨_, _, hcm⟩ := hall m hm'
                        have c1 := hcm 1 (by omega)
                        have c2 := hcm 2 (by omega)
                        rw [List.getElem_map] at c1 c2
                        simp only [vlv, List.getElem?_cons_zero, List.getElem?_cons_succ] at c1 c2
                        have gdm : V.getD m vlv0 = V[m] := getDv (by omega)
                        by_cases z1 : V[m].2.1 = V[i].2.1
                        · by_cases z2 : V[m].2.2.1 = V[i].2.2.1
                          · simp only [go_sem, Nat.reduceBEq, Nat.reduceAdd, Nat.reduceMul, Nat.reduceSub, Nat.reduceLeDiff, Nat.le_refl, implies_true, Nat.reduceLT, reduceIte, decide_true, decide_false, true_and, and_true, reduceCtorEq, Nat.mul_one, Int.reduceToNat, Int.reduceLE, Int.reduceLT, Int.reduceAdd, Int.reduceSub, Int.reduceMul, Int.cast_ofNat_Int, cast_zero_int, cast_one_int, Nat.reducePow, Nat.reduceEqDiff, Nat.reduceMod, Nat.zero_add, Nat.sub_zero, Nat.add_zero, e1, e2, e5, e6, e8, show (m : Int) < i by omega, show (m : Int) < V.length by omega, hK, hd, c1, c2, hj6, vlv, show (V[m].2.1 == V[i].2.1) = true by simpa using z1, show (V[m].2.2.1 == V[i].2.2.1) = true by simpa using z2]
                            exact bad (fun hh => by
                              have := hh.2 m hmlt
                              rw [gd, gdm] at this
                              exact this ⟨z1, z2⟩)
                          · simp only [go_sem, Nat.reduceBEq, Nat.reduceAdd, Nat.reduceMul, Nat.reduceSub, Nat.reduceLeDiff, Nat.le_refl, implies_true, Nat.reduceLT, reduceIte, decide_true, decide_false, true_and, and_true, reduceCtorEq, Nat.mul_one, Int.reduceToNat, Int.reduceLE, Int.reduceLT, Int.reduceAdd, Int.reduceSub, Int.reduceMul, Int.cast_ofNat_Int, cast_zero_int, cast_one_int, Nat.reducePow, Nat.reduceEqDiff, Nat.reduceMod, Nat.zero_add, Nat.sub_zero, Nat.add_zero, e1, e2, e5, e6, e8, show (m : Int) < i by omega, show (m : Int) < V.length by omega, hK, hd, c1, c2, hj6, vlv, show (V[m].2.1 == V[i].2.1) = true by simpa using z1, show (V[m].2.2.1 == V[i].2.2.1) = false by simpa using z2]
                            refine ⟨hmlt, t, congrArg _ wsm, ⟨j6, rfl, hj6⟩, rfl, fun q hq hh => ?_⟩
                            by_cases eq : q = m
                            · subst eq; rw [gdm] at hh; exact z2 hh.2
                            · exact hno q (by omega) hh
                        · simp only [go_sem, Nat.reduceBEq, Nat.reduceAdd, Nat.reduceMul, Nat.reduceSub, Nat.reduceLeDiff, Nat.le_refl, implies_true, Nat.reduceLT, reduceIte, decide_true, decide_false, true_and, and_true, reduceCtorEq, Nat.mul_one, Int.reduceToNat, Int.reduceLE, Int.reduceLT, Int.reduceAdd, Int.reduceSub, Int.reduceMul, Int.cast_ofNat_Int, cast_zero_int, cast_one_int, Nat.reducePow, Nat.reduceEqDiff, Nat.reduceMod, Nat.zero_add, Nat.sub_zero, Nat.add_zero, e1, e2, e5, e6, e8, show (m : Int) < i by omega, show (m : Int) < V.length by omega, hK, hd, c1, c2, hj6, vlv, show (V[m].2.1 == V[i].2.1) = false by simpa using z1]
                          refine ⟨hmlt, t, congrArg _ wsm, ⟨j6, rfl, hj6⟩, rfl, fun q hq hh => ?_⟩
                          by_cases eq : q = m
                          · subst eq; rw [gdm] at hh; exact z1 hh.1
                          · exact hno q (by omega) hh
                      · obtain rfl : m = i := by omega
                        simp only [go_sem, Nat.reduceBEq, Nat.reduceAdd, Nat.reduceMul, Nat.reduceSub, Nat.reduceLeDiff, Nat.le_refl, implies_true, Nat.reduceLT, reduceIte, decide_true, decide_false, true_and, and_true, reduceCtorEq, Nat.mul_one, Int.reduceToNat, Int.reduceLE, Int.reduceLT, Int.reduceAdd, Int.reduceSub, Int.reduceMul, Int.cast_ofNat_Int, cast_zero_int, cast_one_int, Nat.reducePow, Nat.reduceEqDiff, Nat.reduceMod, Nat.zero_add, Nat.sub_zero, Nat.add_zero, e1, e2, e5, e6, e8, show ¬ ((m : Int) < m) by omega]
                        refine ⟨hlt, t, congrArg _ ws, rfl, fun j hj => ?_⟩
                        by_cases ej : j = m
                        · subst ej
                          refine ⟨⟨by rw [gd]; exact q1, fun _ => by rw [gd, gd1]; omega, by rw [gd]; exact e0⟩, fun q hq hh => ?_⟩
                          rw [gd] at hh
                          exact hno q hq hh
                        · exact hok j (by omega)
                  · by_cases z2 : P[k].2.2.1 = V[i].2.2.1
                    · simp only [go_sem, Nat.reduceBEq, Nat.reduceAdd, Nat.reduceMul, Nat.reduceSub, Nat.reduceLeDiff, Nat.le_refl, implies_true, Nat.reduceLT, reduceIte, decide_true, decide_false, true_and, and_true, reduceCtorEq, Nat.mul_one, Int.reduceToNat, Int.reduceLE, Int.reduceLT, Int.reduceAdd, Int.reduceSub, Int.reduceMul, Int.cast_ofNat_Int, cast_zero_int, cast_one_int, Nat.reducePow, Nat.reduceEqDiff, Nat.reduceMod, Nat.zero_add, Nat.sub_zero, Nat.add_zero, e1, e2, e5, decb q1, show (0 : Int) < i by omega, w1, show ((i - 1 : Nat) : Int) < V.length by omega, hK, hd, hp0, q2, ge_iff_le, k0, hkx, show (k : Int) < P.length by omega, hKP, hdp, p1, p2, show (P[k].2.1 != V[i].2.2.1) = true by simpa using z1, show (P[k].2.2.1 != V[i].2.2.1) = false by simpa using z2, List.append_assoc]
                      have hend : P[k].2.1 = V[i].2.2.1 ∨ P[k].2.2.1 = V[i].2.2.1 := .inr z2
                      have e0 : isEnd P V[i].2.1 V[i].2.2.1 := ends.2 hend
                      refine vLoop.count mo i (fun m e h' => ∃ t : Heap, e 1 = .slice (some ⟨id, o, none⟩) V.length 0 ∧ e 2 = .pointer (some ⟨h.length, 0, none⟩) ∧ e 5 = .int .i64 i ∧ e 8 = .int .i64 m ∧ (∃ j : Nat, e 6 = .pointer (some ⟨h.length + j, 0, none⟩) ∧ (⟨[.int .i64 N, .slice (some ⟨idp, op, none⟩) P.length 0], 2, .rw⟩ :: t)[j]? = some ⟨vlv V[i], 4, .rw⟩) ∧
                          h' = h ++ ⟨[.int .i64 N, .slice (some ⟨idp, op, none⟩) P.length 0], 2, .rw⟩ :: t ∧ ∀ q, q < m → ¬ ((V.getD q vlv0).2.1 = V[i].2.1 ∧ (V.getD q vlv0).2.2.1 = V[i].2.2.1)) ?_ ?_
                      · exact ⟨_, by simp [upd, e1], by simp [upd, e2], by simp [upd, e5], by simp [upd], ⟨t.length + 1, by simp [upd], by simp [vlv]⟩, rfl, fun q hq => absurd hq (by omega)⟩
                      · rintro m e _ hm ⟨t, e1, e2, e5, e8, ⟨j6, e6, hj6⟩, rfl, hno⟩
                        simp only [go_sem, Nat.reduceBEq, Nat.reduceAdd, Nat.reduceMul, Nat.reduceSub, Nat.reduceLeDiff, Nat.le_refl, implies_true, Nat.reduceLT, reduceIte, decide_true, decide_false, true_and, and_true, reduceCtorEq, Nat.mul_one, Int.reduceToNat, Int.reduceLE, Int.reduceLT, Int.reduceAdd, Int.reduceSub, Int.reduceMul, Int.cast_ofNat_Int, cast_zero_int, cast_one_int, Nat.reducePow, Nat.reduceEqDiff, Nat.reduceMod, Nat.zero_add, Nat.sub_zero, Nat.add_zero, e1, e2, e5, e6, e8]
                        by_cases hmlt : m < i
                        · have wsm := wsucc hmlt (by omega)
                          have hm' : m < (V.map vlv).length := by omega
                          obtain ⟨_, _, hcm⟩ := hall m hm'
                          have c1 := hcm 1 (by omega)
                          have c2 := hcm 2 (by omega)
                          rw [List.getElem_map] at c1 c2
                          simp only [vlv, List.getElem?_cons_zero, List.getElem?_cons_succ] at c1 c2
                          have gdm : V.getD m vlv0 = V[m] := getDv (by omega)
                          by_cases z1 : V[m].2.1 = V[i].2.1
                          · by_cases z2 : V[m].2.2.1 = V[i].2.2.1
                            · simp only [go_sem, Nat.reduceBEq, Nat.reduceAdd, Nat.reduceMul, Nat.reduceSub, Nat.reduceLeDiff, Nat.le_refl, implies_true, Nat.reduceLT, reduceIte, decide_true, decide_false, true_and, and_true, reduceCtorEq, Nat.mul_one, Int.reduceToNat, Int.reduceLE, Int.reduceLT, Int.reduceAdd, Int.reduceSub, Int.reduceMul, Int.cast_ofNat_Int, cast_zero_int, cast_one_int, Nat.reducePow, Nat.reduceEqDiff, Nat.reduceMod, Nat.zero_add, Nat.sub_zero, Nat.add_zero, e1, e2, e5, e6, e8, show (m : Int) < i by omega, show (m : Int) < V.length by omega, hK, hd, c1, c2, hj6, vlv, show (V[m].2.1 == V[i].2.1) = true by simpa using z1, show (V[m].2.2.1 == V[i].2.2.1) = true by simpa using z2]
                              exact bad (fun hh => by
                                have := hh.2 m hmlt
                                rw [gd, gdm] at this
                                exact this ⟨z1, z2⟩)
                            · simp only [go_sem, Nat.reduceBEq, Nat.reduceAdd, Nat.reduceMul, Nat.reduceSub, Nat.reduceLeDiff, Nat.le_refl, implies_true, Nat.reduceLT, reduceIte, decide_true, decide_false, true_and, and_true, reduceCtorEq, Nat.mul_one, Int.reduceToNat, Int.reduceLE, Int.reduceLT, Int.reduceAdd, Int.reduceSub, Int.reduceMul, Int.cast_ofNat_Int, cast_zero_int, cast_one_int, Nat.reducePow, Nat.reduceEqDiff, Nat.reduceMod, Nat.zero_add, Nat.sub_zero, Nat.add_zero, e1, e2, e5, e6, e8, show (m : Int) < i by omega, show (m : Int) < V.length by omega, hK, hd, c1, c2, hj6, vlv, show (V[m].2.1 == V[i].2.1) = true by simpa using z1, show (V[m].2.2.1 == V[i].2.2.1) = false by simpa using z2]
                              refine ⟨hmlt, t, congrArg _ wsm, ⟨j6, rfl, hj6⟩, rfl, fun q hq hh => ?_⟩
                              by_cases eq : q = m
                              · subst eq; rw [gdm] at hh; exact z2 hh.2
                              · exact hno q (by omega) hh
                          · simp only [go_sem, Nat.reduceBEq, Nat.reduceAdd, Nat.reduceMul, Nat.reduceSub, Nat.reduceLeDiff, Nat.le_refl, implies_true, Nat.reduceLT, reduceIte, decide_true, decide_false, true_and, and_true, reduceCtorEq, Nat.mul_one, Int.reduceToNat, Int.reduceLE, Int.reduceLT, Int.reduceAdd, Int.reduceSub, Int.reduceMul, Int.cast_ofNat_Int, cast_zero_int, cast_one_int, Nat.reducePow, Nat.reduceEqDiff, Nat.reduceMod, Nat.zero_add, Nat.sub_zero, Nat.add_zero, e1, e2, e5, e6, e8, show (m : Int) < i by omega, show (m : Int) < V.length by omega, hK, hd, c1, c2, hj6, vlv, show (V[m].2.1 == V[i].2.1) = false by simpa using z1]
                            refine ⟨hmlt, t, congrArg _ wsm, ⟨j6, rfl, hj6⟩, rfl, fun q hq hh => ?_⟩
                            by_cases eq : q = m
                            · subst eq; rw [gdm] at hh; exact z1 hh.1
                            · exact hno q (by omega) hh
                        · obtain rfl : m = i := by omega
                          simp only [go_sem, Nat.reduceBEq, Nat.reduceAdd, Nat.reduceMul, Nat.reduceSub, Nat.reduceLeDiff, Nat.le_refl, implies_true, Nat.reduceLT, reduceIte, decide_true, decide_false, true_and, and_true, reduceCtorEq, Nat.mul_one, Int.reduceToNat, Int.reduceLE, Int.reduceLT, Int.reduceAdd, Int.reduceSub, Int.reduceMul, Int.cast_ofNat_Int, cast_zero_int, cast_one_int, Nat.reducePow, Nat.reduceEqDiff, Nat.reduceMod, Nat.zero_add, Nat.sub_zero, Nat.add_zero, e1, e2, e5, e6, e8, show ¬ ((m : Int) < m) by omega]
                          refine ⟨hlt, t, congrArg _ ws, rfl, fun j hj => ?_⟩
                          by_cases ej : j = m
                          · subst ej
                            refine ⟨⟨by rw [gd]; exact q1, fun _ => by rw [gd, gd1]; omega, by rw [gd]; exact e0⟩, fun q hq hh => ?_⟩
                            rw [gd] at hh
                            exact hno q hq hh
                          · exact hok j (by omega)
                    · simp only [go_sem, Nat.reduceBEq, Nat.reduceAdd, Nat.reduceMul, Nat.reduceSub, Nat.reduceLeDiff, Nat.le_refl, implies_true, Nat.reduceLT, reduceIte, decide_true, decide_false, true_and, and_true, reduceCtorEq, Nat.mul_one, Int.reduceToNat, Int.reduceLE, Int.reduceLT, Int.reduceAdd, Int.reduceSub, Int.reduceMul, Int.cast_ofNat_Int, cast_zero_int, cast_one_int, Nat.reducePow, Nat.reduceEqDiff, Nat.reduceMod, Nat.zero_add, Nat.sub_zero, Nat.add_zero, e1, e2, e5, decb q1, show (0 : Int) < i by omega, w1, show ((i - 1 : Nat) : Int) < V.length by omega, hK, hd, hp0, q2, ge_iff_le, k0, hkx, show (k : Int) < P.length by omega, hKP, hdp, p1, p2, show (P[k].2.1 != V[i].2.2.1) = true by simpa using z1, show (P[k].2.2.1 != V[i].2.2.1) = true by simpa using z2, List.append_assoc]
                      exact bad (fun hh => by
                        have := hh.1.2.2
                        rw [gd] at this
                        rcases ends.1 this with h1 | h1
                        · exact z1 h1
                        · exact z2 h1)
            · simp only [go_sem, Nat.reduceBEq, Nat.reduceAdd, Nat.reduceMul, Nat.reduceSub, Nat.reduceLeDiff, Nat.le_refl, implies_true, Nat.reduceLT, reduceIte, decide_true, decide_false, true_and, and_true, reduceCtorEq, Nat.mul_one, Int.reduceToNat, Int.reduceLE, Int.reduceLT, Int.reduceAdd, Int.reduceSub, Int.reduceMul, Int.cast_ofNat_Int, cast_zero_int, cast_one_int, Nat.reducePow, Nat.reduceEqDiff, Nat.reduceMod, Nat.zero_add, Nat.sub_zero, Nat.add_zero, e1, e2, e5, decb q1, show ¬ (0 : Int) < i by omega, List.append_assoc, hkx]
              by_cases k0 : kx < 0
              · simp only [go_sem, Nat.reduceBEq, Nat.reduceAdd, Nat.reduceMul, Nat.reduceSub, Nat.reduceLeDiff, Nat.le_refl, implies_true, Nat.reduceLT, reduceIte, decide_true, decide_false, true_and, and_true, reduceCtorEq, Nat.mul_one, Int.reduceToNat, Int.reduceLE, Int.reduceLT, Int.reduceAdd, Int.reduceSub, Int.reduceMul, Int.cast_ofNat_Int, cast_zero_int, cast_one_int, Nat.reducePow, Nat.reduceEqDiff, Nat.reduceMod, Nat.zero_add, Nat.sub_zero, Nat.add_zero, e1, e2, e5, decb q1, show ¬ (0 : Int) < i by omega, k0, hkx, List.append_assoc]
                exact bad (fun hh => by
                  have := hh.1.2.2.1
                  rw [gd, hkx] at this
                  omega)
              · obtain ⟨k, rfl⟩ := Int.eq_ofNat_of_zero_le (show 0 ≤ kx by omega)
                obtain ⟨hkl, hkp⟩ := idxI_at hkx
                have hkl' : k < (P.map pip).length := by simpa using hkl
                obtain ⟨idp, op, KP, hvp, hKP, _, hdp, hbp, hrowp, hcp⟩ := sw.1.at hkl'
                obtain rfl : pa = some ⟨idp, op, none⟩ := by simpa using hvp
                have p1 := hcp 1 (by omega)
                have p2 := hcp 2 (by omega)
                rw [List.getElem_map] at p1 p2
                simp only [pip, List.getElem?_cons_zero, List.getElem?_cons_succ] at p1 p2
                have ends : isEnd P V[i].2.1 V[i].2.2.1 ↔ (P[k].2.1 = V[i].2.2.1 ∨ P[k].2.2.1 = V[i].2.2.1) := by
                  rw [isEnd, hkx, Int.toNat_natCast, getDp hkl]
                  exact ⟨fun hh => hh.2, fun hh => ⟨by omega, hh⟩⟩
                by_cases z1 : P[k].2.1 = V[i].2.2.1
                · simp only [go_sem, Nat.reduceBEq, Nat.reduceAdd, Nat.reduceMul, Nat.reduceSub, Nat.reduceLeDiff, Nat.le_refl, implies_true, Nat.reduceLT, reduceIte, decide_true, decide_false, true_and, and_true, reduceCtorEq, Nat.mul_one, Int.reduceToNat, Int.reduceLE, Int.reduceLT, Int.reduceAdd, Int.reduceSub, Int.reduceMul, Int.cast_ofNat_Int, cast_zero_int, cast_one_int, Nat.reducePow, Nat.reduceEqDiff, Nat.reduceMod, Nat.zero_add, Nat.sub_zero, Nat.add_zero, e1, e2, e5, decb q1, show ¬ (0 : Int) < i by omega, k0, hkx, show (k : Int) < P.length by omega, hKP, hdp, p1, p2, show (P[k].2.1 != V[i].2.2.1) = false by simpa using z1, List.append_assoc]
                  have hend : P[k].2.1 = V[i].2.2.1 ∨ P[k].2.2.1 = V[i].2.2.1 := .inl z1
                  have e0 : isEnd P V[i].2.1 V[i].2.2.1 := ends.2 hend
                  refine vLoop.count mo i (fun m e h' => ∃ t : Heap, e 1 = .slice (some ⟨id, o, none⟩) V.length 0 ∧ e 2 = .pointer (some ⟨h.length, 0, none⟩) ∧ e 5 = .int .i64 i ∧ e 8 = .int .i64 m ∧ (∃ j : Nat, e 6 = .pointer (some ⟨h.length + j, 0, none⟩) ∧ (⟨[.int .i64 N, .slice (some ⟨idp, op, none⟩) P.length 0], 2, .rw⟩ :: t)[j]? = some ⟨vlv V[i], 4, .rw⟩) ∧
                      h' = h ++ ⟨[.int .i64 N, .slice (some ⟨idp, op, none⟩) P.length 0], 2, .rw⟩ :: t ∧ ∀ q, q < m → ¬ ((V.getD q vlv0).2.1 = V[i].2.1 ∧ (V.getD q vlv0).2.2.1 = V[i].2.2.1)) ?_ ?_
                  · exact ⟨_, by simp [upd, e1], by simp [upd, e2], by simp [upd, e5], by simp [upd], ⟨t.length + 1, by simp [upd], by simp [vlv]⟩, rfl, fun q hq => absurd hq (by omega)⟩
                  · rintro m e _ hm ⟨t, e1, e2, e5, e8, ⟨j6, e6, hj6⟩, rfl, hno⟩
                    simp only [go_sem, Nat.reduceBEq, Nat.reduceAdd, Nat.reduceMul, Nat.reduceSub, Nat.reduceLeDiff, Nat.le_refl, implies_true, Nat.reduceLT, reduceIte, decide_true, decide_false, true_and, and_true, reduceCtorEq, Nat.mul_one, Int.reduceToNat, Int.reduceLE, Int.reduceLT, Int.reduceAdd, Int.reduceSub, Int.reduceMul, Int.cast_ofNat_Int, cast_zero_int, cast_one_int, Nat.reducePow, Nat.reduceEqDiff, Nat.reduceMod, Nat.zero_add, Nat.sub_zero, Nat.add_zero, e1, e2, e5, e6, e8]
                    by_cases hmlt : m < i
                    · have wsm := wsucc hmlt (by omega)
                      have hm' : m < (V.map vlv).length := by omega
                      obtain ⟨_, _, hcm⟩ := hall m hm'
                      have c1 := hcm 1 (by omega)
                      have c2 := hcm 2 (by omega)
                      rw [List.getElem_map] at c1 c2
                      simp only [vlv, List.getElem?_cons_zero, List.getElem?_cons_succ] at c1 c2
                      have gdm : V.getD m vlv0 = V[m] := getDv (by omega)
                      by_cases z1 : V[m].2.1 = V[i].2.1
                      · by_cases z2 : V[m].2.2.1 = V[i].2.2.1
                        · simp only [go_sem, Nat.reduceBEq, Nat.reduceAdd, Nat.reduceMul, Nat.reduceSub, Nat.reduceLeDiff, Nat.le_refl, implies_true, Nat.reduceLT, reduceIte, decide_true, decide_false, true_and, and_true, reduceCtorEq, Nat.mul_one, Int.reduceToNat, Int.reduceLE, Int.reduceLT, Int.reduceAdd, Int.reduceSub, Int.reduceMul, Int.cast_ofNat_Int, cast_zero_int, cast_one_int, Nat.reducePow, Nat.reduceEqDiff, Nat.reduceMod, Nat.zero_add, Nat.sub_zero, Nat.add_zero, e1, e2, e5, e6, e8, show (m : Int) < i by omega, show (m : Int) < V.length by omega, hK, hd, c1, c2, hj6, vlv, show (V[m].2.1 == V[i].2.1) = true by simpa using z1, show (V[m].2.2.1 == V[i].2.2.1) = true by simpa using z2]
                          exact bad (fun hh => by
                            have := hh.2 m hmlt
                            rw [gd, gdm] at this
                            exact this ⟨z1, z2⟩)
                        · simp only [go_sem, Nat.reduceBEq, Nat.reduceAdd, Nat.reduceMul, Nat.reduceSub, Nat.reduceLeDiff, Nat.le_refl, implies_true, Nat.reduceLT, reduceIte, decide_true, decide_false, true_and, and_true, reduceCtorEq, Nat.mul_one, Int.reduceToNat, Int.reduceLE, Int.reduceLT, Int.reduceAdd, Int.reduceSub, Int.reduceMul, Int.cast_ofNat_Int, cast_zero_int, cast_one_int, Nat.reducePow, Nat.reduceEqDiff, Nat.reduceMod, Nat.zero_add, Nat.sub_zero, Nat.add_zero, e1, e2, e5, e6, e8, show (m : Int) < i by omega, show (m : Int) < V.length by omega, hK, hd, c1, c2, hj6, vlv, show (V[m].2.1 == V[i].2.1) = true by simpa using z1, show (V[m].2.2.1 == V[i].2.2.1) = false by simpa using z2]
                          refine ⟨hmlt, t, congrArg _ wsm, ⟨j6, rfl, hj6⟩, rfl, fun q hq hh => ?_⟩
                          by_cases eq : q = m
                          · subst eq; rw [gdm] at hh; exact z2 hh.2
                          · exact hno q (by omega) hh
                      · simp only [go_sem, Nat.reduceBEq, Nat.reduceAdd, Nat.reduceMul, Nat.reduceSub, Nat.reduceLeDiff, Nat.le_refl, implies_true, Nat.reduceLT, reduceIte, decide_true, decide_false, true_and, and_true, reduceCtorEq, Nat.mul_one, Int.reduceToNat, Int.reduceLE, Int.reduceLT, Int.reduceAdd, Int.reduceSub, Int.reduceMul, Int.cast_ofNat_Int, cast_zero_int, cast_one_int, Nat.reducePow, Nat.reduceEqDiff, Nat.reduceMod, Nat.zero_add, Nat.sub_zero, Nat.add_zero, e1, e2, e5, e6, e8, show (m : Int) < i by omega, show (m : Int) < V.length by omega, hK, hd, c1, c2, hj6, vlv, show (V[m].2.1 == V[i].2.1) = false by simpa using z1]
                        refine ⟨hmlt, t, congrArg _ wsm, ⟨j6, rfl, hj6⟩, rfl, fun q hq hh => ?_⟩
                        by_cases eq : q = m
                        · subst eq; rw [gdm] at hh; exact z1 hh.1
                        · exact hno q (by omega) hh
                    · obtain rfl : m = i := by omega
                      simp only [go_sem, Nat.reduceBEq, Nat.reduceAdd, Nat.reduceMul, Nat.reduceSub, Nat.reduceLeDiff, Nat.le_refl, implies_true, Nat.reduceLT, reduceIte, decide_true, decide_false, true_and, and_true, reduceCtorEq, Nat.mul_one, Int.reduceToNat, Int.reduceLE, Int.reduceLT, Int.reduceAdd, Int.reduceSub, Int.reduceMul, Int.cast_ofNat_Int, cast_zero_int, cast_one_int, Nat.reducePow, Nat.reduceEqDiff, Nat.reduceMod, Nat.zero_add, Nat.sub_zero, Nat.add_zero, e1, e2, e5, e6, e8, show ¬ ((m : Int) < m) by omega]
                      refine ⟨hlt, t, congrArg _ ws, rfl, fun j hj => ?_⟩
                      by_cases ej : j = m
                      · subst ej
                        refine ⟨⟨by rw [gd]; exact q1, fun h0 => absurd h0 i0, by rw [gd]; exact e0⟩, fun q hq hh => ?_⟩
                        rw [gd] at hh
                        exact hno q hq hh
                      · exact hok j (by omega)
                · by_cases z2 : P[k].2.2.1 = V[i].2.2.1
                  · simp only [go_sem, Nat.reduceBEq, Nat.reduceAdd, Nat.reduceMul, Nat.reduceSub, Nat.reduceLeDiff, Nat.le_refl, implies_true, Nat.reduceLT, reduceIte, decide_true, decide_false, true_and, and_true, reduceCtorEq, Nat.mul_one, Int.reduceToNat, Int.reduceLE, Int.reduceLT, Int.reduceAdd, Int.reduceSub, Int.reduceMul, Int.cast_ofNat_Int, cast_zero_int, cast_one_int, Nat.reducePow, Nat.reduceEqDiff, Nat.reduceMod, Nat.zero_add, Nat.sub_zero, Nat.add_zero, e1, e2, e5, decb q1, show ¬ (0 : Int) < i by omega, k0, hkx, show (k : Int) < P.length by omega, hKP, hdp, p1, p2, show (P[k].2.1 != V[i].2.2.1) = true by simpa using z1, show (P[k].2.2.1 != V[i].2.2.1) = false by simpa using z2, List.append_assoc]
                    have hend : P[k].2.1 = V[i].2.2.1 ∨ P[k].2.2.1 = V[i].2.2.1 := .inr z2
                    have e0 : isEnd P V[i].2.1 V[i].2.2.1 := ends.2 hend
                    refine vLoop.count mo i (fun m e h' => ∃ t : Heap, e 1 = .slice (some ⟨id, o, none⟩) V.length 0 ∧ e 2 = .pointer (some ⟨h.length, 0, none⟩) ∧ e 5 = .int .i64 i ∧ e 8 = .int .i64 m ∧ (∃ j : Nat, e 6 = .pointer (some ⟨h.length + j, 0, none⟩) ∧ (⟨[.int .i64 N, .slice (some ⟨idp, op, none⟩) P.length 0], 2, .rw⟩ :: t)[j]? = some ⟨vlv V[i], 4, .rw⟩) ∧
                        h' = h ++ ⟨[.int .i64 N, .slice (some ⟨idp, op, none⟩) P.length 0], 2, .rw⟩ :: t ∧ ∀ q, q < m → ¬ ((V.getD q vlv0).2.1 = V[i].2.1 ∧ (V.getD q vlv0).2.2.1 = V[i].2.2.1)) ?_ ?_
                    · exact ⟨_, by simp [upd, e1], by simp [upd, e2], by simp [upd, e5], by simp [upd], ⟨t.length + 1, by simp [upd], by simp [vlv]⟩, rfl, fun q hq => absurd hq (by omega)⟩
                    · rintro m e _ hm ⟨t, e1, e2, e5, e8, ⟨j6, e6, hj6⟩, rfl, hno⟩
                      simp only [go_sem, Nat.reduceBEq, Nat.reduceAdd, Nat.reduceMul, Nat.reduceSub, Nat.reduceLeDiff, Nat.le_refl, implies_true, Nat.reduceLT, reduceIte, decide_true, decide_false, true_and, and_true, reduceCtorEq, Nat.mul_one, Int.reduceToNat, Int.reduceLE, Int.reduceLT, Int.reduceAdd, Int.reduceSub, Int.reduceMul, Int.cast_ofNat_Int, cast_zero_int, cast_one_int, Nat.reducePow, Nat.reduceEqDiff, Nat.reduceMod, Nat.zero_add, Nat.sub_zero, Nat.add_zero, e1, e2, e5, e6, e8]
                      by_cases hmlt : m < i
                      · have wsm := wsucc hmlt (by omega)
                        have hm' : m < (V.map vlv).length := by omega
                        obtain ⟨_, _, hcm⟩ := hall m hm'
                        have c1 := hcm 1 (by omega)
                        have c2 := hcm 2 (by omega)
                        rw [List.getElem_map] at c1 c2
                        simp only [vlv, List.getElem?_cons_zero, List.getElem?_cons_succ] at c1 c2
                        have gdm : V.getD m vlv0 = V[m] := getDv (by omega)
                        by_cases z1 : V[m].2.1 = V[i].2.1
                        · by_cases z2 : V[m].2.2.1 = V[i].2.2.1
                          · simp only [go_sem, Nat.reduceBEq, Nat.reduceAdd, Nat.reduceMul, Nat.reduceSub, Nat.reduceLeDiff, Nat.le_refl, implies_true, Nat.reduceLT, reduceIte, decide_true, decide_false, true_and, and_true, reduceCtorEq, Nat.mul_one, Int.reduceToNat, Int.reduceLE, Int.reduceLT, Int.reduceAdd, Int.reduceSub, Int.reduceMul, Int.cast_ofNat_Int, cast_zero_int, cast_one_int, Nat.reducePow, Nat.reduceEqDiff, Nat.reduceMod, Nat.zero_add, Nat.sub_zero, Nat.add_zero, e1, e2, e5, e6, e8, show (m : Int) < i by omega, show (m : Int) < V.length by omega, hK, hd, c1, c2, hj6, vlv, show (V[m].2.1 == V[i].2.1) = true by simpa using z1, show (V[m].2.2.1 == V[i].2.2.1) = true by simpa using z2]
                            exact bad (fun hh => by
                              have := hh.2 m hmlt
                              rw [gd, gdm] at this
                              exact this ⟨z1, z2⟩)
                          · simp only [go_sem, Nat.reduceBEq, Nat.reduceAdd, Nat.reduceMul, Nat.reduceSub, Nat.reduceLeDiff, Nat.le_refl, implies_true, Nat.reduceLT, reduceIte, decide_true, decide_false, true_and, and_true, reduceCtorEq, Nat.mul_one, Int.reduceToNat, Int.reduceLE, Int.reduceLT, Int.reduceAdd, Int.reduceSub, Int.reduceMul, Int.cast_ofNat_Int, cast_zero_int, cast_one_int, Nat.reducePow, Nat.reduceEqDiff, Nat.reduceMod, Nat.zero_add, Nat.sub_zero, Nat.add_zero, e1, e2, e5, e6, e8, show (m : Int) < i by omega, show (m : Int) < V.length by omega, hK, hd, c1, c2, hj6, vlv, show (V[m].2.1 == V[i].2.1) = true by simpa using z1, show (V[m].2.2.1 == V[i].2.2.1) = false by simpa using z2]
                            refine ⟨hmlt, t, congrArg _ wsm, ⟨j6, rfl, hj6⟩, rfl, fun q hq hh => ?_⟩
                            by_cases eq : q = m
                            · subst eq; rw [gdm] at hh; exact z2 hh.2
                            · exact hno q (by omega) hh
                        · simp only [go_sem, Nat.reduceBEq, Nat.reduceAdd, Nat.reduceMul, Nat.reduceSub, Nat.reduceLeDiff, Nat.le_refl, implies_true, Nat.reduceLT, reduceIte, decide_true, decide_false, true_and, and_true, reduceCtorEq, Nat.mul_one, Int.reduceToNat, Int.reduceLE, Int.reduceLT, Int.reduceAdd, Int.reduceSub, Int.reduceMul, Int.cast_ofNat_Int, cast_zero_int, cast_one_int, Nat.reducePow, Nat.reduceEqDiff, Nat.reduceMod, Nat.zero_add, Nat.sub_zero, Nat.add_zero, e1, e2, e5, e6, e8, show (m : Int) < i by omega, show (m : Int) < V.length by omega, hK, hd, c1, c2, hj6, vlv, show (V[m].2.1 == V[i].2.1) = false by simpa using z1]
                          refine ⟨hmlt, t, congrArg _ wsm, ⟨j6, rfl, hj6⟩, rfl, fun q hq hh => ?_⟩
                          by_cases eq : q = m
                          · subst eq; rw [gdm] at hh; exact z1 hh.1
                          · exact hno q (by omega) hh
                      · obtain rfl : m = i := by omega
                        simp only [go_sem, Nat.reduceBEq, Nat.reduceAdd, Nat.reduceMul, Nat.reduceSub, Nat.reduceLeDiff, Nat.le_refl, implies_true, Nat.reduceLT, reduceIte, decide_true, decide_false, true_and, and_true, reduceCtorEq, Nat.mul_one, Int.reduceToNat, Int.reduceLE, Int.reduceLT, Int.reduceAdd, Int.reduceSub, Int.reduceMul, Int.cast_ofNat_Int, cast_zero_int, cast_one_int, Nat.reducePow, Nat.reduceEqDiff, Nat.reduceMod, Nat.zero_add, Nat.sub_zero, Nat.add_zero, e1, e2, e5, e6, e8, show ¬ ((m : Int) < m) by omega]
                        refine ⟨hlt, t, congrArg _ ws, rfl, fun j hj => ?_⟩
                        by_cases ej : j = m
                        · subst ej
                          refine ⟨⟨by rw [gd]; exact q1, fun h0 => absurd h0 i0, by rw [gd]; exact e0⟩, fun q hq hh => ?_⟩
                          rw [gd] at hh
                          exact hno q hq hh
                        · exact hok j (by omega)
                  · simp only [go_sem, Nat.reduceBEq, Nat.reduceAdd, Nat.reduceMul, Nat.reduceSub, Nat.reduceLeDiff, Nat.le_refl, implies_true, Nat.reduceLT, reduceIte, decide_true, decide_false, true_and, and_true, reduceCtorEq, Nat.mul_one, Int.reduceToNat, Int.reduceLE, Int.reduceLT, Int.reduceAdd, Int.reduceSub, Int.reduceMul, Int.cast_ofNat_Int, cast_zero_int, cast_one_int, Nat.reducePow, Nat.reduceEqDiff, Nat.reduceMod, Nat.zero_add, Nat.sub_zero, Nat.add_zero, e1, e2, e5, decb q1, show ¬ (0 : Int) < i by omega, k0, hkx, show (k : Int) < P.length by omega, hKP, hdp, p1, p2, show (P[k].2.1 != V[i].2.2.1) = true by simpa using z1, show (P[k].2.2.1 != V[i].2.2.1) = true by simpa using z2, List.append_assoc]
                    exact bad (fun hh => by
                      have := hh.1.2.2
                      rw [gd] at this
                      rcases ends.1 this with h1 | h1
                      · exact z1 h1
                      · exact z2 h1)
          · simp only [go_sem, Nat.reduceBEq, Nat.reduceAdd, Nat.reduceMul, Nat.reduceSub, Nat.reduceLeDiff, Nat.le_refl, implies_true, Nat.reduceLT, reduceIte, decide_true, decide_false, true_and, and_true, reduceCtorEq, Nat.mul_one, Int.reduceToNat, Int.reduceLE, Int.reduceLT, Int.reduceAdd, Int.reduceSub, Int.reduceMul, Int.cast_ofNat_Int, cast_zero_int, cast_one_int, Nat.reducePow, Nat.reduceEqDiff, Nat.reduceMod, Nat.zero_add, Nat.sub_zero, Nat.add_zero, e1, e2, e5, dect q1, List.append_assoc]
            exact bad (fun hh => q1 (by rw [← gd]; exact hh.1.1))
        · obtain rfl : i = V.length := by omega
          simp only [go_sem, Nat.reduceBEq, Nat.reduceAdd, Nat.reduceMul, Nat.reduceSub, Nat.reduceLeDiff, Nat.le_refl, implies_true, Nat.reduceLT, reduceIte, decide_true, decide_false, true_and, and_true, reduceCtorEq, Nat.mul_one, Int.reduceToNat, Int.reduceLE, Int.reduceLT, Int.reduceAdd, Int.reduceSub, Int.reduceMul, Int.cast_ofNat_Int, cast_zero_int, cast_one_int, Nat.reducePow, Nat.reduceEqDiff, Nat.reduceMod, Nat.zero_add, Nat.sub_zero, Nat.add_zero, e1, e2, e5, show ¬ ((V.length : Int) < V.length) by omega]
          exact congrArg Value.bool (decide_eq_true (p := valOk N P V) ⟨g1, by omega, hok⟩).symm
  · simp only [go_sem, Nat.reduceBEq, Nat.reduceAdd, Nat.reduceMul, Nat.reduceSub, Nat.reduceLeDiff, Nat.le_refl, implies_true, Nat.reduceLT, reduceIte, decide_true, decide_false, true_and, and_true, reduceCtorEq, Nat.mul_one, Int.reduceToNat, Int.reduceLE, Int.reduceLT, Int.reduceAdd, Int.reduceSub, Int.reduceMul, Int.cast_ofNat_Int, cast_zero_int, cast_one_int, Nat.reducePow, Nat.reduceEqDiff, Nat.reduceMod, Nat.zero_add, Nat.sub_zero, Nat.add_zero, dect g1]
    exact congrArg Value.bool (decide_eq_false (fun hh : valOk N P V => g1 hh.1)).symm
end
end Go.Proofs.YtedidddimikjhaaDoor
