
/- How far the nodes of a network are: the program's search. No condition. -/
import Derived.Test.YtjgekhahklidcaaNet
namespace Go.Proofs.Ytjgekhahklidcaa
open Go.HH
set_option linter.unusedSimpArgs false
set_option linter.unusedVariables false

/-- The other end of a pipe, 0 if the node is none of its ends. -/
def oth (p : Pip) (x : Int) : Int := if x = p.2.1 then p.2.2.1 else if x = p.2.2.1 then p.2.1 else 0
/-- The pipes but one. -/
def but (P : List Pip) (wo : Int) : List Pip := P.filter fun p => decide (p.1 ≠ wo)
theorem ends.but {N : Int} {P : List Pip} (he : ends N P) (wo : Int) : ends N (but P wo) := fun p hp => he p (List.mem_filter.1 hp).1
theorem but_none {P : List Pip} {wo : Int} (h : ∀ p ∈ P, p.1 ≠ wo) : but P wo = P := by
  unfold but; rw [List.filter_eq_self]; intro p hp; simpa using h p hp
theorem oth_pos {N : Int} {P : List Pip} (he : ends N P) {p : Pip} (hp : p ∈ P) {x : Int} (h : 0 < oth p x) : (x = p.2.1 ∧ oth p x = p.2.2.1) ∨ (x = p.2.2.1 ∧ oth p x = p.2.1) := by
  unfold oth at *
  split at h
  · rename_i h1; exact .inl ⟨h1, by rw [if_pos h1]⟩
  · rename_i h1
    split at h
    · rename_i h2; exact .inr ⟨h2, by rw [if_neg h1, if_pos h2]⟩
    · omega
theorem oth_range {N : Int} {p : Pip} (hp : (1 ≤ p.2.1 ∧ p.2.1 ≤ N) ∧ (1 ≤ p.2.2.1 ∧ p.2.2.1 ≤ N) ∧ p.2.1 ≠ p.2.2.1) {x : Int} (h : 0 < oth p x) : 1 ≤ oth p x ∧ oth p x ≤ N := by
  unfold oth at *
  split at h
  · rename_i h1; rw [if_pos h1]; omega
  · rename_i h1
    split at h
    · rename_i h2; rw [if_neg h1, if_pos h2]; omega
    · omega
theorem oth_adj {N : Int} {P : List Pip} (he : ends N P) {p : Pip} {wo : Int} (hp : p ∈ P) (hw : p.1 ≠ wo) {x : Int} (h : 0 < oth p x) : adj (but P wo) x (oth p x) ∧ 1 ≤ oth p x ∧ oth p x ≤ N := by
  have h1 := he p hp
  have hm : p ∈ but P wo := List.mem_filter.2 ⟨hp, by simpa using hw⟩
  rcases oth_pos he hp h with ⟨h2, h3⟩ | ⟨h2, h3⟩
  · exact ⟨⟨p, hm, .inl ⟨h2.symm, h3.symm⟩⟩, by omega, by rw [h3]; omega⟩
  · exact ⟨⟨p, hm, .inr ⟨h2.symm, h3.symm⟩⟩, by omega, by rw [h3]; omega⟩
theorem adj_oth {N : Int} {P : List Pip} (he : ends N P) {wo x c : Int} (h : adj (but P wo) x c) : ∃ p ∈ P, p.1 ≠ wo ∧ oth p x = c ∧ 0 < c := by
  obtain ⟨p, hp, h⟩ := h
  obtain ⟨hp, hw⟩ := List.mem_filter.1 hp
  have h1 := he p hp
  refine ⟨p, hp, by simpa using hw, ?_⟩
  unfold oth
  rcases h with ⟨rfl, rfl⟩ | ⟨rfl, rfl⟩
  · rw [if_pos rfl]; exact ⟨rfl, by omega⟩
  · rw [if_neg (by omega), if_pos rfl]; exact ⟨rfl, by omega⟩

/-- The search's inner loop: the head of the queue has seen so many pipes. -/
structure Bin (P : List Pip) (wo s : Int) (N : Nat) (D : List Int) (q : Int) (R : List Int) (i : Nat) : Prop where
  b : Bfs (but P wo) s N D (q :: R)
  pr : ∀ (j : Nat) (hj : j < P.length), j < i → P[j].1 ≠ wo → 0 < oth P[j] q → 0 ≤ dv D (oth P[j] q) ∧ dv D (oth P[j] q) ≤ dv D q + 1

section
variable {P : List Pip} {wo s : Int} {N : Nat} {D : List Int} {q : Int} {R : List Int}
theorem Bin.init (b : Bfs (but P wo) s N D (q :: R)) : Bin P wo s N D q R 0 := ⟨b, fun j _ hj => absurd hj (by omega)⟩
theorem Bin.skip (he : ends N P) {i : Nat} (b : Bin P wo s N D q R i) (hi : i < P.length) (hno : ¬ (0 < oth P[i] q ∧ P[i].1 ≠ wo ∧ dv D (oth P[i] q) < 0)) : Bin P wo s N D q R (i + 1) := by
  refine ⟨b.b, fun j hj hji h1 h2 => ?_⟩
  by_cases hj2 : j < i
  · exact b.pr j hj hj2 h1 h2
  · obtain rfl : j = i := by omega
    have h3 := oth_adj he (List.getElem_mem hj) h1 h2
    have h4 := b.b.top q (by simp) (oth P[j] q) h3.2.1 h3.2.2
    have : ¬ dv D (oth P[j] q) < 0 := fun h => hno ⟨h2, h1, h⟩
    omega
theorem Bin.push (he : ends N P) (hs : 1 ≤ s ∧ s ≤ N) {i : Nat} (b : Bin P wo s N D q R i) (hi : i < P.length) (h1 : 0 < oth P[i] q) (h2 : P[i].1 ≠ wo) (h3 : dv D (oth P[i] q) < 0) :
    Bin P wo s N (D.set (oth P[i] q).toNat (dv D q + 1)) q (R ++ [oth P[i] q]) (i + 1) := by
  obtain ⟨ha, hb⟩ := oth_adj he (List.getElem_mem hi) h2 h1
  have hq := b.b.qin q (by simp)
  have hl : (oth P[i] q).toNat < D.length := by rw [b.b.len]; omega
  have hqv : dv (D.set (oth P[i] q).toNat (dv D q + 1)) q = dv D q := by
    rw [dv_set hb.1 hq.1.1 hl, if_neg]
    intro h; rw [← h] at h3; omega
  refine ⟨b.b.push hs hb ha h3, fun j hj hji g1 g2 => ?_⟩
  have g3 := oth_adj he (List.getElem_mem hj) g1 g2
  rw [hqv, dv_set hb.1 g3.2.1 hl]
  split
  · omega
  · rename_i hne
    by_cases hj2 : j < i
    · exact b.pr j hj hj2 g1 g2
    · obtain rfl : j = i := by omega
      exact absurd rfl hne
theorem Bin.done (he : ends N P) (b : Bin P wo s N D q R P.length) : Bfs (but P wo) s N D R := by
  refine b.b.pop fun c hc => ?_
  obtain ⟨p, hp, hw, ho, hc⟩ := adj_oth he hc
  obtain ⟨j, hj, rfl⟩ := List.mem_iff_getElem.1 hp
  have := b.pr j hj hj hw (by omega)
  rwa [ho] at this
end

/-- How many are not yet found. -/
def neg (D : List Int) : Nat := D.countP fun x => decide (x < 0)
theorem neg_set {D : List Int} {v x : Int} (hv : 1 ≤ v) (hl : v.toNat < D.length) (h : dv D v < 0) (hx : 0 ≤ x) : neg (D.set v.toNat x) + 1 = neg D := by
  unfold neg dv at *
  rw [List.countP_set (by exact hl)]
  have h1 : D[v.toNat] < 0 := by simpa [List.getD, hl] using h
  have h2 : 0 < D.countP fun x => decide (x < 0) := List.countP_pos_iff.2 ⟨_, List.getElem_mem hl, by simpa using h1⟩
  simp [h1, show ¬ x < 0 by omega]
  omega

/-- No distance is more than the number of those that are found. -/
def Top (D : List Int) (N : Nat) : Prop := ∀ v : Int, 1 ≤ v → v ≤ N → dv D v + neg D ≤ N
theorem Top.init {N : Nat} {s : Int} (hs : 1 ≤ s ∧ s ≤ N) : Top ((List.replicate (N + 1) (-1 : Int)).set s.toNat 0) N := by
  have h0 : dv (List.replicate (N + 1) (-1 : Int)) s < 0 := by
    have : s.toNat < N + 1 := by omega
    simp [dv, List.getD, this]
  have h1 := neg_set (D := List.replicate (N + 1) (-1 : Int)) (v := s) (x := 0) hs.1 (by simp; omega) h0 (by omega)
  have h2 : neg (List.replicate (N + 1) (-1 : Int)) = N + 1 := by simp [neg, List.countP_replicate]
  intro v hv1 hv2
  rw [dv_set hs.1 hv1 (by simp; omega)]
  have : dv (List.replicate (N + 1) (-1 : Int)) v = -1 := by
    have : v.toNat < N + 1 := by omega
    simp [dv, List.getD, this]
  split <;> omega
theorem Top.set {N : Nat} {D : List Int} {q to : Int} (t : Top D N) (hq : 1 ≤ q ∧ q ≤ N) (ht : 1 ≤ to ∧ to ≤ N) (hl : D.length = N + 1) (h : dv D to < 0) (h0 : 0 ≤ dv D q) : Top (D.set to.toNat (dv D q + 1)) N := by
  have h1 := neg_set (D := D) (v := to) (x := dv D q + 1) ht.1 (by omega) h (by omega)
  intro v hv1 hv2
  rw [dv_set ht.1 hv1 (by omega)]
  have h2 := t q hq.1 hq.2
  have h3 := t v hv1 hv2
  split <;> omega

section
variable {h : Heap} {M : Nat → Prop}

theorem c_other (p : Pip) (x : Int) : vCall [] Try.prog M 121 [.agg #[.int .i64 p.1, .int .i64 p.2.1, .int .i64 p.2.2.1, .int .i64 p.2.2.2], .int .i64 x] h (fun r h' => r = .int .i64 (oth p x) ∧ h <+: h') := by
  refine body_of mo Try.func121 rfl (by kernel_rfl) (Nat.le_of_ble_eq_true (by kernel_rfl)) rfl ?_
  simp only [go_sem, Nat.reduceBEq, Nat.reduceAdd, Nat.reduceMul, Nat.reduceSub, Nat.reduceLeDiff, Nat.le_refl, implies_true, Nat.reduceLT, reduceIte, decide_true, decide_false, true_and, and_true, reduceCtorEq, Nat.mul_one, Int.reduceToNat, Int.reduceLE, Int.reduceLT, Int.reduceAdd, Int.reduceSub, Int.reduceMul, Int.cast_ofNat_Int, cast_zero_int, cast_one_int, Nat.reducePow, Nat.reduceEqDiff, Nat.reduceMod, Nat.zero_add, Nat.sub_zero, Nat.add_zero]
  by_cases h1 : x = p.2.1
  · simp only [go_sem, Nat.reduceBEq, Nat.reduceAdd, Nat.reduceMul, Nat.reduceSub, Nat.reduceLeDiff, Nat.le_refl, implies_true, Nat.reduceLT, reduceIte, decide_true, decide_false, true_and, and_true, reduceCtorEq, Nat.mul_one, Int.reduceToNat, Int.reduceLE, Int.reduceLT, Int.reduceAdd, Int.reduceSub, Int.reduceMul, Int.cast_ofNat_Int, cast_zero_int, cast_one_int, Nat.reducePow, Nat.reduceEqDiff, Nat.reduceMod, Nat.zero_add, Nat.sub_zero, Nat.add_zero, show (x == p.2.1) = true by simpa using h1]
    rw [oth, if_pos h1]
  · simp only [go_sem, Nat.reduceBEq, Nat.reduceAdd, Nat.reduceMul, Nat.reduceSub, Nat.reduceLeDiff, Nat.le_refl, implies_true, Nat.reduceLT, reduceIte, decide_true, decide_false, true_and, and_true, reduceCtorEq, Nat.mul_one, Int.reduceToNat, Int.reduceLE, Int.reduceLT, Int.reduceAdd, Int.reduceSub, Int.reduceMul, Int.cast_ofNat_Int, cast_zero_int, cast_one_int, Nat.reducePow, Nat.reduceEqDiff, Nat.reduceMod, Nat.zero_add, Nat.sub_zero, Nat.add_zero, show (x == p.2.1) = false by simpa using h1]
    by_cases h2 : x = p.2.2.1
    · simp only [go_sem, Nat.reduceBEq, Nat.reduceAdd, Nat.reduceMul, Nat.reduceSub, Nat.reduceLeDiff, Nat.le_refl, implies_true, Nat.reduceLT, reduceIte, decide_true, decide_false, true_and, and_true, reduceCtorEq, Nat.mul_one, Int.reduceToNat, Int.reduceLE, Int.reduceLT, Int.reduceAdd, Int.reduceSub, Int.reduceMul, Int.cast_ofNat_Int, cast_zero_int, cast_one_int, Nat.reducePow, Nat.reduceEqDiff, Nat.reduceMod, Nat.zero_add, Nat.sub_zero, Nat.add_zero, show (x == p.2.2.1) = true by simpa using h2]
      rw [oth, if_neg h1, if_pos h2]
    · simp only [go_sem, Nat.reduceBEq, Nat.reduceAdd, Nat.reduceMul, Nat.reduceSub, Nat.reduceLeDiff, Nat.le_refl, implies_true, Nat.reduceLT, reduceIte, decide_true, decide_false, true_and, and_true, reduceCtorEq, Nat.mul_one, Int.reduceToNat, Int.reduceLE, Int.reduceLT, Int.reduceAdd, Int.reduceSub, Int.reduceMul, Int.cast_ofNat_Int, cast_zero_int, cast_one_int, Nat.reducePow, Nat.reduceEqDiff, Nat.reduceMod, Nat.zero_add, Nat.sub_zero, Nat.add_zero, show (x == p.2.2.1) = false by simpa using h2]
      rw [oth, if_neg h1, if_neg h2]

theorem c_distances {n : Nat} (v : Value) (N : Nat) (P : List Pip) (s wo : Int) (hv : NA n h v N P) (g : netGood N P) (hs : 1 ≤ s ∧ s ≤ N) :
    vCall [] Try.prog M 113 [v, .int .i64 s, .int .i64 wo] h (fun r h' => (∃ D, FI h.length h'.length h' r D ∧ Bfs (but P wo) s N D []) ∧ h <+: h') := by
  obtain ⟨w, rfl, sP⟩ := hv
  replace sP : Sl h 4 w (P.map pip) := sP.1
  obtain ⟨a, rfl⟩ := Sl.len4 sP
  have hN : N ≤ 8 := by have := g.2.1; omega
  have hP : P.length ≤ 10 := g.2.2
  have he := g.ends
  refine body_of mo Try.func113 rfl (by kernel_rfl) (Nat.le_of_ble_eq_true (by kernel_rfl)) rfl ?_
  simp only [go_sem, Nat.reduceBEq, Nat.reduceAdd, Nat.reduceMul, Nat.reduceSub, Nat.reduceLeDiff, Nat.le_refl, implies_true, Nat.reduceLT, reduceIte, decide_true, decide_false, true_and, and_true, reduceCtorEq, Nat.mul_one, Int.reduceToNat, Int.reduceLE, Int.reduceLT, Int.reduceAdd, Int.reduceSub, Int.reduceMul, Int.cast_ofNat_Int, cast_zero_int, cast_one_int, Nat.reducePow, Nat.reduceEqDiff, Nat.reduceMod, Nat.zero_add, Nat.sub_zero, Nat.add_zero]
  have w1 : IntKind.i64.wrap ((N : Int) + 1) = ((N + 1 : Nat) : Int) := by rw [wrap64 (by omega)]; omega
  simp only [go_sem, Nat.reduceBEq, Nat.reduceAdd, Nat.reduceMul, Nat.reduceSub, Nat.reduceLeDiff, Nat.le_refl, implies_true, Nat.reduceLT, reduceIte, decide_true, decide_false, true_and, and_true, reduceCtorEq, Nat.mul_one, Int.reduceToNat, Int.reduceLE, Int.reduceLT, Int.reduceAdd, Int.reduceSub, Int.reduceMul, Int.cast_ofNat_Int, cast_zero_int, cast_one_int, Nat.reducePow, Nat.reduceEqDiff, Nat.reduceMod, Nat.zero_add, Nat.sub_zero, Nat.add_zero, w1]
  refine ⟨by omega, by omega, ?_⟩
  refine vLoop.count mo (N + 1) (fun i e h' => e 0 = .agg #[.int .i64 N, .slice a P.length 0] ∧ e 1 = .int .i64 s ∧ e 2 = .int .i64 wo ∧ e 3 = .pointer (some ⟨h.length, 0, none⟩) ∧ e 7 = .slice (some ⟨h.length + 1, 0, none⟩) (N + 1) 0 ∧
    e 18 = .int .i64 ((N + 1 : Nat) : Int) ∧ e 19 = .int .i64 i ∧ h' = h ++ [⟨[.int .i64 N, .slice a P.length 0], 2, .rw⟩, ⟨List.replicate i (.int .i64 (-1)) ++ List.replicate (N + 1 - i) (.int .i64 0), 1, .rw⟩]) ?_ ?_
  · refine ⟨rfl, rfl, rfl, rfl, rfl, rfl, rfl, ?_⟩
    simp [zeros_one, List.replicate_succ]
  · rintro i e _ hi ⟨e0, e1, e2, e3, e7, e18, e19, rfl⟩
    simp only [go_sem, Nat.reduceBEq, Nat.reduceAdd, Nat.reduceMul, Nat.reduceSub, Nat.reduceLeDiff, Nat.le_refl, implies_true, Nat.reduceLT, reduceIte, decide_true, decide_false, true_and, and_true, reduceCtorEq, Nat.mul_one, Int.reduceToNat, Int.reduceLE, Int.reduceLT, Int.reduceAdd, Int.reduceSub, Int.reduceMul, Int.cast_ofNat_Int, cast_zero_int, cast_one_int, Nat.reducePow, Nat.reduceEqDiff, Nat.reduceMod, Nat.zero_add, Nat.sub_zero, Nat.add_zero, e7, e18, e19]
    refine .intro (fun h1 => ?_) (fun h1 => ?_)
    · have hlt : i < N + 1 := by have := of_decide_eq_true h1; omega
      have hz : (i : Int) < (N + 1 : Nat) := by omega
      have hr : setRange (List.replicate i (Value.int .i64 (-1)) ++ List.replicate (N + 1 - i) (.int .i64 0)) i [.int .i64 (-1)] = List.replicate (i + 1) (.int .i64 (-1)) ++ List.replicate (N + 1 - (i + 1)) (.int .i64 0) := by
        have e1 : N + 1 - i = (N + 1 - (i + 1)) + 1 := by omega
        rw [e1, List.replicate_succ, List.replicate_succ', setRange, List.take_left' (by simp), List.drop_append]
        simp
      simp only [go_sem, Nat.reduceBEq, Nat.reduceAdd, Nat.reduceMul, Nat.reduceSub, Nat.reduceLeDiff, Nat.le_refl, implies_true, Nat.reduceLT, reduceIte, decide_true, decide_false, true_and, and_true, reduceCtorEq, Nat.mul_one, Int.reduceToNat, Int.reduceLE, Int.reduceLT, Int.reduceAdd, Int.reduceSub, Int.reduceMul, Int.cast_ofNat_Int, cast_zero_int, cast_one_int, Nat.reducePow, Nat.reduceEqDiff, Nat.reduceMod, Nat.zero_add, Nat.sub_zero, Nat.add_zero, e0, e1, e2, e3, e7, e18, e19, hz, hr, List.length_replicate]
      rw [wrap64 (by omega)]
      exact ⟨by omega, hlt, rfl⟩
    · obtain rfl : i = N + 1 := by have := of_decide_eq_false h1
                                   omega
      have hz : s < (N + 1 : Nat) := by omega
      have hs0 : 0 ≤ s := by omega
      have hr : setRange (List.replicate (N + 1) (Value.int .i64 (-1)) ++ List.replicate (N + 1 - (N + 1)) (.int .i64 0)) s.toNat [.int .i64 0] = ((List.replicate (N + 1) (-1 : Int)).set s.toNat 0).map iv := by
        rw [Nat.sub_self, List.replicate_zero, List.append_nil, ← setRange_one (by simp; omega), List.map_set, List.map_replicate]
        rfl
      simp only [go_sem, Nat.reduceBEq, Nat.reduceAdd, Nat.reduceMul, Nat.reduceSub, Nat.reduceLeDiff, Nat.le_refl, implies_true, Nat.reduceLT, reduceIte, decide_true, decide_false, true_and, and_true, reduceCtorEq, Nat.mul_one, Int.reduceToNat, Int.reduceLE, Int.reduceLT, Int.reduceAdd, Int.reduceSub, Int.reduceMul, Int.cast_ofNat_Int, cast_zero_int, cast_one_int, Nat.reducePow, Nat.reduceEqDiff, Nat.reduceMod, Nat.zero_add, Nat.sub_zero, Nat.add_zero, e0, e1, e2, e3, e7, hz, hs0, hr, List.length_replicate]
      refine ⟨by omega, ?_⟩
      refine vLoop.rank mo (2 * neg ((List.replicate (N + 1) (-1 : Int)).set s.toNat 0) + 1) (fun m e h' => ∃ (D Q : List Int) (t : Heap) (vq : Value), Regs e [(2, .int .i64 wo), (3, .pointer (some ⟨h.length, 0, none⟩)), (7, .slice (some ⟨h.length + 1, 0, none⟩) (N + 1) 0), (9, vq)] ∧
        HeapIs h' (h ++ (⟨[.int .i64 N, .slice a P.length 0], 2, .rw⟩ :: ⟨D.map iv, 1, .rw⟩ :: t)) ∧ OI h.length 2 t vq Q ∧ Bfs (but P wo) s N D Q ∧ Top D N ∧ 2 * neg D + Q.length ≤ m ∧ m ≤ 100) ?_ ?_
      · exact ⟨_, [s], [⟨[.int .i64 s], 1, .rw⟩], .slice (some ⟨h.length + 2, 0, none⟩) 1 0, (by simp [Regs, upd, put, env0, e2, e3, e7]), HeapIs.rfl, .mk' 0 rfl rfl rfl, Bfs.init hs, Top.init hs, by simp, by have := List.countP_le_length (p := fun x : Int => decide (x < 0)) (l := (List.replicate (N + 1) (-1 : Int)).set s.toNat 0); simp at this; unfold neg; omega⟩
      · clear hr hz e0 e1 e2 e3 e7 e18 e19 h1
        rintro m e _ ⟨D, Q, t, vq, ⟨e2, e3, e7, e9, _⟩, rfl, oi, b, tp, hm, hm2⟩
        obtain ⟨j, off, cs, rfl, hj, hcs, hQ⟩ := id oi
        simp only [go_sem, Nat.reduceBEq, Nat.reduceAdd, Nat.reduceMul, Nat.reduceSub, Nat.reduceLeDiff, Nat.le_refl, implies_true, Nat.reduceLT, reduceIte, decide_true, decide_false, true_and, and_true, reduceCtorEq, Nat.mul_one, Int.reduceToNat, Int.reduceLE, Int.reduceLT, Int.reduceAdd, Int.reduceSub, Int.reduceMul, Int.cast_ofNat_Int, cast_zero_int, cast_one_int, Nat.reducePow, Nat.reduceEqDiff, Nat.reduceMod, Nat.zero_add, Nat.sub_zero, Nat.add_zero, e2, e3, e7, e9]
        cases Q with
        | nil =>
          simp only [go_sem, Nat.reduceBEq, Nat.reduceAdd, Nat.reduceMul, Nat.reduceSub, Nat.reduceLeDiff, Nat.le_refl, implies_true, Nat.reduceLT, reduceIte, decide_true, decide_false, true_and, and_true, reduceCtorEq, Nat.mul_one, Int.reduceToNat, Int.reduceLE, Int.reduceLT, Int.reduceAdd, Int.reduceSub, Int.reduceMul, Int.cast_ofNat_Int, cast_zero_int, cast_one_int, Nat.reducePow, Nat.reduceEqDiff, Nat.reduceMod, Nat.zero_add, Nat.sub_zero, Nat.add_zero, List.length_nil, e7]
          refine ⟨D, ?_, b⟩
          refine FI.at' (by rw [b.len]) (by omega) (by simp) ?_
          simp only [go_sem, Nat.reduceBEq, Nat.reduceAdd, Nat.reduceMul, Nat.reduceSub, Nat.reduceLeDiff, Nat.le_refl, implies_true, Nat.reduceLT, reduceIte, decide_true, decide_false, true_and, and_true, reduceCtorEq, Nat.mul_one, Int.reduceToNat, Int.reduceLE, Int.reduceLT, Int.reduceAdd, Int.reduceSub, Int.reduceMul, Int.cast_ofNat_Int, cast_zero_int, cast_one_int, Nat.reducePow, Nat.reduceEqDiff, Nat.reduceMod, Nat.zero_add, Nat.sub_zero, Nat.add_zero]
        | cons q R =>
          simp only [go_sem, Nat.reduceBEq, Nat.reduceAdd, Nat.reduceMul, Nat.reduceSub, Nat.reduceLeDiff, Nat.le_refl, implies_true, Nat.reduceLT, reduceIte, decide_true, decide_false, true_and, and_true, reduceCtorEq, Nat.mul_one, Int.reduceToNat, Int.reduceLE, Int.reduceLT, Int.reduceAdd, Int.reduceSub, Int.reduceMul, Int.cast_ofNat_Int, cast_zero_int, cast_one_int, Nat.reducePow, Nat.reduceEqDiff, Nat.reduceMod, Nat.zero_add, Nat.sub_zero, Nat.add_zero, List.length_cons, show (0 : Int) < ((R.length + 1 : Nat) : Int) by omega, e2, e3, e7, e9]
          obtain ⟨hq1, hq2⟩ := b.qin q (by simp)
          refine vLoop.count mo P.length (fun i e h' => ∃ (D R : List Int) (t : Heap) (vq : Value), Regs e [(2, .int .i64 wo), (3, .pointer (some ⟨h.length, 0, none⟩)), (7, .slice (some ⟨h.length + 1, 0, none⟩) (N + 1) 0), (9, vq), (37, .slice a P.length 0), (38, .int .i64 P.length), (39, .int .i64 i)] ∧
            HeapIs h' (h ++ (⟨[.int .i64 N, .slice a P.length 0], 2, .rw⟩ :: ⟨D.map iv, 1, .rw⟩ :: t)) ∧ OI h.length 2 t vq (q :: R) ∧ Bin P wo s N D q R i ∧ Top D N ∧ 2 * neg D + (R.length + 1) ≤ m) ?_ ?_
          · exact ⟨D, R, t, _, (by simp [Regs, upd, put, env0, e2, e3, e7, e9]), HeapIs.rfl, oi, Bin.init b, tp, hm⟩
          · clear b hm tp hq2 hj hcs hQ e2 e3 e7 e9 oi
            rintro i e _ hi ⟨D, R, t, vq, ⟨e2, e3, e7, e9, e37, e38, e39, _⟩, rfl, oi, b, tp, hm⟩
            obtain ⟨j, off, cs, rfl, hj, hcs, hQ⟩ := id oi
            have hcell := drop_head hQ
            have hq2 := (b.b.qin q (by simp)).2
            simp only [go_sem, Nat.reduceBEq, Nat.reduceAdd, Nat.reduceMul, Nat.reduceSub, Nat.reduceLeDiff, Nat.le_refl, implies_true, Nat.reduceLT, reduceIte, decide_true, decide_false, true_and, and_true, reduceCtorEq, Nat.mul_one, Int.reduceToNat, Int.reduceLE, Int.reduceLT, Int.reduceAdd, Int.reduceSub, Int.reduceMul, Int.cast_ofNat_Int, cast_zero_int, cast_one_int, Nat.reducePow, Nat.reduceEqDiff, Nat.reduceMod, Nat.zero_add, Nat.sub_zero, Nat.add_zero, e2, e3, e7, e9, e37, e38, e39, List.length_cons]
            by_cases hlt : i < P.length
            · have hlt' : i < (P.map pip).length := by simpa using hlt
              have hz : (i : Int) < P.length := by omega
              have ws := wsucc hlt (by omega)
              obtain ⟨id, o, k, hv, hk, _, hd, hb, hrow, hat⟩ := sP.at hlt'
              obtain rfl : a = some ⟨id, o, none⟩ := by simpa using hv
              rw [List.getElem_map] at hrow
              simp only [pip] at hrow
              have z1 : (0 : Int) < ((R.length + 1 : Nat) : Int) := by omega
              have hlen : D.length = N + 1 := b.b.len
              have hdv : ∀ x : Int, 0 ≤ x → x ≤ N → (D.map iv)[x.toNat]? = some (.int .i64 (dv D x)) := fun x h0 h1 => by
                have : x.toNat < D.length := by omega
                rw [List.getElem?_map, List.getElem?_eq_getElem this, dv, List.getD, List.getElem?_eq_getElem this]; rfl
              simp only [go_sem, Nat.reduceBEq, Nat.reduceAdd, Nat.reduceMul, Nat.reduceSub, Nat.reduceLeDiff, Nat.le_refl, implies_true, Nat.reduceLT, reduceIte, decide_true, decide_false, true_and, and_true, reduceCtorEq, Nat.mul_one, Int.reduceToNat, Int.reduceLE, Int.reduceLT, Int.reduceAdd, Int.reduceSub, Int.reduceMul, Int.cast_ofNat_Int, cast_zero_int, cast_one_int, Nat.reducePow, Nat.reduceEqDiff, Nat.reduceMod, Nat.zero_add, Nat.sub_zero, Nat.add_zero, e2, e3, e7, e9, e37, e38, e39, List.length_cons, hz, hk, hd, hb, hrow, hj, app_old hj, hcell, z1]
              refine ⟨by kernel_rfl, (c_other _ _).use (fun _ m => m) ?_⟩
              rintro _ _ ⟨rfl, ⟨t2, rfl⟩⟩
              have g1 := hdv q (by omega) (by omega)
              have stay : ¬ (0 < oth P[i] q ∧ P[i].1 ≠ wo ∧ dv D (oth P[i] q) < 0) → Bin P wo s N D q R (i + 1) := fun hh => b.skip he hlt hh
              by_cases c1 : 0 < oth P[i] q
              · have c1' := oth_range (he _ (List.getElem_mem hlt)) c1
                have g2 := hdv (oth P[i] q) (by omega) (by omega)
                have z2 : 0 ≤ oth P[i] q := by omega
                have z3 : oth P[i] q < ((N + 1 : Nat) : Int) := by omega
                have z4 : 0 ≤ q := by omega
                have z5 : q < ((N + 1 : Nat) : Int) := by omega
                by_cases c2 : P[i].1 = wo
                · simp only [go_sem, Nat.reduceBEq, Nat.reduceAdd, Nat.reduceMul, Nat.reduceSub, Nat.reduceLeDiff, Nat.le_refl, implies_true, Nat.reduceLT, reduceIte, decide_true, decide_false, true_and, and_true, reduceCtorEq, Nat.mul_one, Int.reduceToNat, Int.reduceLE, Int.reduceLT, Int.reduceAdd, Int.reduceSub, Int.reduceMul, Int.cast_ofNat_Int, cast_zero_int, cast_one_int, Nat.reducePow, Nat.reduceEqDiff, Nat.reduceMod, Nat.zero_add, Nat.sub_zero, Nat.add_zero, e2, e3, e7, e9, e37, e38, e39, List.length_cons, c1, show (P[i].1 != wo) = false by simpa using c2]
                  exact ⟨hlt, D, R, _, _, (by simp [Regs, upd, put, env0, e2, e3, e7, e9, e37, e38, e39, List.length_cons, ws]), HeapIs.rfl, oi.mono _, stay (fun hh => hh.2.1 c2), tp, hm⟩
                · simp only [go_sem, Nat.reduceBEq, Nat.reduceAdd, Nat.reduceMul, Nat.reduceSub, Nat.reduceLeDiff, Nat.le_refl, implies_true, Nat.reduceLT, reduceIte, decide_true, decide_false, true_and, and_true, reduceCtorEq, Nat.mul_one, Int.reduceToNat, Int.reduceLE, Int.reduceLT, Int.reduceAdd, Int.reduceSub, Int.reduceMul, Int.cast_ofNat_Int, cast_zero_int, cast_one_int, Nat.reducePow, Nat.reduceEqDiff, Nat.reduceMod, Nat.zero_add, Nat.sub_zero, Nat.add_zero, e2, e3, e7, e9, e37, e38, e39, List.length_cons, c1, show (P[i].1 != wo) = true by simpa using c2, z2, z3, g2, List.length_map]
                  by_cases c3 : dv D (oth P[i] q) < 0
                  · have w3 : IntKind.i64.wrap (dv D q + 1) = dv D q + 1 := by
                      have := tp q hq1.1 hq1.2
                      exact wrap64 (by omega)
                    have hset : setRange (D.map iv) (oth P[i] q).toNat [.int .i64 (dv D q + 1)] = (D.set (oth P[i] q).toNat (dv D q + 1)).map iv := by
                      rw [← setRange_one (by simp; omega), List.map_set]; rfl
                    have hng := neg_set (D := D) (v := oth P[i] q) (x := dv D q + 1) (by omega) (by omega) c3 (by omega)
                    simp only [go_sem, Nat.reduceBEq, Nat.reduceAdd, Nat.reduceMul, Nat.reduceSub, Nat.reduceLeDiff, Nat.le_refl, implies_true, Nat.reduceLT, reduceIte, decide_true, decide_false, true_and, and_true, reduceCtorEq, Nat.mul_one, Int.reduceToNat, Int.reduceLE, Int.reduceLT, Int.reduceAdd, Int.reduceSub, Int.reduceMul, Int.cast_ofNat_Int, cast_zero_int, cast_one_int, Nat.reducePow, Nat.reduceEqDiff, Nat.reduceMod, Nat.zero_add, Nat.sub_zero, Nat.add_zero, e2, e3, e7, e9, e37, e38, e39, List.length_cons, c3, z1, z2, z3, z4, z5, app_old hj, hcell, g1, g2, w3, hset, List.length_map, hcs]
                    refine ⟨by omega, hcs, by omega, by omega, hlt, D.set (oth P[i] q).toNat (dv D q + 1), R ++ [oth P[i] q], _, _, ⟨e2, e3, e7, rfl, e37, e38, congrArg _ ws, trivial⟩, HeapIs.rfl, (.mk' (t.length + (t2.length + 1 + 1)) ?_ (by simp) ?_), b.push he hs hlt c1 c2 c3, tp.set hq1 c1' hlen c3 hq2, by simp; omega⟩
                    · simp
                    · rw [hQ]
                      exact (new_at (by simp)).trans (by simp [iv])
                  · simp only [go_sem, Nat.reduceBEq, Nat.reduceAdd, Nat.reduceMul, Nat.reduceSub, Nat.reduceLeDiff, Nat.le_refl, implies_true, Nat.reduceLT, reduceIte, decide_true, decide_false, true_and, and_true, reduceCtorEq, Nat.mul_one, Int.reduceToNat, Int.reduceLE, Int.reduceLT, Int.reduceAdd, Int.reduceSub, Int.reduceMul, Int.cast_ofNat_Int, cast_zero_int, cast_one_int, Nat.reducePow, Nat.reduceEqDiff, Nat.reduceMod, Nat.zero_add, Nat.sub_zero, Nat.add_zero, e2, e3, e7, e9, e37, e38, e39, List.length_cons, c3]
                    exact ⟨hlt, D, R, _, _, (by simp [Regs, upd, put, env0, e2, e3, e7, e9, e37, e38, e39, List.length_cons, ws]), HeapIs.rfl, oi.mono _, stay (fun hh => c3 hh.2.2), tp, hm⟩
              · simp only [go_sem, Nat.reduceBEq, Nat.reduceAdd, Nat.reduceMul, Nat.reduceSub, Nat.reduceLeDiff, Nat.le_refl, implies_true, Nat.reduceLT, reduceIte, decide_true, decide_false, true_and, and_true, reduceCtorEq, Nat.mul_one, Int.reduceToNat, Int.reduceLE, Int.reduceLT, Int.reduceAdd, Int.reduceSub, Int.reduceMul, Int.cast_ofNat_Int, cast_zero_int, cast_one_int, Nat.reducePow, Nat.reduceEqDiff, Nat.reduceMod, Nat.zero_add, Nat.sub_zero, Nat.add_zero, e2, e3, e7, e9, e37, e38, e39, List.length_cons, c1]
                exact ⟨hlt, D, R, _, _, (by simp [Regs, upd, put, env0, e2, e3, e7, e9, e37, e38, e39, List.length_cons, ws]), HeapIs.rfl, oi.mono _, stay (fun hh => c1 hh.1), tp, hm⟩
            · obtain rfl : i = P.length := by omega
              have bd := Bin.done he b
              have w2 : ((R.length + 1 : Nat) : Int) - 1 = R.length := by omega
              simp only [go_sem, Nat.reduceBEq, Nat.reduceAdd, Nat.reduceMul, Nat.reduceSub, Nat.reduceLeDiff, Nat.le_refl, implies_true, Nat.reduceLT, reduceIte, decide_true, decide_false, true_and, and_true, reduceCtorEq, Nat.mul_one, Int.reduceToNat, Int.reduceLE, Int.reduceLT, Int.reduceAdd, Int.reduceSub, Int.reduceMul, Int.cast_ofNat_Int, cast_zero_int, cast_one_int, Nat.reducePow, Nat.reduceEqDiff, Nat.reduceMod, Nat.zero_add, Nat.sub_zero, Nat.add_zero, show ¬ ((P.length : Int) < P.length) by omega, e2, e3, e7, e9, e37, e38, e39, List.length_cons, hj]
              exact ⟨2 * neg D + R.length, by omega, D, R, t, _, ⟨e2, e3, e7, rfl, trivial⟩, HeapIs.rfl, .tail j rfl (by omega) hj (by simp at hcs; omega) (drop_tail hQ), bd, tp, Nat.le_refl _, by omega⟩

end
end Go.Proofs.Ytjgekhahklidcaa
