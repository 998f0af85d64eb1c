
/- A stable merge in place, told of lists whose elements bear numbers. No condition. -/
import Derived.Test.YtfolkgkcaiaifaaH3
namespace Go.Proofs.Ytfolkgkcaiaifaa
open Go.HH
set_option linter.unusedSimpArgs false
set_option linter.unusedVariables false

section
variable {α : Type} (key : α → Int)
/-- The strict order by the key, then by the number. -/
def Rk (x y : α × Nat) : Prop := key x.1 < key y.1 ∨ (key x.1 = key y.1 ∧ x.2 < y.2)
theorem Rk.trans {x y z : α × Nat} (h : Rk key x y) (k : Rk key y z) : Rk key x z := by
  rcases h with h | ⟨h, h'⟩ <;> rcases k with k | ⟨k, k'⟩
  · exact .inl (Int.lt_trans h k)
  · exact .inl (by omega)
  · exact .inl (by omega)
  · exact .inr ⟨by omega, by omega⟩
/-- What a step may do to the places from a to b. -/
structure Mv (a b : Nat) (T T' : List (α × Nat)) : Prop where
  perm : T'.Perm T
  out : ∀ i, i < a ∨ b ≤ i → T'[i]? = T[i]?
  src : ∀ i, a ≤ i → i < b → ∃ j, a ≤ j ∧ j < b ∧ T'[i]? = T[j]?
theorem Mv.refl (a b : Nat) (T : List (α × Nat)) : Mv a b T T := ⟨.refl _, fun _ _ => rfl, fun i h k => ⟨i, h, k, rfl⟩⟩
theorem Mv.len {a b : Nat} {T T' : List (α × Nat)} (m : Mv a b T T') : T'.length = T.length := m.perm.length_eq
theorem Mv.trans {a b : Nat} {T T' T2 : List (α × Nat)} (m : Mv a b T T') (k : Mv a b T' T2) : Mv a b T T2 :=
  ⟨k.perm.trans m.perm, fun i h => (k.out i h).trans (m.out i h), fun i h1 h2 => by
    obtain ⟨j, a1, a2, a3⟩ := k.src i h1 h2
    obtain ⟨l, b1, b2, b3⟩ := m.src j a1 a2
    exact ⟨l, b1, b2, a3.trans b3⟩⟩
theorem Mv.wide {a b a' b' : Nat} {T T' : List (α × Nat)} (m : Mv a b T T') (h1 : a' ≤ a) (h2 : b ≤ b') : Mv a' b' T T' :=
  ⟨m.perm, fun i h => m.out i (by omega), fun i k1 k2 => by
    by_cases q : a ≤ i ∧ i < b
    · obtain ⟨j, a1, a2, a3⟩ := m.src i q.1 q.2
      exact ⟨j, by omega, by omega, a3⟩
    · exact ⟨i, k1, k2, m.out i (by omega)⟩⟩
/-- Sorted at the places from a to b. -/
def Srt (T : List (α × Nat)) (a b : Nat) : Prop := ∀ i j u v, a ≤ i → i < j → j < b → T[i]? = some u → T[j]? = some v → Rk key u v
/-- All before m are less than all from m on. -/
def Bel (T : List (α × Nat)) (a m b : Nat) : Prop := ∀ i j u v, a ≤ i → i < m → m ≤ j → j < b → T[i]? = some u → T[j]? = some v → Rk key u v
/-- The numbers before m are less than those from m on. -/
def Num (T : List (α × Nat)) (a m b : Nat) : Prop := ∀ i j u v, a ≤ i → i < m → m ≤ j → j < b → T[i]? = some u → T[j]? = some v → u.2 < v.2
variable {key}
theorem Srt.one {T : List (α × Nat)} {a b : Nat} (h : b ≤ a + 1) : Srt key T a b := fun i j u v h1 h2 h3 => by omega
theorem Srt.part {T : List (α × Nat)} {a b a' b' : Nat} (s : Srt key T a b) (h1 : a ≤ a') (h2 : b' ≤ b) : Srt key T a' b' := fun i j u v k1 k2 k3 => s i j u v (by omega) k2 (by omega)
theorem Srt.join {T : List (α × Nat)} {a m b : Nat} (s : Srt key T a m) (s' : Srt key T m b) (l : Bel key T a m b) : Srt key T a b := fun i j u v h1 h2 h3 hu hv => by
  by_cases q1 : j < m
  · exact s i j u v h1 h2 q1 hu hv
  · by_cases q2 : m ≤ i
    · exact s' i j u v q2 h2 h3 hu hv
    · exact l i j u v h1 (by omega) (by omega) h3 hu hv
theorem Srt.same {T T' : List (α × Nat)} {a b : Nat} (s : Srt key T a b) (h : ∀ i, a ≤ i → i < b → T'[i]? = T[i]?) : Srt key T' a b := fun i j u v h1 h2 h3 hu hv =>
  s i j u v h1 h2 h3 (by rw [← h i h1 (by omega)]; exact hu) (by rw [← h j (by omega) h3]; exact hv)
theorem Bel.mv {T T' T2 : List (α × Nat)} {a m b : Nat} (l : Bel key T a m b) (k : Mv a m T T') (k2 : Mv m b T' T2) : Bel key T2 a m b := fun i j u v h1 h2 h3 h4 hu hv => by
  obtain ⟨p, p1, p2, p3⟩ := k.src i h1 h2
  obtain ⟨q, q1, q2, q3⟩ := k2.src j h3 h4
  rw [k2.out i (by omega), p3] at hu
  rw [q3, k.out q (by omega)] at hv
  exact l p q u v p1 p2 q1 q2 hu hv

/-- Two elements change their places. -/
def swp (T : List α) (i j : Nat) : List α := match T[i]?, T[j]? with
  | some x, some y => (T.set i y).set j x
  | _, _ => T
theorem swp_eq {T : List α} {i j : Nat} (hi : i < T.length) (hj : j < T.length) : swp T i j = (T.set i T[j]).set j T[i] := by
  unfold swp
  rw [List.getElem?_eq_getElem hi, List.getElem?_eq_getElem hj]
theorem swp_len {T : List α} {i j : Nat} : (swp T i j).length = T.length := by
  unfold swp
  split <;> simp
theorem swp_at {T : List α} {i j : Nat} (hi : i < T.length) (hj : j < T.length) (x : Nat) : (swp T i j)[x]? = if x = j then T[i]? else if x = i then T[j]? else T[x]? := by
  rw [swp_eq hi hj, List.getElem?_set, List.getElem?_set, List.length_set, List.getElem?_eq_getElem hi, List.getElem?_eq_getElem hj]
  by_cases h1 : x = j
  · subst h1
    rw [if_pos rfl, if_pos hj, if_pos rfl]
  · rw [if_neg (fun h => h1 h.symm), if_neg h1]
    by_cases h2 : x = i
    · subst h2
      rw [if_pos rfl, if_pos hi, if_pos rfl]
    · rw [if_neg (fun h => h2 h.symm), if_neg h2]
theorem swp_perm {T : List α} {i j : Nat} (hi : i < T.length) (hj : j < T.length) : (swp T i j).Perm T := by
  rw [swp_eq hi hj]
  exact List.set_set_perm hi hj
theorem swp_mv {T : List (α × Nat)} {a b i j : Nat} (h1 : a ≤ i) (h2 : i < b) (h3 : a ≤ j) (h4 : j < b) (hb : b ≤ T.length) : Mv a b T (swp T i j) := by
  have hi : i < T.length := by omega
  have hj : j < T.length := by omega
  refine ⟨swp_perm hi hj, fun x hx => ?_, fun x x1 x2 => ?_⟩
  · rw [swp_at hi hj, if_neg (by omega), if_neg (by omega)]
  · rw [swp_at hi hj]
    by_cases q1 : x = j
    · rw [if_pos q1]; exact ⟨i, h1, h2, rfl⟩
    · rw [if_neg q1]
      by_cases q2 : x = i
      · rw [if_pos q2]; exact ⟨j, h3, h4, rfl⟩
      · rw [if_neg q2]; exact ⟨x, x1, x2, rfl⟩

/-- Two rows of n elements change their places. -/
def swr (T : List α) (a b : Nat) : Nat → List α
  | 0 => T
  | n + 1 => swp (swr T a b n) (a + n) (b + n)
theorem swr_len {T : List α} {a b : Nat} : ∀ n, (swr T a b n).length = T.length
  | 0 => rfl
  | n + 1 => by rw [swr, swp_len, swr_len n]
theorem swr_at {T : List α} {a b : Nat} : ∀ n, a + n ≤ b → b + n ≤ T.length → ∀ x, (swr T a b n)[x]? = if a ≤ x ∧ x < a + n then T[x - a + b]? else if b ≤ x ∧ x < b + n then T[x - b + a]? else T[x]?
  | 0, _, _, x => by rw [swr, if_neg (by omega), if_neg (by omega)]
  | n + 1, h1, h2, x => by
    have ih := swr_at (T := T) (a := a) (b := b) n (by omega) (by omega)
    have hl : (swr T a b n).length = T.length := swr_len n
    rw [swr, swp_at (by omega) (by omega)]
    by_cases q1 : x = b + n
    · subst q1
      rw [if_pos rfl, ih, if_neg (by omega), if_neg (by omega), if_neg (by omega), if_pos (by omega)]
      congr 1; omega
    · rw [if_neg q1]
      by_cases q2 : x = a + n
      · subst q2
        rw [if_pos rfl, ih, if_neg (by omega), if_neg (by omega), if_pos (by omega)]
        congr 1; omega
      · rw [if_neg q2, ih]
        by_cases q3 : a ≤ x ∧ x < a + n
        · rw [if_pos q3, if_pos (by omega)]
        · rw [if_neg q3]
          by_cases q4 : b ≤ x ∧ x < b + n
          · rw [if_pos q4, if_neg (by omega), if_pos (by omega)]
          · rw [if_neg q4, if_neg (by omega), if_neg (by omega)]
theorem swr_perm {T : List α} {a b : Nat} : ∀ n, a + n ≤ b → b + n ≤ T.length → (swr T a b n).Perm T
  | 0, _, _ => .refl _
  | n + 1, h1, h2 => by
    have hl : (swr T a b n).length = T.length := swr_len n
    exact (swp_perm (by omega) (by omega)).trans (swr_perm n (by omega) (by omega))

/-- Two blocks that lie side by side change their order. -/
def rotA (T : List α) (a m b : Nat) (x : Nat) : Option α := if a ≤ x ∧ x < a + (b - m) then T[x - a + m]? else if a ≤ x ∧ x < b then T[x - (b - m)]? else T[x]?
def IsRot (T T' : List α) (a m b : Nat) : Prop := T'.Perm T ∧ ∀ x, T'[x]? = rotA T a m b x
/-- The last round. -/
theorem rot_last {T : List α} {m i : Nat} (h1 : i ≤ m) (h2 : m + i ≤ T.length) : IsRot T (swr T (m - i) m i) (m - i) m (m + i) := by
  refine ⟨swr_perm i (by omega) h2, fun x => ?_⟩
  rw [swr_at i (by omega) h2, rotA]
  repeat' split
  all_goals first | rfl | (exfalso; omega) | (congr 1; omega)
theorem rot_left {T F : List α} {m i j : Nat} (h0 : j < i) (h1 : i ≤ m) (h2 : m + j ≤ T.length) (r : IsRot (swr T (m - i) m j) F (m - (i - j)) m (m + j)) : IsRot T F (m - i) m (m + j) := by
  refine ⟨r.1.trans (swr_perm j (by omega) h2), fun x => ?_⟩
  have ih := swr_at (T := T) (a := m - i) (b := m) j (by omega) h2
  rw [r.2 x, rotA, rotA, ih, ih, ih]
  repeat' split
  all_goals first | rfl | (exfalso; omega) | (congr 1; omega)
theorem rot_right {T F : List α} {m i j : Nat} (h0 : i < j) (h1 : i ≤ m) (h2 : m + j ≤ T.length) (r : IsRot (swr T (m - i) (m + j - i) i) F (m - i) m (m + (j - i))) : IsRot T F (m - i) m (m + j) := by
  refine ⟨r.1.trans (swr_perm i (by omega) (by omega)), fun x => ?_⟩
  have ih := swr_at (T := T) (a := m - i) (b := m + j - i) i (by omega) (by omega)
  rw [r.2 x, rotA, rotA, ih, ih, ih]
  repeat' split
  all_goals first | rfl | (exfalso; omega) | (congr 1; omega)

theorem IsRot.mv {T T' : List (α × Nat)} {a m b : Nat} (r : IsRot T T' a m b) (h1 : a ≤ m) (h2 : m ≤ b) : Mv a b T T' := by
  refine ⟨r.1, fun i hi => ?_, fun i i1 i2 => ?_⟩
  · rw [r.2, rotA, if_neg (by omega), if_neg (by omega)]
  · rw [r.2, rotA]
    by_cases q : i < a + (b - m)
    · rw [if_pos ⟨i1, q⟩]; exact ⟨_, by omega, by omega, rfl⟩
    · rw [if_neg (by omega), if_pos ⟨i1, i2⟩]; exact ⟨_, by omega, by omega, rfl⟩

/-- What the search for the place of the cut has found. -/
theorem cut_bel {T T' : List (α × Nat)} {a m b mid start : Nat} (hT : b ≤ T.length) (sl : Srt key T a m) (sr : Srt key T m b) (ham : a ≤ start) (hsm : start ≤ m) (hsd : start ≤ mid) (hmb : m ≤ mid + m - start) (hb : mid + m - start ≤ b) (hmid : a ≤ mid)
    (lo : ∀ u v, a < start → mid + m - start < b → T[start - 1]? = some u → T[mid + m - start]? = some v → Rk key u v)
    (up : ∀ u v, start < m → m < mid + m - start → T[start]? = some u → T[mid + m - start - 1]? = some v → Rk key v u)
    (r : IsRot T T' start m (mid + m - start)) : Bel key T' a mid b ∧ Srt key T' a start ∧ Srt key T' start mid ∧ Srt key T' mid (mid + m - start) ∧ Srt key T' (mid + m - start) b := by
  have at1 : ∀ x, x < start → T'[x]? = T[x]? := fun x hx => by rw [r.2, rotA, if_neg (by omega), if_neg (by omega)]
  have at2 : ∀ x, start ≤ x → x < mid → T'[x]? = T[x - start + m]? := fun x h1 h2 => by rw [r.2, rotA, if_pos (by omega)]
  have at3 : ∀ x, mid ≤ x → x < mid + m - start → T'[x]? = T[x - (mid - start)]? := fun x h1 h2 => by
    rw [r.2, rotA, if_neg (by omega), if_pos (by omega)]; congr 1; omega
  have at4 : ∀ x, mid + m - start ≤ x → T'[x]? = T[x]? := fun x h1 => by rw [r.2, rotA, if_neg (by omega), if_neg (by omega)]
  have gt : ∀ x, x < b → ∃ w, T[x]? = some w := fun x hx => ⟨_, List.getElem?_eq_getElem (by omega)⟩
  have le1 : ∀ p q u v, a ≤ p → p ≤ q → q < m → T[p]? = some u → T[q]? = some v → u = v ∨ Rk key u v := fun p q u v h1 h2 h3 hu hv => by
    by_cases e : p = q
    · subst e; exact .inl (Option.some.inj (hu.symm.trans hv))
    · exact .inr (sl p q u v h1 (by omega) h3 hu hv)
  have le2 : ∀ p q u v, m ≤ p → p ≤ q → q < b → T[p]? = some u → T[q]? = some v → u = v ∨ Rk key u v := fun p q u v h1 h2 h3 hu hv => by
    by_cases e : p = q
    · subst e; exact .inl (Option.some.inj (hu.symm.trans hv))
    · exact .inr (sr p q u v h1 (by omega) h3 hu hv)
  have three : ∀ {x y z w : α × Nat}, x = y ∨ Rk key x y → Rk key y z → z = w ∨ Rk key z w → Rk key x w := by
    rintro x y z w (rfl | h1) h2 (rfl | h3)
    · exact h2
    · exact h2.trans key h3
    · exact h1.trans key h2
    · exact (h1.trans key h2).trans key h3
  refine ⟨?_, ?_, ?_, ?_, ?_⟩
  · intro i j u v h1 h2 h3 h4 hu hv
    by_cases q1 : i < start
    · rw [at1 i q1] at hu
      by_cases q2 : j < mid + m - start
      · rw [at3 j h3 q2] at hv
        exact sl i _ u v h1 (by omega) (by omega) hu hv
      · rw [at4 j (by omega)] at hv
        obtain ⟨w, hw⟩ := gt (mid + m - start) (by omega)
        obtain ⟨w', hw'⟩ := gt (start - 1) (by omega)
        exact three (le1 i (start - 1) u w' h1 (by omega) (by omega) hu hw') (lo w' w (by omega) (by omega) hw' hw) (le2 (mid + m - start) j w v (by omega) (by omega) h4 hw hv)
    · rw [at2 i (by omega) h2] at hu
      by_cases q2 : j < mid + m - start
      · rw [at3 j h3 q2] at hv
        obtain ⟨w, hw⟩ := gt start (by omega)
        obtain ⟨w', hw'⟩ := gt (mid + m - start - 1) (by omega)
        exact three (le2 _ (mid + m - start - 1) u w' (by omega) (by omega) (by omega) hu hw') (up w w' (by omega) (by omega) hw hw') (le1 start _ w v (by omega) (by omega) (by omega) hw hv)
      · rw [at4 j (by omega)] at hv
        exact sr _ j u v (by omega) (by omega) h4 hu hv
  · exact (sl.part (Nat.le_refl _) hsm).same fun i h1 h2 => at1 i h2
  · intro i j u v h1 h2 h3 hu hv
    rw [at2 i h1 (by omega)] at hu
    rw [at2 j (by omega) h3] at hv
    exact sr _ _ u v (by omega) (by omega) (by omega) hu hv
  · intro i j u v h1 h2 h3 hu hv
    rw [at3 i h1 (by omega)] at hu
    rw [at3 j (by omega) h3] at hv
    exact sl _ _ u v (by omega) (by omega) (by omega) hu hv
  · exact (sr.part (by omega) (Nat.le_refl _)).same fun i h1 h2 => at4 i h1

/-- Two sorted rows of the same elements are one. -/
theorem srt_unique {T T' : List (α × Nat)} (p : T'.Perm T) (s : Srt key T 0 T.length) (s' : Srt key T' 0 T'.length) : T' = T := by
  have pw : ∀ {X : List (α × Nat)}, Srt key X 0 X.length → X.Pairwise (Rk key) := fun {X} hs => by
    rw [List.pairwise_iff_getElem]
    intro i j hi hj hij
    exact hs i j _ _ (Nat.zero_le _) hij hj (List.getElem?_eq_getElem hi) (List.getElem?_eq_getElem hj)
  refine List.Perm.eq_of_pairwise ?_ (pw s') (pw s) p
  intro x y _ _ h1 h2
  exfalso
  have h3 := h1.trans key h2
  rcases h3 with h3 | ⟨_, h3⟩
  · exact absurd h3 (Int.lt_irrefl _)
  · omega
/-- The elements with their places. -/
def numd (l : List α) : List (α × Nat) := l.zipIdx
theorem numd_fst (l : List α) : (numd l).map Prod.fst = l := by simp [numd]
theorem numd_at {l : List α} {i : Nat} {u : α × Nat} (h : (numd l)[i]? = some u) : u.2 = i ∧ l[i]? = some u.1 := by
  rw [numd, List.getElem?_zipIdx] at h
  cases hl : l[i]? with
  | none => rw [hl] at h; cases h
  | some x =>
    rw [hl] at h
    simp at h
    subst h
    exact ⟨rfl, rfl⟩
end
end Go.Proofs.Ytfolkgkcaiaifaa
