
/- Runs, steps and parts of an archive give it back. No condition. -/
import Derived.Test.YtjgekhahklidcaaPack
import Derived.Test.YtjgekhahklidcaaUnpack
import Derived.Test.YtjgekhahklidcaaStepsOf
import Derived.Test.YtjgekhahklidcaaFromSteps
import Derived.Test.YtjgekhahklidcaaJoin
import Derived.Test.YtjgekhahklidcaaCutArchive
namespace Go.Proofs.Ytjgekhahklidcaa
open Go.HH
set_option linter.unusedSimpArgs false
set_option linter.unusedVariables false

def rowsL (rs : List Run) : List (List Int) := rs.map fun r => [r.1, (r.2 : Int)]
theorem rowsL_len {rs : List Run} : (rowsL rs).length = rs.length := by simp [rowsL]
theorem rowsL_at {rs : List Run} {i : Nat} (hi : i < rs.length) : (rowsL rs).getD i [] = [rs[i].1, (rs[i].2 : Int)] := by simp [rowsL, List.getD, hi]
def exR (rs : List Run) : List Int := (rs.map fun r => List.replicate r.2 r.1).flatten
theorem exR_snoc {rs : List Run} {x : Int} {c : Nat} : exR (rs ++ [(x, c)]) = exR rs ++ List.replicate c x := by simp [exR]
theorem exR_app {rs ts : List Run} : exR (rs ++ ts) = exR rs ++ exR ts := by simp [exR]
def goodR (rs : List Run) : Prop := (∀ r ∈ rs, 1 ≤ r.2) ∧ ∀ j, j + 1 < rs.length → (rs.getD j (0, 0)).1 ≠ (rs.getD (j + 1) (0, 0)).1
theorem goodR_snoc {rs : List Run} {x y : Int} {c : Nat} (g : goodR (rs ++ [(x, c)])) (h : x ≠ y) : goodR (rs ++ [(x, c)] ++ [(y, 1)]) := by
  refine ⟨fun r hr => ?_, fun j hj => ?_⟩
  · rcases List.mem_append.1 hr with h1 | h1
    · exact g.1 r h1
    · simp at h1; subst h1; exact Nat.le_refl _
  · simp only [List.length_append, List.length_cons, List.length_nil] at hj
    rcases Nat.lt_or_ge (j + 1) (rs.length + 1) with h1 | h1
    · have e := g.2 j (by simp; omega)
      have a1 : (rs ++ [(x, c)] ++ [(y, 1)]).getD j (0, 0) = (rs ++ [(x, c)]).getD j (0, 0) := by simp only [List.getD]; rw [List.getElem?_append_left (by simp; omega)]
      have a2 : (rs ++ [(x, c)] ++ [(y, 1)]).getD (j + 1) (0, 0) = (rs ++ [(x, c)]).getD (j + 1) (0, 0) := by simp only [List.getD]; rw [List.getElem?_append_left (by simp; omega)]
      rw [a1, a2]; exact e
    · obtain rfl : j = rs.length := by omega
      simp [List.getD]
      exact h
theorem goodR_inc {rs : List Run} {x : Int} {c : Nat} (g : goodR (rs ++ [(x, c)])) : goodR (rs ++ [(x, c + 1)]) := by
  refine ⟨fun r hr => ?_, fun j hj => ?_⟩
  · rcases List.mem_append.1 hr with h1 | h1
    · exact g.1 r (List.mem_append_left _ h1)
    · simp at h1; subst h1; exact Nat.le_add_left _ _
  · simp only [List.length_append, List.length_cons, List.length_nil] at hj
    have e := g.2 j (by simp; omega)
    have key : ∀ i, ((rs ++ [(x, c + 1)]).getD i (0, 0)).1 = ((rs ++ [(x, c)]).getD i (0, 0)).1 := fun i => by
      simp only [List.getD]
      rcases Nat.lt_or_ge i rs.length with h1 | h1
      · rw [List.getElem?_append_left h1, List.getElem?_append_left h1]
      · rw [List.getElem?_append_right h1, List.getElem?_append_right h1]
        cases i - rs.length <;> simp
    rw [key, key]; exact e
theorem take_getD {l : List Int} {i : Nat} (hi : i < l.length) : l.take (i + 1) = l.take i ++ [l.getD i 0] := by
  rw [List.take_add_one, List.getElem?_eq_getElem hi]; simp [List.getD, hi]
theorem runs_spec {l : List Int} : ∀ i, i < l.length → ∃ rs c, runs l (i + 1) = rs ++ [(l.getD i 0, c)] ∧ exR (runs l (i + 1)) = l.take (i + 1) ∧ goodR (runs l (i + 1))
  | 0, h => by
    refine ⟨[], 1, runs_new (.inl rfl), ?_, ?_⟩
    · rw [runs_new (.inl rfl), take_getD h]; simp [runs, exR]
    · rw [runs_new (.inl rfl)]
      exact ⟨fun r hr => by simp [runs] at hr; subst hr; exact Nat.le_refl _, fun j hj => by simp [runs] at hj⟩
  | i + 1, h => by
    obtain ⟨rs, c, e, e2, g⟩ := runs_spec (l := l) i (by omega)
    rw [e] at g e2
    by_cases hn : newAt l (i + 1)
    · have hne : l.getD i 0 ≠ l.getD (i + 1) 0 := by
        rcases hn with h1 | h1
        · omega
        · simpa using h1
      rw [runs_new hn, e]
      refine ⟨_, 1, rfl, ?_, goodR_snoc g hne⟩
      rw [exR_snoc, e2, take_getD h]; rfl
    · have heq : l.getD i 0 = l.getD (i + 1) 0 := by
        refine Classical.byContradiction fun hh => hn (.inr ?_)
        simpa using hh
      rw [runs_old hn, e, incL_snoc, heq]
      rw [heq] at g e2
      refine ⟨rs, c + 1, rfl, ?_, goodR_inc g⟩
      rw [exR_snoc, List.replicate_succ', ← List.append_assoc, ← exR_snoc, e2, take_getD h]
theorem runs_all (l : List Int) : exR (runs l l.length) = l ∧ goodR (runs l l.length) := by
  cases hl : l.length with
  | zero =>
    obtain rfl : l = [] := List.length_eq_zero_iff.1 hl
    exact ⟨rfl, fun r hr => by simp [runs] at hr, fun j hj => by simp [runs] at hj⟩
  | succ n =>
    obtain ⟨rs, c, e, e2, g⟩ := runs_spec (l := l) n (by omega)
    exact ⟨by rw [e2, List.take_of_length_le (l := l) (by omega)], g⟩
theorem valsU_rows {rs : List Run} (i : Nat) : valsU (rowsL rs) i = exR (rs.take i) := by
  simp only [valsU, rowsL, exR, ← List.map_take, List.map_map]
  congr 1
theorem unp_back {f : Int} {l : List Int} (h : arGood f l) : unpOk f (rowsL (runs l l.length)) ∧ valsU (rowsL (runs l l.length)) (rowsL (runs l l.length)).length = l := by
  obtain ⟨e, g⟩ := runs_all l
  have ev : valsU (rowsL (runs l l.length)) (rowsL (runs l l.length)).length = l := by rw [valsU_rows, rowsL_len, List.take_length, e]
  refine ⟨⟨fun i hi => ?_, by rw [ev]; exact h⟩, ev⟩
  rw [rowsL_len] at hi
  have hm := g.1 _ (List.getElem_mem hi)
  have hs : (exR ((runs l l.length).take i)).length + (runs l l.length)[i].2 ≤ 30 := by
    have e1 : exR ((runs l l.length).take (i + 1)) = exR ((runs l l.length).take i) ++ List.replicate (runs l l.length)[i].2 (runs l l.length)[i].1 := by
      rw [List.take_add_one, List.getElem?_eq_getElem hi]; exact exR_snoc
    have e2 : exR (runs l l.length) = exR ((runs l l.length).take (i + 1)) ++ exR ((runs l l.length).drop (i + 1)) := by rw [← exR_app, List.take_append_drop]
    have e3 := congrArg List.length e2
    rw [e, e1] at e3
    simp only [List.length_append, List.length_replicate] at e3
    have := h.2.1
    omega
  refine ⟨by rw [rowsL_at hi]; rfl, ?_, ?_⟩
  · rw [rowsL_at hi, valsU_rows]
    simp only [List.getD, List.getElem?_cons_succ, List.getElem?_cons_zero, Option.getD_some]
    omega
  · rintro ⟨h0, h1⟩
    have h2 := g.2 (i - 1) (by omega)
    rw [rowsL_at hi, rowsL_at (show i - 1 < (runs l l.length).length by omega)] at h1
    rw [show i - 1 + 1 = i by omega] at h2
    simp [List.getD] at h1 h2
    rw [List.getElem?_eq_getElem hi, List.getElem?_eq_getElem (by omega)] at h2
    exact h2 h1
theorem psum_steps {l : List Int} : ∀ {k n : Nat}, k < n → n ≤ l.length → psum (steps l n) (k + 1) = l.getD k 0
  | 0, n, hk, hn => by
    rw [psum_succ (show 0 < (steps l n).length by rw [steps_len]; omega)]
    simp [psum, steps, stepAt]
  | k + 1, n, hk, hn => by
    rw [psum_succ (show k + 1 < (steps l n).length by rw [steps_len]; omega), psum_steps (k := k) (by omega) hn]
    simp only [steps, List.getElem_map, List.getElem_range, stepAt]
    rw [if_neg (by omega), show k + 1 - 1 = k by omega]
    omega
theorem from_back {f : Int} {l : List Int} (h : arGood f l) : fromOk f (steps l l.length) ∧ sums (steps l l.length) (steps l l.length).length = l := by
  have e : sums (steps l l.length) (steps l l.length).length = l := by
    rw [steps_len]
    refine List.ext_getElem (by simp [sums]) fun i h1 h2 => ?_
    simp only [sums, List.getElem_map, List.getElem_range]
    rw [psum_steps (by simpa [sums] using h1) (Nat.le_refl _)]
    simp [List.getD, h2]
  refine ⟨⟨by rw [steps_len]; exact h.2.1, fun x hx => ?_, by rw [e]; exact h⟩, e⟩
  obtain ⟨i, hi, rfl⟩ := List.mem_map.1 hx
  have hi := List.mem_range.1 hi
  have hb : ∀ j, -100000 ≤ l.getD j 0 ∧ l.getD j 0 ≤ 100000 := fun j => by
    rcases Nat.lt_or_ge j l.length with h1 | h1
    · have := h.1 _ (List.getElem_mem h1); simpa [List.getD, h1] using this
    · simp [List.getD, List.getElem?_eq_none h1]
  have h1 := hb i
  have h2 := hb (i - 1)
  unfold stepAt
  split <;> omega
theorem cutN_take {f : Int} {l : List Int} {k : Nat} : ∀ i, cutN f l 0 (f + k - 1) i = l.take (min i k) ∨ ¬ (0 ≤ f) ∨ l.length < i
  | 0 => .inl (by simp [cutN])
  | i + 1 => by
    rcases cutN_take (f := f) (l := l) (k := k) i with e | e | e
    · by_cases h0 : 0 ≤ f
      · by_cases h1 : l.length < i + 1
        · exact .inr (.inr h1)
        · by_cases h2 : i < k
          · rw [cutN_yes (by omega), e, show min i k = i by omega, show min (i + 1) k = i + 1 by omega, take_getD (by omega)]; exact .inl rfl
          · rw [cutN, if_neg (by omega), e, show min i k = k by omega, show min (i + 1) k = k by omega]; exact .inl rfl
      · exact .inr (.inl h0)
    · exact .inr (.inl e)
    · exact .inr (.inr (by omega))
theorem cutN_drop {f : Int} {l : List Int} {k : Nat} (h0 : f + l.length - 1 ≤ 3650) : ∀ i, i ≤ l.length → cutN f l (f + k) 3650 i = (l.take i).drop k
  | 0, _ => by simp [cutN]
  | i + 1, hi => by
    have e := cutN_drop (k := k) h0 i (by omega)
    by_cases h2 : k ≤ i
    · rw [cutN_yes (by omega), e, take_getD (by omega), List.drop_append_of_le_length (by simp; omega)]
    · rw [cutN, if_neg (by omega), e, List.drop_eq_nil_of_le (by simp; omega), List.drop_eq_nil_of_le (by simp; omega)]
/-- The two parts of an archive. -/
theorem parts_back {f : Int} {l : List Int} (h : arGood f l) (hl : 1 < l.length) {k : Nat} (hk : k = l.length / 2) :
    cutOk f l 0 (f + k - 1) ∧ cutOk f l (f + k) 3650 ∧ max 0 f = f ∧ max (f + k) f = f + k ∧ cutN f l 0 (f + k - 1) l.length = l.take k ∧ cutN f l (f + k) 3650 l.length = l.drop k ∧ joinOk f (l.take k) (f + k) (l.drop k) := by
  obtain ⟨h1, h2, h3, h4⟩ := id h
  have hkl : 1 ≤ k ∧ k < l.length := by omega
  have l1 : (l.take k).length = k := by simp; omega
  have l2 : (l.drop k).length = l.length - k := by simp
  refine ⟨⟨h, by omega, by omega, by omega⟩, ⟨h, by omega, by omega, by omega⟩, by omega, by omega, ?_, ?_, ⟨fun x hx => h1 x (List.mem_of_mem_take hx), by omega, h3, by omega⟩, ⟨fun x hx => h1 x (List.mem_of_mem_drop hx), by omega, by omega, by omega⟩, by omega, by rw [List.take_append_drop]; exact h⟩
  · rcases cutN_take (f := f) (l := l) (k := k) l.length with e | e | e
    · rw [e]; congr 1; omega
    · omega
    · omega
  · rw [cutN_drop h4 l.length (Nat.le_refl _), List.take_length]
end Go.Proofs.Ytjgekhahklidcaa
