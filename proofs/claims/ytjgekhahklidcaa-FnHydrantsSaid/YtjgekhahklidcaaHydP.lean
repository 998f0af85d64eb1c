
/- What the hydrants' answers have in common. No condition. -/
import Derived.Test.YtjgekhahklidcaaFew
namespace Go.Proofs.Ytjgekhahklidcaa
open Go.HH
set_option linter.unusedSimpArgs false
set_option linter.unusedVariables false

theorem reachA_in {P : List Pip} {l : List Hyd} {nd : Int} {rc : Nat} {x : Int} (h : x ∈ reachA P l nd rc) : 0 ≤ x ∧ x < l.length := by
  obtain ⟨j, h1, rfl, _⟩ := reachL_mem.1 h
  omega
theorem reachA_sub {P : List Pip} {l : List Hyd} {nd : Int} {rc : Nat} (hr : rc ≤ 10) {x : Int} (h : x ∈ reachA P l nd rc) : x ∈ reachA P l nd 10 := by
  obtain ⟨j, h1, e, h2⟩ := reachL_mem.1 h
  exact reachL_mem.2 ⟨j, h1, e, ball_mono hr h2⟩
theorem sumF_more {l : List Hyd} {x : Hyd} {R : List Int} (h : ∀ y ∈ R, 0 ≤ y ∧ y < l.length) : sumF (l ++ [x]) R = sumF l R := by
  unfold sumF
  congr 1
  refine List.map_congr_left fun y hy => ?_
  have := h y hy
  have hl : y.toNat < l.length := by omega
  simp [List.getD, List.getElem?_append_left hl]
theorem reachL_more {P : List Pip} {l : List Hyd} {x : Hyd} {nd : Int} {rc : Nat} : ∀ i, i ≤ l.length → reachL P (l ++ [x]) nd rc i = reachL P l nd rc i
  | 0, _ => rfl
  | i + 1, hi => by
    have ih := reachL_more (P := P) (l := l) (x := x) (nd := nd) (rc := rc) i (by omega)
    have e : (l ++ [x]).getD i hyd0 = l.getD i hyd0 := by simp [List.getD, List.getElem?_append_left (show i < l.length by omega)]
    by_cases hb : ball P nd rc (l.getD i hyd0).1 = true
    · rw [reachL_yes (by rw [e]; exact hb), reachL_yes hb, ih]
    · rw [reachL_no (by rw [e]; exact hb), reachL_no hb, ih]
theorem reach_more {P : List Pip} {l : List Hyd} {x : Hyd} {nd : Int} {rc : Nat} (hx : 0 ≤ x.2) : sumF l (reachA P l nd rc) ≤ sumF (l ++ [x]) (reachA P (l ++ [x]) nd rc) := by
  have e : reachA P (l ++ [x]) nd rc = reachL P (l ++ [x]) nd rc (l.length + 1) := by rw [reachA, List.length_append]; rfl
  have e2 : (l ++ [x]).getD l.length hyd0 = x := by simp [List.getD]
  have e3 : sumF (l ++ [x]) (reachL P l nd rc l.length) = sumF l (reachA P l nd rc) := sumF_more fun y hy => reachA_in hy
  rw [e]
  by_cases hb : ball P nd rc ((l ++ [x]).getD l.length hyd0).1 = true
  · rw [reachL_yes hb, sumF_snoc, reachL_more _ (Nat.le_refl _), e3, Int.toNat_natCast, e2]; omega
  · rw [reachL_no hb, reachL_more _ (Nat.le_refl _), e3]; omega
theorem lack_le {P : List Pip} {l : List Hyd} {rc : Nat} {nd fl : Int} {N i : Nat} (hf : 0 ≤ fl) : lack P l rc nd fl N i ≤ (weakL P l rc nd N).length := by
  unfold lack weakL
  rw [List.length_map, List.length_map, ← List.countP_eq_length_filter, ← List.countP_eq_length_filter]
  have := List.countP_mono_left (l := List.range N) (p := fun j => decide (sumF (l ++ [(((i + 1 : Nat) : Int), fl)]) (reachA P (l ++ [(((i + 1 : Nat) : Int), fl)]) ((j + 1 : Nat) : Int) rc) < nd))
    (q := fun j => decide (sumF l (reachA P l ((j + 1 : Nat) : Int) rc) < nd)) (fun j _ h => by
      have h1 := reach_more (P := P) (l := l) (x := (((i + 1 : Nat) : Int), fl)) (nd := ((j + 1 : Nat) : Int)) (rc := rc) hf
      simp only [decide_eq_true_eq] at h ⊢
      omega)
  omega
theorem bestL_le {P : List Pip} {l : List Hyd} {rc : Nat} {nd fl : Int} {N : Nat} (hf : 0 ≤ fl) : ∀ i, (bestL P l rc nd fl N i).2 ≤ (weakL P l rc nd N).length
  | 0 => by simp [bestL]
  | i + 1 => by
    have ih := bestL_le (P := P) (l := l) (rc := rc) (nd := nd) (N := N) hf i
    have h1 := lack_le (P := P) (l := l) (rc := rc) (nd := nd) (N := N) (i := i) hf
    unfold bestL
    simp only
    split
    · exact h1
    · exact ih
theorem best_le {N : Int} {P : List Pip} {l : List Hyd} {rc cl fl : Int} (h : bestOk N P l rc cl fl) : weakOk N P l rc cl ∧ (bestRes N P l rc cl fl).2 ≤ (weakRes N P l rc cl).length := by
  have hw : weakOk N P l rc cl := ⟨h.1, h.2.1⟩
  refine ⟨hw, ?_⟩
  rw [bestRes, if_pos h, weakRes, if_pos hw]
  exact bestL_le (by have := h.2.2.1; omega) _
theorem fbest_min {L : List Int} {l : List Hyd} {nd : Int} : ∀ {n : Nat} {d : List Int}, fbest L l nd n = some d → ∀ s, s < n → ¬ sumF l (choice L s L.length) < nd → d.length ≤ (choice L s L.length).length
  | 0, d, h, s, hs, _ => by omega
  | n + 1, d, h, s, hs, hn => by
    unfold fbest fstep at h
    rcases Nat.lt_or_ge s n with hlt | hge
    · split at h
      · exact fbest_min h s hlt hn
      · split at h
        · rename_i hd
          exfalso
          have : ∀ {m : Nat}, fbest L l nd m = none → ∀ s, s < m → sumF l (choice L s L.length) < nd := by
            intro m
            induction m with
            | zero => intro _ s hs; omega
            | succ m ih =>
              intro hm s hs
              unfold fbest fstep at hm
              split at hm
              · rcases Nat.lt_or_ge s m with h1 | h1
                · exact ih hm s h1
                · obtain rfl : s = m := by omega
                  assumption
              · split at hm
                · cases hm
                · split at hm <;> cases hm
          exact hn (this hd s hlt)
        · rename_i d' hd'
          have h1 := fbest_min hd' s hlt hn
          split at h
          · rename_i hc
            simp only [Option.some.injEq] at h; subst h
            omega
          · simp only [Option.some.injEq] at h; subst h; exact h1
    · obtain rfl : s = n := by omega
      split at h
      · rename_i hc; exact absurd hc hn
      · split at h
        · simp only [Option.some.injEq] at h; subst h; exact Nat.le_refl _
        · split at h
          · simp only [Option.some.injEq] at h; subst h; exact Nat.le_refl _
          · rename_i hc
            simp only [Option.some.injEq] at h; subst h
            omega
theorem choice_drop {L : List Int} {l : List Hyd} {s j : Nat} (hj : s.testBit j = true) : ∀ i, i ≤ L.length →
    (i ≤ j → choice L (s ^^^ 2 ^ j) i = choice L s i) ∧ (j < i → (choice L (s ^^^ 2 ^ j) i).length + 1 = (choice L s i).length ∧ sumF l (choice L (s ^^^ 2 ^ j) i) + (l.getD (L.getD j 0).toNat hyd0).2 = sumF l (choice L s i))
  | 0, _ => ⟨fun _ => by simp [choice], fun h => by omega⟩
  | i + 1, hi => by
    obtain ⟨i1, i2⟩ := choice_drop (L := L) (l := l) hj i (by omega)
    have hb : (s ^^^ 2 ^ j).testBit i = (s.testBit i ^^ decide (j = i)) := by rw [Nat.testBit_xor, Nat.testBit_two_pow]
    by_cases hij : j = i
    · subst hij
      have hb2 : (s ^^^ 2 ^ j).testBit j = false := by rw [hb, hj]; simp
      refine ⟨fun h => by omega, fun _ => ?_⟩
      rw [choice_no hb2, choice_yes (by omega) hj, i1 (Nat.le_refl _), sumF_snoc]
      refine ⟨by simp, ?_⟩
      have : L.getD j 0 = L[j] := by simp [List.getD, show j < L.length by omega]
      rw [this]
    · have hb2 : (s ^^^ 2 ^ j).testBit i = s.testBit i := by rw [hb]; simp [hij]
      cases hs : s.testBit i with
      | true =>
        rw [choice_yes (by omega) (by rw [hb2]; exact hs), choice_yes (by omega) hs]
        refine ⟨fun h => by rw [i1 (by omega)], fun h => ?_⟩
        obtain ⟨e1, e2⟩ := i2 (by omega)
        rw [sumF_snoc, sumF_snoc, ← e2]
        refine ⟨by simp; omega, by omega⟩
      | false =>
        rw [choice_no (by rw [hb2]; exact hs), choice_no hs]
        exact ⟨fun h => i1 (by omega), fun h => i2 (by omega)⟩
/-- Without any one of them there is not enough. -/
theorem few_min {N : Int} {P : List Pip} {l : List Hyd} {nd cl : Int} {d : List Int} (h : fewB N P l nd cl = some d) : (1 ≤ cl ∧ cl ≤ 3) ∧ (∀ x ∈ d, 0 ≤ x ∧ x < l.length) ∧ need cl ≤ sumF l d ∧ (∀ x ∈ d, sumF l d - (l.getD x.toNat hyd0).2 < need cl) ∧ (∀ y ∈ l, 1 ≤ y.2 ∧ y.2 ≤ 5000) ∧ d.length ≤ 10 := by
  unfold fewB at h
  split at h
  · rename_i hk
    obtain ⟨s, hs, rfl, hn⟩ := fbest_from h
    have hlen : (reachA P l nd 10).length ≤ l.length := reachL_len
    refine ⟨hk.2.2, fun x hx => reachA_in (choice_mem (Nat.le_refl _) x hx), by omega, fun x hx => ?_, fun y hy => by have := (hk.1.2.1).at hy; exact this.2, ?_⟩
    · obtain ⟨j, hj, rfl⟩ := List.mem_map.1 hx
      obtain ⟨h1, h2⟩ := List.mem_filter.1 hj
      have h1 := List.mem_range.1 h1
      obtain ⟨e1, e2⟩ := (choice_drop (L := reachA P l nd 10) (l := l) (s := s) (j := j) h2 _ (Nat.le_refl _)).2 h1
      have hlt : s ^^^ 2 ^ j < 2 ^ (reachA P l nd 10).length := Nat.xor_lt_two_pow hs (Nat.pow_lt_pow_right (by omega) h1)
      rcases Int.lt_or_le (sumF l (choice (reachA P l nd 10) (s ^^^ 2 ^ j) (reachA P l nd 10).length)) (need cl) with h3 | h3
      · omega
      · have := fbest_min h _ hlt (by omega)
        omega
    · have := @choice_len (reachA P l nd 10) s (reachA P l nd 10).length
      have := hk.1.2.1.2
      omega
  · cases h
end Go.Proofs.Ytjgekhahklidcaa
