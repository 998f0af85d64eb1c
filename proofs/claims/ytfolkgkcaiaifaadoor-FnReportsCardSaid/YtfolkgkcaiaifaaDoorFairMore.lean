
/- What a fair share is: kept nodes, kept wishes, the sum, and who got less. No condition. -/
import Derived.Test.YtfolkgkcaiaifaaDoorFairPlain
namespace Go.Proofs.YtfolkgkcaiaifaaDoor
open Go.HH
set_option linter.unusedSimpArgs false
set_option linter.unusedVariables false

def sumG (l : List Sup) : Int := (l.map fun x => x.2.1).foldr (· + ·) 0
def sumW (l : List Sup) : Int := (l.map fun x => x.2.2).foldr (· + ·) 0
theorem sumG_cons (x : Sup) (l : List Sup) : sumG (x :: l) = x.2.1 + sumG l := rfl
theorem sumW_cons (x : Sup) (l : List Sup) : sumW (x :: l) = x.2.2 + sumW l := rfl
theorem sumG_snoc : ∀ (l : List Sup) (x : Sup), sumG (l ++ [x]) = sumG l + x.2.1
  | [], x => by simp [sumG]
  | y :: l, x => by rw [List.cons_append, sumG_cons, sumG_cons, sumG_snoc l x]; omega
theorem sumW_snoc : ∀ (l : List Sup) (x : Sup), sumW (l ++ [x]) = sumW l + x.2.2
  | [], x => by simp [sumW]
  | y :: l, x => by rw [List.cons_append, sumW_cons, sumW_cons, sumW_snoc l x]; omega
theorem sumG_set : ∀ (l : List Sup) (i : Nat) (hi : i < l.length) (x : Sup), sumG (l.set i x) = sumG l - l[i].2.1 + x.2.1
  | y :: l, 0, _, x => by simp only [List.set_cons_zero, sumG_cons, List.getElem_cons_zero]; omega
  | y :: l, i + 1, hi, x => by
    have := sumG_set l i (by simpa using hi) x
    simp only [List.set_cons_succ, sumG_cons, List.getElem_cons_succ, this]; omega
/-- Same nodes and wishes. -/
def like (a b : List Sup) : Prop := a.length = b.length ∧ ∀ i, i < a.length → (a.getD i sup0).1 = (b.getD i sup0).1 ∧ (a.getD i sup0).2.2 = (b.getD i sup0).2.2
theorem step_in {s : Fst} {i : Nat} (h : short (s.1.getD i sup0) = true) : i < s.1.length := by
  by_cases hi : i < s.1.length
  · exact hi
  · have : s.1.getD i sup0 = sup0 := by simp [List.getD, List.getElem?_eq_none (Nat.le_of_not_lt hi)]
    rw [this] at h
    exact absurd h (by simp [short, sup0])
theorem getD_set {l : List Sup} {i j : Nat} {x : Sup} (hi : i < l.length) : (l.set i x).getD j sup0 = if i = j then x else l.getD j sup0 := by
  simp only [List.getD, List.getElem?_set]
  split
  · rename_i h; subst h; simp [hi]
  · rfl
theorem stepF_like {s : Fst} {b : List Sup} (h : like s.1 b) (i : Nat) : like (stepF s i).1 b := by
  unfold stepF
  split
  · rename_i g
    have hi := step_in g.2
    refine ⟨by rw [List.length_set]; exact h.1, fun j hj => ?_⟩
    rw [getD_set hi]
    split
    · rename_i e; subst e; exact h.2 _ hi
    · exact h.2 j (by simpa using hj)
  · exact h
theorem passF_like {s : Fst} {b : List Sup} (h : like s.1 b) : ∀ i, like (passF s i).1 b
  | 0 => h
  | i + 1 => stepF_like (passF_like h i) i
theorem iterF_like {s : Fst} {b : List Sup} (h : like s.1 b) : ∀ k, like (iterF s k).1 b
  | 0 => h
  | k + 1 => passF_like (iterF_like h k) _
theorem stepF_sum (s : Fst) (i : Nat) : (stepF s i).2 + sumG (stepF s i).1 = s.2 + sumG s.1 := by
  unfold stepF
  split
  · rename_i g
    have hi := step_in g.2
    dsimp only
    rw [sumG_set _ _ hi, getDp hi]
    simp only [more]; omega
  · rfl
theorem passF_sum (s : Fst) : ∀ i, (passF s i).2 + sumG (passF s i).1 = s.2 + sumG s.1
  | 0 => rfl
  | i + 1 => by rw [passF, stepF_sum, passF_sum s i]
theorem iterF_sum (s : Fst) : ∀ k, (iterF s k).2 + sumG (iterF s k).1 = s.2 + sumG s.1
  | 0 => rfl
  | k + 1 => by rw [iterF, full, passF_sum, iterF_sum s k]
/-- Who is still short got 'p', or one more if he stands before 'j'. -/
def even (l : List Sup) (p : Int) (j : Nat) : Prop := ∀ i, short (l.getD i sup0) = true → (i < j → (l.getD i sup0).2.1 = p + 1) ∧ (j ≤ i → (l.getD i sup0).2.1 = p)
theorem pass_even {s : Fst} {p : Int} (h : even s.1 p 0) : ∀ i, even (passF s i).1 p i ∨ (¬ 0 < (passF s i).2 ∧ ∃ j, even (passF s i).1 p j)
  | 0 => .inl h
  | i + 1 => by
    rw [passF]
    rcases pass_even h i with g | ⟨g1, g2⟩
    · by_cases q : 0 < (passF s i).2
      · by_cases q2 : short ((passF s i).1.getD i sup0) = true
        · have hi := step_in q2
          rw [stepF_yes q q2]
          refine .inl fun m hm => ?_
          dsimp only at hm ⊢
          rw [getD_set hi] at hm ⊢
          split
          · rename_i e
            subst e
            have := (g i q2).2 (Nat.le_refl _)
            refine ⟨fun _ => ?_, fun h => by omega⟩
            simp only [more]; omega
          · rename_i e
            rw [if_neg e] at hm
            exact ⟨fun h1 => (g m hm).1 (by omega), fun h1 => (g m hm).2 (by omega)⟩
        · rw [stepF_no (fun h => q2 h.2)]
          refine .inl fun m hm => ⟨fun h1 => (g m hm).1 ?_, fun h1 => (g m hm).2 (by omega)⟩
          have : m ≠ i := fun e => q2 (by have hm2 := hm; rw [e] at hm2; exact hm2)
          omega
      · rw [stepF_no (fun h => q h.1)]
        exact .inr ⟨q, i, g⟩
    · rw [stepF_no (fun h => g1 h.1)]
      exact .inr ⟨g1, g2⟩
theorem iter_even {s : Fst} (h : even s.1 0 0) : ∀ k, even (iterF s k).1 k 0 ∨ (¬ 0 < (iterF s k).2 ∧ ∃ p j, even (iterF s k).1 p j)
  | 0 => .inl h
  | k + 1 => by
    rw [iterF, full]
    rcases iter_even h k with g | ⟨g1, p, j, g2⟩
    · rcases pass_even g (iterF s k).1.length with e | ⟨e1, j, e2⟩
      · refine .inl fun m hm => ⟨fun h1 => absurd h1 (Nat.not_lt_zero _), fun _ => ?_⟩
        have hi := step_in hm
        rw [passF_len] at hi
        have := (e m hm).1 hi
        omega
      · exact .inr ⟨e1, k, j, e2⟩
    · rw [passF_dry g1]
      exact .inr ⟨g1, p, j, g2⟩
/-- What the law asks of a share. -/
theorem fair_facts {l : List Sup} {L : Int} {k : Nat} {y : List Sup} (g : supGood l) (hL : 0 ≤ L ∧ L ≤ 100000) (hf : full (iterF (zeroed l, L) k) = iterF (zeroed l, L) k) (hy : y = (iterF (zeroed l, L) k).1) :
    y.length = l.length ∧ (∀ i, i < y.length → (y.getD i sup0).1 = (l.getD i sup0).1 ∧ (y.getD i sup0).2.2 = (l.getD i sup0).2.2 ∧ supplyOk (y.getD i sup0).1 (y.getD i sup0).2.1 (y.getD i sup0).2.2) ∧
    (∀ i j, j < i → short (y.getD i sup0) = true → short (y.getD j sup0) = true → (y.getD i sup0).2.1 ≤ (y.getD j sup0).2.1 ∧ (y.getD j sup0).2.1 ≤ (y.getD i sup0).2.1 + 1) ∧ sumG y ≤ L ∧ (sumG y < L → sumG y = sumW y) := by
  have zd : ∀ i, i < l.length → (zeroed l).getD i sup0 = ((l.getD i sup0).1, 0, (l.getD i sup0).2.2) := fun i hi => by
    simp only [zeroed, List.getD, List.getElem?_map, List.getElem?_eq_getElem hi]; rfl
  have zl : like (zeroed l, L).1 l := ⟨by simp [zeroed], fun i hi => by rw [zd i (by simpa [zeroed] using hi)]; exact ⟨rfl, rfl⟩⟩
  have lk := iterF_like zl k
  have sn := iterF_sane (s := (zeroed l, L)) (zeroed_sane g) k
  have sm := iterF_sum (zeroed l, L) k
  have nn := iterF_nn (s := (zeroed l, L)) hL.1 k
  have z0 : sumG (zeroed l) = 0 := by
    clear zd zl lk sn sm nn hf hy g
    induction l with
    | nil => rfl
    | cons x r ih => rw [show zeroed (x :: r) = (x.1, 0, x.2.2) :: zeroed r from rfl, sumG_cons, ih]; rfl
  have ev := iter_even (s := (zeroed l, L)) (fun i hi => by
    have h1 := step_in (s := (zeroed l, L)) hi
    rw [zd i (by simpa [zeroed] using h1)]
    exact ⟨fun h => absurd h (Nat.not_lt_zero _), fun _ => rfl⟩) k
  dsimp only at sm nn
  rw [z0] at sm
  rw [← hy] at lk sn sm ev
  have ev2 : ∃ p j, even y p j := by
    rcases ev with e | ⟨_, p, j, e⟩
    · exact ⟨_, _, e⟩
    · exact ⟨p, j, e⟩
  refine ⟨lk.1, fun i hi => ?_, ?_, by omega, fun hlt => ?_⟩
  · obtain ⟨h1, h2⟩ := lk.2 i hi
    have h3 := sn _ (List.getElem_mem hi)
    rw [← getDp hi] at h3
    have h4 := (g i (by rw [← lk.1]; exact hi)).1
    refine ⟨h1, h2, ?_⟩
    obtain ⟨q1, _⟩ := h4
    exact ⟨by rw [h1]; exact q1, h3⟩
  · intro i j hji h1 h2
    obtain ⟨p, m, e⟩ := ev2
    have e1 := e i h1
    have e2 := e j h2
    rcases Nat.lt_or_ge j m with q | q
    · have := e2.1 q
      rcases Nat.lt_or_ge i m with q3 | q3
      · have := e1.1 q3; omega
      · have := e1.2 q3; omega
    · have := e2.2 q
      have := e1.2 (by omega)
      omega
  · have left : 0 < (iterF (zeroed l, L) k).2 := by omega
    have none : ∀ i, i < y.length → short (y.getD i sup0) = false := fun i hi => by
      by_cases q : short (y.getD i sup0) = true
      · have := full_less left (i := i) (by rw [← hy]; exact hi) (by rw [← hy]; exact q)
        rw [hf] at this; omega
      · simpa using q
    have all : ∀ x ∈ y, x.2.1 = x.2.2 := fun x hx => by
      obtain ⟨i, hi, rfl⟩ := List.getElem_of_mem hx
      have h1 := none i hi
      rw [getDp hi] at h1
      have h2 := (sn _ (List.getElem_mem hi)).2.1
      simp only [short, decide_eq_false_iff_not] at h1
      omega
    clear none left ev2 ev sm sn lk hy hlt
    induction y with
    | nil => rfl
    | cons x r ih => rw [sumG_cons, sumW_cons, all x (by simp), ih (fun z hz => all z (List.mem_cons_of_mem _ hz))]
end Go.Proofs.YtfolkgkcaiaifaaDoor
