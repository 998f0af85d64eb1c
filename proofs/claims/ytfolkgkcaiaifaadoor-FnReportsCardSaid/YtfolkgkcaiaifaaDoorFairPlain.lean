
/- Fair shares in plain words: passes over a list until nothing changes. No condition. -/
import Derived.Test.YtfolkgkcaiaifaaDoorFairShare
namespace Go.Proofs.YtfolkgkcaiaifaaDoor
open Go.HH
set_option linter.unusedSimpArgs false
set_option linter.unusedVariables false

/-- A list and the liters that are left. -/
abbrev Fst := List Sup × Int
/-- One liter more. -/
def more (x : Sup) : Sup := (x.1, x.2.1 + 1, x.2.2)
def short (x : Sup) : Bool := decide (x.2.1 < x.2.2)
def stepF (s : Fst) (i : Nat) : Fst := if 0 < s.2 ∧ short (s.1.getD i sup0) = true then (s.1.set i (more (s.1.getD i sup0)), s.2 - 1) else s
def passF (s : Fst) : Nat → Fst
  | 0 => s
  | i + 1 => stepF (passF s i) i
def full (s : Fst) : Fst := passF s s.1.length
def iterF (s : Fst) : Nat → Fst
  | 0 => s
  | k + 1 => full (iterF s k)
theorem stepF_yes {s : Fst} {i : Nat} (h1 : 0 < s.2) (h2 : short (s.1.getD i sup0) = true) : stepF s i = (s.1.set i (more (s.1.getD i sup0)), s.2 - 1) := by rw [stepF, if_pos ⟨h1, h2⟩]
theorem stepF_no {s : Fst} {i : Nat} (h : ¬ (0 < s.2 ∧ short (s.1.getD i sup0) = true)) : stepF s i = s := by rw [stepF, if_neg h]
theorem stepF_cases (s : Fst) (i : Nat) : stepF s i = s ∨ (0 < s.2 ∧ (stepF s i).2 = s.2 - 1) := by
  by_cases h : 0 < s.2 ∧ short (s.1.getD i sup0) = true
  · exact .inr ⟨h.1, by rw [stepF_yes h.1 h.2]⟩
  · exact .inl (stepF_no h)
theorem stepF_len (s : Fst) (i : Nat) : (stepF s i).1.length = s.1.length := by unfold stepF; split <;> simp
theorem passF_len (s : Fst) : ∀ i, (passF s i).1.length = s.1.length
  | 0 => rfl
  | i + 1 => by rw [passF, stepF_len, passF_len s i]
theorem iterF_len (s : Fst) : ∀ k, (iterF s k).1.length = s.1.length
  | 0 => rfl
  | k + 1 => by rw [iterF, full, passF_len, iterF_len s k]
theorem passF_cases (s : Fst) : ∀ i, passF s i = s ∨ ((passF s i).2 < s.2 ∧ 0 < s.2)
  | 0 => .inl rfl
  | i + 1 => by
    rw [passF]
    rcases passF_cases s i with h | h
    · rw [h]
      rcases stepF_cases s i with h2 | h2
      · exact .inl h2
      · exact .inr ⟨by omega, h2.1⟩
    · rcases stepF_cases (passF s i) i with h2 | h2
      · rw [h2]; exact .inr h
      · exact .inr ⟨by omega, h.2⟩
theorem passF_nn (s : Fst) (h0 : 0 ≤ s.2) : ∀ i, 0 ≤ (passF s i).2 ∧ (passF s i).2 ≤ s.2
  | 0 => ⟨h0, Int.le_refl _⟩
  | i + 1 => by
    have := passF_nn s h0 i
    rw [passF]
    rcases stepF_cases (passF s i) i with h2 | h2
    · rw [h2]; exact this
    · omega
/-- If one is short and a liter is left, a pass gives one. -/
theorem full_less {s : Fst} (h1 : 0 < s.2) {i : Nat} (hi : i < s.1.length) (h2 : short (s.1.getD i sup0) = true) : (full s).2 < s.2 := by
  have up : ∀ j, i + 1 ≤ j → (passF s j).2 < s.2 := by
    intro j hj
    induction j with
    | zero => omega
    | succ j ih =>
      by_cases hji : j = i
      · subst hji
        rw [passF]
        rcases passF_cases s j with h | h
        · rw [h, stepF_yes h1 h2]; simp; omega
        · rcases stepF_cases (passF s j) j with h3 | h3
          · rw [h3]; exact h.1
          · omega
      · have := ih (by omega)
        rw [passF]
        rcases stepF_cases (passF s j) j with h3 | h3
        · rw [h3]; exact this
        · omega
  exact up _ hi
theorem passF_dry {s : Fst} (h1 : ¬ 0 < s.2) : ∀ i, passF s i = s
  | 0 => rfl
  | i + 1 => by rw [passF, passF_dry h1 i, stepF_no (fun hh => h1 hh.1)]
theorem passF_sated {s : Fst} (h2 : ∀ i, i < s.1.length → short (s.1.getD i sup0) = false) : ∀ i, i ≤ s.1.length → passF s i = s
  | 0, _ => rfl
  | i + 1, hi => by rw [passF, passF_sated h2 i (by omega), stepF_no (fun hh => by rw [h2 i hi] at hh; exact absurd hh.2 (by simp))]
theorem iterF_fix {s : Fst} {k : Nat} (hf : full (iterF s k) = iterF s k) : ∀ m, k ≤ m → iterF s m = iterF s k := by
  intro m hm
  induction m with
  | zero => have : k = 0 := by omega
            subst this; rfl
  | succ m ih =>
    by_cases h : k = m + 1
    · subst h; rfl
    · rw [iterF, ih (by omega), hf]
theorem iterF_one {s : Fst} {k m : Nat} (hf : full (iterF s k) = iterF s k) (hg : full (iterF s m) = iterF s m) : iterF s k = iterF s m := by
  rcases Nat.le_total k m with h | h
  · exact (iterF_fix hf m h).symm
  · exact iterF_fix hg k h
/-- What every supply keeps. -/
def sane (l : List Sup) : Prop := ∀ x ∈ l, 0 ≤ x.2.1 ∧ x.2.1 ≤ x.2.2 ∧ x.2.2 ≤ 1000
theorem stepF_sane {s : Fst} (h : sane s.1) (i : Nat) : sane (stepF s i).1 := by
  unfold stepF
  split
  · rename_i hh
    intro x hx
    rcases List.mem_or_eq_of_mem_set hx with hx | rfl
    · exact h x hx
    · by_cases hi : i < s.1.length
      · have hm := h _ (List.getElem_mem hi)
        have hs := hh.2
        rw [getDp hi] at hs ⊢
        simp only [short, decide_eq_true_eq] at hs
        simp only [more]; omega
      · have : s.1.getD i sup0 = sup0 := by simp [List.getD, List.getElem?_eq_none (Nat.le_of_not_lt hi)]
        rw [this] at hh
        exact absurd hh.2 (by simp [short, sup0])
  · exact h
theorem passF_sane {s : Fst} (h : sane s.1) : ∀ i, sane (passF s i).1
  | 0 => h
  | i + 1 => stepF_sane (passF_sane h i) i
theorem iterF_sane {s : Fst} (h : sane s.1) : ∀ k, sane (iterF s k).1
  | 0 => h
  | k + 1 => passF_sane (iterF_sane h k) _
theorem iterF_nn {s : Fst} (h : 0 ≤ s.2) : ∀ k, 0 ≤ (iterF s k).2 ∧ (iterF s k).2 ≤ s.2
  | 0 => ⟨h, Int.le_refl _⟩
  | k + 1 => by
    have h1 := iterF_nn h k
    have h2 := passF_nn (iterF s k) h1.1 (iterF s k).1.length
    rw [iterF, full]; omega

def zeroed (l : List Sup) : List Sup := l.map fun x => (x.1, 0, x.2.2)
theorem zeroed_sane {l : List Sup} (g : supGood l) : sane (zeroed l) := by
  intro x hx
  obtain ⟨y, hy, rfl⟩ := List.mem_map.1 hx
  obtain ⟨i, hi, rfl⟩ := List.mem_iff_getElem.1 hy
  have := (g i hi).1
  rw [getDp hi] at this
  obtain ⟨_, a, b, c⟩ := this
  simp only; omega

/-- Rows of three. -/
theorem row3 {l : List Sup} {i : Nat} (hi : i < l.length) : (l.map sup).flatten = ((l.take i).map sup).flatten ++ .int .i64 l[i].1 :: .int .i64 l[i].2.1 :: .int .i64 l[i].2.2 :: ((l.drop (i + 1)).map sup).flatten := by
  have e : l = l.take i ++ l[i] :: l.drop (i + 1) := by rw [← List.drop_eq_getElem_cons hi, List.take_append_drop]
  conv => lhs; rw [e]
  rw [List.map_append, List.flatten_append, List.map_cons, List.flatten_cons]
  rfl
theorem take3 {l : List Sup} {i : Nat} (hi : i ≤ l.length) : ((l.take i).map sup).flatten.length = i * 3 := by
  rw [flatten_len (sz := 3) (fun r hr => by obtain ⟨x, _, rfl⟩ := List.mem_map.1 hr; rfl), List.length_map, List.length_take, Nat.min_eq_left hi]
theorem len3 {l : List Sup} : (l.map sup).flatten.length = l.length * 3 := by
  rw [flatten_len (sz := 3) (fun r hr => by obtain ⟨x, _, rfl⟩ := List.mem_map.1 hr; rfl), List.length_map]
theorem set_got {l : List Sup} {i : Nat} (hi : i < l.length) (g : Int) : setRange ((l.map sup).flatten) (i * 3 + 1) [.int .i64 g] = ((l.set i (l[i].1, g, l[i].2.2)).map sup).flatten := by
  have hi' : i < (l.set i (l[i].1, g, l[i].2.2)).length := by simpa using hi
  rw [row3 hi, row3 hi']
  have t1 : (l.set i (l[i].1, g, l[i].2.2)).take i = l.take i := by rw [List.take_set]; exact List.set_eq_of_length_le (by rw [List.length_take]; omega)
  have t2 : (l.set i (l[i].1, g, l[i].2.2)).drop (i + 1) = l.drop (i + 1) := by rw [List.drop_set]; simp
  rw [t1, t2, List.getElem_set_self]
  have hP := take3 (l := l) (i := i) (by omega)
  have e1 : ∀ (x y z : Value) (Q : List Value), ((l.take i).map sup).flatten ++ x :: y :: z :: Q = (((l.take i).map sup).flatten ++ [x]) ++ y :: z :: Q := fun x y z Q => by simp
  rw [e1, setRange, List.take_left' (by rw [List.length_append, hP]; rfl), List.length_singleton, ← List.drop_drop, List.drop_left' (by rw [List.length_append, hP]; rfl)]
  simp
theorem set_sup {l : List Sup} {i : Nat} (hi : i < l.length) (x : Sup) : setRange ((l.map sup).flatten) (i * 3) [.int .i64 x.1, .int .i64 x.2.1, .int .i64 x.2.2] = ((l.set i x).map sup).flatten := by
  have hi' : i < (l.set i x).length := by simpa using hi
  rw [row3 hi, row3 hi']
  have t1 : (l.set i x).take i = l.take i := by rw [List.take_set]; exact List.set_eq_of_length_le (by rw [List.length_take]; omega)
  have t2 : (l.set i x).drop (i + 1) = l.drop (i + 1) := by rw [List.drop_set]; simp
  rw [t1, t2, List.getElem_set_self]
  have hP := take3 (l := l) (i := i) (by omega)
  rw [setRange, List.take_left' hP, ← List.drop_drop, List.drop_left' hP]
  simp
theorem cell3 {l : List Sup} {i : Nat} (hi : i < l.length) : ((l.map sup).flatten)[i * 3 + 1]? = some (.int .i64 l[i].2.1) ∧ (((l.map sup).flatten).drop (i * 3)).take 3 = [.int .i64 l[i].1, .int .i64 l[i].2.1, .int .i64 l[i].2.2] := by
  have hP := take3 (l := l) (i := i) (by omega)
  rw [row3 hi]
  constructor
  · rw [List.getElem?_append_right (by omega), show i * 3 + 1 - ((l.take i).map sup).flatten.length = 1 by omega]; rfl
  · rw [List.drop_left' hP]; rfl
theorem passF_stop {s : Fst} {i : Nat} (h : ¬ 0 < (passF s i).2) : ∀ n, i ≤ n → passF s n = passF s i := by
  intro n hn
  induction n with
  | zero => have : i = 0 := by omega
            subst this; rfl
  | succ n ih =>
    by_cases hi : i = n + 1
    · subst hi; rfl
    · rw [passF, ih (by omega), stepF_no (fun hh => h hh.1)]
theorem set_same {l : List Sup} {i : Nat} (hi : i < l.length) : l.set i l[i] = l := by
  refine List.ext_getElem (by simp) fun j h1 h2 => ?_
  rw [List.getElem_set]
  split
  · rename_i h; subst h; rfl
  · rfl
end Go.Proofs.YtfolkgkcaiaifaaDoor
