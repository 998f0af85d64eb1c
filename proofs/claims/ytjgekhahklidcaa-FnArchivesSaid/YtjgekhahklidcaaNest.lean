
/- Slices of slices of numbers: how the laws copy and measure them. No condition. -/
import Derived.Test.YtjgekhahklidcaaArchive
namespace Go.Proofs.Ytjgekhahklidcaa
open Go.HH
set_option linter.unusedSimpArgs false
set_option linter.unusedVariables false

/-- 'v' shows the rows 'L', all of it in blocks below 'n'. -/
def AS (n : Nat) (h : Heap) (v : Value) (L : List (List Int)) : Prop :=
  ∃ a, v = .slice a L.length 0 ∧ (0 < L.length → ∃ id off k, a = some ⟨id, off, none⟩ ∧ id < n ∧ hget h id = some k ∧ k.st ≠ .dead ∧ k.esz = 1 ∧ ∀ (i : Nat) (hi : i < L.length), ∃ w, k.cells[off + i]? = some w ∧ AI n h w L[i])
/-- 'v' is a slice of its own, and so are its rows. -/
def FS (lo hi : Nat) (h : Heap) (v : Value) (L : List (List Int)) : Prop :=
  ∃ a, v = .slice a L.length 0 ∧ (0 < L.length → ∃ (id : Nat) (cells : List Value), a = some ⟨id, 0, none⟩ ∧ lo ≤ id ∧ id < hi ∧ hget h id = some ⟨cells, 1, .rw⟩ ∧ ∀ (i : Nat) (hi' : i < L.length), ∃ w, cells[i]? = some w ∧ FI (id + 1) hi h w L[i])
theorem AS.agr {n lo hi : Nat} {h h' : Heap} {v : Value} {L : List (List Int)} (s : AS n h v L) (a : Agr lo hi h h') (hn : n ≤ lo) : AS n h' v L := by
  obtain ⟨p, e, F⟩ := s
  refine ⟨p, e, fun h0 => ?_⟩
  obtain ⟨id, off, k, e1, e2, e3, e4, e5, e6⟩ := F h0
  exact ⟨id, off, k, e1, e2, by rw [a.2 id (hget_lt e3) (by omega)]; exact e3, e4, e5, fun i hi => by
    obtain ⟨w, x, y⟩ := e6 i hi
    exact ⟨w, x, y.agr a hn⟩⟩
theorem AS.mono {n : Nat} {h h' : Heap} {v : Value} {L : List (List Int)} (s : AS n h v L) (hp : h <+: h') : AS n h' v L := by
  obtain ⟨p, e, F⟩ := s
  refine ⟨p, e, fun h0 => ?_⟩
  obtain ⟨id, off, k, e1, e2, e3, e4, e5, e6⟩ := F h0
  exact ⟨id, off, k, e1, e2, by rw [hget_prefix hp (hget_lt e3)]; exact e3, e4, e5, fun i hi => by
    obtain ⟨w, x, y⟩ := e6 i hi
    exact ⟨w, x, y.mono hp⟩⟩
theorem FS.mono {lo hi : Nat} {h h' : Heap} {v : Value} {L : List (List Int)} (s : FS lo hi h v L) (hp : h <+: h') : FS lo hi h' v L := by
  obtain ⟨p, e, F⟩ := s
  refine ⟨p, e, fun h0 => ?_⟩
  obtain ⟨id, cells, e1, e2, e3, e4, e6⟩ := F h0
  exact ⟨id, cells, e1, e2, e3, by rw [hget_prefix hp (hget_lt e4)]; exact e4, fun i hi => by
    obtain ⟨w, x, y⟩ := e6 i hi
    exact ⟨w, x, y.mono hp⟩⟩
theorem FS.as {lo hi : Nat} {h : Heap} {v : Value} {L : List (List Int)} (s : FS lo hi h v L) : AS hi h v L := by
  obtain ⟨p, e, F⟩ := s
  refine ⟨p, e, fun h0 => ?_⟩
  obtain ⟨id, cells, e1, e2, e3, e4, e6⟩ := F h0
  exact ⟨id, 0, _, e1, e3, e4, by simp, rfl, fun i hi => by
    obtain ⟨w, x, y⟩ := e6 i hi
    exact ⟨w, by simpa using x, y.ai⟩⟩
theorem AS.len {n : Nat} {h : Heap} {v : Value} {L : List (List Int)} (s : AS n h v L) : ∃ a, v = .slice a L.length 0 := by
  obtain ⟨a, e, _⟩ := s; exact ⟨a, e⟩
theorem AS.at {n : Nat} {h : Heap} {v : Value} {L : List (List Int)} (s : AS n h v L) (h0 : 0 < L.length) :
    ∃ id off k, v = .slice (some ⟨id, off, none⟩) L.length 0 ∧ id < n ∧ (∀ t, hget (h ++ t) id = some k) ∧ hget h id = some k ∧ k.st ≠ .dead ∧ k.esz = 1 ∧ ∀ (i : Nat) (hi : i < L.length), ∃ w, k.cells[off + i]? = some w ∧ AI n h w L[i] := by
  obtain ⟨a, e, f⟩ := s
  obtain ⟨id, off, k, rfl, e2, e3, e4, e5, e6⟩ := f h0
  exact ⟨id, off, k, e, e2, fun t => by rw [hget_prefix (List.prefix_append _ _) (hget_lt e3)]; exact e3, e3, e4, e5, e6⟩
theorem rows_choose {α β : Type} {P : α → β → Prop} : ∀ {rows : List α}, (∀ r ∈ rows, ∃ x, P r x) → ∃ l : List β, l.length = rows.length ∧ ∀ (i : Nat) (h1 : i < rows.length) (h2 : i < l.length), P rows[i] l[i]
  | [], _ => ⟨[], rfl, fun i h1 => by simp at h1⟩
  | r :: rs, h => by
    obtain ⟨x, hx⟩ := h r (by simp)
    obtain ⟨l, hl, hp⟩ := rows_choose (rows := rs) (fun r hr => h r (by simp [hr]))
    refine ⟨x :: l, by simp [hl], fun i h1 h2 => ?_⟩
    cases i with
    | zero => exact hx
    | succ i => exact hp i (by simpa using h1) (by simpa using h2)
theorem flat_ones {rows : List (List Value)} (hr : ∀ r ∈ rows, r.length = 1) (i : Nat) (hi : i < rows.length) : ∃ w, rows[i] = [w] ∧ rows.flatten[i]? = some w := by
  induction rows generalizing i with
  | nil => simp at hi
  | cons r rs ih =>
    have h1 := hr r (by simp)
    obtain ⟨w, rfl⟩ : ∃ w, r = [w] := by
      match r, h1 with
      | [w], _ => exact ⟨w, rfl⟩
    cases i with
    | zero => exact ⟨w, rfl, rfl⟩
    | succ i =>
      obtain ⟨w', e1, e2⟩ := ih (fun r hr' => hr r (by simp [hr'])) i (by simpa using hi)
      exact ⟨w', by simpa using e1, by simpa using e2⟩
theorem Fits.as {h : Heap} {v : Value} (f : FitV h (.slice (.slice (.int .i64))) v) : ∃ L, AS h.length h v L ∧ L.length ≤ 9223372036854775807 ∧ ∀ r ∈ L, r.length ≤ 9223372036854775807 := by
  rcases f.slice with rfl | ⟨id, rows, rfl, hg, hl, hf⟩
  · exact ⟨[], ⟨none, rfl, fun h0 => by simp at h0⟩, by simp, by simp⟩
  · have h1 : ∀ r ∈ rows, ∃ l : List Int, ∃ w, r = [w] ∧ AI h.length h w l ∧ l.length ≤ 9223372036854775807 := fun r hr => by
      obtain ⟨w, e, fw⟩ := Fits.oneSlice (hf r hr)
      obtain ⟨l, s, hl⟩ := Fits.ai fw
      exact ⟨l, w, e, s, hl⟩
    obtain ⟨L, hL, hP⟩ := rows_choose h1
    have hone : ∀ r ∈ rows, r.length = 1 := fun r hr => by
      obtain ⟨_, w, rfl, _⟩ := h1 r hr; rfl
    refine ⟨L, ⟨_, by rw [hL], fun h0 => ⟨id, 0, _, rfl, hget_lt hg, hg, by simp, rfl, fun i hi => ?_⟩⟩, by rw [hL]; exact hl, fun r hr => ?_⟩
    · have hi' : i < rows.length := by omega
      obtain ⟨w, e, s, _⟩ := hP i hi' hi
      obtain ⟨w', e', s'⟩ := flat_ones hone i hi'
      rw [e] at e'
      obtain rfl : w = w' := by simpa using e'
      exact ⟨w, by simpa using s', s⟩
    · obtain ⟨i, hi, rfl⟩ := List.mem_iff_getElem.1 hr
      obtain ⟨w, e, s, hl⟩ := hP i (by omega) hi
      exact hl
theorem setRange_one {cells : List Value} {i : Nat} {v : Value} (hi : i < cells.length) : cells.set i v = setRange cells i [v] := by
  rw [setRange, List.set_eq_take_append_cons_drop, if_pos hi]; simp
theorem Agr.head {h t t' : Heap} {B B' : Blk} : Agr h.length (h.length + 1) (h ++ B :: t) (h ++ B' :: (t ++ t')) := by
  refine ⟨by simp, fun i hi ho => ?_⟩
  simp only [List.length_append, List.length_cons] at hi
  unfold hget
  rcases ho with ho | ho
  · rw [List.getElem?_append_left ho, List.getElem?_append_left ho]
  · rw [List.getElem?_append_right (by omega), List.getElem?_append_right (by omega), show i - h.length = i - h.length - 1 + 1 by omega, List.getElem?_cons_succ, List.getElem?_cons_succ, List.getElem?_append_left (by omega)]
/-- How many numbers the first rows hold. -/
def tot (L : List (List Int)) : Nat → Nat
  | 0 => 0
  | i + 1 => tot L i + (L.getD i []).length
theorem tot_succ {L : List (List Int)} {i : Nat} (hi : i < L.length) : tot L (i + 1) = tot L i + L[i].length := by
  rw [tot]; simp [List.getD, hi]
theorem tot_mono {L : List (List Int)} {i j : Nat} (h : i ≤ j) : tot L i ≤ tot L j := by
  induction h with
  | refl => exact Nat.le_refl _
  | step _ ih => exact Nat.le_trans ih (by rw [tot]; omega)
theorem tot_row {L : List (List Int)} {i : Nat} (hi : i < L.length) : L[i].length ≤ tot L L.length := by
  have := tot_mono (L := L) (show i + 1 ≤ L.length by omega)
  rw [tot_succ hi] at this; omega

section
variable {h : Heap} {M : Nat → Prop}

end
end Go.Proofs.Ytjgekhahklidcaa
