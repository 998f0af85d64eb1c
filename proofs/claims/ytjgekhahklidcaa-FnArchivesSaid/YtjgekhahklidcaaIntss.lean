
/- Slices of slices of numbers: how the laws compare, mark and measure them. No condition. -/
import Derived.Test.YtjgekhahklidcaaArchive
namespace Go.Proofs.Ytjgekhahklidcaa
open Go.HH
set_option linter.unusedSimpArgs false
set_option linter.unusedVariables false

/-- 'v' is a slice of its own of 'n' slices of their own; row i holds the numbers 'g i'. -/
def FG (lo hi : Nat) (h : Heap) (v : Value) (n : Nat) (g : Nat → List Int) : Prop :=
  ∃ a, v = .slice a n 0 ∧ (0 < n → ∃ (oid : Nat) (cells : List Value) (f : Nat → Nat), a = some ⟨oid, 0, none⟩ ∧ lo ≤ oid ∧ oid < hi ∧ hget h oid = some ⟨cells, 1, .rw⟩ ∧ cells.length = n ∧
    (∀ i, i < n → lo ≤ f i ∧ f i < hi ∧ f i ≠ oid ∧ cells[i]? = some (.slice (some ⟨f i, 0, none⟩) (g i).length 0) ∧ hget h (f i) = some ⟨(g i).map iv, 1, .rw⟩) ∧ ∀ i j, i < n → j < n → f i = f j → i = j)
theorem FG.mono {lo hi : Nat} {h h' : Heap} {v : Value} {n : Nat} {g : Nat → List Int} (s : FG lo hi h v n g) (hp : h <+: h') : FG lo hi h' v n g := by
  obtain ⟨a, e, F⟩ := s
  refine ⟨a, e, fun h0 => ?_⟩
  have G := F h0
  clear F
  obtain ⟨oid, cells, f, e1, e2, e3, e4, e5, e6, e7⟩ := G
  exact ⟨oid, cells, f, e1, e2, e3, by rw [hget_prefix hp (hget_lt e4)]; exact e4, e5, fun i hi => by
    obtain ⟨a1, a2, a3, a4, a5⟩ := e6 i hi
    exact ⟨a1, a2, a3, a4, by rw [hget_prefix hp (hget_lt a5)]; exact a5⟩, e7⟩
theorem FG.agr {lo hi a b : Nat} {h h' : Heap} {v : Value} {n : Nat} {g : Nat → List Int} (s : FG lo hi h v n g) (ag : Agr a b h h') (hn : hi ≤ a ∨ b ≤ lo) : FG lo hi h' v n g := by
  obtain ⟨p, e, F⟩ := s
  refine ⟨p, e, fun h0 => ?_⟩
  have G := F h0
  clear F
  obtain ⟨oid, cells, f, e1, e2, e3, e4, e5, e6, e7⟩ := G
  exact ⟨oid, cells, f, e1, e2, e3, by rw [ag.2 oid (hget_lt e4) (by omega)]; exact e4, e5, fun i hi => by
    obtain ⟨a1, a2, a3, a4, a5⟩ := e6 i hi
    exact ⟨a1, a2, a3, a4, by rw [ag.2 (f i) (hget_lt a5) (by omega)]; exact a5⟩, e7⟩
theorem FG.congr {lo hi : Nat} {h : Heap} {v : Value} {n : Nat} {g g' : Nat → List Int} (s : FG lo hi h v n g) (hg : ∀ i, i < n → g i = g' i) : FG lo hi h v n g' := by
  obtain ⟨p, e, F⟩ := s
  refine ⟨p, e, fun h0 => ?_⟩
  have G := F h0
  clear F
  obtain ⟨oid, cells, f, e1, e2, e3, e4, e5, e6, e7⟩ := G
  exact ⟨oid, cells, f, e1, e2, e3, e4, e5, fun i hi => by rw [← hg i hi]; exact e6 i hi, e7⟩
theorem FG.wide {lo hi lo' hi' : Nat} {h : Heap} {v : Value} {n : Nat} {g : Nat → List Int} (s : FG lo hi h v n g) (h1 : lo' ≤ lo) (h2 : hi ≤ hi') : FG lo' hi' h v n g := by
  obtain ⟨p, e, F⟩ := s
  refine ⟨p, e, fun h0 => ?_⟩
  have G := F h0
  clear F
  obtain ⟨oid, cells, f, e1, e2, e3, e4, e5, e6, e7⟩ := G
  exact ⟨oid, cells, f, e1, by omega, by omega, e4, e5, fun i hi => by
    obtain ⟨a1, a2, a3⟩ := e6 i hi
    exact ⟨by omega, by omega, a3⟩, e7⟩
/-- The lengths of the first rows. -/
def offG (g : Nat → List Int) : Nat → Nat
  | 0 => 0
  | i + 1 => offG g i + (g i).length
theorem offG_le {g : Nat → List Int} : ∀ n, (∀ i, i < n → (g i).length ≤ 100) → offG g n ≤ 100 * n
  | 0, _ => by simp [offG]
  | n + 1, hb => by
    have := offG_le n (fun i hi => hb i (by omega))
    have := hb n (by omega)
    rw [offG]; omega
def mksG (k : Int) (g : Nat → List Int) (i : Nat) : List Int := marks (k + offG g i) (g i).length

section
variable {h : Heap} {M : Nat → Prop}

end
end Go.Proofs.Ytjgekhahklidcaa
