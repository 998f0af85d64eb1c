
/- Pipes, networks and hydrants: how the laws copy, compare, mark and measure them. No condition. -/
import Derived.Test.YtjgekhahklidcaaInts
namespace Go.Proofs.Ytjgekhahklidcaa
open Go.HH
set_option linter.unusedSimpArgs false
set_option linter.unusedVariables false

/-- The numbers of a Pipe. -/
abbrev Pip := Int × Int × Int × Int

section
variable {h : Heap} {M : Nat → Prop}

/-- The cells. -/
def pip (x : Pip) : List Value := [.int .i64 x.1, .int .i64 x.2.1, .int .i64 x.2.2.1, .int .i64 x.2.2.2]
theorem pip_len {l : List Pip} : ∀ r ∈ l.map pip, r.length = 4 := by
  intro r hr
  obtain ⟨x, _, rfl⟩ := List.mem_map.1 hr
  rfl

end

/-- The numbers of a Hydrant. -/
abbrev Hyd := Int × Int

section
variable {h : Heap} {M : Nat → Prop}

/-- The cells. -/
def hyd (x : Hyd) : List Value := [.int .i64 x.1, .int .i64 x.2]
theorem hyd_len {l : List Hyd} : ∀ r ∈ l.map hyd, r.length = 2 := by
  intro r hr
  obtain ⟨x, _, rfl⟩ := List.mem_map.1 hr
  rfl

end

/-- 'v' is a network that shows its nodes and pipes, in blocks below 'n'. -/
def NA (n : Nat) (h : Heap) (v : Value) (N : Int) (P : List Pip) : Prop := ∃ w, v = .agg #[.int .i64 N, w] ∧ SB n 4 h w (P.map pip)
def FN (lo hi : Nat) (h : Heap) (v : Value) (N : Int) (P : List Pip) : Prop := ∃ w, v = .agg #[.int .i64 N, w] ∧ FR lo hi 4 h w (P.map pip)
theorem NA.mono {n : Nat} {h h' : Heap} {v : Value} {N : Int} {P : List Pip} (s : NA n h v N P) (hp : h <+: h') : NA n h' v N P := by
  obtain ⟨w, e, s⟩ := s; exact ⟨w, e, s.mono hp⟩
theorem NA.agr {n lo hi : Nat} {h h' : Heap} {v : Value} {N : Int} {P : List Pip} (s : NA n h v N P) (a : Agr lo hi h h') (hn : n ≤ lo) : NA n h' v N P := by
  obtain ⟨w, e, s⟩ := s; exact ⟨w, e, s.agr a hn⟩
theorem FN.mono {lo hi : Nat} {h h' : Heap} {v : Value} {N : Int} {P : List Pip} (s : FN lo hi h v N P) (hp : h <+: h') : FN lo hi h' v N P := by
  obtain ⟨w, e, s⟩ := s; exact ⟨w, e, s.mono hp⟩
theorem FN.na {lo hi : Nat} {h : Heap} {v : Value} {N : Int} {P : List Pip} (s : FN lo hi h v N P) : NA hi h v N P := by
  obtain ⟨w, e, s⟩ := s; exact ⟨w, e, s.sb⟩
theorem FR.swap {h x y t : Heap} {m m' sz : Nat} {v : Value} {rows : List (List Value)} (s : FR (h ++ x).length m sz (h ++ x ++ t) v rows) (e : y.length = x.length) (hm : m ≤ m') : FR h.length m' sz (h ++ (y ++ t)) v rows := by
  obtain ⟨id, e1, e2, e3, e4, e5⟩ := s
  rw [List.length_append] at e2
  refine ⟨id, e1, by omega, by omega, ?_, e5⟩
  rw [← e4]
  unfold hget
  rw [List.append_assoc, List.getElem?_append_right (by omega), List.getElem?_append_right (by omega), List.getElem?_append_right (by omega), List.getElem?_append_right (by omega), e]
theorem Sl.len4 {h : Heap} {v : Value} {P : List Pip} (s : Sl h 4 v (P.map pip)) : ∃ a, v = .slice a P.length 0 := by
  obtain ⟨a, e, _⟩ := s
  rw [List.length_map] at e
  exact ⟨a, e⟩
theorem Sl.len2 {h : Heap} {v : Value} {P : List Hyd} (s : Sl h 2 v (P.map hyd)) : ∃ a, v = .slice a P.length 0 := by
  obtain ⟨a, e, _⟩ := s
  rw [List.length_map] at e
  exact ⟨a, e⟩

section
variable {h : Heap} {M : Nat → Prop}

end

theorem Fits.net {h : Heap} {v : Value} (ft : FitV h (.struct (.pair (.int .i64) (.pair (.slice (.struct (.pair (.int .i64) (.pair (.int .i64) (.pair (.int .i64) (.pair (.int .i64) .unit)))))) .unit))) v) : ∃ N P, NA h.length h v N P ∧ P.length ≤ 9223372036854775807 := by
  obtain ⟨cs, rfl, f⟩ := ft.struct
  obtain ⟨c1, c2, rfl, f1, f2⟩ := f.pair
  obtain ⟨N, rfl, _⟩ := f1.int
  obtain ⟨c3, c4, rfl, f3, f4⟩ := f2.pair
  obtain rfl := f4.unit
  obtain ⟨w, rfl, fw⟩ := Fits.oneSlice f3
  obtain ⟨rows, s, hl, hr⟩ := Fits.sb fw
  obtain ⟨P, rfl⟩ := rows_map (f := pip) (rows := rows) (fun r hr' => by
    have hf := hr r hr'
    obtain ⟨a1, a2, rfl, g1, g2⟩ := Fits.pair (show Fits h (.pair (.int .i64) (.pair (.int .i64) (.pair (.int .i64) (.pair (.int .i64) .unit)))) r from hf)
    obtain ⟨x1, rfl, _⟩ := g1.int
    obtain ⟨a3, a4, rfl, g3, g4⟩ := g2.pair
    obtain ⟨x2, rfl, _⟩ := g3.int
    obtain ⟨a5, a6, rfl, g5, g6⟩ := g4.pair
    obtain ⟨x3, rfl, _⟩ := g5.int
    obtain ⟨a7, a8, rfl, g7, g8⟩ := g6.pair
    obtain ⟨x4, rfl, _⟩ := g7.int
    obtain rfl := g8.unit
    exact ⟨(x1, x2, x3, x4), rfl⟩)
  rw [List.length_map] at hl
  exact ⟨N, P, ⟨w, rfl, s⟩, hl⟩
theorem Fits.hyds {h : Heap} {v : Value} (ft : FitV h (.slice (.struct (.pair (.int .i64) (.pair (.int .i64) .unit)))) v) : ∃ l : List Hyd, SB h.length 2 h v (l.map hyd) ∧ l.length ≤ 9223372036854775807 := by
  obtain ⟨rows, s, hl, hr⟩ := Fits.sb ft
  obtain ⟨P, rfl⟩ := rows_map (f := hyd) (rows := rows) (fun r hr' => by
    have hf := hr r hr'
    obtain ⟨a1, a2, rfl, g1, g2⟩ := Fits.pair (show Fits h (.pair (.int .i64) (.pair (.int .i64) .unit)) r from hf)
    obtain ⟨x1, rfl, _⟩ := g1.int
    obtain ⟨a3, a4, rfl, g3, g4⟩ := g2.pair
    obtain ⟨x2, rfl, _⟩ := g3.int
    obtain rfl := g4.unit
    exact ⟨(x1, x2), rfl⟩)
  rw [List.length_map] at hl
  exact ⟨P, s, hl⟩
end Go.Proofs.Ytjgekhahklidcaa
