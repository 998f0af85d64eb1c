
/- An own slice that grows beside a cursor. No condition. -/
import Derived.Test.YtfolkgkcaiaifaaDraw
import Derived.Test.YtfolkgkcaiaifaaH3
namespace Go.Proofs.Ytfolkgkcaiaifaa
open Go.HH
set_option linter.unusedSimpArgs false
set_option linter.unusedVariables false

/-- An own slice that grows, in a register, beside a cursor. -/
structure Wst (h H : Heap) (id n : Nat) (a : Option Addr) (B sid sz : Nat) (cs : List Value) : Prop where
  st : St H id n a B
  out : Agr id (id + 1) h H
  s : hget H sid = some ⟨cs, sz, .rw⟩
  low : h.length ≤ sid ∧ id < h.length
section
variable {h H H' : Heap} {id n B B' sid sz : Nat} {a : Option Addr} {cs : List Value}
theorem Wst.step (s : Wst h H id n a B sid sz cs) (s' : St H' id n a B') (g : Agr id (id + 1) H H') : Wst h H' id n a B' sid sz cs := by
  have h1 := s.low
  exact ⟨s', s.out.trans g, agr_get g s.s (by omega), h1⟩
theorem Wst.more (s : Wst h H id n a B sid sz cs) (h1 : B ≤ B') : Wst h H id n a B' sid sz cs := ⟨s.st.more h1, s.out, s.s, s.low⟩
theorem Wst.other (s : Wst h H id n a B sid sz cs) {j : Nat} {c : Blk} (hj : hget H j = some c) (hrw : c.st = .rw) (hne : h.length ≤ j ∧ sid ≠ j) (b : Blk) : Wst h (H.set j b) id n a B sid sz cs := by
  have h1 := s.low
  exact ⟨s.st.set hj hrw (by omega), ⟨by simpa using s.out.1, fun i e1 e2 => by rw [hget_set_ne (by omega)]; exact s.out.2 i e1 e2⟩, by rw [hget_set_ne (by omega)]; exact s.s, h1⟩
theorem Wst.put (s : Wst h H id n a B sid sz cs) (c : List Value) : Wst h (H.set sid ⟨c, sz, .rw⟩) id n a B sid sz c := by
  have h1 := s.low
  exact ⟨s.st.set s.s rfl (by omega), ⟨by simpa using s.out.1, fun i e1 e2 => by rw [hget_set_ne (by omega)]; exact s.out.2 i e1 e2⟩, hget_set_same (hget_lt s.s), h1⟩
theorem Wst.app {new : List Value} (s : Wst h H id n a B sid sz cs) : Wst h ((H ++ [(⟨new, sz, .rw⟩ : Blk)]).set sid (⟨cs, sz, .dead⟩ : Blk) ++ [(⟨cs ++ new, sz, .rw⟩ : Blk)]) id n a B (H.length + 1) sz (cs ++ new) := by
  have h1 := s.low
  have h0 := s.out.1
  have h2 := hget_lt s.s
  have s2 : St ((H ++ [(⟨new, sz, .rw⟩ : Blk)]).set sid (⟨cs, sz, .dead⟩ : Blk)) id n a B := (s.st.app _).set (self_get s.s _) rfl (by omega)
  have s3 := s2.app [(⟨cs ++ new, sz, .rw⟩ : Blk)]
  refine ⟨s3, ⟨by simp; omega, fun i e1 e2 => ?_⟩, ?_, by omega⟩
  · have e5 := s.out.2 i e1 e2
    have e6 : i < H.length := by omega
    rw [← e5]
    have e7 : hget H i = some H[i] := by unfold hget; exact List.getElem?_eq_getElem e6
    rw [e7]
    exact self_get (by rw [hget_set_ne (by omega)]; exact self_get e7 _) _
  · have e5 : ((H ++ [(⟨new, sz, .rw⟩ : Blk)]).set sid (⟨cs, sz, .dead⟩ : Blk)).length = H.length + 1 := by simp
    rw [← e5]
    exact hget_new
end

/-- A block of cells beside a cursor, and the block for the result. -/
structure Vst (h H : Heap) (id n : Nat) (a : Option Addr) (B b2 b3 : Nat) (z2 : Blk) (cs : List Value) (sz : Nat) : Prop where
  st : St H id n a B
  out : Agr id (id + 1) h H
  r : hget H b2 = some z2
  b : hget H b3 = some ⟨cs, sz, .rw⟩
  low : h.length ≤ b2 ∧ b2 < b3 ∧ id < h.length
section
variable {h H H' : Heap} {id n B B' b2 b3 sz : Nat} {a : Option Addr} {z2 : Blk} {cs cs' : List Value}
theorem Vst.step (s : Vst h H id n a B b2 b3 z2 cs sz) (s' : St H' id n a B') (g : Agr id (id + 1) H H') : Vst h H' id n a B' b2 b3 z2 cs sz := by
  have h1 := s.low
  exact ⟨s', s.out.trans g, agr_get g s.r (by omega), agr_get g s.b (by omega), h1⟩
theorem Vst.grow (s : Vst h H id n a B b2 b3 z2 cs sz) (t : Heap) : Vst h (H ++ t) id n a B b2 b3 z2 cs sz := s.step (s.st.app t) Agr.app
theorem Vst.more (s : Vst h H id n a B b2 b3 z2 cs sz) (hB : B ≤ B') : Vst h H id n a B' b2 b3 z2 cs sz := ⟨s.st.more hB, s.out, s.r, s.b, s.low⟩
theorem Vst.put (s : Vst h H id n a B b2 b3 z2 cs sz) (cs' : List Value) : Vst h (H.set b3 ⟨cs', sz, .rw⟩) id n a B b2 b3 z2 cs' sz := by
  have h1 := s.low
  exact ⟨s.st.set s.b rfl (by omega), ⟨by simpa using s.out.1, fun i h2 h3 => by rw [hget_set_ne (by omega)]; exact s.out.2 i h2 h3⟩, by rw [hget_set_ne (by omega)]; exact s.r, hget_set_same (hget_lt s.b), h1⟩
theorem Vst.done (s : Vst h H id n a B b2 b3 z2 cs sz) (hz : z2.st = .rw) (c : Blk) : St (H.set b2 c) id n a B ∧ Agr id (id + 1) h (H.set b2 c) := by
  have h1 := s.low
  exact ⟨s.st.set s.r hz (by omega), ⟨by simpa using s.out.1, fun i h2 h3 => by rw [hget_set_ne (by omega)]; exact s.out.2 i h2 h3⟩⟩
end
theorem pre_ofW {h H : Heap} (hl : h.length ≤ H.length) (hi : ∀ i, i < h.length → hget H i = hget h i) : h <+: H := by
  rw [List.prefix_iff_eq_take]
  refine List.ext_getElem (by simp; omega) fun i h1 h2 => ?_
  have := hi i h1
  unfold hget at this
  rw [List.getElem?_eq_getElem h1, List.getElem?_eq_getElem (by omega)] at this
  simpa using (Option.some.inj this).symm
theorem agr_preW {h h0 H : Heap} {lo hi : Nat} (hp : h <+: h0) (g : Agr lo hi h0 H) (hl : h.length ≤ lo) : h <+: H :=
  pre_ofW (by have := g.1; have := hp.length_le; omega) fun i hi => by
    have h1 := hp.length_le
    rw [g.2 i (by omega) (by omega)]; exact hget_prefix hp hi
theorem pre_setW {h H : Heap} {j : Nat} {b : Blk} (hp : h <+: H) (hj : h.length ≤ j) : h <+: H.set j b :=
  pre_ofW (by simpa using hp.length_le) fun i hi => by rw [hget_set_ne (by omega)]; exact hget_prefix hp hi

theorem hget_set_newW {h : Heap} {x y : Blk} : hget (List.set (h ++ [x]) h.length y) h.length = some y := hget_set_same (by simp)
theorem set_newW {h : Heap} {x y : Blk} : List.set (h ++ [x]) h.length y = h ++ [y] := by simp
end Go.Proofs.Ytfolkgkcaiaifaa
