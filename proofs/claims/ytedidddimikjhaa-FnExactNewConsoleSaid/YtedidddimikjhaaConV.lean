
/- Consoles as values, and their comparison by the laws. No condition. -/
import Derived.Test.YtedidddimikjhaaValves
import Derived.Test.YtedidddimikjhaaPipes
import Derived.Test.YtedidddimikjhaaScalar
import Derived.Test.YtedidddimikjhaaH3
namespace Go.Proofs.Ytedidddimikjhaa
open Go.HH Go.Proofs
set_option linter.unusedSimpArgs false
set_option linter.unusedVariables false

/-- A console. -/
structure Con where
  N : Int
  P : List Pip
  V : List Vlv
  src : Int
  D : ByteArray
  Q : ByteArray
  cnt : Int
def conV (c : Con) (wP wV : Value) : Value := .agg #[.int .i64 c.N, wP, wV, .int .i64 c.src, .string c.D, .string c.Q, .int .i64 c.cnt]
/-- A console that can be read. -/
structure ConS (n : Nat) (h : Heap) (c : Con) (wP wV : Value) : Prop where
  p : SB n 4 h wP (c.P.map pip)
  v : SB n 4 h wV (c.V.map vlv)
theorem ConS.mono {n : Nat} {h h' : Heap} {c : Con} {wP wV : Value} (s : ConS n h c wP wV) (hp : h <+: h') : ConS n h' c wP wV := ⟨s.p.mono hp, s.v.mono hp⟩
theorem ConS.agr {n lo hi : Nat} {h h' : Heap} {c : Con} {wP wV : Value} (s : ConS n h c wP wV) (a : Agr lo hi h h') (hn : n ≤ lo) : ConS n h' c wP wV := ⟨s.p.agr a hn, s.v.agr a hn⟩
theorem ConS.net {n : Nat} {h : Heap} {c : Con} {wP wV : Value} (s : ConS n h c wP wV) : NA n h (.agg #[.int .i64 c.N, wP]) c.N c.P := ⟨wP, rfl, s.p⟩
/-- One whose rows lie in blocks of their own. -/
structure ConF (lo hi : Nat) (h : Heap) (c : Con) (wP wV : Value) : Prop where
  p : FR lo hi 4 h wP (c.P.map pip)
  v : FR lo hi 4 h wV (c.V.map vlv)
theorem ConF.mono {lo hi : Nat} {h h' : Heap} {c : Con} {wP wV : Value} (s : ConF lo hi h c wP wV) (hp : h <+: h') : ConF lo hi h' c wP wV := ⟨s.p.mono hp, s.v.mono hp⟩
theorem ConF.s {lo hi : Nat} {h : Heap} {c : Con} {wP wV : Value} (s : ConF lo hi h c wP wV) : ConS hi h c wP wV := ⟨s.p.sb, s.v.sb⟩
theorem frOne {lo hi sz : Nat} {h : Heap} {v : Value} {rows : List (List Value)} (s : FR lo hi sz h v rows) : oneC v = true := by
  obtain ⟨id, rfl, _⟩ := s
  rfl
def conSmall (c : Con) : Prop := c.P.length ≤ 1048576 ∧ c.V.length ≤ 1048576 ∧ c.D.size + c.Q.size ≤ 1048576
theorem frGrow {h t u : Heap} {lo hi sz : Nat} {v : Value} {rows : List (List Value)} {b : Blk} (s : FR lo hi sz t v rows) (he : u = t ++ [b]) : FR lo hi sz u v rows := by
  rw [he]; exact s.mono (List.prefix_append _ _)
theorem FR.agrC {lo hi a b sz : Nat} {h h' : Heap} {v : Value} {rows : List (List Value)} (s : FR lo hi sz h v rows) (g : Agr a b h h') (hn : hi ≤ a ∨ b ≤ lo) : FR lo hi sz h' v rows := by
  obtain ⟨id, e, e1, e2, e3, e4⟩ := s
  exact ⟨id, e, e1, e2, by rw [g.2 id (hget_lt e3) (by omega)]; exact e3, e4⟩
theorem FR.wideC {lo hi lo' hi' sz : Nat} {h : Heap} {v : Value} {rows : List (List Value)} (s : FR lo hi sz h v rows) (h1 : lo' ≤ lo) (h2 : hi ≤ hi') : FR lo' hi' sz h v rows := by
  obtain ⟨id, e, e1, e2, e3⟩ := s
  exact ⟨id, e, by omega, by omega, e3⟩
theorem hgMove {h x y t u : Heap} {id : Nat} {b : Blk} (g : hget (h ++ x ++ t) id = some b) (hl : h.length + x.length ≤ id) (e : y.length = x.length) : hget (h ++ (y ++ (t ++ u))) id = some b := by
  obtain ⟨j, rfl⟩ : ∃ j, id = h.length + (x.length + j) := ⟨id - h.length - x.length, by omega⟩
  rw [List.append_assoc, hget_app, List.getElem?_append_right (by omega), Nat.add_sub_cancel_left] at g
  rw [hget_app, List.getElem?_append_right (by omega), e, Nat.add_sub_cancel_left]
  have := (List.getElem?_eq_some_iff.1 g).1
  rw [List.getElem?_append_left this]
  exact g
section
variable {h : Heap} {M : Nat → Prop}
theorem c_eqLogC (D P : ByteArray) (n : Int) : vCall [] Try.prog M 20 [.agg #[.string D, .string P, .int .i64 n], .agg #[.string D, .string P, .int .i64 n]] h (fun v h' => v = .bool true ∧ h <+: h') := by
  refine body_of mo Try.func20 rfl (by kernel_rfl) (Nat.le_of_ble_eq_true (by kernel_rfl)) rfl ?_
  simp only [go_sem, Nat.reduceBEq, Nat.reduceAdd, Nat.reduceMul, Nat.reduceSub, Nat.reduceLeDiff, Nat.le_refl, implies_true, Nat.reduceLT, reduceIte, decide_true, decide_false, true_and, and_true, reduceCtorEq, Nat.mul_one, Int.reduceToNat, Int.reduceLE, Int.reduceLT, Int.reduceAdd, Int.reduceSub, Int.reduceMul, Int.cast_ofNat_Int, cast_zero_int, cast_one_int, Nat.reducePow, Nat.reduceEqDiff, Nat.reduceMod, Nat.zero_add, Nat.sub_zero, Nat.add_zero, show ∀ {s : ByteArray}, (s.toList == s.toList) = true from beq_self_eq_true _, Bool.not_true, bne_self_eq_false]
  try all_goals first | exact rfl | exact ⟨rfl, rfl⟩ | exact List.prefix_append _ _ | exact ⟨rfl, List.prefix_append _ _⟩ | assumption | exact ⟨rfl, by assumption⟩ | exact List.prefix_rfl | exact ⟨rfl, List.prefix_rfl⟩ | exact List.IsPrefix.trans (by assumption) (by assumption) | exact ⟨rfl, List.IsPrefix.trans (by assumption) (by assumption)⟩
theorem c_eqConsole {n m : Nat} (c : Con) (wP wV xP xV : Value) (s : ConS n h c wP wV) (s' : ConS m h c xP xV) (hc : conSmall c) : vCall [] Try.prog M 8 [conV c wP wV, conV c xP xV] h (fun r h' => r = .bool true ∧ h <+: h') := by
  refine body_of mo Try.func8 rfl (by kernel_rfl) (Nat.le_of_ble_eq_true (by kernel_rfl)) rfl ?_
  simp only [go_sem, Nat.reduceBEq, Nat.reduceAdd, Nat.reduceMul, Nat.reduceSub, Nat.reduceLeDiff, Nat.le_refl, implies_true, Nat.reduceLT, reduceIte, decide_true, decide_false, true_and, and_true, reduceCtorEq, Nat.mul_one, Int.reduceToNat, Int.reduceLE, Int.reduceLT, Int.reduceAdd, Int.reduceSub, Int.reduceMul, Int.cast_ofNat_Int, cast_zero_int, cast_one_int, Nat.reducePow, Nat.reduceEqDiff, Nat.reduceMod, Nat.zero_add, Nat.sub_zero, Nat.add_zero, conV]
  refine ⟨by kernel_rfl, (c_eqNetwork _ _ c.N c.P (s.net.mono (by simp)) (s'.net.mono (by simp)) hc.1).use (fun _ m => m) ?_⟩
  rintro _ _ ⟨rfl, ⟨t, rfl⟩⟩
  simp only [go_sem, Nat.reduceBEq, Nat.reduceAdd, Nat.reduceMul, Nat.reduceSub, Nat.reduceLeDiff, Nat.le_refl, implies_true, Nat.reduceLT, reduceIte, decide_true, decide_false, true_and, and_true, reduceCtorEq, Nat.mul_one, Int.reduceToNat, Int.reduceLE, Int.reduceLT, Int.reduceAdd, Int.reduceSub, Int.reduceMul, Int.cast_ofNat_Int, cast_zero_int, cast_one_int, Nat.reducePow, Nat.reduceEqDiff, Nat.reduceMod, Nat.zero_add, Nat.sub_zero, Nat.add_zero, conV]
  refine ⟨by kernel_rfl, (c_eqValveS _ _ c.V (s.v.mono (by simp)).1 (s'.v.mono (by simp)).1 hc.2.1).use (fun _ m => m) ?_⟩
  rintro _ _ ⟨rfl, ⟨t2, rfl⟩⟩
  simp only [go_sem, Nat.reduceBEq, Nat.reduceAdd, Nat.reduceMul, Nat.reduceSub, Nat.reduceLeDiff, Nat.le_refl, implies_true, Nat.reduceLT, reduceIte, decide_true, decide_false, true_and, and_true, reduceCtorEq, Nat.mul_one, Int.reduceToNat, Int.reduceLE, Int.reduceLT, Int.reduceAdd, Int.reduceSub, Int.reduceMul, Int.cast_ofNat_Int, cast_zero_int, cast_one_int, Nat.reducePow, Nat.reduceEqDiff, Nat.reduceMod, Nat.zero_add, Nat.sub_zero, Nat.add_zero, conV, bne_self_eq_false]
  refine ⟨by kernel_rfl, (c_eqLogC _ _ _).use (fun _ m => m) ?_⟩
  rintro _ _ ⟨rfl, ⟨t3, rfl⟩⟩
  simp only [go_sem, Nat.reduceBEq, Nat.reduceAdd, Nat.reduceMul, Nat.reduceSub, Nat.reduceLeDiff, Nat.le_refl, implies_true, Nat.reduceLT, reduceIte, decide_true, decide_false, true_and, and_true, reduceCtorEq, Nat.mul_one, Int.reduceToNat, Int.reduceLE, Int.reduceLT, Int.reduceAdd, Int.reduceSub, Int.reduceMul, Int.cast_ofNat_Int, cast_zero_int, cast_one_int, Nat.reducePow, Nat.reduceEqDiff, Nat.reduceMod, Nat.zero_add, Nat.sub_zero, Nat.add_zero, conV]
end
end Go.Proofs.Ytedidddimikjhaa
