
/- Consoles: how the laws copy, compare and measure them, and which are valid. No condition. -/
import Derived.Test.YtedidddimikjhaaDoorValOk
import Derived.Test.YtedidddimikjhaaDoorLogW
import Derived.Test.YtedidddimikjhaaDoorH3
namespace Go.Proofs.YtedidddimikjhaaDoor
open Go.HH Go.Proofs
set_option linter.unusedSimpArgs false
set_option linter.unusedVariables false

/-- A console. -/
structure Con where
  N : Int
  P : List Pip
  V : List Vlv
  src : Int
  D : ByteArray
  Q : ByteArray
  cnt : Int
def conV (c : Con) (wP wV : Value) : Value := .agg #[.int .i64 c.N, wP, wV, .int .i64 c.src, .string c.D, .string c.Q, .int .i64 c.cnt]
/-- A console that can be read. -/
structure ConS (n : Nat) (h : Heap) (c : Con) (wP wV : Value) : Prop where
  p : SB n 4 h wP (c.P.map pip)
  v : SB n 4 h wV (c.V.map vlv)
theorem ConS.mono {n : Nat} {h h' : Heap} {c : Con} {wP wV : Value} (s : ConS n h c wP wV) (hp : h <+: h') : ConS n h' c wP wV := ⟨s.p.mono hp, s.v.mono hp⟩
theorem ConS.agr {n lo hi : Nat} {h h' : Heap} {c : Con} {wP wV : Value} (s : ConS n h c wP wV) (a : Agr lo hi h h') (hn : n ≤ lo) : ConS n h' c wP wV := ⟨s.p.agr a hn, s.v.agr a hn⟩
theorem ConS.net {n : Nat} {h : Heap} {c : Con} {wP wV : Value} (s : ConS n h c wP wV) : NA n h (.agg #[.int .i64 c.N, wP]) c.N c.P := ⟨wP, rfl, s.p⟩
/-- One whose rows lie in blocks of their own. -/
structure ConF (lo hi : Nat) (h : Heap) (c : Con) (wP wV : Value) : Prop where
  p : FR lo hi 4 h wP (c.P.map pip)
  v : FR lo hi 4 h wV (c.V.map vlv)
theorem ConF.mono {lo hi : Nat} {h h' : Heap} {c : Con} {wP wV : Value} (s : ConF lo hi h c wP wV) (hp : h <+: h') : ConF lo hi h' c wP wV := ⟨s.p.mono hp, s.v.mono hp⟩
theorem ConF.s {lo hi : Nat} {h : Heap} {c : Con} {wP wV : Value} (s : ConF lo hi h c wP wV) : ConS hi h c wP wV := ⟨s.p.sb, s.v.sb⟩
theorem frOne {lo hi sz : Nat} {h : Heap} {v : Value} {rows : List (List Value)} (s : FR lo hi sz h v rows) : oneC v = true := by
  obtain ⟨id, rfl, _⟩ := s
  rfl
def conSmall (c : Con) : Prop := c.P.length ≤ 1048576 ∧ c.V.length ≤ 1048576 ∧ c.D.size + c.Q.size ≤ 1048576
def conOk (c : Con) : Prop := valOk c.N c.P c.V ∧ (1 ≤ c.src ∧ c.src ≤ c.N) ∧ logOk (bl c.D) (bl c.Q) c.cnt
open Classical in
noncomputable instance {c : Con} : Decidable (conOk c) := propDecidable _
theorem frGrow {h t u : Heap} {lo hi sz : Nat} {v : Value} {rows : List (List Value)} {b : Blk} (s : FR lo hi sz t v rows) (he : u = t ++ [b]) : FR lo hi sz u v rows := by
  rw [he]; exact s.mono (List.prefix_append _ _)
theorem FR.agrC {lo hi a b sz : Nat} {h h' : Heap} {v : Value} {rows : List (List Value)} (s : FR lo hi sz h v rows) (g : Agr a b h h') (hn : hi ≤ a ∨ b ≤ lo) : FR lo hi sz h' v rows := by
  obtain ⟨id, e, e1, e2, e3, e4⟩ := s
  exact ⟨id, e, e1, e2, by rw [g.2 id (hget_lt e3) (by omega)]; exact e3, e4⟩
theorem FR.wideC {lo hi lo' hi' sz : Nat} {h : Heap} {v : Value} {rows : List (List Value)} (s : FR lo hi sz h v rows) (h1 : lo' ≤ lo) (h2 : hi ≤ hi') : FR lo' hi' sz h v rows := by
  obtain ⟨id, e, e1, e2, e3⟩ := s
  exact ⟨id, e, by omega, by omega, e3⟩
theorem hgMove {h x y t u : Heap} {id : Nat} {b : Blk} (g : hget (h ++ x ++ t) id = some b) (hl : h.length + x.length ≤ id) (e : y.length = x.length) : hget (h ++ (y ++ (t ++ u))) id = some b := by
  obtain ⟨j, rfl⟩ : ∃ j, id = h.length + (x.length + j) := ⟨id - h.length - x.length, by omega⟩
  rw [List.append_assoc, hget_app, List.getElem?_append_right (by omega), Nat.add_sub_cancel_left] at g
  rw [hget_app, List.getElem?_append_right (by omega), e, Nat.add_sub_cancel_left]
  have := (List.getElem?_eq_some_iff.1 g).1
  rw [List.getElem?_append_left this]
  exact g
section
variable {G : List (Nat × Nat)} {h : Heap} {M : Nat → Prop}
theorem c_toConsole {n : Nat} (c : Con) (wP wV : Value) (s : ConS n h c wP wV) (hc : conSmall c) : vCall [] Tryd.prog M 7 [conV c wP wV] h
    (fun r h' => (∃ xP xV, r = conV c xP xV ∧ ConF h.length h'.length h' c xP xV) ∧ h <+: h') := by
  refine body_of mo Tryd.func7 rfl (by kernel_rfl) (Nat.le_of_ble_eq_true (by kernel_rfl)) rfl ?_
  simp only [go_sem, Nat.reduceBEq, Nat.reduceAdd, Nat.reduceMul, Nat.reduceSub, Nat.reduceLeDiff, Nat.le_refl, implies_true, Nat.reduceLT, reduceIte, decide_true, decide_false, true_and, and_true, reduceCtorEq, Nat.mul_one, Int.reduceToNat, Int.reduceLE, Int.reduceLT, Int.reduceAdd, Int.reduceSub, Int.reduceMul, Int.cast_ofNat_Int, cast_zero_int, cast_one_int, Nat.reducePow, Nat.reduceEqDiff, Nat.reduceMod, Nat.zero_add, Nat.sub_zero, Nat.add_zero, conV]
  refine ⟨by kernel_rfl, (c_toNetwork _ c.N c.P (s.net.mono (by simp)) hc.1).use (fun _ m => m) ?_⟩
  rintro _ _ ⟨⟨xP, rfl, fP⟩, ⟨t, rfl⟩⟩
  obtain ⟨iP, eP, p1, p2, p3, p4⟩ := id fP
  subst eP
  simp only [go_sem, Nat.reduceBEq, Nat.reduceAdd, Nat.reduceMul, Nat.reduceSub, Nat.reduceLeDiff, Nat.le_refl, implies_true, Nat.reduceLT, reduceIte, decide_true, decide_false, true_and, and_true, reduceCtorEq, Nat.mul_one, Int.reduceToNat, Int.reduceLE, Int.reduceLT, Int.reduceAdd, Int.reduceSub, Int.reduceMul, Int.cast_ofNat_Int, cast_zero_int, cast_one_int, Nat.reducePow, Nat.reduceEqDiff, Nat.reduceMod, Nat.zero_add, Nat.sub_zero, Nat.add_zero, conV]
  refine ⟨by kernel_rfl, (c_toValveS wV c.V (s.v.mono (by simp)).1 hc.2.1).use (fun _ m => m) ?_⟩
  rintro _ _ ⟨fV, ⟨t2, rfl⟩⟩
  obtain ⟨iV, eV, v1, v2, v3, v4⟩ := id fV
  subst eV
  simp only [go_sem, Nat.reduceBEq, Nat.reduceAdd, Nat.reduceMul, Nat.reduceSub, Nat.reduceLeDiff, Nat.le_refl, implies_true, Nat.reduceLT, reduceIte, decide_true, decide_false, true_and, and_true, reduceCtorEq, Nat.mul_one, Int.reduceToNat, Int.reduceLE, Int.reduceLT, Int.reduceAdd, Int.reduceSub, Int.reduceMul, Int.cast_ofNat_Int, cast_zero_int, cast_one_int, Nat.reducePow, Nat.reduceEqDiff, Nat.reduceMod, Nat.zero_add, Nat.sub_zero, Nat.add_zero, conV]
  refine ⟨by kernel_rfl, (c_toLog _ _ _).use (fun _ m => m) ?_⟩
  rintro _ _ ⟨rfl, ⟨t3, rfl⟩⟩
  simp only [go_sem, Nat.reduceBEq, Nat.reduceAdd, Nat.reduceMul, Nat.reduceSub, Nat.reduceLeDiff, Nat.le_refl, implies_true, Nat.reduceLT, reduceIte, decide_true, decide_false, true_and, and_true, reduceCtorEq, Nat.mul_one, Int.reduceToNat, Int.reduceLE, Int.reduceLT, Int.reduceAdd, Int.reduceSub, Int.reduceMul, Int.cast_ofNat_Int, cast_zero_int, cast_one_int, Nat.reducePow, Nat.reduceEqDiff, Nat.reduceMod, Nat.zero_add, Nat.sub_zero, Nat.add_zero, conV]
  simp only [List.length_append, List.length_cons, List.length_nil] at p1 p2 v1 v2
  refine ⟨_, _, rfl, ?_, ?_⟩
  · exact ⟨iP, by rw [List.length_map], by omega, by omega, hgMove (y := [_, _, _]) p3 (by simp; omega) rfl, p4⟩
  · exact ⟨iV, by rw [List.length_map], by omega, by omega, hgMove (y := _ :: _ :: _ :: t) v3 (by simp; omega) rfl, v4⟩
theorem c_eqConsole {n m : Nat} (c : Con) (wP wV xP xV : Value) (s : ConS n h c wP wV) (s' : ConS m h c xP xV) (hc : conSmall c) : vCall [] Tryd.prog M 9 [conV c wP wV, conV c xP xV] h (fun r h' => r = .bool true ∧ h <+: h') := by
  refine body_of mo Tryd.func9 rfl (by kernel_rfl) (Nat.le_of_ble_eq_true (by kernel_rfl)) rfl ?_
  simp only [go_sem, Nat.reduceBEq, Nat.reduceAdd, Nat.reduceMul, Nat.reduceSub, Nat.reduceLeDiff, Nat.le_refl, implies_true, Nat.reduceLT, reduceIte, decide_true, decide_false, true_and, and_true, reduceCtorEq, Nat.mul_one, Int.reduceToNat, Int.reduceLE, Int.reduceLT, Int.reduceAdd, Int.reduceSub, Int.reduceMul, Int.cast_ofNat_Int, cast_zero_int, cast_one_int, Nat.reducePow, Nat.reduceEqDiff, Nat.reduceMod, Nat.zero_add, Nat.sub_zero, Nat.add_zero, conV]
  refine ⟨by kernel_rfl, (c_eqNetwork _ _ c.N c.P (s.net.mono (by simp)) (s'.net.mono (by simp)) hc.1).use (fun _ m => m) ?_⟩
  rintro _ _ ⟨rfl, ⟨t, rfl⟩⟩
  simp only [go_sem, Nat.reduceBEq, Nat.reduceAdd, Nat.reduceMul, Nat.reduceSub, Nat.reduceLeDiff, Nat.le_refl, implies_true, Nat.reduceLT, reduceIte, decide_true, decide_false, true_and, and_true, reduceCtorEq, Nat.mul_one, Int.reduceToNat, Int.reduceLE, Int.reduceLT, Int.reduceAdd, Int.reduceSub, Int.reduceMul, Int.cast_ofNat_Int, cast_zero_int, cast_one_int, Nat.reducePow, Nat.reduceEqDiff, Nat.reduceMod, Nat.zero_add, Nat.sub_zero, Nat.add_zero, conV]
  refine ⟨by kernel_rfl, (c_eqValveS _ _ c.V (s.v.mono (by simp)).1 (s'.v.mono (by simp)).1 hc.2.1).use (fun _ m => m) ?_⟩
  rintro _ _ ⟨rfl, ⟨t2, rfl⟩⟩
  simp only [go_sem, Nat.reduceBEq, Nat.reduceAdd, Nat.reduceMul, Nat.reduceSub, Nat.reduceLeDiff, Nat.le_refl, implies_true, Nat.reduceLT, reduceIte, decide_true, decide_false, true_and, and_true, reduceCtorEq, Nat.mul_one, Int.reduceToNat, Int.reduceLE, Int.reduceLT, Int.reduceAdd, Int.reduceSub, Int.reduceMul, Int.cast_ofNat_Int, cast_zero_int, cast_one_int, Nat.reducePow, Nat.reduceEqDiff, Nat.reduceMod, Nat.zero_add, Nat.sub_zero, Nat.add_zero, conV, bne_self_eq_false]
  refine ⟨by kernel_rfl, (c_eqLog _ _ _).use (fun _ m => m) ?_⟩
  rintro _ _ ⟨rfl, ⟨t3, rfl⟩⟩
  simp only [go_sem, Nat.reduceBEq, Nat.reduceAdd, Nat.reduceMul, Nat.reduceSub, Nat.reduceLeDiff, Nat.le_refl, implies_true, Nat.reduceLT, reduceIte, decide_true, decide_false, true_and, and_true, reduceCtorEq, Nat.mul_one, Int.reduceToNat, Int.reduceLE, Int.reduceLT, Int.reduceAdd, Int.reduceSub, Int.reduceMul, Int.cast_ofNat_Int, cast_zero_int, cast_one_int, Nat.reducePow, Nat.reduceEqDiff, Nat.reduceMod, Nat.zero_add, Nat.sub_zero, Nat.add_zero, conV]
def conSize (c : Con) : Int := c.P.length + c.V.length + (c.D.size + c.Q.size)
theorem conSize_small {c : Con} (h : ¬ (1048576 : Int) < conSize c) : conSmall c := by
  unfold conSize at h
  exact ⟨by omega, by omega, by omega⟩
structure ConB (c : Con) : Prop where
  p : c.P.length ≤ 9223372036854775807
  v : c.V.length ≤ 9223372036854775807
  d : c.D.size ≤ 9223372036854775807
  q : c.Q.size ≤ 9223372036854775807
theorem c_szConsole {n : Nat} (c : Con) (wP wV : Value) (s : ConS n h c wP wV) (hb : ConB c) (k : Int) (hk : k = 1048576) : vCall [] Tryd.prog M 5 [conV c wP wV, .int .i64 k] h
    (fun r h' => (∃ z, r = .int .i64 z ∧ (z < 0 ↔ (1048576 : Int) < conSize c)) ∧ h <+: h') := by
  subst hk
  refine body_of mo Tryd.func5 rfl (by kernel_rfl) (Nat.le_of_ble_eq_true (by kernel_rfl)) rfl ?_
  simp only [go_sem, Nat.reduceBEq, Nat.reduceAdd, Nat.reduceMul, Nat.reduceSub, Nat.reduceLeDiff, Nat.le_refl, implies_true, Nat.reduceLT, reduceIte, decide_true, decide_false, true_and, and_true, reduceCtorEq, Nat.mul_one, Int.reduceToNat, Int.reduceLE, Int.reduceLT, Int.reduceAdd, Int.reduceSub, Int.reduceMul, Int.cast_ofNat_Int, cast_zero_int, cast_one_int, Nat.reducePow, Nat.reduceEqDiff, Nat.reduceMod, Nat.zero_add, Nat.sub_zero, Nat.add_zero, conV]
  refine ⟨by kernel_rfl, (c_szNetwork _ c.N c.P (s.net.mono (by simp)) _ (by omega) hb.p).use (fun _ m => m) ?_⟩
  rintro _ _ ⟨rfl, ⟨t, rfl⟩⟩
  by_cases h1 : (1048576 : Int) - c.P.length < 0
  · simp only [go_sem, Nat.reduceBEq, Nat.reduceAdd, Nat.reduceMul, Nat.reduceSub, Nat.reduceLeDiff, Nat.le_refl, implies_true, Nat.reduceLT, reduceIte, decide_true, decide_false, true_and, and_true, reduceCtorEq, Nat.mul_one, Int.reduceToNat, Int.reduceLE, Int.reduceLT, Int.reduceAdd, Int.reduceSub, Int.reduceMul, Int.cast_ofNat_Int, cast_zero_int, cast_one_int, Nat.reducePow, Nat.reduceEqDiff, Nat.reduceMod, Nat.zero_add, Nat.sub_zero, Nat.add_zero, conV, h1]
    exact ⟨_, rfl, by unfold conSize; omega⟩
  · simp only [go_sem, Nat.reduceBEq, Nat.reduceAdd, Nat.reduceMul, Nat.reduceSub, Nat.reduceLeDiff, Nat.le_refl, implies_true, Nat.reduceLT, reduceIte, decide_true, decide_false, true_and, and_true, reduceCtorEq, Nat.mul_one, Int.reduceToNat, Int.reduceLE, Int.reduceLT, Int.reduceAdd, Int.reduceSub, Int.reduceMul, Int.cast_ofNat_Int, cast_zero_int, cast_one_int, Nat.reducePow, Nat.reduceEqDiff, Nat.reduceMod, Nat.zero_add, Nat.sub_zero, Nat.add_zero, conV, h1]
    refine ⟨by kernel_rfl, (c_szValveS _ c.V (s.v.mono (by simp)).1 _ (by omega) hb.v).use (fun _ m => m) ?_⟩
    rintro _ _ ⟨rfl, rfl⟩
    by_cases h2 : (1048576 : Int) - c.P.length - c.V.length < 0
    · simp only [go_sem, Nat.reduceBEq, Nat.reduceAdd, Nat.reduceMul, Nat.reduceSub, Nat.reduceLeDiff, Nat.le_refl, implies_true, Nat.reduceLT, reduceIte, decide_true, decide_false, true_and, and_true, reduceCtorEq, Nat.mul_one, Int.reduceToNat, Int.reduceLE, Int.reduceLT, Int.reduceAdd, Int.reduceSub, Int.reduceMul, Int.cast_ofNat_Int, cast_zero_int, cast_one_int, Nat.reducePow, Nat.reduceEqDiff, Nat.reduceMod, Nat.zero_add, Nat.sub_zero, Nat.add_zero, conV, h2]
      exact ⟨_, rfl, by unfold conSize; omega⟩
    · simp only [go_sem, Nat.reduceBEq, Nat.reduceAdd, Nat.reduceMul, Nat.reduceSub, Nat.reduceLeDiff, Nat.le_refl, implies_true, Nat.reduceLT, reduceIte, decide_true, decide_false, true_and, and_true, reduceCtorEq, Nat.mul_one, Int.reduceToNat, Int.reduceLE, Int.reduceLT, Int.reduceAdd, Int.reduceSub, Int.reduceMul, Int.cast_ofNat_Int, cast_zero_int, cast_one_int, Nat.reducePow, Nat.reduceEqDiff, Nat.reduceMod, Nat.zero_add, Nat.sub_zero, Nat.add_zero, conV, h2]
      by_cases h3 : (1048576 : Int) - c.P.length - c.V.length < c.D.size + c.Q.size
      · refine ⟨by kernel_rfl, (c_szLogN c.D c.Q _ c.cnt (by omega) hb.d hb.q h3).use (fun _ m => m) ?_⟩
        rintro _ _ ⟨rfl, ⟨t2, rfl⟩⟩
        simp only [go_sem, Nat.reduceBEq, Nat.reduceAdd, Nat.reduceMul, Nat.reduceSub, Nat.reduceLeDiff, Nat.le_refl, implies_true, Nat.reduceLT, reduceIte, decide_true, decide_false, true_and, and_true, reduceCtorEq, Nat.mul_one, Int.reduceToNat, Int.reduceLE, Int.reduceLT, Int.reduceAdd, Int.reduceSub, Int.reduceMul, Int.cast_ofNat_Int, cast_zero_int, cast_one_int, Nat.reducePow, Nat.reduceEqDiff, Nat.reduceMod, Nat.zero_add, Nat.sub_zero, Nat.add_zero, conV]
        exact ⟨_, rfl, by unfold conSize; omega⟩
      · refine ⟨by kernel_rfl, (c_szLogY c.D c.Q _ c.cnt (by omega) hb.d hb.q h3).use (fun _ m => m) ?_⟩
        rintro _ _ ⟨rfl, ⟨t2, rfl⟩⟩
        simp only [go_sem, Nat.reduceBEq, Nat.reduceAdd, Nat.reduceMul, Nat.reduceSub, Nat.reduceLeDiff, Nat.le_refl, implies_true, Nat.reduceLT, reduceIte, decide_true, decide_false, true_and, and_true, reduceCtorEq, Nat.mul_one, Int.reduceToNat, Int.reduceLE, Int.reduceLT, Int.reduceAdd, Int.reduceSub, Int.reduceMul, Int.cast_ofNat_Int, cast_zero_int, cast_one_int, Nat.reducePow, Nat.reduceEqDiff, Nat.reduceMod, Nat.zero_add, Nat.sub_zero, Nat.add_zero, conV, show ¬ (1048576 : Int) - c.P.length - c.V.length - c.D.size - c.Q.size < 0 by omega]
        exact ⟨_, rfl, by unfold conSize; omega⟩
theorem c_IsValidConsole {n : Nat} (pw : PowAt G h) (c : Con) (wP wV : Value) (s : ConS n h c wP wV) (hes : EszC h 4 wV) (hc : conSmall c) : vCall G Tryd.prog M 8 [conV c wP wV] h (fun r h' => r = .bool (decide (conOk c)) ∧ h <+: h') := by
  refine body_of mo Tryd.func8 rfl (by kernel_rfl) (Nat.le_of_ble_eq_true (by kernel_rfl)) rfl ?_
  simp only [go_sem, Nat.reduceBEq, Nat.reduceAdd, Nat.reduceMul, Nat.reduceSub, Nat.reduceLeDiff, Nat.le_refl, implies_true, Nat.reduceLT, reduceIte, decide_true, decide_false, true_and, and_true, reduceCtorEq, Nat.mul_one, Int.reduceToNat, Int.reduceLE, Int.reduceLT, Int.reduceAdd, Int.reduceSub, Int.reduceMul, Int.cast_ofNat_Int, cast_zero_int, cast_one_int, Nat.reducePow, Nat.reduceEqDiff, Nat.reduceMod, Nat.zero_add, Nat.sub_zero, Nat.add_zero, conV]
  refine ⟨by kernel_rfl, ((c_IsValidValves _ _ c.N c.P c.V (s.net.mono (by simp)) (s.v.mono (by simp)).1 (hes.mono (by simp)) hc.1 hc.2.1).addG).use (fun _ m => m) ?_⟩
  rintro _ _ ⟨rfl, ⟨t, rfl⟩⟩
  by_cases h1 : valOk c.N c.P c.V
  · simp only [go_sem, Nat.reduceBEq, Nat.reduceAdd, Nat.reduceMul, Nat.reduceSub, Nat.reduceLeDiff, Nat.le_refl, implies_true, Nat.reduceLT, reduceIte, decide_true, decide_false, true_and, and_true, reduceCtorEq, Nat.mul_one, Int.reduceToNat, Int.reduceLE, Int.reduceLT, Int.reduceAdd, Int.reduceSub, Int.reduceMul, Int.cast_ofNat_Int, cast_zero_int, cast_one_int, Nat.reducePow, Nat.reduceEqDiff, Nat.reduceMod, Nat.zero_add, Nat.sub_zero, Nat.add_zero, conV, decb h1]
    refine ⟨by kernel_rfl, ((c_has _ _ _).addG).use (fun _ m => m) ?_⟩
    rintro _ _ ⟨rfl, ⟨t2, rfl⟩⟩
    by_cases h2 : 1 ≤ c.src ∧ c.src ≤ c.N
    · simp only [go_sem, Nat.reduceBEq, Nat.reduceAdd, Nat.reduceMul, Nat.reduceSub, Nat.reduceLeDiff, Nat.le_refl, implies_true, Nat.reduceLT, reduceIte, decide_true, decide_false, true_and, and_true, reduceCtorEq, Nat.mul_one, Int.reduceToNat, Int.reduceLE, Int.reduceLT, Int.reduceAdd, Int.reduceSub, Int.reduceMul, Int.cast_ofNat_Int, cast_zero_int, cast_one_int, Nat.reducePow, Nat.reduceEqDiff, Nat.reduceMod, Nat.zero_add, Nat.sub_zero, Nat.add_zero, conV, decb h1, decb h2]
      refine ⟨by kernel_rfl, (c_IsValidLog (pw.mono (by simp)) c.D c.Q c.cnt (by have := hc.2.2; omega)).use (fun _ m => m) ?_⟩
      rintro _ _ ⟨rfl, ⟨t3, rfl⟩⟩
      by_cases h3 : logOk (bl c.D) (bl c.Q) c.cnt
      · simp only [go_sem, Nat.reduceBEq, Nat.reduceAdd, Nat.reduceMul, Nat.reduceSub, Nat.reduceLeDiff, Nat.le_refl, implies_true, Nat.reduceLT, reduceIte, decide_true, decide_false, true_and, and_true, reduceCtorEq, Nat.mul_one, Int.reduceToNat, Int.reduceLE, Int.reduceLT, Int.reduceAdd, Int.reduceSub, Int.reduceMul, Int.cast_ofNat_Int, cast_zero_int, cast_one_int, Nat.reducePow, Nat.reduceEqDiff, Nat.reduceMod, Nat.zero_add, Nat.sub_zero, Nat.add_zero, conV, decb h1, decb h2, decb h3]
        exact congrArg Value.bool (decide_eq_true (p := conOk c) ⟨h1, h2, h3⟩).symm
      · simp only [go_sem, Nat.reduceBEq, Nat.reduceAdd, Nat.reduceMul, Nat.reduceSub, Nat.reduceLeDiff, Nat.le_refl, implies_true, Nat.reduceLT, reduceIte, decide_true, decide_false, true_and, and_true, reduceCtorEq, Nat.mul_one, Int.reduceToNat, Int.reduceLE, Int.reduceLT, Int.reduceAdd, Int.reduceSub, Int.reduceMul, Int.cast_ofNat_Int, cast_zero_int, cast_one_int, Nat.reducePow, Nat.reduceEqDiff, Nat.reduceMod, Nat.zero_add, Nat.sub_zero, Nat.add_zero, conV, decb h1, decb h2, dect h3]
        exact congrArg Value.bool (decide_eq_false (fun hh : conOk c => h3 hh.2.2)).symm
    · simp only [go_sem, Nat.reduceBEq, Nat.reduceAdd, Nat.reduceMul, Nat.reduceSub, Nat.reduceLeDiff, Nat.le_refl, implies_true, Nat.reduceLT, reduceIte, decide_true, decide_false, true_and, and_true, reduceCtorEq, Nat.mul_one, Int.reduceToNat, Int.reduceLE, Int.reduceLT, Int.reduceAdd, Int.reduceSub, Int.reduceMul, Int.cast_ofNat_Int, cast_zero_int, cast_one_int, Nat.reducePow, Nat.reduceEqDiff, Nat.reduceMod, Nat.zero_add, Nat.sub_zero, Nat.add_zero, conV, decb h1, dect h2]
      exact congrArg Value.bool (decide_eq_false (fun hh : conOk c => h2 hh.2.1)).symm
  · simp only [go_sem, Nat.reduceBEq, Nat.reduceAdd, Nat.reduceMul, Nat.reduceSub, Nat.reduceLeDiff, Nat.le_refl, implies_true, Nat.reduceLT, reduceIte, decide_true, decide_false, true_and, and_true, reduceCtorEq, Nat.mul_one, Int.reduceToNat, Int.reduceLE, Int.reduceLT, Int.reduceAdd, Int.reduceSub, Int.reduceMul, Int.cast_ofNat_Int, cast_zero_int, cast_one_int, Nat.reducePow, Nat.reduceEqDiff, Nat.reduceMod, Nat.zero_add, Nat.sub_zero, Nat.add_zero, conV, dect h1]
    exact congrArg Value.bool (decide_eq_false (fun hh : conOk c => h1 hh.1)).symm
theorem c_l2NodeC {n : Nat} (v : Value) (N : Int) (P : List Pip) (x : Int) (hv : NA n h v N P) (hP : P.length ≤ 1048576) : vCall [] Tryd.prog M 31 [v, .int .i64 x] h (fun r h' => r = .bool (decide (netGood N P ∧ 1 ≤ x ∧ x ≤ N)) ∧ h <+: h') := by
  obtain ⟨w, rfl, sw⟩ := id hv
  refine body_of mo Tryd.func31 rfl (by kernel_rfl) (Nat.le_of_ble_eq_true (by kernel_rfl)) rfl ?_
  simp only [go_sem, Nat.reduceBEq, Nat.reduceAdd, Nat.reduceMul, Nat.reduceSub, Nat.reduceLeDiff, Nat.le_refl, implies_true, Nat.reduceLT, reduceIte, decide_true, decide_false, true_and, and_true, reduceCtorEq, Nat.mul_one, Int.reduceToNat, Int.reduceLE, Int.reduceLT, Int.reduceAdd, Int.reduceSub, Int.reduceMul, Int.cast_ofNat_Int, cast_zero_int, cast_one_int, Nat.reducePow, Nat.reduceEqDiff, Nat.reduceMod, Nat.zero_add, Nat.sub_zero, Nat.add_zero]
  refine ⟨by kernel_rfl, (c_l2Good _ N P (hv.mono (by simp)) hP).use (fun _ m => m) ?_⟩
  rintro _ _ ⟨rfl, ⟨t, rfl⟩⟩
  by_cases h1 : netGood N P
  · simp only [go_sem, Nat.reduceBEq, Nat.reduceAdd, Nat.reduceMul, Nat.reduceSub, Nat.reduceLeDiff, Nat.le_refl, implies_true, Nat.reduceLT, reduceIte, decide_true, decide_false, true_and, and_true, reduceCtorEq, Nat.mul_one, Int.reduceToNat, Int.reduceLE, Int.reduceLT, Int.reduceAdd, Int.reduceSub, Int.reduceMul, Int.cast_ofNat_Int, cast_zero_int, cast_one_int, Nat.reducePow, Nat.reduceEqDiff, Nat.reduceMod, Nat.zero_add, Nat.sub_zero, Nat.add_zero, decb h1]
    refine ⟨by kernel_rfl, (c_l1In _ _ _).use (fun _ m => m) ?_⟩
    rintro _ _ ⟨rfl, rfl⟩
    simp only [go_sem, Nat.reduceBEq, Nat.reduceAdd, Nat.reduceMul, Nat.reduceSub, Nat.reduceLeDiff, Nat.le_refl, implies_true, Nat.reduceLT, reduceIte, decide_true, decide_false, true_and, and_true, reduceCtorEq, Nat.mul_one, Int.reduceToNat, Int.reduceLE, Int.reduceLT, Int.reduceAdd, Int.reduceSub, Int.reduceMul, Int.cast_ofNat_Int, cast_zero_int, cast_one_int, Nat.reducePow, Nat.reduceEqDiff, Nat.reduceMod, Nat.zero_add, Nat.sub_zero, Nat.add_zero, decb h1]
    simp [h1]
  · simp only [go_sem, Nat.reduceBEq, Nat.reduceAdd, Nat.reduceMul, Nat.reduceSub, Nat.reduceLeDiff, Nat.le_refl, implies_true, Nat.reduceLT, reduceIte, decide_true, decide_false, true_and, and_true, reduceCtorEq, Nat.mul_one, Int.reduceToNat, Int.reduceLE, Int.reduceLT, Int.reduceAdd, Int.reduceSub, Int.reduceMul, Int.cast_ofNat_Int, cast_zero_int, cast_one_int, Nat.reducePow, Nat.reduceEqDiff, Nat.reduceMod, Nat.zero_add, Nat.sub_zero, Nat.add_zero, dect h1]
    simp [h1]
theorem c_l28Good {n : Nat} (c : Con) (wP wV : Value) (s : ConS n h c wP wV) (hc : conSmall c) : vCall [] Tryd.prog M 15 [conV c wP wV] h (fun r h' => r = .bool (decide (conOk c)) ∧ h <+: h') := by
  refine body_of mo Tryd.func15 rfl (by kernel_rfl) (Nat.le_of_ble_eq_true (by kernel_rfl)) rfl ?_
  simp only [go_sem, Nat.reduceBEq, Nat.reduceAdd, Nat.reduceMul, Nat.reduceSub, Nat.reduceLeDiff, Nat.le_refl, implies_true, Nat.reduceLT, reduceIte, decide_true, decide_false, true_and, and_true, reduceCtorEq, Nat.mul_one, Int.reduceToNat, Int.reduceLE, Int.reduceLT, Int.reduceAdd, Int.reduceSub, Int.reduceMul, Int.cast_ofNat_Int, cast_zero_int, cast_one_int, Nat.reducePow, Nat.reduceEqDiff, Nat.reduceMod, Nat.zero_add, Nat.sub_zero, Nat.add_zero, conV]
  refine ⟨by kernel_rfl, (c_l4Good _ _ c.N c.P c.V (s.net.mono (by simp)) (s.v.mono (by simp)).1 hc.1 hc.2.1).use (fun _ m => m) ?_⟩
  rintro _ _ ⟨rfl, ⟨t, rfl⟩⟩
  by_cases h1 : valOk c.N c.P c.V
  · simp only [go_sem, Nat.reduceBEq, Nat.reduceAdd, Nat.reduceMul, Nat.reduceSub, Nat.reduceLeDiff, Nat.le_refl, implies_true, Nat.reduceLT, reduceIte, decide_true, decide_false, true_and, and_true, reduceCtorEq, Nat.mul_one, Int.reduceToNat, Int.reduceLE, Int.reduceLT, Int.reduceAdd, Int.reduceSub, Int.reduceMul, Int.cast_ofNat_Int, cast_zero_int, cast_one_int, Nat.reducePow, Nat.reduceEqDiff, Nat.reduceMod, Nat.zero_add, Nat.sub_zero, Nat.add_zero, conV, decb h1]
    refine ⟨by kernel_rfl, (c_l2NodeC _ c.N c.P c.src (s.net.mono (by simp)) hc.1).use (fun _ m => m) ?_⟩
    rintro _ _ ⟨rfl, ⟨t2, rfl⟩⟩
    by_cases h2 : netGood c.N c.P ∧ 1 ≤ c.src ∧ c.src ≤ c.N
    · simp only [go_sem, Nat.reduceBEq, Nat.reduceAdd, Nat.reduceMul, Nat.reduceSub, Nat.reduceLeDiff, Nat.le_refl, implies_true, Nat.reduceLT, reduceIte, decide_true, decide_false, true_and, and_true, reduceCtorEq, Nat.mul_one, Int.reduceToNat, Int.reduceLE, Int.reduceLT, Int.reduceAdd, Int.reduceSub, Int.reduceMul, Int.cast_ofNat_Int, cast_zero_int, cast_one_int, Nat.reducePow, Nat.reduceEqDiff, Nat.reduceMod, Nat.zero_add, Nat.sub_zero, Nat.add_zero, conV, decb h1, decb h2]
      refine ⟨by kernel_rfl, (c_l27Log c.D c.Q c.cnt (by have := hc.2.2; omega)).use (fun _ m => m) ?_⟩
      rintro _ _ ⟨rfl, ⟨t3, rfl⟩⟩
      by_cases h3 : logOk (bl c.D) (bl c.Q) c.cnt
      · simp only [go_sem, Nat.reduceBEq, Nat.reduceAdd, Nat.reduceMul, Nat.reduceSub, Nat.reduceLeDiff, Nat.le_refl, implies_true, Nat.reduceLT, reduceIte, decide_true, decide_false, true_and, and_true, reduceCtorEq, Nat.mul_one, Int.reduceToNat, Int.reduceLE, Int.reduceLT, Int.reduceAdd, Int.reduceSub, Int.reduceMul, Int.cast_ofNat_Int, cast_zero_int, cast_one_int, Nat.reducePow, Nat.reduceEqDiff, Nat.reduceMod, Nat.zero_add, Nat.sub_zero, Nat.add_zero, conV, decb h1, decb h2, decb h3]
        exact congrArg Value.bool (decide_eq_true (p := conOk c) ⟨h1, h2.2, h3⟩).symm
      · simp only [go_sem, Nat.reduceBEq, Nat.reduceAdd, Nat.reduceMul, Nat.reduceSub, Nat.reduceLeDiff, Nat.le_refl, implies_true, Nat.reduceLT, reduceIte, decide_true, decide_false, true_and, and_true, reduceCtorEq, Nat.mul_one, Int.reduceToNat, Int.reduceLE, Int.reduceLT, Int.reduceAdd, Int.reduceSub, Int.reduceMul, Int.cast_ofNat_Int, cast_zero_int, cast_one_int, Nat.reducePow, Nat.reduceEqDiff, Nat.reduceMod, Nat.zero_add, Nat.sub_zero, Nat.add_zero, conV, decb h1, decb h2, dect h3]
        exact congrArg Value.bool (decide_eq_false (fun hh : conOk c => h3 hh.2.2)).symm
    · simp only [go_sem, Nat.reduceBEq, Nat.reduceAdd, Nat.reduceMul, Nat.reduceSub, Nat.reduceLeDiff, Nat.le_refl, implies_true, Nat.reduceLT, reduceIte, decide_true, decide_false, true_and, and_true, reduceCtorEq, Nat.mul_one, Int.reduceToNat, Int.reduceLE, Int.reduceLT, Int.reduceAdd, Int.reduceSub, Int.reduceMul, Int.cast_ofNat_Int, cast_zero_int, cast_one_int, Nat.reducePow, Nat.reduceEqDiff, Nat.reduceMod, Nat.zero_add, Nat.sub_zero, Nat.add_zero, conV, decb h1, dect h2]
      exact congrArg Value.bool (decide_eq_false (fun hh : conOk c => h2 ⟨h1.1, hh.2.1⟩)).symm
  · simp only [go_sem, Nat.reduceBEq, Nat.reduceAdd, Nat.reduceMul, Nat.reduceSub, Nat.reduceLeDiff, Nat.le_refl, implies_true, Nat.reduceLT, reduceIte, decide_true, decide_false, true_and, and_true, reduceCtorEq, Nat.mul_one, Int.reduceToNat, Int.reduceLE, Int.reduceLT, Int.reduceAdd, Int.reduceSub, Int.reduceMul, Int.cast_ofNat_Int, cast_zero_int, cast_one_int, Nat.reducePow, Nat.reduceEqDiff, Nat.reduceMod, Nat.zero_add, Nat.sub_zero, Nat.add_zero, conV, dect h1]
    exact congrArg Value.bool (decide_eq_false (fun hh : conOk c => h1 hh.1)).symm
theorem c_sIsValidConsole {n : Nat} (c : Con) (wP wV : Value) (s : ConS n h c wP wV) (hc : conSmall c) : vCall [] Tryd.prog M 6 [conV c wP wV] h (fun r h' => r = .bool (decide (conOk c)) ∧ h <+: h') := by
  have cv : conV c wP wV = .agg #[.int .i64 c.N, wP, wV, .int .i64 c.src, .string c.D, .string c.Q, .int .i64 c.cnt] := rfl
  refine body_of mo Tryd.func6 rfl (by kernel_rfl) (Nat.le_of_ble_eq_true (by kernel_rfl)) rfl ?_
  simp only [go_sem, Nat.reduceBEq, Nat.reduceAdd, Nat.reduceMul, Nat.reduceSub, Nat.reduceLeDiff, Nat.le_refl, implies_true, Nat.reduceLT, reduceIte, decide_true, decide_false, true_and, and_true, reduceCtorEq, Nat.mul_one, Int.reduceToNat, Int.reduceLE, Int.reduceLT, Int.reduceAdd, Int.reduceSub, Int.reduceMul, Int.cast_ofNat_Int, cast_zero_int, cast_one_int, Nat.reducePow, Nat.reduceEqDiff, Nat.reduceMod, Nat.zero_add, Nat.sub_zero, Nat.add_zero, conV]
  rw [← cv]
  refine ⟨by kernel_rfl, (c_l28Good c wP wV (s.mono (by simp)) hc).use (fun _ m => m) ?_⟩
  rintro _ _ ⟨rfl, ⟨t, rfl⟩⟩
  simp only [go_sem, Nat.reduceBEq, Nat.reduceAdd, Nat.reduceMul, Nat.reduceSub, Nat.reduceLeDiff, Nat.le_refl, implies_true, Nat.reduceLT, reduceIte, decide_true, decide_false, true_and, and_true, reduceCtorEq, Nat.mul_one, Int.reduceToNat, Int.reduceLE, Int.reduceLT, Int.reduceAdd, Int.reduceSub, Int.reduceMul, Int.cast_ofNat_Int, cast_zero_int, cast_one_int, Nat.reducePow, Nat.reduceEqDiff, Nat.reduceMod, Nat.zero_add, Nat.sub_zero, Nat.add_zero]
theorem l_IsValidConsole (pw : PowAt G h) (c : Con) (wP wV : Value) (s : ConS h.length h c wP wV) (hb : ConB c) : vCall G Tryd.prog M 3 [conV c wP wV] h (fun r _ => r = .bool true) := by
  refine body_of mo Tryd.func3 rfl (by kernel_rfl) (Nat.le_of_ble_eq_true (by kernel_rfl)) rfl ?_
  have cv : conV c wP wV = .agg #[.int .i64 c.N, wP, wV, .int .i64 c.src, .string c.D, .string c.Q, .int .i64 c.cnt] := rfl
  simp only [go_sem, Nat.reduceBEq, Nat.reduceAdd, Nat.reduceMul, Nat.reduceSub, Nat.reduceLeDiff, Nat.le_refl, implies_true, Nat.reduceLT, reduceIte, decide_true, decide_false, true_and, and_true, reduceCtorEq, Nat.mul_one, Int.reduceToNat, Int.reduceLE, Int.reduceLT, Int.reduceAdd, Int.reduceSub, Int.reduceMul, Int.cast_ofNat_Int, cast_zero_int, cast_one_int, Nat.reducePow, Nat.reduceEqDiff, Nat.reduceMod, Nat.zero_add, Nat.sub_zero, Nat.add_zero, conV]
  rw [← cv]
  refine ⟨by kernel_rfl, ((c_szConsole c wP wV (s.mono (by simp)) hb _ rfl).addG).use (fun _ m => m) ?_⟩
  rintro _ _ ⟨⟨z, rfl, hz⟩, ⟨t, rfl⟩⟩
  by_cases h1 : z < 0
  · simp only [go_sem, Nat.reduceBEq, Nat.reduceAdd, Nat.reduceMul, Nat.reduceSub, Nat.reduceLeDiff, Nat.le_refl, implies_true, Nat.reduceLT, reduceIte, decide_true, decide_false, true_and, and_true, reduceCtorEq, Nat.mul_one, Int.reduceToNat, Int.reduceLE, Int.reduceLT, Int.reduceAdd, Int.reduceSub, Int.reduceMul, Int.cast_ofNat_Int, cast_zero_int, cast_one_int, Nat.reducePow, Nat.reduceEqDiff, Nat.reduceMod, Nat.zero_add, Nat.sub_zero, Nat.add_zero, h1]
  have hc := conSize_small (fun hh => h1 (hz.2 hh))
  simp only [go_sem, Nat.reduceBEq, Nat.reduceAdd, Nat.reduceMul, Nat.reduceSub, Nat.reduceLeDiff, Nat.le_refl, implies_true, Nat.reduceLT, reduceIte, decide_true, decide_false, true_and, and_true, reduceCtorEq, Nat.mul_one, Int.reduceToNat, Int.reduceLE, Int.reduceLT, Int.reduceAdd, Int.reduceSub, Int.reduceMul, Int.cast_ofNat_Int, cast_zero_int, cast_one_int, Nat.reducePow, Nat.reduceEqDiff, Nat.reduceMod, Nat.zero_add, Nat.sub_zero, Nat.add_zero, h1]
  rw [← cv]
  refine ⟨by kernel_rfl, ((c_toConsole c wP wV (s.mono (by simp)) hc).addG).use (fun _ m => m) ?_⟩
  rintro _ _ ⟨⟨xP, xV, rfl, f1⟩, ⟨t1, rfl⟩⟩
  try simp only [List.append_assoc, List.cons_append] at f1
  try simp only [go_sem, Nat.reduceBEq, Nat.reduceAdd, Nat.reduceMul, Nat.reduceSub, Nat.reduceLeDiff, Nat.le_refl, implies_true, Nat.reduceLT, reduceIte, decide_true, decide_false, true_and, and_true, reduceCtorEq, Nat.mul_one, Int.reduceToNat, Int.reduceLE, Int.reduceLT, Int.reduceAdd, Int.reduceSub, Int.reduceMul, Int.cast_ofNat_Int, cast_zero_int, cast_one_int, Nat.reducePow, Nat.reduceEqDiff, Nat.reduceMod, Nat.zero_add, Nat.sub_zero, Nat.add_zero]
  refine ⟨by kernel_rfl, ((c_sIsValidConsole c xP xV f1.s hc).addG).use (fun _ m => m) ?_⟩
  rintro _ _ ⟨rfl, ⟨t2, rfl⟩⟩
  simp only [go_sem, Nat.reduceBEq, Nat.reduceAdd, Nat.reduceMul, Nat.reduceSub, Nat.reduceLeDiff, Nat.le_refl, implies_true, Nat.reduceLT, reduceIte, decide_true, decide_false, true_and, and_true, reduceCtorEq, Nat.mul_one, Int.reduceToNat, Int.reduceLE, Int.reduceLT, Int.reduceAdd, Int.reduceSub, Int.reduceMul, Int.cast_ofNat_Int, cast_zero_int, cast_one_int, Nat.reducePow, Nat.reduceEqDiff, Nat.reduceMod, Nat.zero_add, Nat.sub_zero, Nat.add_zero]
  rw [← cv]
  refine ⟨by kernel_rfl, ((c_toConsole c wP wV (s.mono (by simp)) hc).addG).use (fun _ m => m) ?_⟩
  rintro _ _ ⟨⟨yP, yV, rfl, f2⟩, ⟨t3, rfl⟩⟩
  try simp only [List.append_assoc, List.cons_append] at f2
  have cy : conV c yP yV = .agg #[.int .i64 c.N, yP, yV, .int .i64 c.src, .string c.D, .string c.Q, .int .i64 c.cnt] := rfl
  simp only [go_sem, Nat.reduceBEq, Nat.reduceAdd, Nat.reduceMul, Nat.reduceSub, Nat.reduceLeDiff, Nat.le_refl, implies_true, Nat.reduceLT, reduceIte, decide_true, decide_false, true_and, and_true, reduceCtorEq, Nat.mul_one, Int.reduceToNat, Int.reduceLE, Int.reduceLT, Int.reduceAdd, Int.reduceSub, Int.reduceMul, Int.cast_ofNat_Int, cast_zero_int, cast_one_int, Nat.reducePow, Nat.reduceEqDiff, Nat.reduceMod, Nat.zero_add, Nat.sub_zero, Nat.add_zero, conV, frOne f2.p, frOne f2.v, Bool.and_self]
  try rw [← cy]
  refine ⟨by kernel_rfl, (c_IsValidConsole (pw.mono (by simp)) c yP yV (f2.s.mono (by simp)) ((FR.eszC f2.v).mono (by simp)) hc).use (fun _ m => m) ?_⟩
  rintro _ _ ⟨rfl, ⟨t4, rfl⟩⟩
  simp only [go_sem, Nat.reduceBEq, Nat.reduceAdd, Nat.reduceMul, Nat.reduceSub, Nat.reduceLeDiff, Nat.le_refl, implies_true, Nat.reduceLT, reduceIte, decide_true, decide_false, true_and, and_true, reduceCtorEq, Nat.mul_one, Int.reduceToNat, Int.reduceLE, Int.reduceLT, Int.reduceAdd, Int.reduceSub, Int.reduceMul, Int.cast_ofNat_Int, cast_zero_int, cast_one_int, Nat.reducePow, Nat.reduceEqDiff, Nat.reduceMod, Nat.zero_add, Nat.sub_zero, Nat.add_zero, Tryd.underlying4, bne_self_eq_false]
  rw [← cv]
  refine ⟨by kernel_rfl, ((c_toConsole c wP wV (s.mono (by simp)) hc).addG).use (fun _ m => m) ?_⟩
  rintro _ _ ⟨⟨zP, zV, rfl, f3⟩, ⟨t5, rfl⟩⟩
  try simp only [List.append_assoc, List.cons_append] at f3
  try simp only [go_sem, Nat.reduceBEq, Nat.reduceAdd, Nat.reduceMul, Nat.reduceSub, Nat.reduceLeDiff, Nat.le_refl, implies_true, Nat.reduceLT, reduceIte, decide_true, decide_false, true_and, and_true, reduceCtorEq, Nat.mul_one, Int.reduceToNat, Int.reduceLE, Int.reduceLT, Int.reduceAdd, Int.reduceSub, Int.reduceMul, Int.cast_ofNat_Int, cast_zero_int, cast_one_int, Nat.reducePow, Nat.reduceEqDiff, Nat.reduceMod, Nat.zero_add, Nat.sub_zero, Nat.add_zero]
  try rw [← cy]
  refine ⟨by kernel_rfl, ((c_eqConsole c yP yV zP zV (f2.s.mono (by simp)) f3.s hc).addG).use (fun _ m => m) ?_⟩
  rintro _ _ ⟨rfl, ⟨t6, rfl⟩⟩
  simp only [go_sem, Nat.reduceBEq, Nat.reduceAdd, Nat.reduceMul, Nat.reduceSub, Nat.reduceLeDiff, Nat.le_refl, implies_true, Nat.reduceLT, reduceIte, decide_true, decide_false, true_and, and_true, reduceCtorEq, Nat.mul_one, Int.reduceToNat, Int.reduceLE, Int.reduceLT, Int.reduceAdd, Int.reduceSub, Int.reduceMul, Int.cast_ofNat_Int, cast_zero_int, cast_one_int, Nat.reducePow, Nat.reduceEqDiff, Nat.reduceMod, Nat.zero_add, Nat.sub_zero, Nat.add_zero]
end
theorem Fits.cons {h : Heap} {v : Value} (ft : FitV h (.struct (.pair (.struct (.pair (.int .i64) (.pair (.slice (.struct (.pair (.int .i64) (.pair (.int .i64) (.pair (.int .i64) (.pair (.int .i64) .unit)))))) .unit))) (.pair (.slice (.struct (.pair (.int .i64) (.pair (.int .i64) (.pair (.int .i64) (.pair .bool .unit)))))) (.pair (.int .i64) (.pair (.struct (.pair .str (.pair .str (.pair (.int .i64) .unit)))) .unit))))) v) :
    ∃ c wP wV, v = conV c wP wV ∧ ConS h.length h c wP wV ∧ ConB c := by
  obtain ⟨cs, rfl, f⟩ := ft.struct
  obtain ⟨c1, c2, rfl, f1, f2⟩ := f.pair
  obtain ⟨a1, a2, rfl, g1, g2⟩ := Fits.pair (show Fits h (.pair (.int .i64) (.pair (.slice (.struct (.pair (.int .i64) (.pair (.int .i64) (.pair (.int .i64) (.pair (.int .i64) .unit)))))) .unit)) c1 from f1)
  obtain ⟨N, rfl, _⟩ := g1.int
  obtain ⟨a3, a4, rfl, g3, g4⟩ := g2.pair
  obtain rfl := g4.unit
  obtain ⟨wP, rfl, fw⟩ := Fits.oneSlice g3
  obtain ⟨rows, s, hl, hr⟩ := Fits.sb fw
  obtain ⟨P, rfl⟩ := rows_map (f := pip) (rows := rows) (fun r hr' => by
    have hf := hr r hr'
    obtain ⟨a1, a2, rfl, g1, g2⟩ := Fits.pair (show Fits h (.pair (.int .i64) (.pair (.int .i64) (.pair (.int .i64) (.pair (.int .i64) .unit)))) r from hf)
    obtain ⟨x1, rfl, _⟩ := g1.int
    obtain ⟨a3, a4, rfl, g3, g4⟩ := g2.pair
    obtain ⟨x2, rfl, _⟩ := g3.int
    obtain ⟨a5, a6, rfl, g5, g6⟩ := g4.pair
    obtain ⟨x3, rfl, _⟩ := g5.int
    obtain ⟨a7, a8, rfl, g7, g8⟩ := g6.pair
    obtain ⟨x4, rfl, _⟩ := g7.int
    obtain rfl := g8.unit
    exact ⟨(x1, x2, x3, x4), rfl⟩)
  obtain ⟨b1, b2, rfl, k1, k2⟩ := f2.pair
  obtain ⟨wV, rfl, fv⟩ := Fits.oneSlice k1
  obtain ⟨rows, s', hl', hr⟩ := Fits.sb fv
  obtain ⟨V, rfl⟩ := rows_map (f := vlv) (rows := rows) (fun r hr' => by
    have hf := hr r hr'
    obtain ⟨a1, a2, rfl, g1, g2⟩ := Fits.pair (show Fits h (.pair (.int .i64) (.pair (.int .i64) (.pair (.int .i64) (.pair .bool .unit)))) r from hf)
    obtain ⟨x1, rfl, _⟩ := g1.int
    obtain ⟨a3, a4, rfl, g3, g4⟩ := g2.pair
    obtain ⟨x2, rfl, _⟩ := g3.int
    obtain ⟨a5, a6, rfl, g5, g6⟩ := g4.pair
    obtain ⟨x3, rfl, _⟩ := g5.int
    obtain ⟨a7, a8, rfl, g7, g8⟩ := g6.pair
    obtain ⟨x4, rfl⟩ : ∃ b, a7 = [.bool b] := g7
    obtain rfl := g8.unit
    exact ⟨(x1, x2, x3, x4), rfl⟩)
  obtain ⟨b3, b4, rfl, k3, k4⟩ := k2.pair
  obtain ⟨src, rfl, _⟩ := k3.int
  obtain ⟨b5, b6, rfl, k5, k6⟩ := k4.pair
  obtain rfl := k6.unit
  obtain ⟨d1, d2, rfl, m1, m2⟩ := Fits.pair (show Fits h (.pair .str (.pair .str (.pair (.int .i64) .unit))) b5 from k5)
  obtain ⟨D, rfl, hD⟩ : ∃ s : ByteArray, d1 = [.string s] ∧ s.size ≤ maxLen := m1
  obtain ⟨d3, d4, rfl, m3, m4⟩ := m2.pair
  obtain ⟨Q, rfl, hQ⟩ : ∃ s : ByteArray, d3 = [.string s] ∧ s.size ≤ maxLen := m3
  obtain ⟨d5, d6, rfl, m5, m6⟩ := m4.pair
  obtain ⟨cnt, rfl, _⟩ := m5.int
  obtain rfl := m6.unit
  rw [List.length_map] at hl hl'
  exact ⟨⟨N, P, V, src, D, Q, cnt⟩, wP, wV, rfl, ⟨s, s'⟩, ⟨hl, hl', hD, hQ⟩⟩
theorem a_FnExactIsValidConsole (h : Heap) (a : List Value) (hp : glH <+: h) (ft : FitsAll h [.struct (.pair (.struct (.pair (.int .i64) (.pair (.slice (.struct (.pair (.int .i64) (.pair (.int .i64) (.pair (.int .i64) (.pair (.int .i64) .unit)))))) .unit))) (.pair (.slice (.struct (.pair (.int .i64) (.pair (.int .i64) (.pair (.int .i64) (.pair .bool .unit)))))) (.pair (.int .i64) (.pair (.struct (.pair .str (.pair .str (.pair (.int .i64) .unit)))) .unit))))] a) : vCall glG Tryd.prog (fun _ => False) 3 a h (fun r _ => r = .bool true) := by
  obtain ⟨v, vs, rfl, f, g⟩ := ft.cons
  obtain rfl := g.nil
  obtain ⟨c, wP, wV, rfl, s, hb⟩ := Fits.cons f
  exact l_IsValidConsole (glH_at hp) c wP wV s hb
end Go.Proofs.YtedidddimikjhaaDoor
