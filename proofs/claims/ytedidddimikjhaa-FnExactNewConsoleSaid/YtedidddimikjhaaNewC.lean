
/- A new console. No condition. -/
import Derived.Test.YtedidddimikjhaaConV
import Derived.Test.YtedidddimikjhaaNet
namespace Go.Proofs.Ytedidddimikjhaa
open Go.HH Go.Proofs
set_option linter.unusedSimpArgs false
set_option linter.unusedVariables false

/-- A console whose rows lie apart in blocks of their own, or are none. -/
structure ConQ (lo hi : Nat) (h : Heap) (c : Con) (wP wV : Value) : Prop where
  p : ∃ mid, lo ≤ mid ∧ mid ≤ hi ∧ FQs lo mid 4 h wP (c.P.map pip) ∧ FQs mid hi 4 h wV (c.V.map vlv)
theorem oneP (P : List Pip) : ((P.map pip).flatten).all oneC = true := rows_one fun r hr => by
  obtain ⟨x, _, rfl⟩ := List.mem_map.1 hr
  rfl
theorem oneV (P : List Vlv) : ((P.map vlv).flatten).all oneC = true := rows_one fun r hr => by
  obtain ⟨x, _, rfl⟩ := List.mem_map.1 hr
  rfl
theorem flP (P : List Pip) : ((P.map pip).flatten).length = P.length * 4 := by
  rw [flatten_len (sz := 4) (fun r hr => by obtain ⟨x, _, rfl⟩ := List.mem_map.1 hr; rfl), List.length_map]
theorem flV (P : List Vlv) : ((P.map vlv).flatten).length = P.length * 4 := by
  rw [flatten_len (sz := 4) (fun r hr => by obtain ⟨x, _, rfl⟩ := List.mem_map.1 hr; rfl), List.length_map]
theorem frP {h t : Heap} {j n lo hi : Nat} {P : List Pip} (hj : t[j]? = some ⟨(P.map pip).flatten, 4, .rw⟩) (hn : n = P.length) (h1 : lo ≤ h.length + j) (h2 : h.length + j < hi) : FQs lo hi 4 (h ++ t) (.slice (some ⟨h.length + j, 0, none⟩) n 0) (P.map pip) :=
  .inl ⟨h.length + j, by rw [List.length_map, hn], h1, h2, by rw [hget_app]; exact hj, fun r hr => by obtain ⟨x, _, rfl⟩ := List.mem_map.1 hr; rfl⟩
theorem frV {h t : Heap} {j n lo hi : Nat} {P : List Vlv} (hj : t[j]? = some ⟨(P.map vlv).flatten, 4, .rw⟩) (hn : n = P.length) (h1 : lo ≤ h.length + j) (h2 : h.length + j < hi) : FQs lo hi 4 (h ++ t) (.slice (some ⟨h.length + j, 0, none⟩) n 0) (P.map vlv) :=
  .inl ⟨h.length + j, by rw [List.length_map, hn], h1, h2, by rw [hget_app]; exact hj, fun r hr => by obtain ⟨x, _, rfl⟩ := List.mem_map.1 hr; rfl⟩
theorem fq0 {α : Type} {h : Heap} {lo hi : Nat} {a : Option Addr} {f : α → List Value} : FQs lo hi 4 h (.slice a 0 0) (([] : List α).map f) := .inr ⟨rfl, a, rfl⟩
theorem FQs.one {lo hi sz : Nat} {h : Heap} {v : Value} {rows : List (List Value)} (s : FQs lo hi sz h v rows) : oneC v = true := by
  rcases s with ⟨id, rfl, _⟩ | ⟨_, a, rfl⟩ <;> rfl
theorem FQs.swapped {h x y t : Heap} {lo hi lo' hi' : Nat} {v : Value} {rows : List (List Value)} (s : FQs lo hi 4 (h ++ x ++ t) v rows) (hl : h.length + x.length ≤ lo) (e : y.length = x.length) (h1 : lo' ≤ lo) (h2 : hi ≤ hi') : FQs lo' hi' 4 (h ++ (y ++ t)) v rows := by
  rcases s with ⟨id, ev, g1, g2, g3, g4⟩ | s
  · have := hgMove (y := y) (u := []) g3 (by omega) e
    rw [List.append_nil] at this
    exact .inl ⟨id, ev, by omega, by omega, this, g4⟩
  · exact .inr s
theorem ConQ.swapped {h x y t : Heap} {hi hi' : Nat} {c : Con} {wP wV : Value} (s : ConQ (h ++ x).length hi (h ++ x ++ t) c wP wV) (e : y.length = x.length) (h2 : hi ≤ hi') : ConQ h.length hi' (h ++ (y ++ t)) c wP wV := by
  obtain ⟨mid, a, b, p, v⟩ := s.p
  rw [List.length_append] at a
  exact ⟨mid, by omega, by omega, p.swapped (by rw [List.length_append]; omega) e (by rw [List.length_append]; omega) (Nat.le_refl _), v.swapped (by omega) e (Nat.le_refl _) h2⟩
theorem ConQ.one {lo hi : Nat} {h : Heap} {c : Con} {wP wV : Value} (s : ConQ lo hi h c wP wV) : oneC wP = true ∧ oneC wV = true := by
  obtain ⟨mid, a, b, p, v⟩ := s.p
  exact ⟨p.one, v.one⟩
section
variable {h : Heap} {M : Nat → Prop}
theorem c_newConsole (c : Con) (wP wV : Value) (sP : Sl h 4 wP (c.P.map pip)) (sV : Sl h 4 wV (c.V.map vlv)) (hP : c.P.length ≤ 1048576) (hV : c.V.length ≤ 1048576) :
    vCall [] Try.prog M 18 [conV c wP wV] h (fun r h' => (∃ xP xV, r = conV c xP xV ∧ ConQ h.length h'.length h' c xP xV) ∧ h <+: h') := by
  obtain ⟨N, P, V, src, D, Q, cnt⟩ := c
  simp only at sP sV hP hV
  obtain ⟨aa, ea, _, _⟩ := id sP
  obtain ⟨bb, eb, _, _⟩ := id sV
  rw [List.length_map] at ea eb
  refine body_ofQ ([(1, 18)]) mo Try.func18 rfl (by kernel_rfl) (Nat.le_of_ble_eq_true (by kernel_rfl)) rfl ?_
  by_cases p0 : P = []
  · subst p0
    simp only [List.length_nil] at ea
    subst ea
    by_cases v0 : V = []
    · subst v0
      simp only [List.length_nil] at eb
      subst eb
      simp only [go_sem, Nat.reduceBEq, Nat.reduceAdd, Nat.reduceMul, Nat.reduceSub, Nat.reduceLeDiff, Nat.le_refl, implies_true, Nat.reduceLT, reduceIte, decide_true, decide_false, true_and, and_true, reduceCtorEq, Nat.mul_one, Int.reduceToNat, Int.reduceLE, Int.reduceLT, Int.reduceAdd, Int.reduceSub, Int.reduceMul, Int.cast_ofNat_Int, cast_zero_int, cast_one_int, Nat.reducePow, Nat.reduceEqDiff, Nat.reduceMod, Nat.zero_add, Nat.sub_zero, Nat.add_zero, conV]
      refine fun X _ Y _ => ⟨_, _, rfl, ⟨h.length, ?_, ?_, fq0, fq0⟩⟩
      all_goals (clear sP sV; omega)
    · have hv0 : 0 < V.length := List.length_pos_iff.2 v0
      obtain ⟨id, off, k, ev, hk, hd, hbb, hfl⟩ := sV.copy (by simpa using v0)
      rw [List.length_map] at ev hbb hfl
      rw [eb] at ev
      obtain rfl : bb = some ⟨id, off, none⟩ := by simpa using ev
      subst eb
      simp only [go_sem, Nat.reduceBEq, Nat.reduceAdd, Nat.reduceMul, Nat.reduceSub, Nat.reduceLeDiff, Nat.le_refl, implies_true, Nat.reduceLT, reduceIte, decide_true, decide_false, true_and, and_true, reduceCtorEq, Nat.mul_one, Int.reduceToNat, Int.reduceLE, Int.reduceLT, Int.reduceAdd, Int.reduceSub, Int.reduceMul, Int.cast_ofNat_Int, cast_zero_int, cast_one_int, Nat.reducePow, Nat.reduceEqDiff, Nat.reduceMod, Nat.zero_add, Nat.sub_zero, Nat.add_zero, conV, onAppQ_more hv0, hk, hd, hbb, hfl, show V.length ≤ 9223372036854775807 by omega, show V.length * 32 ≤ 140737488355328 by omega]
      refine fun X _ Y _ => ⟨by omega, _, _, rfl, ⟨h.length, ?_, ?_, fq0, frV ?_ rfl ?_ ?_⟩⟩
      all_goals first | rfl | omega | skip
  · have hp0 : 0 < P.length := List.length_pos_iff.2 p0
    obtain ⟨id, off, k, ev, hk, hd, hbb, hfl⟩ := sP.copy (by simpa using p0)
    rw [List.length_map] at ev hbb hfl
    rw [ea] at ev
    obtain rfl : aa = some ⟨id, off, none⟩ := by simpa using ev
    subst ea
    by_cases v0 : V = []
    · subst v0
      simp only [List.length_nil] at eb
      subst eb
      simp only [go_sem, Nat.reduceBEq, Nat.reduceAdd, Nat.reduceMul, Nat.reduceSub, Nat.reduceLeDiff, Nat.le_refl, implies_true, Nat.reduceLT, reduceIte, decide_true, decide_false, true_and, and_true, reduceCtorEq, Nat.mul_one, Int.reduceToNat, Int.reduceLE, Int.reduceLT, Int.reduceAdd, Int.reduceSub, Int.reduceMul, Int.cast_ofNat_Int, cast_zero_int, cast_one_int, Nat.reducePow, Nat.reduceEqDiff, Nat.reduceMod, Nat.zero_add, Nat.sub_zero, Nat.add_zero, conV, onAppQ_more hp0, hk, hd, hbb, hfl, show P.length ≤ 9223372036854775807 by omega, show P.length * 32 ≤ 140737488355328 by omega]
      refine fun X _ => ⟨by omega, fun Y _ => ⟨_, _, rfl, ⟨h.length + 3, ?_, ?_, frP ?_ rfl ?_ ?_, fq0⟩⟩⟩
      all_goals first | rfl | omega | skip
    · have hv0 : 0 < V.length := List.length_pos_iff.2 v0
      obtain ⟨id2, off2, k2, ev2, hk2, hd2, hbb2, hfl2⟩ := sV.copy (by simpa using v0)
      rw [List.length_map] at ev2 hbb2 hfl2
      rw [eb] at ev2
      obtain rfl : bb = some ⟨id2, off2, none⟩ := by simpa using ev2
      subst eb
      simp only [go_sem, Nat.reduceBEq, Nat.reduceAdd, Nat.reduceMul, Nat.reduceSub, Nat.reduceLeDiff, Nat.le_refl, implies_true, Nat.reduceLT, reduceIte, decide_true, decide_false, true_and, and_true, reduceCtorEq, Nat.mul_one, Int.reduceToNat, Int.reduceLE, Int.reduceLT, Int.reduceAdd, Int.reduceSub, Int.reduceMul, Int.cast_ofNat_Int, cast_zero_int, cast_one_int, Nat.reducePow, Nat.reduceEqDiff, Nat.reduceMod, Nat.zero_add, Nat.sub_zero, Nat.add_zero, conV, onAppQ_more hp0, onAppQ_more hv0, hk, hd, hbb, hfl, hk2, hd2, hbb2, hfl2, show P.length ≤ 9223372036854775807 by omega, show P.length * 32 ≤ 140737488355328 by omega, show V.length ≤ 9223372036854775807 by omega, show V.length * 32 ≤ 140737488355328 by omega]
      refine fun X _ => ⟨by omega, fun Y _ => ⟨by omega, _, _, rfl, ⟨h.length + 3, ?_, ?_, frP ?_ rfl ?_ ?_, frV ?_ rfl ?_ ?_⟩⟩⟩
      all_goals first | rfl | omega | skip
theorem c_l28Own (c : Con) (wP wV : Value) (sP : Sl h 4 wP (c.P.map pip)) (sV : Sl h 4 wV (c.V.map vlv)) (hP : c.P.length ≤ 1048576) (hV : c.V.length ≤ 1048576) :
    vCall [] Try.prog M 15 [conV c wP wV] h (fun r h' => (∃ xP xV, r = conV c xP xV ∧ ConQ h.length h'.length h' c xP xV) ∧ h <+: h') := by
  obtain ⟨N, P, V, src, D, Q, cnt⟩ := c
  simp only at sP sV hP hV
  obtain ⟨aa, ea, _, _⟩ := id sP
  obtain ⟨bb, eb, _, _⟩ := id sV
  rw [List.length_map] at ea eb
  refine body_ofQ ([(1, 10), (2, 10)]) mo Try.func15 rfl (by kernel_rfl) (Nat.le_of_ble_eq_true (by kernel_rfl)) rfl ?_
  by_cases p0 : P = []
  · subst p0
    simp only [List.length_nil] at ea
    subst ea
    by_cases v0 : V = []
    · subst v0
      simp only [List.length_nil] at eb
      subst eb
      simp only [go_sem, Nat.reduceBEq, Nat.reduceAdd, Nat.reduceMul, Nat.reduceSub, Nat.reduceLeDiff, Nat.le_refl, implies_true, Nat.reduceLT, reduceIte, decide_true, decide_false, true_and, and_true, reduceCtorEq, Nat.mul_one, Int.reduceToNat, Int.reduceLE, Int.reduceLT, Int.reduceAdd, Int.reduceSub, Int.reduceMul, Int.cast_ofNat_Int, cast_zero_int, cast_one_int, Nat.reducePow, Nat.reduceEqDiff, Nat.reduceMod, Nat.zero_add, Nat.sub_zero, Nat.add_zero, conV]
      refine fun X _ Y _ => ⟨_, _, rfl, ⟨h.length, ?_, ?_, fq0, fq0⟩⟩
      all_goals (clear sP sV; omega)
    · have hv0 : 0 < V.length := List.length_pos_iff.2 v0
      obtain ⟨id, off, k, ev, hk, hd, hbb, hfl⟩ := sV.copy (by simpa using v0)
      rw [List.length_map] at ev hbb hfl
      rw [eb] at ev
      obtain rfl : bb = some ⟨id, off, none⟩ := by simpa using ev
      subst eb
      simp only [go_sem, Nat.reduceBEq, Nat.reduceAdd, Nat.reduceMul, Nat.reduceSub, Nat.reduceLeDiff, Nat.le_refl, implies_true, Nat.reduceLT, reduceIte, decide_true, decide_false, true_and, and_true, reduceCtorEq, Nat.mul_one, Int.reduceToNat, Int.reduceLE, Int.reduceLT, Int.reduceAdd, Int.reduceSub, Int.reduceMul, Int.cast_ofNat_Int, cast_zero_int, cast_one_int, Nat.reducePow, Nat.reduceEqDiff, Nat.reduceMod, Nat.zero_add, Nat.sub_zero, Nat.add_zero, conV, onAppQ_more hv0, hk, hd, hbb, hfl, show V.length ≤ 9223372036854775807 by omega, show V.length * 32 ≤ 140737488355328 by omega]
      refine fun X _ Y _ => ⟨by omega, _, _, rfl, ⟨h.length, ?_, ?_, fq0, frV ?_ rfl ?_ ?_⟩⟩
      all_goals first | rfl | omega | skip
  · have hp0 : 0 < P.length := List.length_pos_iff.2 p0
    obtain ⟨id, off, k, ev, hk, hd, hbb, hfl⟩ := sP.copy (by simpa using p0)
    rw [List.length_map] at ev hbb hfl
    rw [ea] at ev
    obtain rfl : aa = some ⟨id, off, none⟩ := by simpa using ev
    subst ea
    by_cases v0 : V = []
    · subst v0
      simp only [List.length_nil] at eb
      subst eb
      simp only [go_sem, Nat.reduceBEq, Nat.reduceAdd, Nat.reduceMul, Nat.reduceSub, Nat.reduceLeDiff, Nat.le_refl, implies_true, Nat.reduceLT, reduceIte, decide_true, decide_false, true_and, and_true, reduceCtorEq, Nat.mul_one, Int.reduceToNat, Int.reduceLE, Int.reduceLT, Int.reduceAdd, Int.reduceSub, Int.reduceMul, Int.cast_ofNat_Int, cast_zero_int, cast_one_int, Nat.reducePow, Nat.reduceEqDiff, Nat.reduceMod, Nat.zero_add, Nat.sub_zero, Nat.add_zero, conV, onAppQ_more hp0, hk, hd, hbb, hfl, show P.length ≤ 9223372036854775807 by omega, show P.length * 32 ≤ 140737488355328 by omega]
      refine fun X _ => ⟨by omega, fun Y _ => ⟨_, _, rfl, ⟨h.length + 3, ?_, ?_, frP ?_ rfl ?_ ?_, fq0⟩⟩⟩
      all_goals first | rfl | omega | skip
    · have hv0 : 0 < V.length := List.length_pos_iff.2 v0
      obtain ⟨id2, off2, k2, ev2, hk2, hd2, hbb2, hfl2⟩ := sV.copy (by simpa using v0)
      rw [List.length_map] at ev2 hbb2 hfl2
      rw [eb] at ev2
      obtain rfl : bb = some ⟨id2, off2, none⟩ := by simpa using ev2
      subst eb
      simp only [go_sem, Nat.reduceBEq, Nat.reduceAdd, Nat.reduceMul, Nat.reduceSub, Nat.reduceLeDiff, Nat.le_refl, implies_true, Nat.reduceLT, reduceIte, decide_true, decide_false, true_and, and_true, reduceCtorEq, Nat.mul_one, Int.reduceToNat, Int.reduceLE, Int.reduceLT, Int.reduceAdd, Int.reduceSub, Int.reduceMul, Int.cast_ofNat_Int, cast_zero_int, cast_one_int, Nat.reducePow, Nat.reduceEqDiff, Nat.reduceMod, Nat.zero_add, Nat.sub_zero, Nat.add_zero, conV, onAppQ_more hp0, onAppQ_more hv0, hk, hd, hbb, hfl, hk2, hd2, hbb2, hfl2, show P.length ≤ 9223372036854775807 by omega, show P.length * 32 ≤ 140737488355328 by omega, show V.length ≤ 9223372036854775807 by omega, show V.length * 32 ≤ 140737488355328 by omega]
      refine fun X _ => ⟨by omega, fun Y _ => ⟨by omega, _, _, rfl, ⟨h.length + 3, ?_, ?_, frP ?_ rfl ?_ ?_, frV ?_ rfl ?_ ?_⟩⟩⟩
      all_goals first | rfl | omega | skip
theorem c_l2NodeN {n : Nat} (v : Value) (N : Int) (P : List Pip) (x : Int) (hv : NA n h v N P) (hP : P.length ≤ 1048576) : vCall [] Try.prog M 14 [v, .int .i64 x] h (fun r h' => r = .bool (decide (netGood N P ∧ 1 ≤ x ∧ x ≤ N)) ∧ h <+: h') := by
  obtain ⟨w, rfl, sw⟩ := id hv
  refine body_of mo Try.func14 rfl (by kernel_rfl) (Nat.le_of_ble_eq_true (by kernel_rfl)) rfl ?_
  simp only [go_sem, Nat.reduceBEq, Nat.reduceAdd, Nat.reduceMul, Nat.reduceSub, Nat.reduceLeDiff, Nat.le_refl, implies_true, Nat.reduceLT, reduceIte, decide_true, decide_false, true_and, and_true, reduceCtorEq, Nat.mul_one, Int.reduceToNat, Int.reduceLE, Int.reduceLT, Int.reduceAdd, Int.reduceSub, Int.reduceMul, Int.cast_ofNat_Int, cast_zero_int, cast_one_int, Nat.reducePow, Nat.reduceEqDiff, Nat.reduceMod, Nat.zero_add, Nat.sub_zero, Nat.add_zero]
  refine ⟨by kernel_rfl, (c_l2Good _ N P (hv.mono (by simp)) hP).use (fun _ m => m) ?_⟩
  rintro _ _ ⟨rfl, ⟨t, rfl⟩⟩
  by_cases h1 : netGood N P
  · simp only [go_sem, Nat.reduceBEq, Nat.reduceAdd, Nat.reduceMul, Nat.reduceSub, Nat.reduceLeDiff, Nat.le_refl, implies_true, Nat.reduceLT, reduceIte, decide_true, decide_false, true_and, and_true, reduceCtorEq, Nat.mul_one, Int.reduceToNat, Int.reduceLE, Int.reduceLT, Int.reduceAdd, Int.reduceSub, Int.reduceMul, Int.cast_ofNat_Int, cast_zero_int, cast_one_int, Nat.reducePow, Nat.reduceEqDiff, Nat.reduceMod, Nat.zero_add, Nat.sub_zero, Nat.add_zero, decb h1]
    refine ⟨by kernel_rfl, (c_l1In _ _ _).use (fun _ m => m) ?_⟩
    rintro _ _ ⟨rfl, rfl⟩
    simp only [go_sem, Nat.reduceBEq, Nat.reduceAdd, Nat.reduceMul, Nat.reduceSub, Nat.reduceLeDiff, Nat.le_refl, implies_true, Nat.reduceLT, reduceIte, decide_true, decide_false, true_and, and_true, reduceCtorEq, Nat.mul_one, Int.reduceToNat, Int.reduceLE, Int.reduceLT, Int.reduceAdd, Int.reduceSub, Int.reduceMul, Int.cast_ofNat_Int, cast_zero_int, cast_one_int, Nat.reducePow, Nat.reduceEqDiff, Nat.reduceMod, Nat.zero_add, Nat.sub_zero, Nat.add_zero, decb h1]
    simp [h1]
  · simp only [go_sem, Nat.reduceBEq, Nat.reduceAdd, Nat.reduceMul, Nat.reduceSub, Nat.reduceLeDiff, Nat.le_refl, implies_true, Nat.reduceLT, reduceIte, decide_true, decide_false, true_and, and_true, reduceCtorEq, Nat.mul_one, Int.reduceToNat, Int.reduceLE, Int.reduceLT, Int.reduceAdd, Int.reduceSub, Int.reduceMul, Int.cast_ofNat_Int, cast_zero_int, cast_one_int, Nat.reducePow, Nat.reduceEqDiff, Nat.reduceMod, Nat.zero_add, Nat.sub_zero, Nat.add_zero, dect h1]
    simp [h1]
theorem c_hasNode {n : Nat} (v : Value) (N : Int) (P : List Pip) (x : Int) (hv : NA n h v N P) (hP : P.length ≤ 1048576) : vCall [] Try.prog M 17 [v, .int .i64 x] h (fun r h' => r = .bool (decide (netGood N P ∧ 1 ≤ x ∧ x ≤ N)) ∧ h <+: h') := by
  obtain ⟨w, rfl, sw⟩ := id hv
  refine body_of mo Try.func17 rfl (by kernel_rfl) (Nat.le_of_ble_eq_true (by kernel_rfl)) rfl ?_
  simp only [go_sem, Nat.reduceBEq, Nat.reduceAdd, Nat.reduceMul, Nat.reduceSub, Nat.reduceLeDiff, Nat.le_refl, implies_true, Nat.reduceLT, reduceIte, decide_true, decide_false, true_and, and_true, reduceCtorEq, Nat.mul_one, Int.reduceToNat, Int.reduceLE, Int.reduceLT, Int.reduceAdd, Int.reduceSub, Int.reduceMul, Int.cast_ofNat_Int, cast_zero_int, cast_one_int, Nat.reducePow, Nat.reduceEqDiff, Nat.reduceMod, Nat.zero_add, Nat.sub_zero, Nat.add_zero]
  refine ⟨by kernel_rfl, (c_IsValidNetwork _ N P (hv.mono (by simp)) hP).use (fun _ m => m) ?_⟩
  rintro _ _ ⟨rfl, ⟨t, rfl⟩⟩
  by_cases h1 : netGood N P
  · simp only [go_sem, Nat.reduceBEq, Nat.reduceAdd, Nat.reduceMul, Nat.reduceSub, Nat.reduceLeDiff, Nat.le_refl, implies_true, Nat.reduceLT, reduceIte, decide_true, decide_false, true_and, and_true, reduceCtorEq, Nat.mul_one, Int.reduceToNat, Int.reduceLE, Int.reduceLT, Int.reduceAdd, Int.reduceSub, Int.reduceMul, Int.cast_ofNat_Int, cast_zero_int, cast_one_int, Nat.reducePow, Nat.reduceEqDiff, Nat.reduceMod, Nat.zero_add, Nat.sub_zero, Nat.add_zero, decb h1]
    refine ⟨by kernel_rfl, (c_has _ _ _).use (fun _ m => m) ?_⟩
    rintro _ _ ⟨rfl, ⟨t2, rfl⟩⟩
    simp only [go_sem, Nat.reduceBEq, Nat.reduceAdd, Nat.reduceMul, Nat.reduceSub, Nat.reduceLeDiff, Nat.le_refl, implies_true, Nat.reduceLT, reduceIte, decide_true, decide_false, true_and, and_true, reduceCtorEq, Nat.mul_one, Int.reduceToNat, Int.reduceLE, Int.reduceLT, Int.reduceAdd, Int.reduceSub, Int.reduceMul, Int.cast_ofNat_Int, cast_zero_int, cast_one_int, Nat.reducePow, Nat.reduceEqDiff, Nat.reduceMod, Nat.zero_add, Nat.sub_zero, Nat.add_zero, decb h1]
    simp [h1]
  · simp only [go_sem, Nat.reduceBEq, Nat.reduceAdd, Nat.reduceMul, Nat.reduceSub, Nat.reduceLeDiff, Nat.le_refl, implies_true, Nat.reduceLT, reduceIte, decide_true, decide_false, true_and, and_true, reduceCtorEq, Nat.mul_one, Int.reduceToNat, Int.reduceLE, Int.reduceLT, Int.reduceAdd, Int.reduceSub, Int.reduceMul, Int.cast_ofNat_Int, cast_zero_int, cast_one_int, Nat.reducePow, Nat.reduceEqDiff, Nat.reduceMod, Nat.zero_add, Nat.sub_zero, Nat.add_zero, dect h1]
    simp [h1]
/-- What the constructor gives: the console, and whether there is one. -/
def newC (N : Int) (P : List Pip) (x : Int) : Con := if netGood N P ∧ 1 ≤ x ∧ x ≤ N then ⟨N, P, [], x, .empty, .empty, 0⟩ else ⟨0, [], [], 0, .empty, .empty, 0⟩
theorem c_NewConsole {n : Nat} (v : Value) (N : Int) (P : List Pip) (x : Int) (hv : NA n h v N P) (hP : P.length ≤ 1048576) : vCall [] Try.prog M 7 [v, .int .i64 x] h
    (fun r h' => (∃ xP xV, r = .tuple #[conV (newC N P x) xP xV, .bool (decide (netGood N P ∧ 1 ≤ x ∧ x ≤ N))] ∧ ConQ h.length h'.length h' (newC N P x) xP xV) ∧ h <+: h') := by
  obtain ⟨w, rfl, sw⟩ := id hv
  refine body_of mo Try.func7 rfl (by kernel_rfl) (Nat.le_of_ble_eq_true (by kernel_rfl)) rfl ?_
  simp only [go_sem, Nat.reduceBEq, Nat.reduceAdd, Nat.reduceMul, Nat.reduceSub, Nat.reduceLeDiff, Nat.le_refl, implies_true, Nat.reduceLT, reduceIte, decide_true, decide_false, true_and, and_true, reduceCtorEq, Nat.mul_one, Int.reduceToNat, Int.reduceLE, Int.reduceLT, Int.reduceAdd, Int.reduceSub, Int.reduceMul, Int.cast_ofNat_Int, cast_zero_int, cast_one_int, Nat.reducePow, Nat.reduceEqDiff, Nat.reduceMod, Nat.zero_add, Nat.sub_zero, Nat.add_zero]
  refine ⟨by kernel_rfl, (c_hasNode _ N P x (hv.mono (by simp)) hP).use (fun _ m => m) ?_⟩
  rintro _ _ ⟨rfl, ⟨t, rfl⟩⟩
  by_cases h1 : netGood N P ∧ 1 ≤ x ∧ x ≤ N
  · simp only [go_sem, Nat.reduceBEq, Nat.reduceAdd, Nat.reduceMul, Nat.reduceSub, Nat.reduceLeDiff, Nat.le_refl, implies_true, Nat.reduceLT, reduceIte, decide_true, decide_false, true_and, and_true, reduceCtorEq, Nat.mul_one, Int.reduceToNat, Int.reduceLE, Int.reduceLT, Int.reduceAdd, Int.reduceSub, Int.reduceMul, Int.cast_ofNat_Int, cast_zero_int, cast_one_int, Nat.reducePow, Nat.reduceEqDiff, Nat.reduceMod, Nat.zero_add, Nat.sub_zero, Nat.add_zero, decb h1]
    refine ⟨by kernel_rfl, (c_newConsole ⟨N, P, [], x, .empty, .empty, 0⟩ w (.slice none 0 0) ((sw.mono (by simp)).1) Sl.nil hP (by simp)).use (fun _ m => m) ?_⟩
    rintro _ _ ⟨⟨xP, xV, rfl, q⟩, ⟨t2, rfl⟩⟩
    simp only [go_sem, Nat.reduceBEq, Nat.reduceAdd, Nat.reduceMul, Nat.reduceSub, Nat.reduceLeDiff, Nat.le_refl, implies_true, Nat.reduceLT, reduceIte, decide_true, decide_false, true_and, and_true, reduceCtorEq, Nat.mul_one, Int.reduceToNat, Int.reduceLE, Int.reduceLT, Int.reduceAdd, Int.reduceSub, Int.reduceMul, Int.cast_ofNat_Int, cast_zero_int, cast_one_int, Nat.reducePow, Nat.reduceEqDiff, Nat.reduceMod, Nat.zero_add, Nat.sub_zero, Nat.add_zero, decb h1, conV, q.one.1, q.one.2, Bool.and_self]
    have en : newC N P x = ⟨N, P, [], x, .empty, .empty, 0⟩ := by rw [newC, if_pos h1]
    rw [en]
    exact ⟨_, _, rfl, q.swapped (y := _ :: _ :: t) rfl (by simp)⟩
  · simp only [go_sem, Nat.reduceBEq, Nat.reduceAdd, Nat.reduceMul, Nat.reduceSub, Nat.reduceLeDiff, Nat.le_refl, implies_true, Nat.reduceLT, reduceIte, decide_true, decide_false, true_and, and_true, reduceCtorEq, Nat.mul_one, Int.reduceToNat, Int.reduceLE, Int.reduceLT, Int.reduceAdd, Int.reduceSub, Int.reduceMul, Int.cast_ofNat_Int, cast_zero_int, cast_one_int, Nat.reducePow, Nat.reduceEqDiff, Nat.reduceMod, Nat.zero_add, Nat.sub_zero, Nat.add_zero, dect h1]
    have en : newC N P x = ⟨0, [], [], 0, .empty, .empty, 0⟩ := by rw [newC, if_neg h1]
    rw [en]
    exact ⟨_, _, rfl, ⟨h.length, by omega, by omega, fq0, fq0⟩⟩
theorem c_sNewConsole {n : Nat} (v : Value) (N : Int) (P : List Pip) (x : Int) (hv : NA n h v N P) (hP : P.length ≤ 1048576) : vCall [] Try.prog M 5 [v, .int .i64 x] h
    (fun r h' => (∃ xP xV, r = .tuple #[conV (newC N P x) xP xV, .bool (decide (netGood N P ∧ 1 ≤ x ∧ x ≤ N))] ∧ ConQ h.length h'.length h' (newC N P x) xP xV) ∧ h <+: h') := by
  obtain ⟨w, rfl, sw⟩ := id hv
  refine body_of mo Try.func5 rfl (by kernel_rfl) (Nat.le_of_ble_eq_true (by kernel_rfl)) rfl ?_
  simp only [go_sem, Nat.reduceBEq, Nat.reduceAdd, Nat.reduceMul, Nat.reduceSub, Nat.reduceLeDiff, Nat.le_refl, implies_true, Nat.reduceLT, reduceIte, decide_true, decide_false, true_and, and_true, reduceCtorEq, Nat.mul_one, Int.reduceToNat, Int.reduceLE, Int.reduceLT, Int.reduceAdd, Int.reduceSub, Int.reduceMul, Int.cast_ofNat_Int, cast_zero_int, cast_one_int, Nat.reducePow, Nat.reduceEqDiff, Nat.reduceMod, Nat.zero_add, Nat.sub_zero, Nat.add_zero]
  refine ⟨by kernel_rfl, (c_l2NodeN _ N P x (hv.mono (by simp)) hP).use (fun _ m => m) ?_⟩
  rintro _ _ ⟨rfl, ⟨t, rfl⟩⟩
  by_cases h1 : netGood N P ∧ 1 ≤ x ∧ x ≤ N
  · simp only [go_sem, Nat.reduceBEq, Nat.reduceAdd, Nat.reduceMul, Nat.reduceSub, Nat.reduceLeDiff, Nat.le_refl, implies_true, Nat.reduceLT, reduceIte, decide_true, decide_false, true_and, and_true, reduceCtorEq, Nat.mul_one, Int.reduceToNat, Int.reduceLE, Int.reduceLT, Int.reduceAdd, Int.reduceSub, Int.reduceMul, Int.cast_ofNat_Int, cast_zero_int, cast_one_int, Nat.reducePow, Nat.reduceEqDiff, Nat.reduceMod, Nat.zero_add, Nat.sub_zero, Nat.add_zero, decb h1]
    refine ⟨by kernel_rfl, (c_l28Own ⟨N, P, [], x, .empty, .empty, 0⟩ w (.slice none 0 0) ((sw.mono (by simp)).1) Sl.nil hP (by simp)).use (fun _ m => m) ?_⟩
    rintro _ _ ⟨⟨xP, xV, rfl, q⟩, ⟨t2, rfl⟩⟩
    simp only [go_sem, Nat.reduceBEq, Nat.reduceAdd, Nat.reduceMul, Nat.reduceSub, Nat.reduceLeDiff, Nat.le_refl, implies_true, Nat.reduceLT, reduceIte, decide_true, decide_false, true_and, and_true, reduceCtorEq, Nat.mul_one, Int.reduceToNat, Int.reduceLE, Int.reduceLT, Int.reduceAdd, Int.reduceSub, Int.reduceMul, Int.cast_ofNat_Int, cast_zero_int, cast_one_int, Nat.reducePow, Nat.reduceEqDiff, Nat.reduceMod, Nat.zero_add, Nat.sub_zero, Nat.add_zero, decb h1, conV, q.one.1, q.one.2, Bool.and_self]
    have en : newC N P x = ⟨N, P, [], x, .empty, .empty, 0⟩ := by rw [newC, if_pos h1]
    rw [en]
    exact ⟨_, _, rfl, q.swapped (y := _ :: _ :: t) rfl (by simp)⟩
  · simp only [go_sem, Nat.reduceBEq, Nat.reduceAdd, Nat.reduceMul, Nat.reduceSub, Nat.reduceLeDiff, Nat.le_refl, implies_true, Nat.reduceLT, reduceIte, decide_true, decide_false, true_and, and_true, reduceCtorEq, Nat.mul_one, Int.reduceToNat, Int.reduceLE, Int.reduceLT, Int.reduceAdd, Int.reduceSub, Int.reduceMul, Int.cast_ofNat_Int, cast_zero_int, cast_one_int, Nat.reducePow, Nat.reduceEqDiff, Nat.reduceMod, Nat.zero_add, Nat.sub_zero, Nat.add_zero, dect h1]
    have en : newC N P x = ⟨0, [], [], 0, .empty, .empty, 0⟩ := by rw [newC, if_neg h1]
    rw [en]
    exact ⟨_, _, rfl, ⟨h.length, by omega, by omega, fq0, fq0⟩⟩
end
end Go.Proofs.Ytedidddimikjhaa
