
/- NewConsole answers as the reference does. No condition. -/
import Derived.Test.YtedidddimikjhaaNewCM
namespace Go.Proofs.Ytedidddimikjhaa
open Go.HH Go.Proofs
set_option linter.unusedSimpArgs false
set_option linter.unusedVariables false

theorem FQs.sbQ {lo hi sz : Nat} {h : Heap} {v : Value} {rows : List (List Value)} (s : FQs lo hi sz h v rows) : SB hi sz h v rows := by
  rcases s with s | ⟨rfl, a, rfl⟩
  · exact s.sb
  · exact ⟨⟨a, rfl, fun r hr => by simp at hr, fun h0 => absurd rfl h0⟩, fun _ _ _ _ h0 => absurd rfl h0⟩
theorem ConQ.s {lo hi : Nat} {h : Heap} {c : Con} {wP wV : Value} (s : ConQ lo hi h c wP wV) : ConS hi h c wP wV := by
  obtain ⟨mid, a, b, p, v⟩ := s.p
  exact ⟨(p.wide (Nat.le_refl _) b).sbQ, v.sbQ⟩
theorem ConQ.mono {lo hi : Nat} {h h' : Heap} {c : Con} {wP wV : Value} (s : ConQ lo hi h c wP wV) (hp : h <+: h') : ConQ lo hi h' c wP wV := by
  obtain ⟨mid, a, b, p, v⟩ := s.p
  exact ⟨mid, a, b, p.mono hp, v.mono hp⟩
theorem ConQ.agr {lo hi l r : Nat} {h h' : Heap} {c : Con} {wP wV : Value} (s : ConQ lo hi h c wP wV) (g : Agr l r h h') (hn : hi ≤ l ∨ r ≤ lo) : ConQ lo hi h' c wP wV := by
  obtain ⟨mid, a, b, p, v⟩ := s.p
  exact ⟨mid, a, b, p.agr g (by omega), v.agr g (by omega)⟩
theorem newC_P {N : Int} {P : List Pip} {x : Int} (hP : P.length ≤ 1048576) : (newC N P x).P.length ≤ 1048576 := by
  unfold newC
  split
  · exact hP
  · simp
theorem newC_V {N : Int} {P : List Pip} {x : Int} : (newC N P x).V.length ≤ 1048576 := by
  unfold newC
  split <;> simp
theorem newC_small {N : Int} {P : List Pip} {x : Int} (hP : P.length ≤ 1048576) : conSmall (newC N P x) := by
  refine ⟨newC_P hP, newC_V, ?_⟩
  unfold newC
  split <;> simp
theorem at_app {α : Type} {l m : List α} {j : Nat} : (l ++ m)[l.length + j]? = m[j]? := by
  rw [List.getElem?_append_right (by omega), Nat.add_sub_cancel_left]
theorem at_app0 {α : Type} {l m : List α} : (l ++ m)[l.length]? = m[0]? := by
  rw [List.getElem?_append_right (by omega), Nat.sub_self]
theorem ConQ.wide {lo hi lo' hi' : Nat} {h : Heap} {c : Con} {wP wV : Value} (s : ConQ lo hi h c wP wV) (h1 : lo' ≤ lo) (h2 : hi ≤ hi') : ConQ lo' hi' h c wP wV := by
  obtain ⟨mid, a, b, p, v⟩ := s.p
  exact ⟨mid, by omega, by omega, p.wide h1 (Nat.le_refl _), v.wide (Nat.le_refl _) h2⟩
section
variable {h : Heap} {M : Nat → Prop}
set_option maxHeartbeats 4000000 in
theorem l_NewConsole (v : Value) (N : Int) (P : List Pip) (x : Int) (s : NA h.length h v N P) (hmax : P.length ≤ 9223372036854775807) : vCall [] Try.prog M 3 [v, .int .i64 x] h (fun r h' => r = .bool true) := by
  obtain ⟨w, rfl, sw⟩ := id s
  refine body_of mo Try.func3 rfl (by kernel_rfl) (Nat.le_of_ble_eq_true (by kernel_rfl)) rfl ?_
  simp only [go_sem, Nat.reduceBEq, Nat.reduceAdd, Nat.reduceMul, Nat.reduceSub, Nat.reduceLeDiff, Nat.le_refl, implies_true, Nat.reduceLT, reduceIte, decide_true, decide_false, true_and, and_true, reduceCtorEq, Nat.mul_one, Int.reduceToNat, Int.reduceLE, Int.reduceLT, Int.reduceAdd, Int.reduceSub, Int.reduceMul, Int.cast_ofNat_Int, cast_zero_int, cast_one_int, Nat.reducePow, Nat.reduceEqDiff, Nat.reduceMod, Nat.zero_add, Nat.sub_zero, Nat.add_zero]
  refine ⟨by kernel_rfl, (c_szNetwork _ N P (s.mono (by simp)) _ (by omega) hmax).use (fun _ m => m) ?_⟩
  rintro _ _ ⟨rfl, ⟨t, rfl⟩⟩
  by_cases h1 : (1048576 : Int) - P.length < 0
  · simp only [go_sem, Nat.reduceBEq, Nat.reduceAdd, Nat.reduceMul, Nat.reduceSub, Nat.reduceLeDiff, Nat.le_refl, implies_true, Nat.reduceLT, reduceIte, decide_true, decide_false, true_and, and_true, reduceCtorEq, Nat.mul_one, Int.reduceToNat, Int.reduceLE, Int.reduceLT, Int.reduceAdd, Int.reduceSub, Int.reduceMul, Int.cast_ofNat_Int, cast_zero_int, cast_one_int, Nat.reducePow, Nat.reduceEqDiff, Nat.reduceMod, Nat.zero_add, Nat.sub_zero, Nat.add_zero, h1]
  have hm : P.length ≤ 1048576 := by omega
  have hC := @newC_P N P x hm
  have hV := @newC_V N P x
  have hS := @newC_small N P x hm
  simp only [go_sem, Nat.reduceBEq, Nat.reduceAdd, Nat.reduceMul, Nat.reduceSub, Nat.reduceLeDiff, Nat.le_refl, implies_true, Nat.reduceLT, reduceIte, decide_true, decide_false, true_and, and_true, reduceCtorEq, Nat.mul_one, Int.reduceToNat, Int.reduceLE, Int.reduceLT, Int.reduceAdd, Int.reduceSub, Int.reduceMul, Int.cast_ofNat_Int, cast_zero_int, cast_one_int, Nat.reducePow, Nat.reduceEqDiff, Nat.reduceMod, Nat.zero_add, Nat.sub_zero, Nat.add_zero, h1]
  refine ⟨by kernel_rfl, (c_toNetwork _ N P (s.mono (by simp)) hm).use (fun _ m => m) ?_⟩
  rintro v1 _ ⟨s1, ⟨t1, rfl⟩⟩
  try simp only [List.append_assoc, List.cons_append] at s1
  try simp only [go_sem, Nat.reduceBEq, Nat.reduceAdd, Nat.reduceMul, Nat.reduceSub, Nat.reduceLeDiff, Nat.le_refl, implies_true, Nat.reduceLT, reduceIte, decide_true, decide_false, true_and, and_true, reduceCtorEq, Nat.mul_one, Int.reduceToNat, Int.reduceLE, Int.reduceLT, Int.reduceAdd, Int.reduceSub, Int.reduceMul, Int.cast_ofNat_Int, cast_zero_int, cast_one_int, Nat.reducePow, Nat.reduceEqDiff, Nat.reduceMod, Nat.zero_add, Nat.sub_zero, Nat.add_zero]
  obtain ⟨w1, rfl, f1⟩ := id s1
  refine ⟨by kernel_rfl, (c_sNewConsole _ N P x s1.na hm).use (fun _ m => m) ?_⟩
  rintro _ _ ⟨⟨uP, uV, rfl, q0⟩, ⟨t2, rfl⟩⟩
  try simp only [List.append_assoc, List.cons_append] at q0
  simp only [go_sem, Nat.reduceBEq, Nat.reduceAdd, Nat.reduceMul, Nat.reduceSub, Nat.reduceLeDiff, Nat.le_refl, implies_true, Nat.reduceLT, reduceIte, decide_true, decide_false, true_and, and_true, reduceCtorEq, Nat.mul_one, Int.reduceToNat, Int.reduceLE, Int.reduceLT, Int.reduceAdd, Int.reduceSub, Int.reduceMul, Int.cast_ofNat_Int, cast_zero_int, cast_one_int, Nat.reducePow, Nat.reduceEqDiff, Nat.reduceMod, Nat.zero_add, Nat.sub_zero, Nat.add_zero, conV, q0.one.1, q0.one.2, Bool.and_self]
  refine ⟨by kernel_rfl, (c_toNetwork _ N P (s.mono (by simp)) hm).use (fun _ m => m) ?_⟩
  rintro v2 _ ⟨s2, ⟨t3, rfl⟩⟩
  try simp only [List.append_assoc, List.cons_append] at s2
  obtain ⟨w2, rfl, f2⟩ := id s2
  simp only [go_sem, Nat.reduceBEq, Nat.reduceAdd, Nat.reduceMul, Nat.reduceSub, Nat.reduceLeDiff, Nat.le_refl, implies_true, Nat.reduceLT, reduceIte, decide_true, decide_false, true_and, and_true, reduceCtorEq, Nat.mul_one, Int.reduceToNat, Int.reduceLE, Int.reduceLT, Int.reduceAdd, Int.reduceSub, Int.reduceMul, Int.cast_ofNat_Int, cast_zero_int, cast_one_int, Nat.reducePow, Nat.reduceEqDiff, Nat.reduceMod, Nat.zero_add, Nat.sub_zero, Nat.add_zero, frOne f2]
  refine ⟨by kernel_rfl, (c_NewConsole _ N P x (s2.na.mono (by simp)) hm).use (fun _ m => m) ?_⟩
  rintro _ _ ⟨⟨gP, gV, rfl, q1⟩, ⟨t4, rfl⟩⟩
  try simp only [List.append_assoc, List.cons_append] at q1
  simp only [go_sem, Nat.reduceBEq, Nat.reduceAdd, Nat.reduceMul, Nat.reduceSub, Nat.reduceLeDiff, Nat.le_refl, implies_true, Nat.reduceLT, reduceIte, decide_true, decide_false, true_and, and_true, reduceCtorEq, Nat.mul_one, Int.reduceToNat, Int.reduceLE, Int.reduceLT, Int.reduceAdd, Int.reduceSub, Int.reduceMul, Int.cast_ofNat_Int, cast_zero_int, cast_one_int, Nat.reducePow, Nat.reduceEqDiff, Nat.reduceMod, Nat.zero_add, Nat.sub_zero, Nat.add_zero, conV, q1.one.1, q1.one.2, Bool.and_self]
  have cu : conV (newC N P x) uP uV = .agg #[.int .i64 (newC N P x).N, uP, uV, .int .i64 (newC N P x).src, .string (newC N P x).D, .string (newC N P x).Q, .int .i64 (newC N P x).cnt] := rfl
  have cg : conV (newC N P x) gP gV = .agg #[.int .i64 (newC N P x).N, gP, gV, .int .i64 (newC N P x).src, .string (newC N P x).D, .string (newC N P x).Q, .int .i64 (newC N P x).cnt] := rfl
  rw [← cu, ← cg]
  refine ⟨by kernel_rfl, (c_eqConsole (newC N P x) gP gV uP uV (q1.s.mono (by simp)) (q0.s.mono (by simp)) hS).use (fun _ m => m) ?_⟩
  rintro _ _ ⟨rfl, ⟨t5, rfl⟩⟩
  simp only [go_sem, Nat.reduceBEq, Nat.reduceAdd, Nat.reduceMul, Nat.reduceSub, Nat.reduceLeDiff, Nat.le_refl, implies_true, Nat.reduceLT, reduceIte, decide_true, decide_false, true_and, and_true, reduceCtorEq, Nat.mul_one, Int.reduceToNat, Int.reduceLE, Int.reduceLT, Int.reduceAdd, Int.reduceSub, Int.reduceMul, Int.cast_ofNat_Int, cast_zero_int, cast_one_int, Nat.reducePow, Nat.reduceEqDiff, Nat.reduceMod, Nat.zero_add, Nat.sub_zero, Nat.add_zero, Try.underlying4, bne_self_eq_false]
  refine ⟨by kernel_rfl, (c_toNetwork _ N P (s.mono (by simp)) hm).use (fun _ m => m) ?_⟩
  rintro v3 _ ⟨s3, ⟨t6, rfl⟩⟩
  try simp only [List.append_assoc, List.cons_append] at s3
  simp only [go_sem, Nat.reduceBEq, Nat.reduceAdd, Nat.reduceMul, Nat.reduceSub, Nat.reduceLeDiff, Nat.le_refl, implies_true, Nat.reduceLT, reduceIte, decide_true, decide_false, true_and, and_true, reduceCtorEq, Nat.mul_one, Int.reduceToNat, Int.reduceLE, Int.reduceLT, Int.reduceAdd, Int.reduceSub, Int.reduceMul, Int.cast_ofNat_Int, cast_zero_int, cast_one_int, Nat.reducePow, Nat.reduceEqDiff, Nat.reduceMod, Nat.zero_add, Nat.sub_zero, Nat.add_zero]
  refine ⟨by kernel_rfl, (c_eqNetwork _ _ N P (s2.na.mono (by simp)) s3.na hm).use (fun _ m => m) ?_⟩
  rintro _ _ ⟨rfl, ⟨t7, rfl⟩⟩
  simp only [go_sem, Nat.reduceBEq, Nat.reduceAdd, Nat.reduceMul, Nat.reduceSub, Nat.reduceLeDiff, Nat.le_refl, implies_true, Nat.reduceLT, reduceIte, decide_true, decide_false, true_and, and_true, reduceCtorEq, Nat.mul_one, Int.reduceToNat, Int.reduceLE, Int.reduceLT, Int.reduceAdd, Int.reduceSub, Int.reduceMul, Int.cast_ofNat_Int, cast_zero_int, cast_one_int, Nat.reducePow, Nat.reduceEqDiff, Nat.reduceMod, Nat.zero_add, Nat.sub_zero, Nat.add_zero]
  obtain ⟨H, hH⟩ : ∃ H : Heap, H = h ++ ⟨[.int .i64 N, w], 2, .rw⟩ :: (t ++ (t1 ++ (t2 ++ ⟨[.int .i64 (newC N P x).N, uP, uV, .int .i64 (newC N P x).src, .string (newC N P x).D, .string (newC N P x).Q, .int .i64 (newC N P x).cnt], 7, .rw⟩ ::
    (t3 ++ ⟨[.int .i64 N, w2], 2, .rw⟩ :: (t4 ++ ⟨[.int .i64 (newC N P x).N, gP, gV, .int .i64 (newC N P x).src, .string (newC N P x).D, .string (newC N P x).Q, .int .i64 (newC N P x).cnt], 7, .rw⟩ :: (t5 ++ (t6 ++ t7))))))) := ⟨_, rfl⟩
  rw [← hH]
  obtain ⟨p6, hp6⟩ : ∃ p, p = h.length + (t.length + (t1.length + t2.length) + 1) := ⟨_, rfl⟩
  obtain ⟨p8, hp8⟩ : ∃ p, p = h.length + (t.length + (t1.length + (t2.length + (t3.length + 1))) + 1) := ⟨_, rfl⟩
  obtain ⟨p9, hp9⟩ : ∃ p, p = h.length + (t.length + (t1.length + (t2.length + (t3.length + (t4.length + 1) + 1))) + 1) := ⟨_, rfl⟩
  have lH : p9 < H.length := by rw [hH, hp9]; simp; try omega
  have gB : hget H h.length = some ⟨[.int .i64 N, w], 2, .rw⟩ := by rw [hH, hget_app0]; rfl
  have g6 : hget H p6 = some ⟨[.int .i64 (newC N P x).N, uP, uV, .int .i64 (newC N P x).src, .string (newC N P x).D, .string (newC N P x).Q, .int .i64 (newC N P x).cnt], 7, .rw⟩ := by
    rw [hH, hp6, hget_app]
    simp only [List.getElem?_cons_succ, at_app, at_app0, List.getElem?_cons_zero]
  have g9 : hget H p9 = some ⟨[.int .i64 (newC N P x).N, gP, gV, .int .i64 (newC N P x).src, .string (newC N P x).D, .string (newC N P x).Q, .int .i64 (newC N P x).cnt], 7, .rw⟩ := by
    rw [hH, hp9, hget_app]
    simp only [List.getElem?_cons_succ, at_app, at_app0, List.getElem?_cons_zero]
  have q0H : ConQ (h.length + 1) p6 H (newC N P x) uP uV := by rw [hH]; exact (q0.mono (by simp)).wide (by simp; try omega) (by simp [hp6]; try omega)
  have q1H : ConQ (p8 + 1) p9 H (newC N P x) gP gV := by rw [hH]; exact (q1.mono (by simp)).wide (by simp [hp8]; try omega) (by simp [hp9]; try omega)
  have s2H : FN (p6 + 1) p8 H (.agg #[.int .i64 N, w2]) N P := ⟨w2, rfl, by rw [hH]; exact FR.wideC (FR.mono f2 (by simp)) (by simp [hp6]; try omega) (by simp [hp8]; try omega)⟩
  have sH : SB h.length 4 H w (P.map pip) := by rw [hH]; exact sw.mono (by simp)
  have o1 : h.length + 1 ≤ p6 := by omega
  have o2 : p6 + 1 ≤ p8 := by omega
  have o3 : p8 + 1 ≤ p9 := by omega
  clear hH q0 q1 s1 s2 s3 f1 f2
  refine ⟨by kernel_rfl, (c_markNetwork _ N P s2H (fun i a b => Or.inl (by omega)) _ (by omega) hm).use (fun _ m => m) ?_⟩
  rintro _ H1 ⟨rfl, ag1⟩
  have l1 := ag1.1
  have gB1 := (ag1.2 h.length (by omega) (by omega)).trans gB
  have g61 := (ag1.2 p6 (by omega) (by omega)).trans g6
  have g91 := (ag1.2 p9 (by omega) (by omega)).trans g9
  have q01 := q0H.agr ag1 (by omega)
  have q11 := q1H.agr ag1 (by omega)
  have s11 := sH.agr ag1 (by omega)
  clear gB g6 g9 q0H q1H s2H sH ag1
  simp only [go_sem, Nat.reduceBEq, Nat.reduceAdd, Nat.reduceMul, Nat.reduceSub, Nat.reduceLeDiff, Nat.le_refl, implies_true, Nat.reduceLT, reduceIte, decide_true, decide_false, true_and, and_true, reduceCtorEq, Nat.mul_one, Int.reduceToNat, Int.reduceLE, Int.reduceLT, Int.reduceAdd, Int.reduceSub, Int.reduceMul, Int.cast_ofNat_Int, cast_zero_int, cast_one_int, Nat.reducePow, Nat.reduceEqDiff, Nat.reduceMod, Nat.zero_add, Nat.sub_zero, Nat.add_zero, show ¬ (1 + 4 * (P.length : Int) < 0) by omega, ← hp9, ← hp6, g61, g91]
  rw [← cu, ← cg]
  refine ⟨by kernel_rfl, (c_eqConsole (newC N P x) gP gV uP uV q11.s q01.s hS).use (fun _ m => m) ?_⟩
  rintro _ _ ⟨rfl, ⟨t8, rfl⟩⟩
  have gB2 : hget (H1 ++ t8) h.length = _ := (hget_prefix (List.prefix_append _ _) (by omega)).trans gB1
  have g62 : hget (H1 ++ t8) p6 = _ := (hget_prefix (List.prefix_append _ _) (by omega)).trans g61
  have g92 : hget (H1 ++ t8) p9 = _ := (hget_prefix (List.prefix_append _ _) (by omega)).trans g91
  have q02 := q01.mono (List.prefix_append _ t8)
  have q12 := q11.mono (List.prefix_append _ t8)
  have s12 := s11.mono (List.prefix_append _ t8)
  have l2 : H1.length ≤ (H1 ++ t8).length := by simp
  generalize H1 ++ t8 = H2 at gB2 g62 g92 q02 q12 s12 l2 ⊢
  clear gB1 g61 g91 q01 q11 s11
  simp only [go_sem, Nat.reduceBEq, Nat.reduceAdd, Nat.reduceMul, Nat.reduceSub, Nat.reduceLeDiff, Nat.le_refl, implies_true, Nat.reduceLT, reduceIte, decide_true, decide_false, true_and, and_true, reduceCtorEq, Nat.mul_one, Int.reduceToNat, Int.reduceLE, Int.reduceLT, Int.reduceAdd, Int.reduceSub, Int.reduceMul, Int.cast_ofNat_Int, cast_zero_int, cast_one_int, Nat.reducePow, Nat.reduceEqDiff, Nat.reduceMod, Nat.zero_add, Nat.sub_zero, Nat.add_zero, show ¬ (1 + 4 * (P.length : Int) < 0) by omega, ← hp9, ← hp6, g62, g92, Try.underlying4, bne_self_eq_false]
  rw [← cg]
  refine ⟨by kernel_rfl, (c_markConsole (newC N P x) gP gV q12 (by omega) (fun i a b => Or.inl (by omega)) _ (by omega) hC hV).use (fun _ m => m) ?_⟩
  rintro _ H3 ⟨rfl, k13, ag3⟩
  have l3 := ag3.1
  have gB3 := (ag3.2 h.length (by omega) (by omega)).trans gB2
  have g63 := (ag3.2 p6 (by omega) (by omega)).trans g62
  have g93 := (ag3.2 p9 (by omega) (by omega)).trans g92
  have q03 := q02.agr ag3 (by omega)
  have s13 := s12.agr ag3 (by omega)
  clear gB2 g62 g92 q02 q12 s12 ag3
  simp only [go_sem, Nat.reduceBEq, Nat.reduceAdd, Nat.reduceMul, Nat.reduceSub, Nat.reduceLeDiff, Nat.le_refl, implies_true, Nat.reduceLT, reduceIte, decide_true, decide_false, true_and, and_true, reduceCtorEq, Nat.mul_one, Int.reduceToNat, Int.reduceLE, Int.reduceLT, Int.reduceAdd, Int.reduceSub, Int.reduceMul, Int.cast_ofNat_Int, cast_zero_int, cast_one_int, Nat.reducePow, Nat.reduceEqDiff, Nat.reduceMod, Nat.zero_add, Nat.sub_zero, Nat.add_zero, ← hp9, ← hp6, g93]
  rw [← cg]
  refine ⟨by kernel_rfl, (c_heldConsole (newC N P x) gP gV 1 k13 (by omega) hC hV).use (fun _ m => m) ?_⟩
  rintro _ _ ⟨rfl, ⟨t9, rfl⟩⟩
  have gB4 : hget (H3 ++ t9) h.length = _ := (hget_prefix (List.prefix_append _ _) (by omega)).trans gB3
  have g64 : hget (H3 ++ t9) p6 = _ := (hget_prefix (List.prefix_append _ _) (by omega)).trans g63
  have g94 : hget (H3 ++ t9) p9 = _ := (hget_prefix (List.prefix_append _ _) (by omega)).trans g93
  have q04 := q03.mono (List.prefix_append _ t9)
  have k14 := k13.mono (List.prefix_append _ t9)
  have s14 := s13.mono (List.prefix_append _ t9)
  have l4 : H3.length ≤ (H3 ++ t9).length := by simp
  generalize H3 ++ t9 = H4 at gB4 g64 g94 q04 k14 s14 l4 ⊢
  clear gB3 g63 g93 q03 k13 s13
  have n1 : ¬ (1 + 4 * ((newC N P x).P.length : Int) + 4 * ((newC N P x).V.length : Int) < 0) := by omega
  simp only [go_sem, Nat.reduceBEq, Nat.reduceAdd, Nat.reduceMul, Nat.reduceSub, Nat.reduceLeDiff, Nat.le_refl, implies_true, Nat.reduceLT, reduceIte, decide_true, decide_false, true_and, and_true, reduceCtorEq, Nat.mul_one, Int.reduceToNat, Int.reduceLE, Int.reduceLT, Int.reduceAdd, Int.reduceSub, Int.reduceMul, Int.cast_ofNat_Int, cast_zero_int, cast_one_int, Nat.reducePow, Nat.reduceEqDiff, Nat.reduceMod, Nat.zero_add, Nat.sub_zero, Nat.add_zero, n1, bne_self_eq_false, gB4]
  refine ⟨by kernel_rfl, (c_toNetwork _ N P ⟨w, rfl, s14⟩ hm).use (fun _ m => m) ?_⟩
  rintro v5 _ ⟨s5, ⟨t10, rfl⟩⟩
  obtain ⟨w5, rfl, f5⟩ := id s5
  try simp only [go_sem, Nat.reduceBEq, Nat.reduceAdd, Nat.reduceMul, Nat.reduceSub, Nat.reduceLeDiff, Nat.le_refl, implies_true, Nat.reduceLT, reduceIte, decide_true, decide_false, true_and, and_true, reduceCtorEq, Nat.mul_one, Int.reduceToNat, Int.reduceLE, Int.reduceLT, Int.reduceAdd, Int.reduceSub, Int.reduceMul, Int.cast_ofNat_Int, cast_zero_int, cast_one_int, Nat.reducePow, Nat.reduceEqDiff, Nat.reduceMod, Nat.zero_add, Nat.sub_zero, Nat.add_zero]
  refine ⟨by kernel_rfl, (c_NewConsole _ N P x s5.na hm).use (fun _ m => m) ?_⟩
  rintro _ _ ⟨⟨yP, yV, rfl, q5⟩, ⟨t11, rfl⟩⟩
  try simp only [List.append_assoc, List.cons_append] at q5
  have hp : H4 <+: H4 ++ t10 ++ t11 := by simp
  have g65 := (hget_prefix hp (by omega)).trans g64
  have g95 := (hget_prefix hp (by omega)).trans g94
  have q05 := q04.mono hp
  have k15 := k14.mono hp
  have l5 := hp.length_le
  have q55 : ConQ (H4 ++ t10).length (H4 ++ t10 ++ t11).length (H4 ++ t10 ++ t11) (newC N P x) yP yV := by simpa only [List.append_assoc] using q5
  generalize H4 ++ t10 ++ t11 = H5 at g65 g95 q05 k15 l5 q55 ⊢
  have q5s := q55.s
  have q5o := q55.one
  clear gB4 g64 g94 q04 k14 s14 q5 q55 s5 f5
  have hown : own h.length M H5.length := Or.inl (by omega)
  have hp6' : ∀ l : Heap, H5 <+: H5 ++ l := fun l => List.prefix_append _ _
  have g66 : ∀ l : Heap, hget (H5 ++ l) p6 = _ := fun l => (hget_prefix (hp6' l) (by omega)).trans g65
  have g96 : ∀ l : Heap, hget (H5 ++ l) p9 = _ := fun l => (hget_prefix (hp6' l) (by omega)).trans g95
  have cy : conV (newC N P x) yP yV = .agg #[.int .i64 (newC N P x).N, yP, yV, .int .i64 (newC N P x).src, .string (newC N P x).D, .string (newC N P x).Q, .int .i64 (newC N P x).cnt] := rfl
  simp only [go_sem, Nat.reduceBEq, Nat.reduceAdd, Nat.reduceMul, Nat.reduceSub, Nat.reduceLeDiff, Nat.le_refl, implies_true, Nat.reduceLT, reduceIte, decide_true, decide_false, true_and, and_true, reduceCtorEq, Nat.mul_one, Int.reduceToNat, Int.reduceLE, Int.reduceLT, Int.reduceAdd, Int.reduceSub, Int.reduceMul, Int.cast_ofNat_Int, cast_zero_int, cast_one_int, Nat.reducePow, Nat.reduceEqDiff, Nat.reduceMod, Nat.zero_add, Nat.sub_zero, Nat.add_zero, conV, q5o.1, q5o.2, Bool.and_self, hown, ← hp6, g66]
  rw [← cu, ← cy]
  refine ⟨by kernel_rfl, (c_eqConsole (newC N P x) yP yV uP uV (q5s.mono (hp6' _)) (q05.s.mono (hp6' _)) hS).use (fun _ m => m) ?_⟩
  rintro _ _ ⟨rfl, ⟨t12, rfl⟩⟩
  simp only [go_sem, Nat.reduceBEq, Nat.reduceAdd, Nat.reduceMul, Nat.reduceSub, Nat.reduceLeDiff, Nat.le_refl, implies_true, Nat.reduceLT, reduceIte, decide_true, decide_false, true_and, and_true, reduceCtorEq, Nat.mul_one, Int.reduceToNat, Int.reduceLE, Int.reduceLT, Int.reduceAdd, Int.reduceSub, Int.reduceMul, Int.cast_ofNat_Int, cast_zero_int, cast_one_int, Nat.reducePow, Nat.reduceEqDiff, Nat.reduceMod, Nat.zero_add, Nat.sub_zero, Nat.add_zero, Try.underlying4, bne_self_eq_false, ← hp9, g96]
  rw [← cg]
  refine ⟨by kernel_rfl, (c_heldConsole (newC N P x) gP gV 1 (k15.mono (hp6' _)) (by omega) hC hV).use (fun _ m => m) ?_⟩
  rintro _ _ ⟨rfl, ⟨t13, rfl⟩⟩
  simp only [go_sem, Nat.reduceBEq, Nat.reduceAdd, Nat.reduceMul, Nat.reduceSub, Nat.reduceLeDiff, Nat.le_refl, implies_true, Nat.reduceLT, reduceIte, decide_true, decide_false, true_and, and_true, reduceCtorEq, Nat.mul_one, Int.reduceToNat, Int.reduceLE, Int.reduceLT, Int.reduceAdd, Int.reduceSub, Int.reduceMul, Int.cast_ofNat_Int, cast_zero_int, cast_one_int, Nat.reducePow, Nat.reduceEqDiff, Nat.reduceMod, Nat.zero_add, Nat.sub_zero, Nat.add_zero, n1, bne_self_eq_false]
end
theorem a_FnExactNewConsole (h : Heap) (a : List Value) (ft : FitsAll h [.struct (.pair (.int .i64) (.pair (.slice (.struct (.pair (.int .i64) (.pair (.int .i64) (.pair (.int .i64) (.pair (.int .i64) .unit)))))) .unit)), .int .i64] a) : vCall [] Try.prog (fun _ => False) 3 a h (fun r _ => r = .bool true) := by
  obtain ⟨v, vs, rfl, f, g⟩ := ft.cons
  obtain ⟨v2, vs, rfl, f2, g⟩ := g.cons
  obtain rfl := g.nil
  obtain ⟨N, P, s, hP⟩ := Fits.net f
  obtain ⟨x, rfl, _⟩ := FitV.int f2
  exact l_NewConsole v N P x s hP
end Go.Proofs.Ytedidddimikjhaa
