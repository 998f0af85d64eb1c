
/- Draws about hydrants. No condition. -/
import Derived.Test.YtjgekhahklidcaaDrawH
import Derived.Test.YtjgekhahklidcaaDrawB
namespace Go.Proofs.Ytjgekhahklidcaa
open Go.HH
set_option linter.unusedSimpArgs false
set_option linter.unusedVariables false

theorem FC.sb {lo hi : Nat} {h : Heap} {v : Value} {l : List Pip} (s : FC lo hi 4 l.length h v (flP l)) : SB hi 4 h v (l.map pip) := by
  rcases s with ⟨rfl, n1, n2⟩ | ⟨id, rfl, q1, q2, q3, q4⟩
  · obtain rfl : l = [] := List.length_eq_zero_iff.1 n1
    exact ⟨⟨none, rfl, by simp, by simp⟩, fun id off len e => by cases e⟩
  · refine ⟨⟨_, by rw [List.length_map], fun r hr => by obtain ⟨x, _, rfl⟩ := List.mem_map.1 hr; rfl, fun _ => ⟨id, 0, _, rfl, q3, by simp, by simp [flP_len], ?_⟩⟩, fun id' off len e _ => by simp at e; omega⟩
    rw [List.drop_zero, List.length_map, List.take_of_length_le (by rw [flP_len]; exact Nat.le_refl _)]; rfl
theorem Sl.ofH {h : Heap} {sid : Nat} {l : List (Int × Int)} (s : hget h sid = some ⟨flH l, 2, .rw⟩) : Sl h 2 (.slice (some ⟨sid, 0, none⟩) l.length 0) (l.map hyd) := by
  refine ⟨_, by rw [List.length_map], fun r hr => by obtain ⟨x, _, rfl⟩ := List.mem_map.1 hr; rfl, fun _ => ⟨sid, 0, _, rfl, s, by simp, by simp [flH_len], ?_⟩⟩
  rw [List.drop_zero, List.length_map, List.take_of_length_le (by rw [flH_len]; exact Nat.le_refl _)]; rfl

section
variable {h : Heap} {M : Nat → Prop}
set_option maxRecDepth 8000 in
set_option maxHeartbeats 2000000 in
theorem c_DrawHydrantsFor (b : Option Addr) (n : Nat) (hcode : CodeOk h b n) :
    vCall [] Try.prog M 44 [.slice b n 0] h (fun r h' => (∃ (N : Int) (P : List Pip) (v : Value) (l : List (Int × Int)) (w : Value) (y0 : Int) (y1 : Int), r = .tuple #[v, w, .int .i64 y0, .int .i64 y1] ∧ NA h'.length h' v N P ∧ P.length ≤ 40 ∧ Sl h' 2 w (l.map hyd) ∧ l.length ≤ 40) ∧ h <+: h') := by
  refine body_ofR ([(6,[0,7,10,13,17,1018])]) mo Try.func44 rfl (by kernel_rfl) (Nat.le_of_ble_eq_true (by kernel_rfl)) rfl ?_
  simp only [go_sem, Nat.reduceBEq, Nat.reduceAdd, Nat.reduceMul, Nat.reduceSub, Nat.reduceLeDiff, Nat.le_refl, implies_true, Nat.reduceLT, reduceIte, decide_true, decide_false, true_and, and_true, reduceCtorEq, Nat.mul_one, Int.reduceToNat, Int.reduceLE, Int.reduceLT, Int.reduceAdd, Int.reduceSub, Int.reduceMul, Int.cast_ofNat_Int, cast_zero_int, cast_one_int, Nat.reducePow, Nat.reduceEqDiff, Nat.reduceMod, Nat.zero_add, Nat.sub_zero, Nat.add_zero]
  have s0 := St.start (z := ⟨[.int .i64 0, .slice none 0 0], 2, .rw⟩) hcode
  refine ⟨by kernel_rfl, (d_network s0 (Or.inl (Nat.le_succ _)) (by omega)).use (fun _ m => m) ?_⟩
  rintro _ H1 ⟨⟨N, l, w, rfl, fc, hl⟩, s1, g1⟩
  obtain ⟨aw, rfl⟩ := fc.len
  have b2 := agr_get g1 hget_lit0 (by omega)
  have L1 : h.length + 2 ≤ H1.length := by have := g1.1; simpa using this
  try simp only [go_sem, Nat.reduceBEq, Nat.reduceAdd, Nat.reduceMul, Nat.reduceSub, Nat.reduceLeDiff, Nat.le_refl, implies_true, Nat.reduceLT, reduceIte, decide_true, decide_false, true_and, and_true, reduceCtorEq, Nat.mul_one, Int.reduceToNat, Int.reduceLE, Int.reduceLT, Int.reduceAdd, Int.reduceSub, Int.reduceMul, Int.cast_ofNat_Int, cast_zero_int, cast_one_int, Nat.reducePow, Nat.reduceEqDiff, Nat.reduceMod, Nat.zero_add, Nat.sub_zero, Nat.add_zero, own_ge (show h.length ≤ H1.length by omega)]
  refine ⟨by kernel_rfl, (d_one _ (s1.app _) (Or.inl (Nat.le_succ _)) (by omega)).use (fun _ m => m) ?_⟩
  rintro _ H2 ⟨⟨gb, rfl⟩, s2, g2⟩
  have k2 := agr_get g2 hget_new (by omega)
  have b3 := agr_get g2 (self_get b2 _) (by omega)
  have L2 : H1.length + 1 ≤ H2.length := by have := g2.1; simpa using this
  have fc2 := (fc.agr (Agr.app.trans g2) (by simp)).wide (show h.length + 2 ≤ _ by simp) (show H1.length ≤ H2.length by omega)
  cases gb with
  | false =>
    try simp only [go_sem, Nat.reduceBEq, Nat.reduceAdd, Nat.reduceMul, Nat.reduceSub, Nat.reduceLeDiff, Nat.le_refl, implies_true, Nat.reduceLT, reduceIte, decide_true, decide_false, true_and, and_true, reduceCtorEq, Nat.mul_one, Int.reduceToNat, Int.reduceLE, Int.reduceLT, Int.reduceAdd, Int.reduceSub, Int.reduceMul, Int.cast_ofNat_Int, cast_zero_int, cast_one_int, Nat.reducePow, Nat.reduceEqDiff, Nat.reduceMod, Nat.zero_add, Nat.sub_zero, Nat.add_zero, k2]
    obtain ⟨H, hH⟩ : ∃ H, H2 = H := ⟨_, rfl⟩
    subst hH
    have sx : St H2 (h.length + 1) n b 1000 := s2.more (by omega)
    have gx := g1.trans (Agr.app.trans g2)
    have kb := k2
    have b2x := b3
    have fcx := fc2
    have kbl := hget_lt kb
    have hown : own h.length M (h.length + 1) := Or.inl (Nat.le_succ _)
    have LH : h.length + 2 ≤ H2.length := by have := gx.1; simpa using this
    refine ⟨by kernel_rfl, (d_hydrants N sx hown (by omega)).use (fun _ m => m) ?_⟩
    rintro _ H4 ⟨hl, sid, rfl, ss, hh⟩
    have g4 := ss.out
    have L4 := g4.1
    have sl4 := ss.low.1
    have k4 := agr_get g4 kb (by omega)
    have b4 := agr_get g4 b2x (by omega)
    have fc4 := (fcx.agr g4 (by omega)).wide (Nat.le_refl _) L4
    have sd4 := ss.s

    try simp only [go_sem, Nat.reduceBEq, Nat.reduceAdd, Nat.reduceMul, Nat.reduceSub, Nat.reduceLeDiff, Nat.le_refl, implies_true, Nat.reduceLT, reduceIte, decide_true, decide_false, true_and, and_true, reduceCtorEq, Nat.mul_one, Int.reduceToNat, Int.reduceLE, Int.reduceLT, Int.reduceAdd, Int.reduceSub, Int.reduceMul, Int.cast_ofNat_Int, cast_zero_int, cast_one_int, Nat.reducePow, Nat.reduceEqDiff, Nat.reduceMod, Nat.zero_add, Nat.sub_zero, Nat.add_zero, k4]
    refine ⟨by kernel_rfl, (c_l1Most _ _).use (fun _ m => m) ?_⟩
    rintro _ _ ⟨rfl, rfl⟩
    try simp only [go_sem, Nat.reduceBEq, Nat.reduceAdd, Nat.reduceMul, Nat.reduceSub, Nat.reduceLeDiff, Nat.le_refl, implies_true, Nat.reduceLT, reduceIte, decide_true, decide_false, true_and, and_true, reduceCtorEq, Nat.mul_one, Int.reduceToNat, Int.reduceLE, Int.reduceLT, Int.reduceAdd, Int.reduceSub, Int.reduceMul, Int.cast_ofNat_Int, cast_zero_int, cast_one_int, Nat.reducePow, Nat.reduceEqDiff, Nat.reduceMod, Nat.zero_add, Nat.sub_zero, Nat.add_zero, k4]
    refine ⟨by kernel_rfl, (d_pick _ ss.st hown (by omega)).use (fun _ m => m) ?_⟩
    rintro _ H5 ⟨⟨x1, rfl, x10, x11⟩, s5, g5⟩
    have k5 := agr_get g5 k4 (by omega)
    have L5 := g5.1
    try simp only [go_sem, Nat.reduceBEq, Nat.reduceAdd, Nat.reduceMul, Nat.reduceSub, Nat.reduceLeDiff, Nat.le_refl, implies_true, Nat.reduceLT, reduceIte, decide_true, decide_false, true_and, and_true, reduceCtorEq, Nat.mul_one, Int.reduceToNat, Int.reduceLE, Int.reduceLT, Int.reduceAdd, Int.reduceSub, Int.reduceMul, Int.cast_ofNat_Int, cast_zero_int, cast_one_int, Nat.reducePow, Nat.reduceEqDiff, Nat.reduceMod, Nat.zero_add, Nat.sub_zero, Nat.add_zero, k4, k5, L5, hBin_quo (show (15 : Int) ≠ 0 by omega)]
    refine ⟨by kernel_rfl, (d_pick _ s5 hown (by omega)).use (fun _ m => m) ?_⟩
    rintro _ H6 ⟨⟨x2, rfl, x20, x21⟩, s6, g6⟩
    have k6 := agr_get g6 k5 (by omega)
    have L6 := g6.1
    try simp only [go_sem, Nat.reduceBEq, Nat.reduceAdd, Nat.reduceMul, Nat.reduceSub, Nat.reduceLeDiff, Nat.le_refl, implies_true, Nat.reduceLT, reduceIte, decide_true, decide_false, true_and, and_true, reduceCtorEq, Nat.mul_one, Int.reduceToNat, Int.reduceLE, Int.reduceLT, Int.reduceAdd, Int.reduceSub, Int.reduceMul, Int.cast_ofNat_Int, cast_zero_int, cast_one_int, Nat.reducePow, Nat.reduceEqDiff, Nat.reduceMod, Nat.zero_add, Nat.sub_zero, Nat.add_zero, k4, k5, k6, L5, L6, hBin_quo (show (15 : Int) ≠ 0 by omega)]
    refine ⟨by kernel_rfl, (d_pick _ s6 hown (by omega)).use (fun _ m => m) ?_⟩
    rintro _ H7 ⟨⟨x3, rfl, x30, x31⟩, s7, g7⟩
    have k7 := agr_get g7 k6 (by omega)
    have L7 := g7.1
    try simp only [go_sem, Nat.reduceBEq, Nat.reduceAdd, Nat.reduceMul, Nat.reduceSub, Nat.reduceLeDiff, Nat.le_refl, implies_true, Nat.reduceLT, reduceIte, decide_true, decide_false, true_and, and_true, reduceCtorEq, Nat.mul_one, Int.reduceToNat, Int.reduceLE, Int.reduceLT, Int.reduceAdd, Int.reduceSub, Int.reduceMul, Int.cast_ofNat_Int, cast_zero_int, cast_one_int, Nat.reducePow, Nat.reduceEqDiff, Nat.reduceMod, Nat.zero_add, Nat.sub_zero, Nat.add_zero, k4, k5, k6, k7, L5, L6, L7, hBin_quo (show (23 : Int) ≠ 0 by omega)]
    refine ⟨by kernel_rfl, (d_reach s7 hown (by omega)).use (fun _ m => m) ?_⟩
    rintro _ H8 ⟨⟨x4, rfl⟩, s8, g8⟩
    have k8 := agr_get g8 k7 (by omega)
    have L8 := g8.1
    have gz := g5.trans (g6.trans (g7.trans g8))

    have bz := agr_get gz b4 (by omega)
    have Lz := gz.1
    have ga : Agr h.length (h.length + 1) H8 (H8.set h.length ⟨[.int .i64 N, .slice aw l.length 0], 2, .rw⟩) := Agr.set (Nat.le_refl _) (Nat.lt_succ_self _)
    have fcz : FC (h.length + 2) (H8.set h.length ⟨[.int .i64 N, .slice aw l.length 0], 2, .rw⟩).length 4 l.length (H8.set h.length ⟨[.int .i64 N, .slice aw l.length 0], 2, .rw⟩) (.slice aw l.length 0) (flP l) := by
      have := ((fc4.agr gz (by omega)).wide (Nat.le_refl _) Lz).agr ga (by omega)
      simpa using this
    have sdz := agr_get ga (agr_get gz sd4 (by omega)) (by omega)
    try simp only [go_sem, Nat.reduceBEq, Nat.reduceAdd, Nat.reduceMul, Nat.reduceSub, Nat.reduceLeDiff, Nat.le_refl, implies_true, Nat.reduceLT, reduceIte, decide_true, decide_false, true_and, and_true, reduceCtorEq, Nat.mul_one, Int.reduceToNat, Int.reduceLE, Int.reduceLT, Int.reduceAdd, Int.reduceSub, Int.reduceMul, Int.cast_ofNat_Int, cast_zero_int, cast_one_int, Nat.reducePow, Nat.reduceEqDiff, Nat.reduceMod, Nat.zero_add, Nat.sub_zero, Nat.add_zero, k4, k5, k6, k7, k8, L5, L6, L7, L8, bz, own_ge (Nat.le_refl h.length), set_get bz]
    exact ⟨⟨N, l, _, hl, _, _, _, rfl, ⟨_, rfl, FC.sb fcz⟩, by omega, Sl.ofH sdz, hh⟩, fin_pre (gx.trans (g4.trans gz)) _⟩
  | true =>
    try simp only [go_sem, Nat.reduceBEq, Nat.reduceAdd, Nat.reduceMul, Nat.reduceSub, Nat.reduceLeDiff, Nat.le_refl, implies_true, Nat.reduceLT, reduceIte, decide_true, decide_false, true_and, and_true, reduceCtorEq, Nat.mul_one, Int.reduceToNat, Int.reduceLE, Int.reduceLT, Int.reduceAdd, Int.reduceSub, Int.reduceMul, Int.cast_ofNat_Int, cast_zero_int, cast_one_int, Nat.reducePow, Nat.reduceEqDiff, Nat.reduceMod, Nat.zero_add, Nat.sub_zero, Nat.add_zero]
    refine ⟨by kernel_rfl, (d_anyNetwork s2 (Or.inl (Nat.le_succ _)) (by omega)).use (fun _ m => m) ?_⟩
    rintro _ H3 ⟨⟨N, l, w, rfl, fc3, hl⟩, s3, g3⟩
    obtain ⟨aw, rfl⟩ := fc3.len
    have k3 := agr_get g3 k2 (by omega)
    have b5 := agr_get g3 b3 (by omega)
    have L3 := g3.1
    try simp only [go_sem, Nat.reduceBEq, Nat.reduceAdd, Nat.reduceMul, Nat.reduceSub, Nat.reduceLeDiff, Nat.le_refl, implies_true, Nat.reduceLT, reduceIte, decide_true, decide_false, true_and, and_true, reduceCtorEq, Nat.mul_one, Int.reduceToNat, Int.reduceLE, Int.reduceLT, Int.reduceAdd, Int.reduceSub, Int.reduceMul, Int.cast_ofNat_Int, cast_zero_int, cast_one_int, Nat.reducePow, Nat.reduceEqDiff, Nat.reduceMod, Nat.zero_add, Nat.sub_zero, Nat.add_zero, k3, own_ge (show h.length ≤ H1.length by omega)]
    obtain ⟨H, hH⟩ : ∃ H, H3.set H1.length (⟨[.int .i64 N, .slice aw l.length 0], 2, .rw⟩ : Blk) = H := ⟨_, rfl⟩
    have ga : Agr H1.length (H1.length + 1) H3 H := hH ▸ Agr.set (Nat.le_refl _) (Nat.lt_succ_self _)
    have sx : St H (h.length + 1) n b 1000 := by rw [← hH]; exact (s3.set k3 rfl (by omega)).more (by omega)
    have gx : Agr (h.length + 1) (h.length + 1 + 1) (h ++ [(⟨[.int .i64 0, .slice none 0 0], 2, .rw⟩ : Blk), ⟨[.slice b n 0, .int .i64 0, .int .u64 0], 3, .rw⟩]) H := by
      rw [← hH]; exact agr_set_out (g1.trans (Agr.app.trans (g2.trans g3))) (by simp; omega)
    have kb : hget H H1.length = some ⟨[.int .i64 N, .slice aw l.length 0], 2, .rw⟩ := by rw [← hH]; exact set_get k3 _
    have b2x := agr_get ga b5 (by omega)
    have fcx : FC (h.length + 2) H.length 4 l.length H (.slice aw l.length 0) (flP l) := (fc3.agr ga (by omega)).wide (by omega) ga.1
    have kbl := hget_lt kb
    try simp only [go_sem, Nat.reduceBEq, Nat.reduceAdd, Nat.reduceMul, Nat.reduceSub, Nat.reduceLeDiff, Nat.le_refl, implies_true, Nat.reduceLT, reduceIte, decide_true, decide_false, true_and, and_true, reduceCtorEq, Nat.mul_one, Int.reduceToNat, Int.reduceLE, Int.reduceLT, Int.reduceAdd, Int.reduceSub, Int.reduceMul, Int.cast_ofNat_Int, cast_zero_int, cast_one_int, Nat.reducePow, Nat.reduceEqDiff, Nat.reduceMod, Nat.zero_add, Nat.sub_zero, Nat.add_zero, hH, kb]
    have hown : own h.length M (h.length + 1) := Or.inl (Nat.le_succ _)
    have LH : h.length + 2 ≤ H.length := by have := gx.1; simpa using this
    refine ⟨by kernel_rfl, (d_hydrants N sx hown (by omega)).use (fun _ m => m) ?_⟩
    rintro _ H4 ⟨hl, sid, rfl, ss, hh⟩
    have g4 := ss.out
    have L4 := g4.1
    have sl4 := ss.low.1
    have k4 := agr_get g4 kb (by omega)
    have b4 := agr_get g4 b2x (by omega)
    have fc4 := (fcx.agr g4 (by omega)).wide (Nat.le_refl _) L4
    have sd4 := ss.s

    try simp only [go_sem, Nat.reduceBEq, Nat.reduceAdd, Nat.reduceMul, Nat.reduceSub, Nat.reduceLeDiff, Nat.le_refl, implies_true, Nat.reduceLT, reduceIte, decide_true, decide_false, true_and, and_true, reduceCtorEq, Nat.mul_one, Int.reduceToNat, Int.reduceLE, Int.reduceLT, Int.reduceAdd, Int.reduceSub, Int.reduceMul, Int.cast_ofNat_Int, cast_zero_int, cast_one_int, Nat.reducePow, Nat.reduceEqDiff, Nat.reduceMod, Nat.zero_add, Nat.sub_zero, Nat.add_zero, k4]
    refine ⟨by kernel_rfl, (c_l1Most _ _).use (fun _ m => m) ?_⟩
    rintro _ _ ⟨rfl, rfl⟩
    try simp only [go_sem, Nat.reduceBEq, Nat.reduceAdd, Nat.reduceMul, Nat.reduceSub, Nat.reduceLeDiff, Nat.le_refl, implies_true, Nat.reduceLT, reduceIte, decide_true, decide_false, true_and, and_true, reduceCtorEq, Nat.mul_one, Int.reduceToNat, Int.reduceLE, Int.reduceLT, Int.reduceAdd, Int.reduceSub, Int.reduceMul, Int.cast_ofNat_Int, cast_zero_int, cast_one_int, Nat.reducePow, Nat.reduceEqDiff, Nat.reduceMod, Nat.zero_add, Nat.sub_zero, Nat.add_zero, k4]
    refine ⟨by kernel_rfl, (d_pick _ ss.st hown (by omega)).use (fun _ m => m) ?_⟩
    rintro _ H5 ⟨⟨x1, rfl, x10, x11⟩, s5, g5⟩
    have k5 := agr_get g5 k4 (by omega)
    have L5 := g5.1
    try simp only [go_sem, Nat.reduceBEq, Nat.reduceAdd, Nat.reduceMul, Nat.reduceSub, Nat.reduceLeDiff, Nat.le_refl, implies_true, Nat.reduceLT, reduceIte, decide_true, decide_false, true_and, and_true, reduceCtorEq, Nat.mul_one, Int.reduceToNat, Int.reduceLE, Int.reduceLT, Int.reduceAdd, Int.reduceSub, Int.reduceMul, Int.cast_ofNat_Int, cast_zero_int, cast_one_int, Nat.reducePow, Nat.reduceEqDiff, Nat.reduceMod, Nat.zero_add, Nat.sub_zero, Nat.add_zero, k4, k5, L5, hBin_quo (show (15 : Int) ≠ 0 by omega)]
    refine ⟨by kernel_rfl, (d_pick _ s5 hown (by omega)).use (fun _ m => m) ?_⟩
    rintro _ H6 ⟨⟨x2, rfl, x20, x21⟩, s6, g6⟩
    have k6 := agr_get g6 k5 (by omega)
    have L6 := g6.1
    try simp only [go_sem, Nat.reduceBEq, Nat.reduceAdd, Nat.reduceMul, Nat.reduceSub, Nat.reduceLeDiff, Nat.le_refl, implies_true, Nat.reduceLT, reduceIte, decide_true, decide_false, true_and, and_true, reduceCtorEq, Nat.mul_one, Int.reduceToNat, Int.reduceLE, Int.reduceLT, Int.reduceAdd, Int.reduceSub, Int.reduceMul, Int.cast_ofNat_Int, cast_zero_int, cast_one_int, Nat.reducePow, Nat.reduceEqDiff, Nat.reduceMod, Nat.zero_add, Nat.sub_zero, Nat.add_zero, k4, k5, k6, L5, L6, hBin_quo (show (15 : Int) ≠ 0 by omega)]
    refine ⟨by kernel_rfl, (d_pick _ s6 hown (by omega)).use (fun _ m => m) ?_⟩
    rintro _ H7 ⟨⟨x3, rfl, x30, x31⟩, s7, g7⟩
    have k7 := agr_get g7 k6 (by omega)
    have L7 := g7.1
    try simp only [go_sem, Nat.reduceBEq, Nat.reduceAdd, Nat.reduceMul, Nat.reduceSub, Nat.reduceLeDiff, Nat.le_refl, implies_true, Nat.reduceLT, reduceIte, decide_true, decide_false, true_and, and_true, reduceCtorEq, Nat.mul_one, Int.reduceToNat, Int.reduceLE, Int.reduceLT, Int.reduceAdd, Int.reduceSub, Int.reduceMul, Int.cast_ofNat_Int, cast_zero_int, cast_one_int, Nat.reducePow, Nat.reduceEqDiff, Nat.reduceMod, Nat.zero_add, Nat.sub_zero, Nat.add_zero, k4, k5, k6, k7, L5, L6, L7, hBin_quo (show (23 : Int) ≠ 0 by omega)]
    refine ⟨by kernel_rfl, (d_reach s7 hown (by omega)).use (fun _ m => m) ?_⟩
    rintro _ H8 ⟨⟨x4, rfl⟩, s8, g8⟩
    have k8 := agr_get g8 k7 (by omega)
    have L8 := g8.1
    have gz := g5.trans (g6.trans (g7.trans g8))

    have bz := agr_get gz b4 (by omega)
    have Lz := gz.1
    have ga : Agr h.length (h.length + 1) H8 (H8.set h.length ⟨[.int .i64 N, .slice aw l.length 0], 2, .rw⟩) := Agr.set (Nat.le_refl _) (Nat.lt_succ_self _)
    have fcz : FC (h.length + 2) (H8.set h.length ⟨[.int .i64 N, .slice aw l.length 0], 2, .rw⟩).length 4 l.length (H8.set h.length ⟨[.int .i64 N, .slice aw l.length 0], 2, .rw⟩) (.slice aw l.length 0) (flP l) := by
      have := ((fc4.agr gz (by omega)).wide (Nat.le_refl _) Lz).agr ga (by omega)
      simpa using this
    have sdz := agr_get ga (agr_get gz sd4 (by omega)) (by omega)
    try simp only [go_sem, Nat.reduceBEq, Nat.reduceAdd, Nat.reduceMul, Nat.reduceSub, Nat.reduceLeDiff, Nat.le_refl, implies_true, Nat.reduceLT, reduceIte, decide_true, decide_false, true_and, and_true, reduceCtorEq, Nat.mul_one, Int.reduceToNat, Int.reduceLE, Int.reduceLT, Int.reduceAdd, Int.reduceSub, Int.reduceMul, Int.cast_ofNat_Int, cast_zero_int, cast_one_int, Nat.reducePow, Nat.reduceEqDiff, Nat.reduceMod, Nat.zero_add, Nat.sub_zero, Nat.add_zero, k4, k5, k6, k7, k8, L5, L6, L7, L8, bz, own_ge (Nat.le_refl h.length), set_get bz]
    exact ⟨⟨N, l, _, hl, _, _, _, rfl, ⟨_, rfl, FC.sb fcz⟩, by omega, Sl.ofH sdz, hh⟩, fin_pre (gx.trans (g4.trans gz)) _⟩

set_option maxRecDepth 8000 in
set_option maxHeartbeats 2000000 in
theorem c_DrawBestHydrant (b : Option Addr) (n : Nat) (hcode : CodeOk h b n) :
    vCall [] Try.prog M 51 [.slice b n 0] h (fun r h' => (∃ (N : Int) (P : List Pip) (v : Value) (l : List (Int × Int)) (w : Value) (y0 : Int) (y1 : Int) (y2 : Int), r = .tuple #[v, w, .int .i64 y0, .int .i64 y1, .int .i64 y2] ∧ NA h'.length h' v N P ∧ P.length ≤ 40 ∧ Sl h' 2 w (l.map hyd) ∧ l.length ≤ 40) ∧ h <+: h') := by
  refine body_ofR ([(4,[0,3,5,7,9,13,1014])]) mo Try.func51 rfl (by kernel_rfl) (Nat.le_of_ble_eq_true (by kernel_rfl)) rfl ?_
  simp only [go_sem, Nat.reduceBEq, Nat.reduceAdd, Nat.reduceMul, Nat.reduceSub, Nat.reduceLeDiff, Nat.le_refl, implies_true, Nat.reduceLT, reduceIte, decide_true, decide_false, true_and, and_true, reduceCtorEq, Nat.mul_one, Int.reduceToNat, Int.reduceLE, Int.reduceLT, Int.reduceAdd, Int.reduceSub, Int.reduceMul, Int.cast_ofNat_Int, cast_zero_int, cast_one_int, Nat.reducePow, Nat.reduceEqDiff, Nat.reduceMod, Nat.zero_add, Nat.sub_zero, Nat.add_zero]
  have s0 := St.start (z := ⟨[.int .i64 0, .slice none 0 0], 2, .rw⟩) hcode
  refine ⟨by kernel_rfl, (d_network s0 (Or.inl (Nat.le_succ _)) (by omega)).use (fun _ m => m) ?_⟩
  rintro _ H1 ⟨⟨N, l, w, rfl, fc, hl⟩, s1, g1⟩
  obtain ⟨aw, rfl⟩ := fc.len
  have b2 := agr_get g1 hget_lit0 (by omega)
  have L1 : h.length + 2 ≤ H1.length := by have := g1.1; simpa using this
  try simp only [go_sem, Nat.reduceBEq, Nat.reduceAdd, Nat.reduceMul, Nat.reduceSub, Nat.reduceLeDiff, Nat.le_refl, implies_true, Nat.reduceLT, reduceIte, decide_true, decide_false, true_and, and_true, reduceCtorEq, Nat.mul_one, Int.reduceToNat, Int.reduceLE, Int.reduceLT, Int.reduceAdd, Int.reduceSub, Int.reduceMul, Int.cast_ofNat_Int, cast_zero_int, cast_one_int, Nat.reducePow, Nat.reduceEqDiff, Nat.reduceMod, Nat.zero_add, Nat.sub_zero, Nat.add_zero, own_ge (show h.length ≤ H1.length by omega)]
  obtain ⟨H, hH⟩ : ∃ H, H1 ++ [(⟨[.int .i64 N, .slice aw l.length 0], 2, .rw⟩ : Blk)] = H := ⟨_, rfl⟩
  have sx : St H (h.length + 1) n b 1000 := by rw [← hH]; exact (s1.app _).more (by omega)
  have gx : Agr (h.length + 1) (h.length + 1 + 1) (h ++ [(⟨[.int .i64 0, .slice none 0 0], 2, .rw⟩ : Blk), ⟨[.slice b n 0, .int .i64 0, .int .u64 0], 3, .rw⟩]) H := by rw [← hH]; exact g1.trans Agr.app
  have kb : hget H H1.length = some ⟨[.int .i64 N, .slice aw l.length 0], 2, .rw⟩ := by rw [← hH]; exact hget_new
  have b2x : hget H h.length = some ⟨[.int .i64 0, .slice none 0 0], 2, .rw⟩ := by rw [← hH]; exact self_get b2 _
  have fcx : FC (h.length + 2) H.length 4 l.length H (.slice aw l.length 0) (flP l) := by rw [← hH]; exact (fc.app _).wide (by simp) (by simp)
  have kbl := hget_lt kb
  try simp only [go_sem, Nat.reduceBEq, Nat.reduceAdd, Nat.reduceMul, Nat.reduceSub, Nat.reduceLeDiff, Nat.le_refl, implies_true, Nat.reduceLT, reduceIte, decide_true, decide_false, true_and, and_true, reduceCtorEq, Nat.mul_one, Int.reduceToNat, Int.reduceLE, Int.reduceLT, Int.reduceAdd, Int.reduceSub, Int.reduceMul, Int.cast_ofNat_Int, cast_zero_int, cast_one_int, Nat.reducePow, Nat.reduceEqDiff, Nat.reduceMod, Nat.zero_add, Nat.sub_zero, Nat.add_zero, hH, kb]
  have hown : own h.length M (h.length + 1) := Or.inl (Nat.le_succ _)
  have LH : h.length + 2 ≤ H.length := by have := gx.1; simpa using this
  refine ⟨by kernel_rfl, (d_hydrants N sx hown (by omega)).use (fun _ m => m) ?_⟩
  rintro _ H4 ⟨hl, sid, rfl, ss, hh⟩
  have g4 := ss.out
  have L4 := g4.1
  have sl4 := ss.low.1
  have k4 := agr_get g4 kb (by omega)
  have b4 := agr_get g4 b2x (by omega)
  have fc4 := (fcx.agr g4 (by omega)).wide (Nat.le_refl _) L4
  have sd4 := ss.s

  try simp only [go_sem, Nat.reduceBEq, Nat.reduceAdd, Nat.reduceMul, Nat.reduceSub, Nat.reduceLeDiff, Nat.le_refl, implies_true, Nat.reduceLT, reduceIte, decide_true, decide_false, true_and, and_true, reduceCtorEq, Nat.mul_one, Int.reduceToNat, Int.reduceLE, Int.reduceLT, Int.reduceAdd, Int.reduceSub, Int.reduceMul, Int.cast_ofNat_Int, cast_zero_int, cast_one_int, Nat.reducePow, Nat.reduceEqDiff, Nat.reduceMod, Nat.zero_add, Nat.sub_zero, Nat.add_zero, k4, self_get k4]
  refine ⟨by kernel_rfl, (d_reach (ss.st.app _) hown (by omega)).use (fun _ m => m) ?_⟩
  rintro _ H5 ⟨⟨x1, rfl⟩, s5, g5⟩
  have k5 := agr_get g5 (self_get k4 _) (by omega)
  have w5 := agr_get g5 hget_new (by omega)
  have L5 : H4.length + 1 ≤ H5.length := by have := g5.1; simpa using this
  try simp only [go_sem, Nat.reduceBEq, Nat.reduceAdd, Nat.reduceMul, Nat.reduceSub, Nat.reduceLeDiff, Nat.le_refl, implies_true, Nat.reduceLT, reduceIte, decide_true, decide_false, true_and, and_true, reduceCtorEq, Nat.mul_one, Int.reduceToNat, Int.reduceLE, Int.reduceLT, Int.reduceAdd, Int.reduceSub, Int.reduceMul, Int.cast_ofNat_Int, cast_zero_int, cast_one_int, Nat.reducePow, Nat.reduceEqDiff, Nat.reduceMod, Nat.zero_add, Nat.sub_zero, Nat.add_zero, k4, k5, w5, self_get k4, L5]
  refine ⟨by kernel_rfl, (d_class s5 hown (by omega)).use (fun _ m => m) ?_⟩
  rintro _ H6 ⟨⟨x2, rfl⟩, s6, g6⟩
  have k6 := agr_get g6 k5 (by omega)
  have w6 := agr_get g6 w5 (by omega)
  have L6 := g6.1
  try simp only [go_sem, Nat.reduceBEq, Nat.reduceAdd, Nat.reduceMul, Nat.reduceSub, Nat.reduceLeDiff, Nat.le_refl, implies_true, Nat.reduceLT, reduceIte, decide_true, decide_false, true_and, and_true, reduceCtorEq, Nat.mul_one, Int.reduceToNat, Int.reduceLE, Int.reduceLT, Int.reduceAdd, Int.reduceSub, Int.reduceMul, Int.cast_ofNat_Int, cast_zero_int, cast_one_int, Nat.reducePow, Nat.reduceEqDiff, Nat.reduceMod, Nat.zero_add, Nat.sub_zero, Nat.add_zero, k4, k5, w5, self_get k4, L5, k6, w6, L6]
  refine ⟨by kernel_rfl, (d_pick _ s6 hown (by omega)).use (fun _ m => m) ?_⟩
  rintro _ H7 ⟨⟨x3, rfl, x30, x31⟩, s7, g7⟩
  have k7 := agr_get g7 k6 (by omega)
  have w7 := agr_get g7 w6 (by omega)
  have L7 := g7.1
  obtain ⟨q, e1, q1, q2⟩ := cutLen 4 (by omega) x30 x31
  simp only [Int.reduceToNat] at q1 q2
  try simp only [go_sem, Nat.reduceBEq, Nat.reduceAdd, Nat.reduceMul, Nat.reduceSub, Nat.reduceLeDiff, Nat.le_refl, implies_true, Nat.reduceLT, reduceIte, decide_true, decide_false, true_and, and_true, reduceCtorEq, Nat.mul_one, Int.reduceToNat, Int.reduceLE, Int.reduceLT, Int.reduceAdd, Int.reduceSub, Int.reduceMul, Int.cast_ofNat_Int, cast_zero_int, cast_one_int, Nat.reducePow, Nat.reduceEqDiff, Nat.reduceMod, Nat.zero_add, Nat.sub_zero, Nat.add_zero, k4, k5, w5, self_get k4, L5, k6, w6, L6, k7, w7, L7, hBin_quo (show (11 : Int) ≠ 0 by omega), e1]
  refine ⟨by omega, by omega, ?_⟩
  refine ⟨by kernel_rfl, (d_among _ q _ s7 hown w7 rfl rfl (by simp; omega) (by omega) (by omega) (by omega) (by omega)).use (fun _ m => m) ?_⟩
  rintro _ H8 ⟨⟨x4, rfl⟩, s8, g8⟩
  have k8 := agr_get g8 k7 (by omega)
  have w8 := agr_get g8 w7 (by omega)
  have L8 := g8.1
  have gz := (Agr.app (t := [_])).trans (g5.trans (g6.trans (g7.trans g8)))

  have bz := agr_get gz b4 (by omega)
  have Lz := gz.1
  have ga : Agr h.length (h.length + 1) H8 (H8.set h.length ⟨[.int .i64 N, .slice aw l.length 0], 2, .rw⟩) := Agr.set (Nat.le_refl _) (Nat.lt_succ_self _)
  have fcz : FC (h.length + 2) (H8.set h.length ⟨[.int .i64 N, .slice aw l.length 0], 2, .rw⟩).length 4 l.length (H8.set h.length ⟨[.int .i64 N, .slice aw l.length 0], 2, .rw⟩) (.slice aw l.length 0) (flP l) := by
    have := ((fc4.agr gz (by omega)).wide (Nat.le_refl _) Lz).agr ga (by omega)
    simpa using this
  have sdz := agr_get ga (agr_get gz sd4 (by omega)) (by omega)
  try simp only [go_sem, Nat.reduceBEq, Nat.reduceAdd, Nat.reduceMul, Nat.reduceSub, Nat.reduceLeDiff, Nat.le_refl, implies_true, Nat.reduceLT, reduceIte, decide_true, decide_false, true_and, and_true, reduceCtorEq, Nat.mul_one, Int.reduceToNat, Int.reduceLE, Int.reduceLT, Int.reduceAdd, Int.reduceSub, Int.reduceMul, Int.cast_ofNat_Int, cast_zero_int, cast_one_int, Nat.reducePow, Nat.reduceEqDiff, Nat.reduceMod, Nat.zero_add, Nat.sub_zero, Nat.add_zero, k4, k5, w5, self_get k4, L5, k6, w6, L6, k7, w7, L7, k8, w8, L8, bz, own_ge (Nat.le_refl h.length), set_get bz]
  exact ⟨⟨N, l, _, hl, _, _, _, _, rfl, ⟨_, rfl, FC.sb fcz⟩, by omega, Sl.ofH sdz, hh⟩, fin_pre (gx.trans (g4.trans gz)) _⟩

set_option maxRecDepth 8000 in
set_option maxHeartbeats 2000000 in
theorem c_DrawFewestHydrants (b : Option Addr) (n : Nat) (hcode : CodeOk h b n) :
    vCall [] Try.prog M 56 [.slice b n 0] h (fun r h' => (∃ (N : Int) (P : List Pip) (v : Value) (l : List (Int × Int)) (w : Value) (y0 : Int) (y1 : Int), r = .tuple #[v, w, .int .i64 y0, .int .i64 y1] ∧ NA h'.length h' v N P ∧ P.length ≤ 40 ∧ Sl h' 2 w (l.map hyd) ∧ l.length ≤ 40) ∧ h <+: h') := by
  refine body_ofR ([(6,[0,7,10,13,17,1018])]) mo Try.func56 rfl (by kernel_rfl) (Nat.le_of_ble_eq_true (by kernel_rfl)) rfl ?_
  simp only [go_sem, Nat.reduceBEq, Nat.reduceAdd, Nat.reduceMul, Nat.reduceSub, Nat.reduceLeDiff, Nat.le_refl, implies_true, Nat.reduceLT, reduceIte, decide_true, decide_false, true_and, and_true, reduceCtorEq, Nat.mul_one, Int.reduceToNat, Int.reduceLE, Int.reduceLT, Int.reduceAdd, Int.reduceSub, Int.reduceMul, Int.cast_ofNat_Int, cast_zero_int, cast_one_int, Nat.reducePow, Nat.reduceEqDiff, Nat.reduceMod, Nat.zero_add, Nat.sub_zero, Nat.add_zero]
  have s0 := St.start (z := ⟨[.int .i64 0, .slice none 0 0], 2, .rw⟩) hcode
  refine ⟨by kernel_rfl, (d_network s0 (Or.inl (Nat.le_succ _)) (by omega)).use (fun _ m => m) ?_⟩
  rintro _ H1 ⟨⟨N, l, w, rfl, fc, hl⟩, s1, g1⟩
  obtain ⟨aw, rfl⟩ := fc.len
  have b2 := agr_get g1 hget_lit0 (by omega)
  have L1 : h.length + 2 ≤ H1.length := by have := g1.1; simpa using this
  try simp only [go_sem, Nat.reduceBEq, Nat.reduceAdd, Nat.reduceMul, Nat.reduceSub, Nat.reduceLeDiff, Nat.le_refl, implies_true, Nat.reduceLT, reduceIte, decide_true, decide_false, true_and, and_true, reduceCtorEq, Nat.mul_one, Int.reduceToNat, Int.reduceLE, Int.reduceLT, Int.reduceAdd, Int.reduceSub, Int.reduceMul, Int.cast_ofNat_Int, cast_zero_int, cast_one_int, Nat.reducePow, Nat.reduceEqDiff, Nat.reduceMod, Nat.zero_add, Nat.sub_zero, Nat.add_zero, own_ge (show h.length ≤ H1.length by omega)]
  refine ⟨by kernel_rfl, (d_one _ (s1.app _) (Or.inl (Nat.le_succ _)) (by omega)).use (fun _ m => m) ?_⟩
  rintro _ H2 ⟨⟨gb, rfl⟩, s2, g2⟩
  have k2 := agr_get g2 hget_new (by omega)
  have b3 := agr_get g2 (self_get b2 _) (by omega)
  have L2 : H1.length + 1 ≤ H2.length := by have := g2.1; simpa using this
  have fc2 := (fc.agr (Agr.app.trans g2) (by simp)).wide (show h.length + 2 ≤ _ by simp) (show H1.length ≤ H2.length by omega)
  cases gb with
  | false =>
    try simp only [go_sem, Nat.reduceBEq, Nat.reduceAdd, Nat.reduceMul, Nat.reduceSub, Nat.reduceLeDiff, Nat.le_refl, implies_true, Nat.reduceLT, reduceIte, decide_true, decide_false, true_and, and_true, reduceCtorEq, Nat.mul_one, Int.reduceToNat, Int.reduceLE, Int.reduceLT, Int.reduceAdd, Int.reduceSub, Int.reduceMul, Int.cast_ofNat_Int, cast_zero_int, cast_one_int, Nat.reducePow, Nat.reduceEqDiff, Nat.reduceMod, Nat.zero_add, Nat.sub_zero, Nat.add_zero, k2]
    obtain ⟨H, hH⟩ : ∃ H, H2 = H := ⟨_, rfl⟩
    subst hH
    have sx : St H2 (h.length + 1) n b 1000 := s2.more (by omega)
    have gx := g1.trans (Agr.app.trans g2)
    have kb := k2
    have b2x := b3
    have fcx := fc2
    have kbl := hget_lt kb
    have hown : own h.length M (h.length + 1) := Or.inl (Nat.le_succ _)
    have LH : h.length + 2 ≤ H2.length := by have := gx.1; simpa using this
    refine ⟨by kernel_rfl, (d_hydrants N sx hown (by omega)).use (fun _ m => m) ?_⟩
    rintro _ H4 ⟨hl, sid, rfl, ss, hh⟩
    have g4 := ss.out
    have L4 := g4.1
    have sl4 := ss.low.1
    have k4 := agr_get g4 kb (by omega)
    have b4 := agr_get g4 b2x (by omega)
    have fc4 := (fcx.agr g4 (by omega)).wide (Nat.le_refl _) L4
    have sd4 := ss.s

    try simp only [go_sem, Nat.reduceBEq, Nat.reduceAdd, Nat.reduceMul, Nat.reduceSub, Nat.reduceLeDiff, Nat.le_refl, implies_true, Nat.reduceLT, reduceIte, decide_true, decide_false, true_and, and_true, reduceCtorEq, Nat.mul_one, Int.reduceToNat, Int.reduceLE, Int.reduceLT, Int.reduceAdd, Int.reduceSub, Int.reduceMul, Int.cast_ofNat_Int, cast_zero_int, cast_one_int, Nat.reducePow, Nat.reduceEqDiff, Nat.reduceMod, Nat.zero_add, Nat.sub_zero, Nat.add_zero, k4]
    refine ⟨by kernel_rfl, (c_l1Most _ _).use (fun _ m => m) ?_⟩
    rintro _ _ ⟨rfl, rfl⟩
    try simp only [go_sem, Nat.reduceBEq, Nat.reduceAdd, Nat.reduceMul, Nat.reduceSub, Nat.reduceLeDiff, Nat.le_refl, implies_true, Nat.reduceLT, reduceIte, decide_true, decide_false, true_and, and_true, reduceCtorEq, Nat.mul_one, Int.reduceToNat, Int.reduceLE, Int.reduceLT, Int.reduceAdd, Int.reduceSub, Int.reduceMul, Int.cast_ofNat_Int, cast_zero_int, cast_one_int, Nat.reducePow, Nat.reduceEqDiff, Nat.reduceMod, Nat.zero_add, Nat.sub_zero, Nat.add_zero, k4]
    refine ⟨by kernel_rfl, (d_pick _ ss.st hown (by omega)).use (fun _ m => m) ?_⟩
    rintro _ H5 ⟨⟨x1, rfl, x10, x11⟩, s5, g5⟩
    have k5 := agr_get g5 k4 (by omega)
    have L5 := g5.1
    try simp only [go_sem, Nat.reduceBEq, Nat.reduceAdd, Nat.reduceMul, Nat.reduceSub, Nat.reduceLeDiff, Nat.le_refl, implies_true, Nat.reduceLT, reduceIte, decide_true, decide_false, true_and, and_true, reduceCtorEq, Nat.mul_one, Int.reduceToNat, Int.reduceLE, Int.reduceLT, Int.reduceAdd, Int.reduceSub, Int.reduceMul, Int.cast_ofNat_Int, cast_zero_int, cast_one_int, Nat.reducePow, Nat.reduceEqDiff, Nat.reduceMod, Nat.zero_add, Nat.sub_zero, Nat.add_zero, k4, k5, L5, hBin_quo (show (15 : Int) ≠ 0 by omega)]
    refine ⟨by kernel_rfl, (d_pick _ s5 hown (by omega)).use (fun _ m => m) ?_⟩
    rintro _ H6 ⟨⟨x2, rfl, x20, x21⟩, s6, g6⟩
    have k6 := agr_get g6 k5 (by omega)
    have L6 := g6.1
    try simp only [go_sem, Nat.reduceBEq, Nat.reduceAdd, Nat.reduceMul, Nat.reduceSub, Nat.reduceLeDiff, Nat.le_refl, implies_true, Nat.reduceLT, reduceIte, decide_true, decide_false, true_and, and_true, reduceCtorEq, Nat.mul_one, Int.reduceToNat, Int.reduceLE, Int.reduceLT, Int.reduceAdd, Int.reduceSub, Int.reduceMul, Int.cast_ofNat_Int, cast_zero_int, cast_one_int, Nat.reducePow, Nat.reduceEqDiff, Nat.reduceMod, Nat.zero_add, Nat.sub_zero, Nat.add_zero, k4, k5, k6, L5, L6, hBin_quo (show (15 : Int) ≠ 0 by omega)]
    refine ⟨by kernel_rfl, (d_pick _ s6 hown (by omega)).use (fun _ m => m) ?_⟩
    rintro _ H7 ⟨⟨x3, rfl, x30, x31⟩, s7, g7⟩
    have k7 := agr_get g7 k6 (by omega)
    have L7 := g7.1
    try simp only [go_sem, Nat.reduceBEq, Nat.reduceAdd, Nat.reduceMul, Nat.reduceSub, Nat.reduceLeDiff, Nat.le_refl, implies_true, Nat.reduceLT, reduceIte, decide_true, decide_false, true_and, and_true, reduceCtorEq, Nat.mul_one, Int.reduceToNat, Int.reduceLE, Int.reduceLT, Int.reduceAdd, Int.reduceSub, Int.reduceMul, Int.cast_ofNat_Int, cast_zero_int, cast_one_int, Nat.reducePow, Nat.reduceEqDiff, Nat.reduceMod, Nat.zero_add, Nat.sub_zero, Nat.add_zero, k4, k5, k6, k7, L5, L6, L7, hBin_quo (show (23 : Int) ≠ 0 by omega)]
    refine ⟨by kernel_rfl, (d_class s7 hown (by omega)).use (fun _ m => m) ?_⟩
    rintro _ H8 ⟨⟨x4, rfl⟩, s8, g8⟩
    have k8 := agr_get g8 k7 (by omega)
    have L8 := g8.1
    have gz := g5.trans (g6.trans (g7.trans g8))

    have bz := agr_get gz b4 (by omega)
    have Lz := gz.1
    have ga : Agr h.length (h.length + 1) H8 (H8.set h.length ⟨[.int .i64 N, .slice aw l.length 0], 2, .rw⟩) := Agr.set (Nat.le_refl _) (Nat.lt_succ_self _)
    have fcz : FC (h.length + 2) (H8.set h.length ⟨[.int .i64 N, .slice aw l.length 0], 2, .rw⟩).length 4 l.length (H8.set h.length ⟨[.int .i64 N, .slice aw l.length 0], 2, .rw⟩) (.slice aw l.length 0) (flP l) := by
      have := ((fc4.agr gz (by omega)).wide (Nat.le_refl _) Lz).agr ga (by omega)
      simpa using this
    have sdz := agr_get ga (agr_get gz sd4 (by omega)) (by omega)
    try simp only [go_sem, Nat.reduceBEq, Nat.reduceAdd, Nat.reduceMul, Nat.reduceSub, Nat.reduceLeDiff, Nat.le_refl, implies_true, Nat.reduceLT, reduceIte, decide_true, decide_false, true_and, and_true, reduceCtorEq, Nat.mul_one, Int.reduceToNat, Int.reduceLE, Int.reduceLT, Int.reduceAdd, Int.reduceSub, Int.reduceMul, Int.cast_ofNat_Int, cast_zero_int, cast_one_int, Nat.reducePow, Nat.reduceEqDiff, Nat.reduceMod, Nat.zero_add, Nat.sub_zero, Nat.add_zero, k4, k5, k6, k7, k8, L5, L6, L7, L8, bz, own_ge (Nat.le_refl h.length), set_get bz]
    exact ⟨⟨N, l, _, hl, _, _, _, rfl, ⟨_, rfl, FC.sb fcz⟩, by omega, Sl.ofH sdz, hh⟩, fin_pre (gx.trans (g4.trans gz)) _⟩
  | true =>
    try simp only [go_sem, Nat.reduceBEq, Nat.reduceAdd, Nat.reduceMul, Nat.reduceSub, Nat.reduceLeDiff, Nat.le_refl, implies_true, Nat.reduceLT, reduceIte, decide_true, decide_false, true_and, and_true, reduceCtorEq, Nat.mul_one, Int.reduceToNat, Int.reduceLE, Int.reduceLT, Int.reduceAdd, Int.reduceSub, Int.reduceMul, Int.cast_ofNat_Int, cast_zero_int, cast_one_int, Nat.reducePow, Nat.reduceEqDiff, Nat.reduceMod, Nat.zero_add, Nat.sub_zero, Nat.add_zero]
    refine ⟨by kernel_rfl, (d_anyNetwork s2 (Or.inl (Nat.le_succ _)) (by omega)).use (fun _ m => m) ?_⟩
    rintro _ H3 ⟨⟨N, l, w, rfl, fc3, hl⟩, s3, g3⟩
    obtain ⟨aw, rfl⟩ := fc3.len
    have k3 := agr_get g3 k2 (by omega)
    have b5 := agr_get g3 b3 (by omega)
    have L3 := g3.1
    try simp only [go_sem, Nat.reduceBEq, Nat.reduceAdd, Nat.reduceMul, Nat.reduceSub, Nat.reduceLeDiff, Nat.le_refl, implies_true, Nat.reduceLT, reduceIte, decide_true, decide_false, true_and, and_true, reduceCtorEq, Nat.mul_one, Int.reduceToNat, Int.reduceLE, Int.reduceLT, Int.reduceAdd, Int.reduceSub, Int.reduceMul, Int.cast_ofNat_Int, cast_zero_int, cast_one_int, Nat.reducePow, Nat.reduceEqDiff, Nat.reduceMod, Nat.zero_add, Nat.sub_zero, Nat.add_zero, k3, own_ge (show h.length ≤ H1.length by omega)]
    obtain ⟨H, hH⟩ : ∃ H, H3.set H1.length (⟨[.int .i64 N, .slice aw l.length 0], 2, .rw⟩ : Blk) = H := ⟨_, rfl⟩
    have ga : Agr H1.length (H1.length + 1) H3 H := hH ▸ Agr.set (Nat.le_refl _) (Nat.lt_succ_self _)
    have sx : St H (h.length + 1) n b 1000 := by rw [← hH]; exact (s3.set k3 rfl (by omega)).more (by omega)
    have gx : Agr (h.length + 1) (h.length + 1 + 1) (h ++ [(⟨[.int .i64 0, .slice none 0 0], 2, .rw⟩ : Blk), ⟨[.slice b n 0, .int .i64 0, .int .u64 0], 3, .rw⟩]) H := by
      rw [← hH]; exact agr_set_out (g1.trans (Agr.app.trans (g2.trans g3))) (by simp; omega)
    have kb : hget H H1.length = some ⟨[.int .i64 N, .slice aw l.length 0], 2, .rw⟩ := by rw [← hH]; exact set_get k3 _
    have b2x := agr_get ga b5 (by omega)
    have fcx : FC (h.length + 2) H.length 4 l.length H (.slice aw l.length 0) (flP l) := (fc3.agr ga (by omega)).wide (by omega) ga.1
    have kbl := hget_lt kb
    try simp only [go_sem, Nat.reduceBEq, Nat.reduceAdd, Nat.reduceMul, Nat.reduceSub, Nat.reduceLeDiff, Nat.le_refl, implies_true, Nat.reduceLT, reduceIte, decide_true, decide_false, true_and, and_true, reduceCtorEq, Nat.mul_one, Int.reduceToNat, Int.reduceLE, Int.reduceLT, Int.reduceAdd, Int.reduceSub, Int.reduceMul, Int.cast_ofNat_Int, cast_zero_int, cast_one_int, Nat.reducePow, Nat.reduceEqDiff, Nat.reduceMod, Nat.zero_add, Nat.sub_zero, Nat.add_zero, hH, kb]
    have hown : own h.length M (h.length + 1) := Or.inl (Nat.le_succ _)
    have LH : h.length + 2 ≤ H.length := by have := gx.1; simpa using this
    refine ⟨by kernel_rfl, (d_hydrants N sx hown (by omega)).use (fun _ m => m) ?_⟩
    rintro _ H4 ⟨hl, sid, rfl, ss, hh⟩
    have g4 := ss.out
    have L4 := g4.1
    have sl4 := ss.low.1
    have k4 := agr_get g4 kb (by omega)
    have b4 := agr_get g4 b2x (by omega)
    have fc4 := (fcx.agr g4 (by omega)).wide (Nat.le_refl _) L4
    have sd4 := ss.s

    try simp only [go_sem, Nat.reduceBEq, Nat.reduceAdd, Nat.reduceMul, Nat.reduceSub, Nat.reduceLeDiff, Nat.le_refl, implies_true, Nat.reduceLT, reduceIte, decide_true, decide_false, true_and, and_true, reduceCtorEq, Nat.mul_one, Int.reduceToNat, Int.reduceLE, Int.reduceLT, Int.reduceAdd, Int.reduceSub, Int.reduceMul, Int.cast_ofNat_Int, cast_zero_int, cast_one_int, Nat.reducePow, Nat.reduceEqDiff, Nat.reduceMod, Nat.zero_add, Nat.sub_zero, Nat.add_zero, k4]
    refine ⟨by kernel_rfl, (c_l1Most _ _).use (fun _ m => m) ?_⟩
    rintro _ _ ⟨rfl, rfl⟩
    try simp only [go_sem, Nat.reduceBEq, Nat.reduceAdd, Nat.reduceMul, Nat.reduceSub, Nat.reduceLeDiff, Nat.le_refl, implies_true, Nat.reduceLT, reduceIte, decide_true, decide_false, true_and, and_true, reduceCtorEq, Nat.mul_one, Int.reduceToNat, Int.reduceLE, Int.reduceLT, Int.reduceAdd, Int.reduceSub, Int.reduceMul, Int.cast_ofNat_Int, cast_zero_int, cast_one_int, Nat.reducePow, Nat.reduceEqDiff, Nat.reduceMod, Nat.zero_add, Nat.sub_zero, Nat.add_zero, k4]
    refine ⟨by kernel_rfl, (d_pick _ ss.st hown (by omega)).use (fun _ m => m) ?_⟩
    rintro _ H5 ⟨⟨x1, rfl, x10, x11⟩, s5, g5⟩
    have k5 := agr_get g5 k4 (by omega)
    have L5 := g5.1
    try simp only [go_sem, Nat.reduceBEq, Nat.reduceAdd, Nat.reduceMul, Nat.reduceSub, Nat.reduceLeDiff, Nat.le_refl, implies_true, Nat.reduceLT, reduceIte, decide_true, decide_false, true_and, and_true, reduceCtorEq, Nat.mul_one, Int.reduceToNat, Int.reduceLE, Int.reduceLT, Int.reduceAdd, Int.reduceSub, Int.reduceMul, Int.cast_ofNat_Int, cast_zero_int, cast_one_int, Nat.reducePow, Nat.reduceEqDiff, Nat.reduceMod, Nat.zero_add, Nat.sub_zero, Nat.add_zero, k4, k5, L5, hBin_quo (show (15 : Int) ≠ 0 by omega)]
    refine ⟨by kernel_rfl, (d_pick _ s5 hown (by omega)).use (fun _ m => m) ?_⟩
    rintro _ H6 ⟨⟨x2, rfl, x20, x21⟩, s6, g6⟩
    have k6 := agr_get g6 k5 (by omega)
    have L6 := g6.1
    try simp only [go_sem, Nat.reduceBEq, Nat.reduceAdd, Nat.reduceMul, Nat.reduceSub, Nat.reduceLeDiff, Nat.le_refl, implies_true, Nat.reduceLT, reduceIte, decide_true, decide_false, true_and, and_true, reduceCtorEq, Nat.mul_one, Int.reduceToNat, Int.reduceLE, Int.reduceLT, Int.reduceAdd, Int.reduceSub, Int.reduceMul, Int.cast_ofNat_Int, cast_zero_int, cast_one_int, Nat.reducePow, Nat.reduceEqDiff, Nat.reduceMod, Nat.zero_add, Nat.sub_zero, Nat.add_zero, k4, k5, k6, L5, L6, hBin_quo (show (15 : Int) ≠ 0 by omega)]
    refine ⟨by kernel_rfl, (d_pick _ s6 hown (by omega)).use (fun _ m => m) ?_⟩
    rintro _ H7 ⟨⟨x3, rfl, x30, x31⟩, s7, g7⟩
    have k7 := agr_get g7 k6 (by omega)
    have L7 := g7.1
    try simp only [go_sem, Nat.reduceBEq, Nat.reduceAdd, Nat.reduceMul, Nat.reduceSub, Nat.reduceLeDiff, Nat.le_refl, implies_true, Nat.reduceLT, reduceIte, decide_true, decide_false, true_and, and_true, reduceCtorEq, Nat.mul_one, Int.reduceToNat, Int.reduceLE, Int.reduceLT, Int.reduceAdd, Int.reduceSub, Int.reduceMul, Int.cast_ofNat_Int, cast_zero_int, cast_one_int, Nat.reducePow, Nat.reduceEqDiff, Nat.reduceMod, Nat.zero_add, Nat.sub_zero, Nat.add_zero, k4, k5, k6, k7, L5, L6, L7, hBin_quo (show (23 : Int) ≠ 0 by omega)]
    refine ⟨by kernel_rfl, (d_class s7 hown (by omega)).use (fun _ m => m) ?_⟩
    rintro _ H8 ⟨⟨x4, rfl⟩, s8, g8⟩
    have k8 := agr_get g8 k7 (by omega)
    have L8 := g8.1
    have gz := g5.trans (g6.trans (g7.trans g8))

    have bz := agr_get gz b4 (by omega)
    have Lz := gz.1
    have ga : Agr h.length (h.length + 1) H8 (H8.set h.length ⟨[.int .i64 N, .slice aw l.length 0], 2, .rw⟩) := Agr.set (Nat.le_refl _) (Nat.lt_succ_self _)
    have fcz : FC (h.length + 2) (H8.set h.length ⟨[.int .i64 N, .slice aw l.length 0], 2, .rw⟩).length 4 l.length (H8.set h.length ⟨[.int .i64 N, .slice aw l.length 0], 2, .rw⟩) (.slice aw l.length 0) (flP l) := by
      have := ((fc4.agr gz (by omega)).wide (Nat.le_refl _) Lz).agr ga (by omega)
      simpa using this
    have sdz := agr_get ga (agr_get gz sd4 (by omega)) (by omega)
    try simp only [go_sem, Nat.reduceBEq, Nat.reduceAdd, Nat.reduceMul, Nat.reduceSub, Nat.reduceLeDiff, Nat.le_refl, implies_true, Nat.reduceLT, reduceIte, decide_true, decide_false, true_and, and_true, reduceCtorEq, Nat.mul_one, Int.reduceToNat, Int.reduceLE, Int.reduceLT, Int.reduceAdd, Int.reduceSub, Int.reduceMul, Int.cast_ofNat_Int, cast_zero_int, cast_one_int, Nat.reducePow, Nat.reduceEqDiff, Nat.reduceMod, Nat.zero_add, Nat.sub_zero, Nat.add_zero, k4, k5, k6, k7, k8, L5, L6, L7, L8, bz, own_ge (Nat.le_refl h.length), set_get bz]
    exact ⟨⟨N, l, _, hl, _, _, _, rfl, ⟨_, rfl, FC.sb fcz⟩, by omega, Sl.ofH sdz, hh⟩, fin_pre (gx.trans (g4.trans gz)) _⟩
end
end Go.Proofs.Ytjgekhahklidcaa
