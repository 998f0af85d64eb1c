
/- The law of the hydrants: a farther reach finds no fewer, a new one makes no node weak, and the fewest give enough. No condition. -/
import Derived.Test.YtjgekhahklidcaaDrawG
import Derived.Test.YtjgekhahklidcaaHydP
import Derived.Test.YtjgekhahklidcaaRLaw
namespace Go.Proofs.Ytjgekhahklidcaa
open Go.HH
set_option linter.unusedSimpArgs false
set_option linter.unusedVariables false

theorem sumF_in {l : List Hyd} {R : List Int} (hl : ∀ y ∈ l, 1 ≤ y.2 ∧ y.2 ≤ 5000) (hR : ∀ x ∈ R, 0 ≤ x ∧ x < l.length) : 0 ≤ sumF l R ∧ sumF l R ≤ 5000 * R.length := by
  induction R with
  | nil => simp [sumF]
  | cons x R ih =>
    have h1 := ih (fun y hy => hR y (by simp [hy]))
    have h2 := hR x (by simp)
    have h3 := hl _ (List.getElem_mem (show x.toNat < l.length by omega))
    have e : sumF l (x :: R) = (l.getD x.toNat hyd0).2 + sumF l R := by simp [sumF]
    rw [e, getDh (by omega), List.length_cons]
    omega
section
variable {h : Heap} {M : Nat → Prop}
theorem c_rHas {n : Nat} (v : Value) (l : List Int) (x : Int) (s : AI n h v l) (hmax : l.length ≤ 1048576) : vCall [] Try.prog M 49 [v, .int .i64 x] h (fun r h' => r = .bool (decide (x ∈ l)) ∧ h = h') := by
  obtain ⟨a, rfl⟩ := s.len
  refine body_of mo Try.func49 rfl (by kernel_rfl) (Nat.le_of_ble_eq_true (by kernel_rfl)) rfl ?_
  simp only [go_sem, Nat.reduceBEq, Nat.reduceAdd, Nat.reduceMul, Nat.reduceSub, Nat.reduceLeDiff, Nat.le_refl, implies_true, Nat.reduceLT, reduceIte, decide_true, decide_false, true_and, and_true, reduceCtorEq, Nat.mul_one, Int.reduceToNat, Int.reduceLE, Int.reduceLT, Int.reduceAdd, Int.reduceSub, Int.reduceMul, Int.cast_ofNat_Int, cast_zero_int, cast_one_int, Nat.reducePow, Nat.reduceEqDiff, Nat.reduceMod, Nat.zero_add, Nat.sub_zero, Nat.add_zero]
  refine vLoop.count mo l.length (fun i e h' => Regs e [(0, .slice a l.length 0), (1, .int .i64 x), (5, .int .i64 i)] ∧ HeapIs h' h ∧ x ∉ l.take i) ?_ ?_
  · exact ⟨⟨rfl, rfl, rfl, trivial⟩, .rfl, by simp⟩
  · rintro i e _ hi ⟨⟨e0, e1, e5, _⟩, rfl, hx⟩
    simp only [go_sem, Nat.reduceBEq, Nat.reduceAdd, Nat.reduceMul, Nat.reduceSub, Nat.reduceLeDiff, Nat.le_refl, implies_true, Nat.reduceLT, reduceIte, decide_true, decide_false, true_and, and_true, reduceCtorEq, Nat.mul_one, Int.reduceToNat, Int.reduceLE, Int.reduceLT, Int.reduceAdd, Int.reduceSub, Int.reduceMul, Int.cast_ofNat_Int, cast_zero_int, cast_one_int, Nat.reducePow, Nat.reduceEqDiff, Nat.reduceMod, Nat.zero_add, Nat.sub_zero, Nat.add_zero, e0, e1, e5]
    by_cases hlt : i < l.length
    · have ws := wsucc hlt (by omega)
      have hz : (i : Int) < l.length := by omega
      obtain ⟨id, off, k, hv, _, _, hk, hd, _, _, _, hat⟩ := s.at (Nat.zero_lt_of_lt hlt)
      obtain rfl : a = some ⟨id, off, none⟩ := by simpa using hv
      simp only [go_sem, Nat.reduceBEq, Nat.reduceAdd, Nat.reduceMul, Nat.reduceSub, Nat.reduceLeDiff, Nat.le_refl, implies_true, Nat.reduceLT, reduceIte, decide_true, decide_false, true_and, and_true, reduceCtorEq, Nat.mul_one, Int.reduceToNat, Int.reduceLE, Int.reduceLT, Int.reduceAdd, Int.reduceSub, Int.reduceMul, Int.cast_ofNat_Int, cast_zero_int, cast_one_int, Nat.reducePow, Nat.reduceEqDiff, Nat.reduceMod, Nat.zero_add, Nat.sub_zero, Nat.add_zero, e0, e1, e5, hk, hat i hlt, hz, hd]
      by_cases h2 : l[i] = x
      · simp only [go_sem, Nat.reduceBEq, Nat.reduceAdd, Nat.reduceMul, Nat.reduceSub, Nat.reduceLeDiff, Nat.le_refl, implies_true, Nat.reduceLT, reduceIte, decide_true, decide_false, true_and, and_true, reduceCtorEq, Nat.mul_one, Int.reduceToNat, Int.reduceLE, Int.reduceLT, Int.reduceAdd, Int.reduceSub, Int.reduceMul, Int.cast_ofNat_Int, cast_zero_int, cast_one_int, Nat.reducePow, Nat.reduceEqDiff, Nat.reduceMod, Nat.zero_add, Nat.sub_zero, Nat.add_zero, e0, e1, e5, show (l[i] == x) = true by simpa using h2]
        exact congrArg Value.bool (decide_eq_true (h2 ▸ List.getElem_mem hlt)).symm
      · simp only [go_sem, Nat.reduceBEq, Nat.reduceAdd, Nat.reduceMul, Nat.reduceSub, Nat.reduceLeDiff, Nat.le_refl, implies_true, Nat.reduceLT, reduceIte, decide_true, decide_false, true_and, and_true, reduceCtorEq, Nat.mul_one, Int.reduceToNat, Int.reduceLE, Int.reduceLT, Int.reduceAdd, Int.reduceSub, Int.reduceMul, Int.cast_ofNat_Int, cast_zero_int, cast_one_int, Nat.reducePow, Nat.reduceEqDiff, Nat.reduceMod, Nat.zero_add, Nat.sub_zero, Nat.add_zero, e0, e1, e5, show (l[i] == x) = false by simpa using h2]
        refine ⟨hlt, ⟨e0, e1, congrArg _ ws, trivial⟩, .rfl, ?_⟩
        rw [List.take_add_one, List.getElem?_eq_getElem hlt, List.mem_append]
        simp [hx, Ne.symm h2]
    · obtain rfl : i = l.length := by omega
      rw [List.take_length] at hx
      simp only [go_sem, Nat.reduceBEq, Nat.reduceAdd, Nat.reduceMul, Nat.reduceSub, Nat.reduceLeDiff, Nat.le_refl, implies_true, Nat.reduceLT, reduceIte, decide_true, decide_false, true_and, and_true, reduceCtorEq, Nat.mul_one, Int.reduceToNat, Int.reduceLE, Int.reduceLT, Int.reduceAdd, Int.reduceSub, Int.reduceMul, Int.cast_ofNat_Int, cast_zero_int, cast_one_int, Nat.reducePow, Nat.reduceEqDiff, Nat.reduceMod, Nat.zero_add, Nat.sub_zero, Nat.add_zero, e0, e1, e5, show ¬ ((l.length : Int) < l.length) by omega]
      exact congrArg Value.bool (decide_eq_false hx).symm

set_option maxRecDepth 16000 in
set_option maxHeartbeats 8000000 in
theorem l_FnHydrants (b : Option Addr) (n : Nat) (hc : CodeOk h b n) : vCall [] Try.prog M 6 [.slice b n 0] h (fun r h' => r = .bool true) := by
  refine body_of mo Try.func6 rfl (by kernel_rfl) (Nat.le_of_ble_eq_true (by kernel_rfl)) rfl ?_
  simp only [go_sem, Nat.reduceBEq, Nat.reduceAdd, Nat.reduceMul, Nat.reduceSub, Nat.reduceLeDiff, Nat.le_refl, implies_true, Nat.reduceLT, reduceIte, decide_true, decide_false, true_and, and_true, reduceCtorEq, Nat.mul_one, Int.reduceToNat, Int.reduceLE, Int.reduceLT, Int.reduceAdd, Int.reduceSub, Int.reduceMul, Int.cast_ofNat_Int, cast_zero_int, cast_one_int, Nat.reducePow, Nat.reduceEqDiff, Nat.reduceMod, Nat.zero_add, Nat.sub_zero, Nat.add_zero]
  refine ⟨by kernel_rfl, (c_rBig b n).use (fun _ m => m) ?_⟩
  rintro _ _ ⟨rfl, rfl⟩
  by_cases hbig : (65536 : Int) < n
  · try simp only [go_sem, Nat.reduceBEq, Nat.reduceAdd, Nat.reduceMul, Nat.reduceSub, Nat.reduceLeDiff, Nat.le_refl, implies_true, Nat.reduceLT, reduceIte, decide_true, decide_false, true_and, and_true, reduceCtorEq, Nat.mul_one, Int.reduceToNat, Int.reduceLE, Int.reduceLT, Int.reduceAdd, Int.reduceSub, Int.reduceMul, Int.cast_ofNat_Int, cast_zero_int, cast_one_int, Nat.reducePow, Nat.reduceEqDiff, Nat.reduceMod, Nat.zero_add, Nat.sub_zero, Nat.add_zero, hbig]
  · try simp only [go_sem, Nat.reduceBEq, Nat.reduceAdd, Nat.reduceMul, Nat.reduceSub, Nat.reduceLeDiff, Nat.le_refl, implies_true, Nat.reduceLT, reduceIte, decide_true, decide_false, true_and, and_true, reduceCtorEq, Nat.mul_one, Int.reduceToNat, Int.reduceLE, Int.reduceLT, Int.reduceAdd, Int.reduceSub, Int.reduceMul, Int.cast_ofNat_Int, cast_zero_int, cast_one_int, Nat.reducePow, Nat.reduceEqDiff, Nat.reduceMod, Nat.zero_add, Nat.sub_zero, Nat.add_zero, hbig]
    refine ⟨by kernel_rfl, (c_DrawHydrantsFor b n hc).use (fun _ m => m) ?_⟩
    rintro _ H1 ⟨⟨N, P, vA, l, wA, nd, rc, rfl, nA, hP, sA, hl⟩, P1⟩
    have L1 : h.length ≤ H1.length := by have := P1.length_le; first | omega | (simp only [List.length_append, List.length_cons, List.length_nil] at this; omega)
    have Q1 : h.length + 0 ≤ H1.length := by have := P1.length_le; first | omega | (simp only [List.length_append, List.length_cons, List.length_nil] at this; omega)
    replace hc := hc.mono P1
    obtain ⟨wA, rfl, ⟨⟨iA, rfl, _⟩, _⟩⟩ := id nA
    obtain ⟨aA, rfl⟩ := Sl.len2 sA
    try simp only [go_sem, Nat.reduceBEq, Nat.reduceAdd, Nat.reduceMul, Nat.reduceSub, Nat.reduceLeDiff, Nat.le_refl, implies_true, Nat.reduceLT, reduceIte, decide_true, decide_false, true_and, and_true, reduceCtorEq, Nat.mul_one, Int.reduceToNat, Int.reduceLE, Int.reduceLT, Int.reduceAdd, Int.reduceSub, Int.reduceMul, Int.cast_ofNat_Int, cast_zero_int, cast_one_int, Nat.reducePow, Nat.reduceEqDiff, Nat.reduceMod, Nat.zero_add, Nat.sub_zero, Nat.add_zero, own_base L1, own_base0 L1, P1]
    have hm : P.length ≤ 1048576 ∧ l.length ≤ 1048576 := by omega
    have hR : (hydRes N P l nd rc).length ≤ 1048576 := by unfold hydRes; split; have := @reachL_len P l nd rc.toNat l.length; exact Nat.le_trans this hm.2; simp
    refine ⟨by kernel_rfl, (c_HydrantsFor _ _ N P l nd rc (nA.mono (by simp)) (sA.mono (by simp)) hm.1 hm.2).use (fun _ m => m) ?_⟩
    rintro _ H2 ⟨⟨vR, rfl, fR⟩, P2⟩
    have L2 : h.length ≤ H2.length := by have := P2.length_le; first | omega | (simp only [List.length_append, List.length_cons, List.length_nil] at this; omega)
    have Q2 : H1.length + 1 ≤ H2.length := by have := P2.length_le; first | omega | (simp only [List.length_append, List.length_cons, List.length_nil] at this; omega)
    replace hc := hc.mono ((List.prefix_append _ _).trans P2)
    replace nA := nA.mono ((List.prefix_append _ _).trans P2)
    replace sA := sA.mono ((List.prefix_append _ _).trans P2)
    have bA := keep_get (h := H1 ++ _) hget_new P2
    obtain ⟨uR, rfl, _⟩ := id fR
    try simp only [go_sem, Nat.reduceBEq, Nat.reduceAdd, Nat.reduceMul, Nat.reduceSub, Nat.reduceLeDiff, Nat.le_refl, implies_true, Nat.reduceLT, reduceIte, decide_true, decide_false, true_and, and_true, reduceCtorEq, Nat.mul_one, Int.reduceToNat, Int.reduceLE, Int.reduceLT, Int.reduceAdd, Int.reduceSub, Int.reduceMul, Int.cast_ofNat_Int, cast_zero_int, cast_one_int, Nat.reducePow, Nat.reduceEqDiff, Nat.reduceMod, Nat.zero_add, Nat.sub_zero, Nat.add_zero, bA, self_get bA, own_base L2, own_base0 L2, P2]
    refine ⟨by kernel_rfl, (c_sHydrantsFor _ _ N P l nd rc (nA.mono (by simp)) (sA.mono (by simp)) hm.1 hm.2).use (fun _ m => m) ?_⟩
    rintro _ H3 ⟨⟨vQ, rfl, fQ⟩, P3⟩
    have L3 : h.length ≤ H3.length := by have := P3.length_le; first | omega | (simp only [List.length_append, List.length_cons, List.length_nil] at this; omega)
    have Q3 : H2.length + 0 ≤ H3.length := by have := P3.length_le; first | omega | (simp only [List.length_append, List.length_cons, List.length_nil] at this; omega)
    replace hc := hc.mono P3
    replace nA := nA.mono P3
    replace sA := sA.mono P3
    replace fR := fR.mono P3
    replace bA := keep_get bA P3
    obtain ⟨uQ, rfl, _⟩ := id fQ
    try simp only [go_sem, Nat.reduceBEq, Nat.reduceAdd, Nat.reduceMul, Nat.reduceSub, Nat.reduceLeDiff, Nat.le_refl, implies_true, Nat.reduceLT, reduceIte, decide_true, decide_false, true_and, and_true, reduceCtorEq, Nat.mul_one, Int.reduceToNat, Int.reduceLE, Int.reduceLT, Int.reduceAdd, Int.reduceSub, Int.reduceMul, Int.cast_ofNat_Int, cast_zero_int, cast_one_int, Nat.reducePow, Nat.reduceEqDiff, Nat.reduceMod, Nat.zero_add, Nat.sub_zero, Nat.add_zero, bA, self_get bA, own_base L3, own_base0 L3, P3]
    refine ⟨by kernel_rfl, (c_rInts _ _ _ (fR.mono (by simp)).ai (fQ.mono (by simp)).ai hR).use (fun _ m => m) ?_⟩
    rintro _ _ ⟨rfl, rfl⟩
    try simp only [go_sem, Nat.reduceBEq, Nat.reduceAdd, Nat.reduceMul, Nat.reduceSub, Nat.reduceLeDiff, Nat.le_refl, implies_true, Nat.reduceLT, reduceIte, decide_true, decide_false, true_and, and_true, reduceCtorEq, Nat.mul_one, Int.reduceToNat, Int.reduceLE, Int.reduceLT, Int.reduceAdd, Int.reduceSub, Int.reduceMul, Int.cast_ofNat_Int, cast_zero_int, cast_one_int, Nat.reducePow, Nat.reduceEqDiff, Nat.reduceMod, Nat.zero_add, Nat.sub_zero, Nat.add_zero, bA, self_get bA, own_base L3, own_base0 L3, Try.underlying4, and_self, bne_self_eq_false, decide_true]
    refine ⟨by kernel_rfl, (c_FlowFor _ _ N P l nd rc (nA.mono (by simp)) (sA.mono (by simp)) hm.1 hm.2).use (fun _ m => m) ?_⟩
    rintro _ H4 ⟨rfl, P4⟩
    have L4 : h.length ≤ H4.length := by have := P4.length_le; first | omega | (simp only [List.length_append, List.length_cons, List.length_nil] at this; omega)
    have Q4 : H3.length + 0 ≤ H4.length := by have := P4.length_le; first | omega | (simp only [List.length_append, List.length_cons, List.length_nil] at this; omega)
    replace hc := hc.mono P4
    replace nA := nA.mono P4
    replace sA := sA.mono P4
    replace fR := fR.mono P4
    replace fQ := fQ.mono P4
    replace bA := keep_get bA P4
    try simp only [go_sem, Nat.reduceBEq, Nat.reduceAdd, Nat.reduceMul, Nat.reduceSub, Nat.reduceLeDiff, Nat.le_refl, implies_true, Nat.reduceLT, reduceIte, decide_true, decide_false, true_and, and_true, reduceCtorEq, Nat.mul_one, Int.reduceToNat, Int.reduceLE, Int.reduceLT, Int.reduceAdd, Int.reduceSub, Int.reduceMul, Int.cast_ofNat_Int, cast_zero_int, cast_one_int, Nat.reducePow, Nat.reduceEqDiff, Nat.reduceMod, Nat.zero_add, Nat.sub_zero, Nat.add_zero, bA, self_get bA, own_base L4, own_base0 L4, P4, Try.underlying4, and_self, bne_self_eq_false, decide_true]
    refine ⟨by kernel_rfl, (c_sFlowFor _ _ N P l nd rc (nA.mono (by simp)) (sA.mono (by simp)) hm.1 hm.2).use (fun _ m => m) ?_⟩
    rintro _ H5 ⟨rfl, P5⟩
    have L5 : h.length ≤ H5.length := by have := P5.length_le; first | omega | (simp only [List.length_append, List.length_cons, List.length_nil] at this; omega)
    have Q5 : H4.length + 0 ≤ H5.length := by have := P5.length_le; first | omega | (simp only [List.length_append, List.length_cons, List.length_nil] at this; omega)
    replace hc := hc.mono P5
    replace nA := nA.mono P5
    replace sA := sA.mono P5
    replace fR := fR.mono P5
    replace fQ := fQ.mono P5
    replace bA := keep_get bA P5
    try simp only [go_sem, Nat.reduceBEq, Nat.reduceAdd, Nat.reduceMul, Nat.reduceSub, Nat.reduceLeDiff, Nat.le_refl, implies_true, Nat.reduceLT, reduceIte, decide_true, decide_false, true_and, and_true, reduceCtorEq, Nat.mul_one, Int.reduceToNat, Int.reduceLE, Int.reduceLT, Int.reduceAdd, Int.reduceSub, Int.reduceMul, Int.cast_ofNat_Int, cast_zero_int, cast_one_int, Nat.reducePow, Nat.reduceEqDiff, Nat.reduceMod, Nat.zero_add, Nat.sub_zero, Nat.add_zero, bA, self_get bA, own_base L5, own_base0 L5, P5, Try.underlying4, and_self, bne_self_eq_false, decide_true]
    by_cases hk : hydOk N P l nd rc
    · skip
      have hr : hydRes N P l nd rc = reachA P l nd rc.toNat := by rw [hydRes, if_pos hk]
      have hr10 : 0 ≤ rc ∧ rc ≤ 10 := hk.1.2.2.1
      have hk2 : hydOk N P l nd 10 := ⟨⟨hk.1.1, hk.1.2.1, by omega, hk.1.2.2.2⟩, hk.2⟩
      have hrM : hydRes N P l nd 10 = reachA P l nd 10 := by rw [hydRes, if_pos hk2]; rfl
      have hfl : flowRes N P l nd rc = sumF l (reachA P l nd rc.toNat) := by rw [flowRes, if_pos hk]
      rw [hr] at fR hR
      try simp only [go_sem, Nat.reduceBEq, Nat.reduceAdd, Nat.reduceMul, Nat.reduceSub, Nat.reduceLeDiff, Nat.le_refl, implies_true, Nat.reduceLT, reduceIte, decide_true, decide_false, true_and, and_true, reduceCtorEq, Nat.mul_one, Int.reduceToNat, Int.reduceLE, Int.reduceLT, Int.reduceAdd, Int.reduceSub, Int.reduceMul, Int.cast_ofNat_Int, cast_zero_int, cast_one_int, Nat.reducePow, Nat.reduceEqDiff, Nat.reduceMod, Nat.zero_add, Nat.sub_zero, Nat.add_zero, bA, self_get bA, own_base L5, own_base0 L5, decb hk, hr, hfl, Try.underlying4, and_self, bne_self_eq_false, decide_true]
      refine ⟨by kernel_rfl, (c_HydrantsFor _ _ N P l nd 10 (nA.mono (by simp)) (sA.mono (by simp)) hm.1 hm.2).use (fun _ m => m) ?_⟩
      rintro _ H6 ⟨⟨vM, rfl, fM⟩, P6⟩
      have L6 : h.length ≤ H6.length := by have := P6.length_le; first | omega | (simp only [List.length_append, List.length_cons, List.length_nil] at this; omega)
      have Q6 : H5.length + 0 ≤ H6.length := by have := P6.length_le; first | omega | (simp only [List.length_append, List.length_cons, List.length_nil] at this; omega)
      replace hc := hc.mono P6
      replace nA := nA.mono P6
      replace sA := sA.mono P6
      replace fR := fR.mono P6
      replace fQ := fQ.mono P6
      replace bA := keep_get bA P6
      rw [hrM] at fM
      obtain ⟨uM, rfl, _⟩ := id fM
      try simp only [go_sem, Nat.reduceBEq, Nat.reduceAdd, Nat.reduceMul, Nat.reduceSub, Nat.reduceLeDiff, Nat.le_refl, implies_true, Nat.reduceLT, reduceIte, decide_true, decide_false, true_and, and_true, reduceCtorEq, Nat.mul_one, Int.reduceToNat, Int.reduceLE, Int.reduceLT, Int.reduceAdd, Int.reduceSub, Int.reduceMul, Int.cast_ofNat_Int, cast_zero_int, cast_one_int, Nat.reducePow, Nat.reduceEqDiff, Nat.reduceMod, Nat.zero_add, Nat.sub_zero, Nat.add_zero, bA, self_get bA, own_base L6, own_base0 L6, decb hk2, P6, hrM, hr, hfl]
      have aR := fR.ai
      have aM := fM.ai
      have hl5 : ∀ y ∈ l, 1 ≤ y.2 ∧ y.2 ≤ 5000 := fun y hy => ((hk.1.2.1).at hy).2
      have hRin : ∀ x ∈ reachA P l nd rc.toNat, 0 ≤ x ∧ x < l.length := fun x hx => reachA_in hx
      have hRl : (reachA P l nd rc.toNat).length ≤ l.length := reachL_len
      have hMl : (reachA P l nd 10).length ≤ l.length := reachL_len
      have hsub : ∀ x ∈ reachA P l nd rc.toNat, x ∈ reachA P l nd 10 := fun x hx => reachA_sub (by omega) hx
      obtain ⟨R, hRR⟩ : ∃ R, reachA P l nd rc.toNat = R := ⟨_, rfl⟩
      rw [hRR] at fR aR hR hRin hRl hsub hfl hr
      refine vLoop.count mo R.length (fun i e h' => e 0 = .slice b n 0 ∧ e 4 = .slice aA l.length 0 ∧ e 7 = .slice uR R.length 0 ∧ e 11 = .int .i64 (sumF l R) ∧ e 15 = .int .i64 (sumF l (R.take i)) ∧ e 16 = .slice uM (reachA P l nd 10).length 0 ∧ e 17 = .bool true ∧ e 18 = .int .i64 i ∧ H6 = h') ?_ ?_
      · try simp only [go_sem, Nat.reduceBEq, Nat.reduceAdd, Nat.reduceMul, Nat.reduceSub, Nat.reduceLeDiff, Nat.le_refl, implies_true, Nat.reduceLT, reduceIte, decide_true, decide_false, true_and, and_true, reduceCtorEq, Nat.mul_one, Int.reduceToNat, Int.reduceLE, Int.reduceLT, Int.reduceAdd, Int.reduceSub, Int.reduceMul, Int.cast_ofNat_Int, cast_zero_int, cast_one_int, Nat.reducePow, Nat.reduceEqDiff, Nat.reduceMod, Nat.zero_add, Nat.sub_zero, Nat.add_zero, hRR]
        try simp [sumF]
      · rintro i e _ hi ⟨e0, e4, e7, e11, e15, e16, e17, e18, rfl⟩
        try simp only [go_sem, Nat.reduceBEq, Nat.reduceAdd, Nat.reduceMul, Nat.reduceSub, Nat.reduceLeDiff, Nat.le_refl, implies_true, Nat.reduceLT, reduceIte, decide_true, decide_false, true_and, and_true, reduceCtorEq, Nat.mul_one, Int.reduceToNat, Int.reduceLE, Int.reduceLT, Int.reduceAdd, Int.reduceSub, Int.reduceMul, Int.cast_ofNat_Int, cast_zero_int, cast_one_int, Nat.reducePow, Nat.reduceEqDiff, Nat.reduceMod, Nat.zero_add, Nat.sub_zero, Nat.add_zero, bA, self_get bA, own_base L6, own_base0 L6, decb hk2, e0, e4, e7, e11, e15, e16, e17, e18]
        refine .intro (fun h1 => ?_) (fun h1 => ?_)
        · have hlt : i < R.length := by have := h1; simp at this; omega
          obtain ⟨id2, o2, K2, hv2, _, _, hk2, hd2, _, _, _, hat2⟩ := aR.at (by omega)
          obtain rfl : uR = some ⟨id2, o2, none⟩ := by simpa using hv2
          have hx := hRin R[i] (List.getElem_mem hlt)
          have hlt2 : R[i].toNat < (l.map hyd).length := by simp; omega
          obtain ⟨id, o, K, hv, _, hk9, hd, hb, hrow, hat⟩ := sA.at hlt2
          obtain rfl : aA = some ⟨id, o, none⟩ := by simpa using hv
          have q1 := hat 1 (by omega)
          rw [List.getElem_map] at q1
          simp only [hyd, List.getElem?_cons_zero, List.getElem?_cons_succ] at q1
          have hb1 := sumF_in (R := R.take i) hl5 (fun x hx => hRin x (List.mem_of_mem_take hx))
          rw [List.length_take, Nat.min_eq_left (by omega)] at hb1
          have hb2 := hl5 _ (List.getElem_mem (show R[i].toNat < l.length by omega))
          have hs := sumF_take (l := l) hlt
          rw [getDh (by omega)] at hs
          have w1 : IntKind.i64.wrap (sumF l (R.take i) + l[R[i].toNat].2) = sumF l (R.take (i + 1)) := by rw [hs, wrap64 (by omega)]
          have k5 : IntKind.i64.wrap ((i : Int) + 1) = ((i + 1 : Nat) : Int) := by rw [wrap64 (by omega)]; rfl
          have hz : (i : Int) < R.length := by omega
          try simp only [go_sem, Nat.reduceBEq, Nat.reduceAdd, Nat.reduceMul, Nat.reduceSub, Nat.reduceLeDiff, Nat.le_refl, implies_true, Nat.reduceLT, reduceIte, decide_true, decide_false, true_and, and_true, reduceCtorEq, Nat.mul_one, Int.reduceToNat, Int.reduceLE, Int.reduceLT, Int.reduceAdd, Int.reduceSub, Int.reduceMul, Int.cast_ofNat_Int, cast_zero_int, cast_one_int, Nat.reducePow, Nat.reduceEqDiff, Nat.reduceMod, Nat.zero_add, Nat.sub_zero, Nat.add_zero, e0, e4, e7, e11, e15, e16, e17, e18, hz, hk9, hd, hk2, hd2, hat2 i hlt, show R[i] < (l.length : Int) by omega, show 0 ≤ R[i] by omega, q1, w1]
          refine ⟨by kernel_rfl, (c_rHas _ _ R[i] aM (by omega)).use (fun _ m => m) ?_⟩
          rintro _ _ ⟨rfl, rfl⟩
          try simp only [go_sem, Nat.reduceBEq, Nat.reduceAdd, Nat.reduceMul, Nat.reduceSub, Nat.reduceLeDiff, Nat.le_refl, implies_true, Nat.reduceLT, reduceIte, decide_true, decide_false, true_and, and_true, reduceCtorEq, Nat.mul_one, Int.reduceToNat, Int.reduceLE, Int.reduceLT, Int.reduceAdd, Int.reduceSub, Int.reduceMul, Int.cast_ofNat_Int, cast_zero_int, cast_one_int, Nat.reducePow, Nat.reduceEqDiff, Nat.reduceMod, Nat.zero_add, Nat.sub_zero, Nat.add_zero, e0, e4, e7, e11, e15, e16, e17, e18, decide_eq_true (hsub _ (List.getElem_mem hlt)), k5]
          exact hlt
        · obtain rfl : i = R.length := by have := h1; simp at this; omega
          rw [List.take_length] at e15
          try simp only [go_sem, Nat.reduceBEq, Nat.reduceAdd, Nat.reduceMul, Nat.reduceSub, Nat.reduceLeDiff, Nat.le_refl, implies_true, Nat.reduceLT, reduceIte, decide_true, decide_false, true_and, and_true, reduceCtorEq, Nat.mul_one, Int.reduceToNat, Int.reduceLE, Int.reduceLT, Int.reduceAdd, Int.reduceSub, Int.reduceMul, Int.cast_ofNat_Int, cast_zero_int, cast_one_int, Nat.reducePow, Nat.reduceEqDiff, Nat.reduceMod, Nat.zero_add, Nat.sub_zero, Nat.add_zero, bA, self_get bA, own_base L6, own_base0 L6, decb hk2, e0, e0, e4, e11, e15, bne_self_eq_false]
          refine ⟨by kernel_rfl, (c_IsValidHydrants _ l (sA.mono (by simp)) hm.2).use (fun _ m => m) ?_⟩
          rintro _ H7 ⟨⟨g, rfl, hgd⟩, P7⟩
          have L7 : h.length ≤ H7.length := by have := P7.length_le; first | omega | (simp only [List.length_append, List.length_cons, List.length_nil] at this; omega)
          have Q7 : H6.length + 0 ≤ H7.length := by have := P7.length_le; first | omega | (simp only [List.length_append, List.length_cons, List.length_nil] at this; omega)
          replace hc := hc.mono P7
          replace nA := nA.mono P7
          replace sA := sA.mono P7
          replace fR := fR.mono P7
          replace fQ := fQ.mono P7
          replace fM := fM.mono P7
          replace bA := keep_get bA P7
          obtain rfl : g = true := hgd.2 hk.1.2.1
          try simp only [go_sem, Nat.reduceBEq, Nat.reduceAdd, Nat.reduceMul, Nat.reduceSub, Nat.reduceLeDiff, Nat.le_refl, implies_true, Nat.reduceLT, reduceIte, decide_true, decide_false, true_and, and_true, reduceCtorEq, Nat.mul_one, Int.reduceToNat, Int.reduceLE, Int.reduceLT, Int.reduceAdd, Int.reduceSub, Int.reduceMul, Int.cast_ofNat_Int, cast_zero_int, cast_one_int, Nat.reducePow, Nat.reduceEqDiff, Nat.reduceMod, Nat.zero_add, Nat.sub_zero, Nat.add_zero, bA, self_get bA, own_base L7, own_base0 L7, decb hk2, e0, P7, Try.underlying4, and_self, bne_self_eq_false, decide_true]
          refine ⟨by kernel_rfl, (c_DrawBestHydrant b n hc).use (fun _ m => m) ?_⟩
          rintro _ H8 ⟨⟨N2, P2, vB, l2, wB, rc2, cl2, fl2, rfl, nB, hP2, sB, hl2⟩, P8⟩
          have L8 : h.length ≤ H8.length := by have := P8.length_le; first | omega | (simp only [List.length_append, List.length_cons, List.length_nil] at this; omega)
          have Q8 : H7.length + 0 ≤ H8.length := by have := P8.length_le; first | omega | (simp only [List.length_append, List.length_cons, List.length_nil] at this; omega)
          replace hc := hc.mono P8
          obtain ⟨wB, rfl, ⟨⟨iB, rfl, _⟩, _⟩⟩ := id nB
          obtain ⟨aB, rfl⟩ := Sl.len2 sB
          try simp only [go_sem, Nat.reduceBEq, Nat.reduceAdd, Nat.reduceMul, Nat.reduceSub, Nat.reduceLeDiff, Nat.le_refl, implies_true, Nat.reduceLT, reduceIte, decide_true, decide_false, true_and, and_true, reduceCtorEq, Nat.mul_one, Int.reduceToNat, Int.reduceLE, Int.reduceLT, Int.reduceAdd, Int.reduceSub, Int.reduceMul, Int.cast_ofNat_Int, cast_zero_int, cast_one_int, Nat.reducePow, Nat.reduceEqDiff, Nat.reduceMod, Nat.zero_add, Nat.sub_zero, Nat.add_zero, own_base L8, own_base0 L8, decb hk2, e0, P8]
          have hm2 : P2.length ≤ 1048576 ∧ l2.length ≤ 1048576 := by omega
          refine ⟨by kernel_rfl, (c_BestHydrant _ _ N2 P2 l2 rc2 cl2 fl2 (nB.mono (by simp)) (sB.mono (by simp)) hm2.1 hm2.2).use (fun _ m => m) ?_⟩
          rintro _ H9 ⟨rfl, P9⟩
          have L9 : h.length ≤ H9.length := by have := P9.length_le; first | omega | (simp only [List.length_append, List.length_cons, List.length_nil] at this; omega)
          have Q9 : H8.length + 1 ≤ H9.length := by have := P9.length_le; first | omega | (simp only [List.length_append, List.length_cons, List.length_nil] at this; omega)
          replace hc := hc.mono ((List.prefix_append _ _).trans P9)
          replace nB := nB.mono ((List.prefix_append _ _).trans P9)
          replace sB := sB.mono ((List.prefix_append _ _).trans P9)
          have bB := keep_get (h := H8 ++ _) hget_new P9
          try simp only [go_sem, Nat.reduceBEq, Nat.reduceAdd, Nat.reduceMul, Nat.reduceSub, Nat.reduceLeDiff, Nat.le_refl, implies_true, Nat.reduceLT, reduceIte, decide_true, decide_false, true_and, and_true, reduceCtorEq, Nat.mul_one, Int.reduceToNat, Int.reduceLE, Int.reduceLT, Int.reduceAdd, Int.reduceSub, Int.reduceMul, Int.cast_ofNat_Int, cast_zero_int, cast_one_int, Nat.reducePow, Nat.reduceEqDiff, Nat.reduceMod, Nat.zero_add, Nat.sub_zero, Nat.add_zero, bB, self_get bB, own_base L9, own_base0 L9, decb hk2, e0, P9, Try.underlying4, and_self, bne_self_eq_false, decide_true]
          refine ⟨by kernel_rfl, (c_sBestHydrant _ _ N2 P2 l2 rc2 cl2 fl2 (nB.mono (by simp)) (sB.mono (by simp)) hm2.1 hm2.2).use (fun _ m => m) ?_⟩
          rintro _ H10 ⟨rfl, P10⟩
          have L10 : h.length ≤ H10.length := by have := P10.length_le; first | omega | (simp only [List.length_append, List.length_cons, List.length_nil] at this; omega)
          have Q10 : H9.length + 0 ≤ H10.length := by have := P10.length_le; first | omega | (simp only [List.length_append, List.length_cons, List.length_nil] at this; omega)
          replace hc := hc.mono P10
          replace nB := nB.mono P10
          replace sB := sB.mono P10
          replace bB := keep_get bB P10
          try simp only [go_sem, Nat.reduceBEq, Nat.reduceAdd, Nat.reduceMul, Nat.reduceSub, Nat.reduceLeDiff, Nat.le_refl, implies_true, Nat.reduceLT, reduceIte, decide_true, decide_false, true_and, and_true, reduceCtorEq, Nat.mul_one, Int.reduceToNat, Int.reduceLE, Int.reduceLT, Int.reduceAdd, Int.reduceSub, Int.reduceMul, Int.cast_ofNat_Int, cast_zero_int, cast_one_int, Nat.reducePow, Nat.reduceEqDiff, Nat.reduceMod, Nat.zero_add, Nat.sub_zero, Nat.add_zero, bB, self_get bB, own_base L10, own_base0 L10, decb hk2, e0, P10, Try.underlying4, and_self, bne_self_eq_false, decide_true]
          have hWl : (weakRes N2 P2 l2 rc2 cl2).length ≤ 1048576 := by unfold weakRes; split; rename_i hh; have h1 : (weakL P2 l2 rc2.toNat (need cl2) N2.toNat).length ≤ N2.toNat := (by unfold weakL; rw [List.length_map]; exact Nat.le_trans (List.length_filter_le _ _) (by simp)); have h2 := hh.1.1.2.1; omega; simp
          refine ⟨by kernel_rfl, (c_ThirstyNodes _ _ N2 P2 l2 rc2 cl2 (nB.mono (by simp)) (sB.mono (by simp)) hm2.1 hm2.2).use (fun _ m => m) ?_⟩
          rintro _ H11 ⟨⟨vS, rfl, fS⟩, P11⟩
          have L11 : h.length ≤ H11.length := by have := P11.length_le; first | omega | (simp only [List.length_append, List.length_cons, List.length_nil] at this; omega)
          have Q11 : H10.length + 0 ≤ H11.length := by have := P11.length_le; first | omega | (simp only [List.length_append, List.length_cons, List.length_nil] at this; omega)
          replace hc := hc.mono P11
          replace nB := nB.mono P11
          replace sB := sB.mono P11
          replace bB := keep_get bB P11
          obtain ⟨uS, rfl, _⟩ := id fS
          try simp only [go_sem, Nat.reduceBEq, Nat.reduceAdd, Nat.reduceMul, Nat.reduceSub, Nat.reduceLeDiff, Nat.le_refl, implies_true, Nat.reduceLT, reduceIte, decide_true, decide_false, true_and, and_true, reduceCtorEq, Nat.mul_one, Int.reduceToNat, Int.reduceLE, Int.reduceLT, Int.reduceAdd, Int.reduceSub, Int.reduceMul, Int.cast_ofNat_Int, cast_zero_int, cast_one_int, Nat.reducePow, Nat.reduceEqDiff, Nat.reduceMod, Nat.zero_add, Nat.sub_zero, Nat.add_zero, bB, self_get bB, own_base L11, own_base0 L11, decb hk2, e0, P11]
          refine ⟨by kernel_rfl, (c_sThirstyNodes _ _ N2 P2 l2 rc2 cl2 (nB.mono (by simp)) (sB.mono (by simp)) hm2.1 hm2.2).use (fun _ m => m) ?_⟩
          rintro _ H12 ⟨⟨vT, rfl, fT⟩, P12⟩
          have L12 : h.length ≤ H12.length := by have := P12.length_le; first | omega | (simp only [List.length_append, List.length_cons, List.length_nil] at this; omega)
          have Q12 : H11.length + 0 ≤ H12.length := by have := P12.length_le; first | omega | (simp only [List.length_append, List.length_cons, List.length_nil] at this; omega)
          replace hc := hc.mono P12
          replace nB := nB.mono P12
          replace sB := sB.mono P12
          replace fS := fS.mono P12
          replace bB := keep_get bB P12
          obtain ⟨uT, rfl, _⟩ := id fT
          try simp only [go_sem, Nat.reduceBEq, Nat.reduceAdd, Nat.reduceMul, Nat.reduceSub, Nat.reduceLeDiff, Nat.le_refl, implies_true, Nat.reduceLT, reduceIte, decide_true, decide_false, true_and, and_true, reduceCtorEq, Nat.mul_one, Int.reduceToNat, Int.reduceLE, Int.reduceLT, Int.reduceAdd, Int.reduceSub, Int.reduceMul, Int.cast_ofNat_Int, cast_zero_int, cast_one_int, Nat.reducePow, Nat.reduceEqDiff, Nat.reduceMod, Nat.zero_add, Nat.sub_zero, Nat.add_zero, bB, self_get bB, own_base L12, own_base0 L12, decb hk2, e0, P12]
          refine ⟨by kernel_rfl, (c_rInts _ _ _ (fS.mono (by simp)).ai (fT.mono (by simp)).ai hWl).use (fun _ m => m) ?_⟩
          rintro _ _ ⟨rfl, rfl⟩
          try simp only [go_sem, Nat.reduceBEq, Nat.reduceAdd, Nat.reduceMul, Nat.reduceSub, Nat.reduceLeDiff, Nat.le_refl, implies_true, Nat.reduceLT, reduceIte, decide_true, decide_false, true_and, and_true, reduceCtorEq, Nat.mul_one, Int.reduceToNat, Int.reduceLE, Int.reduceLT, Int.reduceAdd, Int.reduceSub, Int.reduceMul, Int.cast_ofNat_Int, cast_zero_int, cast_one_int, Nat.reducePow, Nat.reduceEqDiff, Nat.reduceMod, Nat.zero_add, Nat.sub_zero, Nat.add_zero, bB, self_get bB, own_base L12, own_base0 L12, decb hk2, e0, Try.underlying4, and_self, bne_self_eq_false, decide_true]
          by_cases hbk : bestOk N2 P2 l2 rc2 cl2 fl2
          · skip
            obtain ⟨b1, b2⟩ := best_le hbk
            try simp only [go_sem, Nat.reduceBEq, Nat.reduceAdd, Nat.reduceMul, Nat.reduceSub, Nat.reduceLeDiff, Nat.le_refl, implies_true, Nat.reduceLT, reduceIte, decide_true, decide_false, true_and, and_true, reduceCtorEq, Nat.mul_one, Int.reduceToNat, Int.reduceLE, Int.reduceLT, Int.reduceAdd, Int.reduceSub, Int.reduceMul, Int.cast_ofNat_Int, cast_zero_int, cast_one_int, Nat.reducePow, Nat.reduceEqDiff, Nat.reduceMod, Nat.zero_add, Nat.sub_zero, Nat.add_zero, bB, self_get bB, own_base L12, own_base0 L12, decb hk2, e0, decb hbk, decb b1, show ¬ (((weakRes N2 P2 l2 rc2 cl2).length : Int) < (bestRes N2 P2 l2 rc2 cl2 fl2).2) by omega, Try.underlying4, and_self, bne_self_eq_false, decide_true]
            refine ⟨by kernel_rfl, (c_DrawFewestHydrants b n hc).use (fun _ m => m) ?_⟩
            rintro _ H13 ⟨⟨N3, P3, vC, l3, wC, nd3, cl3, rfl, nC, hP3, sC, hl3⟩, P13⟩
            have L13 : h.length ≤ H13.length := by have := P13.length_le; first | omega | (simp only [List.length_append, List.length_cons, List.length_nil] at this; omega)
            have Q13 : H12.length + 0 ≤ H13.length := by have := P13.length_le; first | omega | (simp only [List.length_append, List.length_cons, List.length_nil] at this; omega)
            replace hc := hc.mono P13
            obtain ⟨wC, rfl, ⟨⟨iC, rfl, _⟩, _⟩⟩ := id nC
            obtain ⟨aC, rfl⟩ := Sl.len2 sC
            try simp only [go_sem, Nat.reduceBEq, Nat.reduceAdd, Nat.reduceMul, Nat.reduceSub, Nat.reduceLeDiff, Nat.le_refl, implies_true, Nat.reduceLT, reduceIte, decide_true, decide_false, true_and, and_true, reduceCtorEq, Nat.mul_one, Int.reduceToNat, Int.reduceLE, Int.reduceLT, Int.reduceAdd, Int.reduceSub, Int.reduceMul, Int.cast_ofNat_Int, cast_zero_int, cast_one_int, Nat.reducePow, Nat.reduceEqDiff, Nat.reduceMod, Nat.zero_add, Nat.sub_zero, Nat.add_zero, own_base L13, own_base0 L13, decb hk2, e0, P13]
            have hF : ((fewB N3 P3 l3 nd3 cl3).getD []).length ≤ 1048576 := by cases hf : fewB N3 P3 l3 nd3 cl3 with | none => simp | some d => have := (few_min hf).2.2.2.2.2; simp; omega
            refine ⟨by kernel_rfl, (c_FewestHydrants _ _ N3 P3 l3 nd3 cl3 (nC.mono (by simp)) (sC.mono (by simp)) (by omega) (by omega)).use (fun _ m => m) ?_⟩
            rintro _ H14 ⟨⟨vD, rfl, fD⟩, P14⟩
            have L14 : h.length ≤ H14.length := by have := P14.length_le; first | omega | (simp only [List.length_append, List.length_cons, List.length_nil] at this; omega)
            have Q14 : H13.length + 1 ≤ H14.length := by have := P14.length_le; first | omega | (simp only [List.length_append, List.length_cons, List.length_nil] at this; omega)
            replace hc := hc.mono ((List.prefix_append _ _).trans P14)
            replace nC := nC.mono ((List.prefix_append _ _).trans P14)
            replace sC := sC.mono ((List.prefix_append _ _).trans P14)
            have bC := keep_get (h := H13 ++ _) hget_new P14
            obtain ⟨uD, rfl, _⟩ := id fD
            try simp only [go_sem, Nat.reduceBEq, Nat.reduceAdd, Nat.reduceMul, Nat.reduceSub, Nat.reduceLeDiff, Nat.le_refl, implies_true, Nat.reduceLT, reduceIte, decide_true, decide_false, true_and, and_true, reduceCtorEq, Nat.mul_one, Int.reduceToNat, Int.reduceLE, Int.reduceLT, Int.reduceAdd, Int.reduceSub, Int.reduceMul, Int.cast_ofNat_Int, cast_zero_int, cast_one_int, Nat.reducePow, Nat.reduceEqDiff, Nat.reduceMod, Nat.zero_add, Nat.sub_zero, Nat.add_zero, bC, self_get bC, own_base L14, own_base0 L14, decb hk2, e0, P14]
            refine ⟨by kernel_rfl, (c_sFewestHydrants _ _ N3 P3 l3 nd3 cl3 (nC.mono (by simp)) (sC.mono (by simp)) (by omega) (by omega)).use (fun _ m => m) ?_⟩
            rintro _ H15 ⟨⟨vE, rfl, fE⟩, P15⟩
            have L15 : h.length ≤ H15.length := by have := P15.length_le; first | omega | (simp only [List.length_append, List.length_cons, List.length_nil] at this; omega)
            have Q15 : H14.length + 0 ≤ H15.length := by have := P15.length_le; first | omega | (simp only [List.length_append, List.length_cons, List.length_nil] at this; omega)
            replace hc := hc.mono P15
            replace nC := nC.mono P15
            replace sC := sC.mono P15
            replace fD := fD.mono P15
            replace bC := keep_get bC P15
            obtain ⟨uE, rfl, _⟩ := id fE
            try simp only [go_sem, Nat.reduceBEq, Nat.reduceAdd, Nat.reduceMul, Nat.reduceSub, Nat.reduceLeDiff, Nat.le_refl, implies_true, Nat.reduceLT, reduceIte, decide_true, decide_false, true_and, and_true, reduceCtorEq, Nat.mul_one, Int.reduceToNat, Int.reduceLE, Int.reduceLT, Int.reduceAdd, Int.reduceSub, Int.reduceMul, Int.cast_ofNat_Int, cast_zero_int, cast_one_int, Nat.reducePow, Nat.reduceEqDiff, Nat.reduceMod, Nat.zero_add, Nat.sub_zero, Nat.add_zero, bC, self_get bC, own_base L15, own_base0 L15, decb hk2, e0, P15]
            refine ⟨by kernel_rfl, (c_rInts _ _ _ (fD.mono (by simp)).ai (fE.mono (by simp)).ai hF).use (fun _ m => m) ?_⟩
            rintro _ _ ⟨rfl, rfl⟩
            try simp only [go_sem, Nat.reduceBEq, Nat.reduceAdd, Nat.reduceMul, Nat.reduceSub, Nat.reduceLeDiff, Nat.le_refl, implies_true, Nat.reduceLT, reduceIte, decide_true, decide_false, true_and, and_true, reduceCtorEq, Nat.mul_one, Int.reduceToNat, Int.reduceLE, Int.reduceLT, Int.reduceAdd, Int.reduceSub, Int.reduceMul, Int.cast_ofNat_Int, cast_zero_int, cast_one_int, Nat.reducePow, Nat.reduceEqDiff, Nat.reduceMod, Nat.zero_add, Nat.sub_zero, Nat.add_zero, bC, self_get bC, own_base L15, own_base0 L15, decb hk2, e0, Try.underlying4, and_self, bne_self_eq_false, decide_true]
            cases hf : fewB N3 P3 l3 nd3 cl3 with
            | none =>
              try simp only [go_sem, Nat.reduceBEq, Nat.reduceAdd, Nat.reduceMul, Nat.reduceSub, Nat.reduceLeDiff, Nat.le_refl, implies_true, Nat.reduceLT, reduceIte, decide_true, decide_false, true_and, and_true, reduceCtorEq, Nat.mul_one, Int.reduceToNat, Int.reduceLE, Int.reduceLT, Int.reduceAdd, Int.reduceSub, Int.reduceMul, Int.cast_ofNat_Int, cast_zero_int, cast_one_int, Nat.reducePow, Nat.reduceEqDiff, Nat.reduceMod, Nat.zero_add, Nat.sub_zero, Nat.add_zero, bC, self_get bC, own_base L15, own_base0 L15, decb hk2, e0, hf, Option.isSome_none, Option.getD_none, List.length_nil, Try.underlying4, and_self, bne_self_eq_false, decide_true]
            | some d =>
              obtain ⟨m1, m2, m3, m4, m5, m6⟩ := few_min hf
              rw [hf, Option.getD_some] at fD
              try simp only [go_sem, Nat.reduceBEq, Nat.reduceAdd, Nat.reduceMul, Nat.reduceSub, Nat.reduceLeDiff, Nat.le_refl, implies_true, Nat.reduceLT, reduceIte, decide_true, decide_false, true_and, and_true, reduceCtorEq, Nat.mul_one, Int.reduceToNat, Int.reduceLE, Int.reduceLT, Int.reduceAdd, Int.reduceSub, Int.reduceMul, Int.cast_ofNat_Int, cast_zero_int, cast_one_int, Nat.reducePow, Nat.reduceEqDiff, Nat.reduceMod, Nat.zero_add, Nat.sub_zero, Nat.add_zero, bC, self_get bC, own_base L15, own_base0 L15, decb hk2, e0, hf, Option.isSome_some, Option.getD_some, Try.underlying4, and_self, bne_self_eq_false, decide_true]
              have aD := fD.ai
              refine vLoop.count mo d.length (fun i e h' => ∃ m : Int, e 35 = .slice aC l3.length 0 ∧ e 37 = .int .i64 cl3 ∧ e 38 = .slice uD d.length 0 ∧ e 42 = .int .i64 (sumF l3 (d.take i)) ∧ e 43 = .int .i64 m ∧ e 44 = .int .i64 i ∧ m ≤ 5000 ∧ 0 ≤ m ∧ (∀ x ∈ d.take i, m ≤ (l3.getD x.toNat hyd0).2) ∧ (m = 5000 ∨ ∃ x ∈ d.take i, (l3.getD x.toNat hyd0).2 = m) ∧ H15 = h') ?_ ?_
              · try simp only [go_sem, Nat.reduceBEq, Nat.reduceAdd, Nat.reduceMul, Nat.reduceSub, Nat.reduceLeDiff, Nat.le_refl, implies_true, Nat.reduceLT, reduceIte, decide_true, decide_false, true_and, and_true, reduceCtorEq, Nat.mul_one, Int.reduceToNat, Int.reduceLE, Int.reduceLT, Int.reduceAdd, Int.reduceSub, Int.reduceMul, Int.cast_ofNat_Int, cast_zero_int, cast_one_int, Nat.reducePow, Nat.reduceEqDiff, Nat.reduceMod, Nat.zero_add, Nat.sub_zero, Nat.add_zero, hf, Option.getD_some]
                exact ⟨5000, by simp [sumF], rfl, by simp, by simp, by simp, .inl rfl⟩
              · rintro i e _ hi ⟨m, e35, e37, e38, e42, e43, e44, g1, g2, g3, g4, rfl⟩
                try simp only [go_sem, Nat.reduceBEq, Nat.reduceAdd, Nat.reduceMul, Nat.reduceSub, Nat.reduceLeDiff, Nat.le_refl, implies_true, Nat.reduceLT, reduceIte, decide_true, decide_false, true_and, and_true, reduceCtorEq, Nat.mul_one, Int.reduceToNat, Int.reduceLE, Int.reduceLT, Int.reduceAdd, Int.reduceSub, Int.reduceMul, Int.cast_ofNat_Int, cast_zero_int, cast_one_int, Nat.reducePow, Nat.reduceEqDiff, Nat.reduceMod, Nat.zero_add, Nat.sub_zero, Nat.add_zero, bC, self_get bC, own_base L15, own_base0 L15, decb hk2, e0, e35, e37, e38, e42, e43, e44]
                refine .intro (fun h1 => ?_) (fun h1 => ?_)
                · have hlt : i < d.length := by have := h1; simp at this; omega
                  obtain ⟨id2, o2, K2, hv2, _, _, hk2, hd2, _, _, _, hat2⟩ := aD.at (by omega)
                  obtain rfl : uD = some ⟨id2, o2, none⟩ := by simpa using hv2
                  have hx := m2 d[i] (List.getElem_mem hlt)
                  have hlt2 : d[i].toNat < (l3.map hyd).length := by simp; omega
                  obtain ⟨id, o, K, hv, _, hk, hd, hb, hrow, hat⟩ := sC.at hlt2
                  obtain rfl : aC = some ⟨id, o, none⟩ := by simpa using hv
                  have q1 := hat 1 (by omega)
                  rw [List.getElem_map] at q1
                  simp only [hyd, List.getElem?_cons_zero, List.getElem?_cons_succ] at q1
                  have hb1 := sumF_in (R := d.take i) m5 (fun x hx => m2 x (List.mem_of_mem_take hx))
                  rw [List.length_take, Nat.min_eq_left (by omega)] at hb1
                  have hb2 := m5 _ (List.getElem_mem (show d[i].toNat < l3.length by omega))
                  have hs := sumF_take (l := l3) hlt
                  rw [getDh (by omega)] at hs
                  have w1 : IntKind.i64.wrap (sumF l3 (d.take i) + l3[d[i].toNat].2) = sumF l3 (d.take (i + 1)) := by rw [hs, wrap64 (by omega)]
                  have k5 : IntKind.i64.wrap ((i : Int) + 1) = ((i + 1 : Nat) : Int) := by rw [wrap64 (by omega)]; rfl
                  have hz : (i : Int) < d.length := by omega
                  have ht : d.take (i + 1) = d.take i ++ [d[i]] := by rw [List.take_add_one, List.getElem?_eq_getElem hlt]; rfl
                  have hg : (l3.getD d[i].toNat hyd0).2 = l3[d[i].toNat].2 := by rw [getDh (by omega)]
                  by_cases h2 : l3[d[i].toNat].2 < m
                  · try simp only [go_sem, Nat.reduceBEq, Nat.reduceAdd, Nat.reduceMul, Nat.reduceSub, Nat.reduceLeDiff, Nat.le_refl, implies_true, Nat.reduceLT, reduceIte, decide_true, decide_false, true_and, and_true, reduceCtorEq, Nat.mul_one, Int.reduceToNat, Int.reduceLE, Int.reduceLT, Int.reduceAdd, Int.reduceSub, Int.reduceMul, Int.cast_ofNat_Int, cast_zero_int, cast_one_int, Nat.reducePow, Nat.reduceEqDiff, Nat.reduceMod, Nat.zero_add, Nat.sub_zero, Nat.add_zero, e35, e37, e38, e42, e43, e44, hz, hk, hd, hk2, hd2, hat2 i hlt, show d[i] < (l3.length : Int) by omega, show 0 ≤ d[i] by omega, q1, w1, k5, h2]
                    refine ⟨hlt, _, rfl, by omega, by omega, fun x hx => ?_, .inr ⟨d[i], by rw [ht]; exact List.mem_append_right _ (List.mem_singleton.2 rfl), hg⟩⟩
                    rw [ht] at hx; rcases List.mem_append.1 hx with h3 | h3
                    · have := g3 x h3; omega
                    · obtain rfl : x = d[i] := by simpa using h3
                      omega
                  · try simp only [go_sem, Nat.reduceBEq, Nat.reduceAdd, Nat.reduceMul, Nat.reduceSub, Nat.reduceLeDiff, Nat.le_refl, implies_true, Nat.reduceLT, reduceIte, decide_true, decide_false, true_and, and_true, reduceCtorEq, Nat.mul_one, Int.reduceToNat, Int.reduceLE, Int.reduceLT, Int.reduceAdd, Int.reduceSub, Int.reduceMul, Int.cast_ofNat_Int, cast_zero_int, cast_one_int, Nat.reducePow, Nat.reduceEqDiff, Nat.reduceMod, Nat.zero_add, Nat.sub_zero, Nat.add_zero, e35, e37, e38, e42, e43, e44, hz, hk, hd, hk2, hd2, hat2 i hlt, show d[i] < (l3.length : Int) by omega, show 0 ≤ d[i] by omega, q1, w1, k5, h2]
                    refine ⟨hlt, m, rfl, g1, g2, fun x hx => ?_, ?_⟩
                    · rw [ht] at hx; rcases List.mem_append.1 hx with h3 | h3
                      · exact g3 x h3
                      · obtain rfl : x = d[i] := by simpa using h3
                        omega
                    · rcases g4 with h3 | ⟨x, h3, h4⟩
                      · exact .inl h3
                      · exact .inr ⟨x, by rw [ht]; exact List.mem_append_left _ h3, h4⟩
                · obtain rfl : i = d.length := by have := h1; simp at this; omega
                  rw [List.take_length] at e42 g3 g4
                  try simp only [go_sem, Nat.reduceBEq, Nat.reduceAdd, Nat.reduceMul, Nat.reduceSub, Nat.reduceLeDiff, Nat.le_refl, implies_true, Nat.reduceLT, reduceIte, decide_true, decide_false, true_and, and_true, reduceCtorEq, Nat.mul_one, Int.reduceToNat, Int.reduceLE, Int.reduceLT, Int.reduceAdd, Int.reduceSub, Int.reduceMul, Int.cast_ofNat_Int, cast_zero_int, cast_one_int, Nat.reducePow, Nat.reduceEqDiff, Nat.reduceMod, Nat.zero_add, Nat.sub_zero, Nat.add_zero, bC, self_get bC, own_base L15, own_base0 L15, decb hk2, e0, e35, e37, e38, e42, e43, e44]
                  refine ⟨by kernel_rfl, (c_ReserveFor _).use (fun _ m => m) ?_⟩
                  rintro r _ ⟨hr, rfl⟩
                  rw [reserve, if_pos m1] at hr
                  subst hr
                  have hb1 := sumF_in (R := d) m5 m2
                  have hnd : 800 ≤ need cl3 := by unfold need; split; omega; split <;> omega
                  have hmm : ∃ x ∈ d, (l3.getD x.toNat hyd0).2 = m := by
                    rcases g4 with h3 | h3
                    · cases d with
                      | nil => simp [sumF] at m3; omega
                      | cons x d =>
                        refine ⟨x, by simp, ?_⟩
                        have h5 := g3 x (by simp)
                        have h6 := m2 x (by simp)
                        have h7 := m5 _ (List.getElem_mem (show x.toNat < l3.length by omega))
                        rw [getDh (by omega)] at h5 ⊢
                        omega
                    · exact h3
                  obtain ⟨x, hx, hxm⟩ := hmm
                  have h8 := m4 x hx
                  rw [hxm] at h8
                  have w5 : IntKind.i64.wrap (sumF l3 d - m) = sumF l3 d - m := wrap64 (by omega)
                  try simp only [go_sem, Nat.reduceBEq, Nat.reduceAdd, Nat.reduceMul, Nat.reduceSub, Nat.reduceLeDiff, Nat.le_refl, implies_true, Nat.reduceLT, reduceIte, decide_true, decide_false, true_and, and_true, reduceCtorEq, Nat.mul_one, Int.reduceToNat, Int.reduceLE, Int.reduceLT, Int.reduceAdd, Int.reduceSub, Int.reduceMul, Int.cast_ofNat_Int, cast_zero_int, cast_one_int, Nat.reducePow, Nat.reduceEqDiff, Nat.reduceMod, Nat.zero_add, Nat.sub_zero, Nat.add_zero, e42, e43, w5, m3, h8]
          · skip
            try simp only [go_sem, Nat.reduceBEq, Nat.reduceAdd, Nat.reduceMul, Nat.reduceSub, Nat.reduceLeDiff, Nat.le_refl, implies_true, Nat.reduceLT, reduceIte, decide_true, decide_false, true_and, and_true, reduceCtorEq, Nat.mul_one, Int.reduceToNat, Int.reduceLE, Int.reduceLT, Int.reduceAdd, Int.reduceSub, Int.reduceMul, Int.cast_ofNat_Int, cast_zero_int, cast_one_int, Nat.reducePow, Nat.reduceEqDiff, Nat.reduceMod, Nat.zero_add, Nat.sub_zero, Nat.add_zero, bB, self_get bB, own_base L12, own_base0 L12, decb hk2, e0, dect hbk, Try.underlying4, and_self, bne_self_eq_false, decide_true]
            refine ⟨by kernel_rfl, (c_DrawFewestHydrants b n hc).use (fun _ m => m) ?_⟩
            rintro _ H13 ⟨⟨N3, P3, vC, l3, wC, nd3, cl3, rfl, nC, hP3, sC, hl3⟩, P13⟩
            have L13 : h.length ≤ H13.length := by have := P13.length_le; first | omega | (simp only [List.length_append, List.length_cons, List.length_nil] at this; omega)
            have Q13 : H12.length + 0 ≤ H13.length := by have := P13.length_le; first | omega | (simp only [List.length_append, List.length_cons, List.length_nil] at this; omega)
            replace hc := hc.mono P13
            obtain ⟨wC, rfl, ⟨⟨iC, rfl, _⟩, _⟩⟩ := id nC
            obtain ⟨aC, rfl⟩ := Sl.len2 sC
            try simp only [go_sem, Nat.reduceBEq, Nat.reduceAdd, Nat.reduceMul, Nat.reduceSub, Nat.reduceLeDiff, Nat.le_refl, implies_true, Nat.reduceLT, reduceIte, decide_true, decide_false, true_and, and_true, reduceCtorEq, Nat.mul_one, Int.reduceToNat, Int.reduceLE, Int.reduceLT, Int.reduceAdd, Int.reduceSub, Int.reduceMul, Int.cast_ofNat_Int, cast_zero_int, cast_one_int, Nat.reducePow, Nat.reduceEqDiff, Nat.reduceMod, Nat.zero_add, Nat.sub_zero, Nat.add_zero, own_base L13, own_base0 L13, decb hk2, e0, P13]
            have hF : ((fewB N3 P3 l3 nd3 cl3).getD []).length ≤ 1048576 := by cases hf : fewB N3 P3 l3 nd3 cl3 with | none => simp | some d => have := (few_min hf).2.2.2.2.2; simp; omega
            refine ⟨by kernel_rfl, (c_FewestHydrants _ _ N3 P3 l3 nd3 cl3 (nC.mono (by simp)) (sC.mono (by simp)) (by omega) (by omega)).use (fun _ m => m) ?_⟩
            rintro _ H14 ⟨⟨vD, rfl, fD⟩, P14⟩
            have L14 : h.length ≤ H14.length := by have := P14.length_le; first | omega | (simp only [List.length_append, List.length_cons, List.length_nil] at this; omega)
            have Q14 : H13.length + 1 ≤ H14.length := by have := P14.length_le; first | omega | (simp only [List.length_append, List.length_cons, List.length_nil] at this; omega)
            replace hc := hc.mono ((List.prefix_append _ _).trans P14)
            replace nC := nC.mono ((List.prefix_append _ _).trans P14)
            replace sC := sC.mono ((List.prefix_append _ _).trans P14)
            have bC := keep_get (h := H13 ++ _) hget_new P14
            obtain ⟨uD, rfl, _⟩ := id fD
            try simp only [go_sem, Nat.reduceBEq, Nat.reduceAdd, Nat.reduceMul, Nat.reduceSub, Nat.reduceLeDiff, Nat.le_refl, implies_true, Nat.reduceLT, reduceIte, decide_true, decide_false, true_and, and_true, reduceCtorEq, Nat.mul_one, Int.reduceToNat, Int.reduceLE, Int.reduceLT, Int.reduceAdd, Int.reduceSub, Int.reduceMul, Int.cast_ofNat_Int, cast_zero_int, cast_one_int, Nat.reducePow, Nat.reduceEqDiff, Nat.reduceMod, Nat.zero_add, Nat.sub_zero, Nat.add_zero, bC, self_get bC, own_base L14, own_base0 L14, decb hk2, e0, P14]
            refine ⟨by kernel_rfl, (c_sFewestHydrants _ _ N3 P3 l3 nd3 cl3 (nC.mono (by simp)) (sC.mono (by simp)) (by omega) (by omega)).use (fun _ m => m) ?_⟩
            rintro _ H15 ⟨⟨vE, rfl, fE⟩, P15⟩
            have L15 : h.length ≤ H15.length := by have := P15.length_le; first | omega | (simp only [List.length_append, List.length_cons, List.length_nil] at this; omega)
            have Q15 : H14.length + 0 ≤ H15.length := by have := P15.length_le; first | omega | (simp only [List.length_append, List.length_cons, List.length_nil] at this; omega)
            replace hc := hc.mono P15
            replace nC := nC.mono P15
            replace sC := sC.mono P15
            replace fD := fD.mono P15
            replace bC := keep_get bC P15
            obtain ⟨uE, rfl, _⟩ := id fE
            try simp only [go_sem, Nat.reduceBEq, Nat.reduceAdd, Nat.reduceMul, Nat.reduceSub, Nat.reduceLeDiff, Nat.le_refl, implies_true, Nat.reduceLT, reduceIte, decide_true, decide_false, true_and, and_true, reduceCtorEq, Nat.mul_one, Int.reduceToNat, Int.reduceLE, Int.reduceLT, Int.reduceAdd, Int.reduceSub, Int.reduceMul, Int.cast_ofNat_Int, cast_zero_int, cast_one_int, Nat.reducePow, Nat.reduceEqDiff, Nat.reduceMod, Nat.zero_add, Nat.sub_zero, Nat.add_zero, bC, self_get bC, own_base L15, own_base0 L15, decb hk2, e0, P15]
            refine ⟨by kernel_rfl, (c_rInts _ _ _ (fD.mono (by simp)).ai (fE.mono (by simp)).ai hF).use (fun _ m => m) ?_⟩
            rintro _ _ ⟨rfl, rfl⟩
            try simp only [go_sem, Nat.reduceBEq, Nat.reduceAdd, Nat.reduceMul, Nat.reduceSub, Nat.reduceLeDiff, Nat.le_refl, implies_true, Nat.reduceLT, reduceIte, decide_true, decide_false, true_and, and_true, reduceCtorEq, Nat.mul_one, Int.reduceToNat, Int.reduceLE, Int.reduceLT, Int.reduceAdd, Int.reduceSub, Int.reduceMul, Int.cast_ofNat_Int, cast_zero_int, cast_one_int, Nat.reducePow, Nat.reduceEqDiff, Nat.reduceMod, Nat.zero_add, Nat.sub_zero, Nat.add_zero, bC, self_get bC, own_base L15, own_base0 L15, decb hk2, e0, Try.underlying4, and_self, bne_self_eq_false, decide_true]
            cases hf : fewB N3 P3 l3 nd3 cl3 with
            | none =>
              try simp only [go_sem, Nat.reduceBEq, Nat.reduceAdd, Nat.reduceMul, Nat.reduceSub, Nat.reduceLeDiff, Nat.le_refl, implies_true, Nat.reduceLT, reduceIte, decide_true, decide_false, true_and, and_true, reduceCtorEq, Nat.mul_one, Int.reduceToNat, Int.reduceLE, Int.reduceLT, Int.reduceAdd, Int.reduceSub, Int.reduceMul, Int.cast_ofNat_Int, cast_zero_int, cast_one_int, Nat.reducePow, Nat.reduceEqDiff, Nat.reduceMod, Nat.zero_add, Nat.sub_zero, Nat.add_zero, bC, self_get bC, own_base L15, own_base0 L15, decb hk2, e0, hf, Option.isSome_none, Option.getD_none, List.length_nil, Try.underlying4, and_self, bne_self_eq_false, decide_true]
            | some d =>
              obtain ⟨m1, m2, m3, m4, m5, m6⟩ := few_min hf
              rw [hf, Option.getD_some] at fD
              try simp only [go_sem, Nat.reduceBEq, Nat.reduceAdd, Nat.reduceMul, Nat.reduceSub, Nat.reduceLeDiff, Nat.le_refl, implies_true, Nat.reduceLT, reduceIte, decide_true, decide_false, true_and, and_true, reduceCtorEq, Nat.mul_one, Int.reduceToNat, Int.reduceLE, Int.reduceLT, Int.reduceAdd, Int.reduceSub, Int.reduceMul, Int.cast_ofNat_Int, cast_zero_int, cast_one_int, Nat.reducePow, Nat.reduceEqDiff, Nat.reduceMod, Nat.zero_add, Nat.sub_zero, Nat.add_zero, bC, self_get bC, own_base L15, own_base0 L15, decb hk2, e0, hf, Option.isSome_some, Option.getD_some, Try.underlying4, and_self, bne_self_eq_false, decide_true]
              have aD := fD.ai
              refine vLoop.count mo d.length (fun i e h' => ∃ m : Int, e 35 = .slice aC l3.length 0 ∧ e 37 = .int .i64 cl3 ∧ e 38 = .slice uD d.length 0 ∧ e 42 = .int .i64 (sumF l3 (d.take i)) ∧ e 43 = .int .i64 m ∧ e 44 = .int .i64 i ∧ m ≤ 5000 ∧ 0 ≤ m ∧ (∀ x ∈ d.take i, m ≤ (l3.getD x.toNat hyd0).2) ∧ (m = 5000 ∨ ∃ x ∈ d.take i, (l3.getD x.toNat hyd0).2 = m) ∧ H15 = h') ?_ ?_
              · try simp only [go_sem, Nat.reduceBEq, Nat.reduceAdd, Nat.reduceMul, Nat.reduceSub, Nat.reduceLeDiff, Nat.le_refl, implies_true, Nat.reduceLT, reduceIte, decide_true, decide_false, true_and, and_true, reduceCtorEq, Nat.mul_one, Int.reduceToNat, Int.reduceLE, Int.reduceLT, Int.reduceAdd, Int.reduceSub, Int.reduceMul, Int.cast_ofNat_Int, cast_zero_int, cast_one_int, Nat.reducePow, Nat.reduceEqDiff, Nat.reduceMod, Nat.zero_add, Nat.sub_zero, Nat.add_zero, hf, Option.getD_some]
                exact ⟨5000, by simp [sumF], rfl, by simp, by simp, by simp, .inl rfl⟩
              · rintro i e _ hi ⟨m, e35, e37, e38, e42, e43, e44, g1, g2, g3, g4, rfl⟩
                try simp only [go_sem, Nat.reduceBEq, Nat.reduceAdd, Nat.reduceMul, Nat.reduceSub, Nat.reduceLeDiff, Nat.le_refl, implies_true, Nat.reduceLT, reduceIte, decide_true, decide_false, true_and, and_true, reduceCtorEq, Nat.mul_one, Int.reduceToNat, Int.reduceLE, Int.reduceLT, Int.reduceAdd, Int.reduceSub, Int.reduceMul, Int.cast_ofNat_Int, cast_zero_int, cast_one_int, Nat.reducePow, Nat.reduceEqDiff, Nat.reduceMod, Nat.zero_add, Nat.sub_zero, Nat.add_zero, bC, self_get bC, own_base L15, own_base0 L15, decb hk2, e0, e35, e37, e38, e42, e43, e44]
                refine .intro (fun h1 => ?_) (fun h1 => ?_)
                · have hlt : i < d.length := by have := h1; simp at this; omega
                  obtain ⟨id2, o2, K2, hv2, _, _, hk2, hd2, _, _, _, hat2⟩ := aD.at (by omega)
                  obtain rfl : uD = some ⟨id2, o2, none⟩ := by simpa using hv2
                  have hx := m2 d[i] (List.getElem_mem hlt)
                  have hlt2 : d[i].toNat < (l3.map hyd).length := by simp; omega
                  obtain ⟨id, o, K, hv, _, hk, hd, hb, hrow, hat⟩ := sC.at hlt2
                  obtain rfl : aC = some ⟨id, o, none⟩ := by simpa using hv
                  have q1 := hat 1 (by omega)
                  rw [List.getElem_map] at q1
                  simp only [hyd, List.getElem?_cons_zero, List.getElem?_cons_succ] at q1
                  have hb1 := sumF_in (R := d.take i) m5 (fun x hx => m2 x (List.mem_of_mem_take hx))
                  rw [List.length_take, Nat.min_eq_left (by omega)] at hb1
                  have hb2 := m5 _ (List.getElem_mem (show d[i].toNat < l3.length by omega))
                  have hs := sumF_take (l := l3) hlt
                  rw [getDh (by omega)] at hs
                  have w1 : IntKind.i64.wrap (sumF l3 (d.take i) + l3[d[i].toNat].2) = sumF l3 (d.take (i + 1)) := by rw [hs, wrap64 (by omega)]
                  have k5 : IntKind.i64.wrap ((i : Int) + 1) = ((i + 1 : Nat) : Int) := by rw [wrap64 (by omega)]; rfl
                  have hz : (i : Int) < d.length := by omega
                  have ht : d.take (i + 1) = d.take i ++ [d[i]] := by rw [List.take_add_one, List.getElem?_eq_getElem hlt]; rfl
                  have hg : (l3.getD d[i].toNat hyd0).2 = l3[d[i].toNat].2 := by rw [getDh (by omega)]
                  by_cases h2 : l3[d[i].toNat].2 < m
                  · try simp only [go_sem, Nat.reduceBEq, Nat.reduceAdd, Nat.reduceMul, Nat.reduceSub, Nat.reduceLeDiff, Nat.le_refl, implies_true, Nat.reduceLT, reduceIte, decide_true, decide_false, true_and, and_true, reduceCtorEq, Nat.mul_one, Int.reduceToNat, Int.reduceLE, Int.reduceLT, Int.reduceAdd, Int.reduceSub, Int.reduceMul, Int.cast_ofNat_Int, cast_zero_int, cast_one_int, Nat.reducePow, Nat.reduceEqDiff, Nat.reduceMod, Nat.zero_add, Nat.sub_zero, Nat.add_zero, e35, e37, e38, e42, e43, e44, hz, hk, hd, hk2, hd2, hat2 i hlt, show d[i] < (l3.length : Int) by omega, show 0 ≤ d[i] by omega, q1, w1, k5, h2]
                    refine ⟨hlt, _, rfl, by omega, by omega, fun x hx => ?_, .inr ⟨d[i], by rw [ht]; exact List.mem_append_right _ (List.mem_singleton.2 rfl), hg⟩⟩
                    rw [ht] at hx; rcases List.mem_append.1 hx with h3 | h3
                    · have := g3 x h3; omega
                    · obtain rfl : x = d[i] := by simpa using h3
                      omega
                  · try simp only [go_sem, Nat.reduceBEq, Nat.reduceAdd, Nat.reduceMul, Nat.reduceSub, Nat.reduceLeDiff, Nat.le_refl, implies_true, Nat.reduceLT, reduceIte, decide_true, decide_false, true_and, and_true, reduceCtorEq, Nat.mul_one, Int.reduceToNat, Int.reduceLE, Int.reduceLT, Int.reduceAdd, Int.reduceSub, Int.reduceMul, Int.cast_ofNat_Int, cast_zero_int, cast_one_int, Nat.reducePow, Nat.reduceEqDiff, Nat.reduceMod, Nat.zero_add, Nat.sub_zero, Nat.add_zero, e35, e37, e38, e42, e43, e44, hz, hk, hd, hk2, hd2, hat2 i hlt, show d[i] < (l3.length : Int) by omega, show 0 ≤ d[i] by omega, q1, w1, k5, h2]
                    refine ⟨hlt, m, rfl, g1, g2, fun x hx => ?_, ?_⟩
                    · rw [ht] at hx; rcases List.mem_append.1 hx with h3 | h3
                      · exact g3 x h3
                      · obtain rfl : x = d[i] := by simpa using h3
                        omega
                    · rcases g4 with h3 | ⟨x, h3, h4⟩
                      · exact .inl h3
                      · exact .inr ⟨x, by rw [ht]; exact List.mem_append_left _ h3, h4⟩
                · obtain rfl : i = d.length := by have := h1; simp at this; omega
                  rw [List.take_length] at e42 g3 g4
                  try simp only [go_sem, Nat.reduceBEq, Nat.reduceAdd, Nat.reduceMul, Nat.reduceSub, Nat.reduceLeDiff, Nat.le_refl, implies_true, Nat.reduceLT, reduceIte, decide_true, decide_false, true_and, and_true, reduceCtorEq, Nat.mul_one, Int.reduceToNat, Int.reduceLE, Int.reduceLT, Int.reduceAdd, Int.reduceSub, Int.reduceMul, Int.cast_ofNat_Int, cast_zero_int, cast_one_int, Nat.reducePow, Nat.reduceEqDiff, Nat.reduceMod, Nat.zero_add, Nat.sub_zero, Nat.add_zero, bC, self_get bC, own_base L15, own_base0 L15, decb hk2, e0, e35, e37, e38, e42, e43, e44]
                  refine ⟨by kernel_rfl, (c_ReserveFor _).use (fun _ m => m) ?_⟩
                  rintro r _ ⟨hr, rfl⟩
                  rw [reserve, if_pos m1] at hr
                  subst hr
                  have hb1 := sumF_in (R := d) m5 m2
                  have hnd : 800 ≤ need cl3 := by unfold need; split; omega; split <;> omega
                  have hmm : ∃ x ∈ d, (l3.getD x.toNat hyd0).2 = m := by
                    rcases g4 with h3 | h3
                    · cases d with
                      | nil => simp [sumF] at m3; omega
                      | cons x d =>
                        refine ⟨x, by simp, ?_⟩
                        have h5 := g3 x (by simp)
                        have h6 := m2 x (by simp)
                        have h7 := m5 _ (List.getElem_mem (show x.toNat < l3.length by omega))
                        rw [getDh (by omega)] at h5 ⊢
                        omega
                    · exact h3
                  obtain ⟨x, hx, hxm⟩ := hmm
                  have h8 := m4 x hx
                  rw [hxm] at h8
                  have w5 : IntKind.i64.wrap (sumF l3 d - m) = sumF l3 d - m := wrap64 (by omega)
                  try simp only [go_sem, Nat.reduceBEq, Nat.reduceAdd, Nat.reduceMul, Nat.reduceSub, Nat.reduceLeDiff, Nat.le_refl, implies_true, Nat.reduceLT, reduceIte, decide_true, decide_false, true_and, and_true, reduceCtorEq, Nat.mul_one, Int.reduceToNat, Int.reduceLE, Int.reduceLT, Int.reduceAdd, Int.reduceSub, Int.reduceMul, Int.cast_ofNat_Int, cast_zero_int, cast_one_int, Nat.reducePow, Nat.reduceEqDiff, Nat.reduceMod, Nat.zero_add, Nat.sub_zero, Nat.add_zero, e42, e43, w5, m3, h8]
    · skip
      try simp only [go_sem, Nat.reduceBEq, Nat.reduceAdd, Nat.reduceMul, Nat.reduceSub, Nat.reduceLeDiff, Nat.le_refl, implies_true, Nat.reduceLT, reduceIte, decide_true, decide_false, true_and, and_true, reduceCtorEq, Nat.mul_one, Int.reduceToNat, Int.reduceLE, Int.reduceLT, Int.reduceAdd, Int.reduceSub, Int.reduceMul, Int.cast_ofNat_Int, cast_zero_int, cast_one_int, Nat.reducePow, Nat.reduceEqDiff, Nat.reduceMod, Nat.zero_add, Nat.sub_zero, Nat.add_zero, bA, self_get bA, own_base L5, own_base0 L5, dect hk, Try.underlying4, and_self, bne_self_eq_false, decide_true]
      refine ⟨by kernel_rfl, (c_DrawBestHydrant b n hc).use (fun _ m => m) ?_⟩
      rintro _ H6 ⟨⟨N2, P2, vB, l2, wB, rc2, cl2, fl2, rfl, nB, hP2, sB, hl2⟩, P6⟩
      have L6 : h.length ≤ H6.length := by have := P6.length_le; first | omega | (simp only [List.length_append, List.length_cons, List.length_nil] at this; omega)
      have Q6 : H5.length + 0 ≤ H6.length := by have := P6.length_le; first | omega | (simp only [List.length_append, List.length_cons, List.length_nil] at this; omega)
      replace hc := hc.mono P6
      obtain ⟨wB, rfl, ⟨⟨iB, rfl, _⟩, _⟩⟩ := id nB
      obtain ⟨aB, rfl⟩ := Sl.len2 sB
      try simp only [go_sem, Nat.reduceBEq, Nat.reduceAdd, Nat.reduceMul, Nat.reduceSub, Nat.reduceLeDiff, Nat.le_refl, implies_true, Nat.reduceLT, reduceIte, decide_true, decide_false, true_and, and_true, reduceCtorEq, Nat.mul_one, Int.reduceToNat, Int.reduceLE, Int.reduceLT, Int.reduceAdd, Int.reduceSub, Int.reduceMul, Int.cast_ofNat_Int, cast_zero_int, cast_one_int, Nat.reducePow, Nat.reduceEqDiff, Nat.reduceMod, Nat.zero_add, Nat.sub_zero, Nat.add_zero, own_base L6, own_base0 L6, P6]
      have hm2 : P2.length ≤ 1048576 ∧ l2.length ≤ 1048576 := by omega
      refine ⟨by kernel_rfl, (c_BestHydrant _ _ N2 P2 l2 rc2 cl2 fl2 (nB.mono (by simp)) (sB.mono (by simp)) hm2.1 hm2.2).use (fun _ m => m) ?_⟩
      rintro _ H7 ⟨rfl, P7⟩
      have L7 : h.length ≤ H7.length := by have := P7.length_le; first | omega | (simp only [List.length_append, List.length_cons, List.length_nil] at this; omega)
      have Q7 : H6.length + 1 ≤ H7.length := by have := P7.length_le; first | omega | (simp only [List.length_append, List.length_cons, List.length_nil] at this; omega)
      replace hc := hc.mono ((List.prefix_append _ _).trans P7)
      replace nB := nB.mono ((List.prefix_append _ _).trans P7)
      replace sB := sB.mono ((List.prefix_append _ _).trans P7)
      have bB := keep_get (h := H6 ++ _) hget_new P7
      try simp only [go_sem, Nat.reduceBEq, Nat.reduceAdd, Nat.reduceMul, Nat.reduceSub, Nat.reduceLeDiff, Nat.le_refl, implies_true, Nat.reduceLT, reduceIte, decide_true, decide_false, true_and, and_true, reduceCtorEq, Nat.mul_one, Int.reduceToNat, Int.reduceLE, Int.reduceLT, Int.reduceAdd, Int.reduceSub, Int.reduceMul, Int.cast_ofNat_Int, cast_zero_int, cast_one_int, Nat.reducePow, Nat.reduceEqDiff, Nat.reduceMod, Nat.zero_add, Nat.sub_zero, Nat.add_zero, bB, self_get bB, own_base L7, own_base0 L7, P7, Try.underlying4, and_self, bne_self_eq_false, decide_true]
      refine ⟨by kernel_rfl, (c_sBestHydrant _ _ N2 P2 l2 rc2 cl2 fl2 (nB.mono (by simp)) (sB.mono (by simp)) hm2.1 hm2.2).use (fun _ m => m) ?_⟩
      rintro _ H8 ⟨rfl, P8⟩
      have L8 : h.length ≤ H8.length := by have := P8.length_le; first | omega | (simp only [List.length_append, List.length_cons, List.length_nil] at this; omega)
      have Q8 : H7.length + 0 ≤ H8.length := by have := P8.length_le; first | omega | (simp only [List.length_append, List.length_cons, List.length_nil] at this; omega)
      replace hc := hc.mono P8
      replace nB := nB.mono P8
      replace sB := sB.mono P8
      replace bB := keep_get bB P8
      try simp only [go_sem, Nat.reduceBEq, Nat.reduceAdd, Nat.reduceMul, Nat.reduceSub, Nat.reduceLeDiff, Nat.le_refl, implies_true, Nat.reduceLT, reduceIte, decide_true, decide_false, true_and, and_true, reduceCtorEq, Nat.mul_one, Int.reduceToNat, Int.reduceLE, Int.reduceLT, Int.reduceAdd, Int.reduceSub, Int.reduceMul, Int.cast_ofNat_Int, cast_zero_int, cast_one_int, Nat.reducePow, Nat.reduceEqDiff, Nat.reduceMod, Nat.zero_add, Nat.sub_zero, Nat.add_zero, bB, self_get bB, own_base L8, own_base0 L8, P8, Try.underlying4, and_self, bne_self_eq_false, decide_true]
      have hWl : (weakRes N2 P2 l2 rc2 cl2).length ≤ 1048576 := by unfold weakRes; split; rename_i hh; have h1 : (weakL P2 l2 rc2.toNat (need cl2) N2.toNat).length ≤ N2.toNat := (by unfold weakL; rw [List.length_map]; exact Nat.le_trans (List.length_filter_le _ _) (by simp)); have h2 := hh.1.1.2.1; omega; simp
      refine ⟨by kernel_rfl, (c_ThirstyNodes _ _ N2 P2 l2 rc2 cl2 (nB.mono (by simp)) (sB.mono (by simp)) hm2.1 hm2.2).use (fun _ m => m) ?_⟩
      rintro _ H9 ⟨⟨vS, rfl, fS⟩, P9⟩
      have L9 : h.length ≤ H9.length := by have := P9.length_le; first | omega | (simp only [List.length_append, List.length_cons, List.length_nil] at this; omega)
      have Q9 : H8.length + 0 ≤ H9.length := by have := P9.length_le; first | omega | (simp only [List.length_append, List.length_cons, List.length_nil] at this; omega)
      replace hc := hc.mono P9
      replace nB := nB.mono P9
      replace sB := sB.mono P9
      replace bB := keep_get bB P9
      obtain ⟨uS, rfl, _⟩ := id fS
      try simp only [go_sem, Nat.reduceBEq, Nat.reduceAdd, Nat.reduceMul, Nat.reduceSub, Nat.reduceLeDiff, Nat.le_refl, implies_true, Nat.reduceLT, reduceIte, decide_true, decide_false, true_and, and_true, reduceCtorEq, Nat.mul_one, Int.reduceToNat, Int.reduceLE, Int.reduceLT, Int.reduceAdd, Int.reduceSub, Int.reduceMul, Int.cast_ofNat_Int, cast_zero_int, cast_one_int, Nat.reducePow, Nat.reduceEqDiff, Nat.reduceMod, Nat.zero_add, Nat.sub_zero, Nat.add_zero, bB, self_get bB, own_base L9, own_base0 L9, P9]
      refine ⟨by kernel_rfl, (c_sThirstyNodes _ _ N2 P2 l2 rc2 cl2 (nB.mono (by simp)) (sB.mono (by simp)) hm2.1 hm2.2).use (fun _ m => m) ?_⟩
      rintro _ H10 ⟨⟨vT, rfl, fT⟩, P10⟩
      have L10 : h.length ≤ H10.length := by have := P10.length_le; first | omega | (simp only [List.length_append, List.length_cons, List.length_nil] at this; omega)
      have Q10 : H9.length + 0 ≤ H10.length := by have := P10.length_le; first | omega | (simp only [List.length_append, List.length_cons, List.length_nil] at this; omega)
      replace hc := hc.mono P10
      replace nB := nB.mono P10
      replace sB := sB.mono P10
      replace fS := fS.mono P10
      replace bB := keep_get bB P10
      obtain ⟨uT, rfl, _⟩ := id fT
      try simp only [go_sem, Nat.reduceBEq, Nat.reduceAdd, Nat.reduceMul, Nat.reduceSub, Nat.reduceLeDiff, Nat.le_refl, implies_true, Nat.reduceLT, reduceIte, decide_true, decide_false, true_and, and_true, reduceCtorEq, Nat.mul_one, Int.reduceToNat, Int.reduceLE, Int.reduceLT, Int.reduceAdd, Int.reduceSub, Int.reduceMul, Int.cast_ofNat_Int, cast_zero_int, cast_one_int, Nat.reducePow, Nat.reduceEqDiff, Nat.reduceMod, Nat.zero_add, Nat.sub_zero, Nat.add_zero, bB, self_get bB, own_base L10, own_base0 L10, P10]
      refine ⟨by kernel_rfl, (c_rInts _ _ _ (fS.mono (by simp)).ai (fT.mono (by simp)).ai hWl).use (fun _ m => m) ?_⟩
      rintro _ _ ⟨rfl, rfl⟩
      try simp only [go_sem, Nat.reduceBEq, Nat.reduceAdd, Nat.reduceMul, Nat.reduceSub, Nat.reduceLeDiff, Nat.le_refl, implies_true, Nat.reduceLT, reduceIte, decide_true, decide_false, true_and, and_true, reduceCtorEq, Nat.mul_one, Int.reduceToNat, Int.reduceLE, Int.reduceLT, Int.reduceAdd, Int.reduceSub, Int.reduceMul, Int.cast_ofNat_Int, cast_zero_int, cast_one_int, Nat.reducePow, Nat.reduceEqDiff, Nat.reduceMod, Nat.zero_add, Nat.sub_zero, Nat.add_zero, bB, self_get bB, own_base L10, own_base0 L10, Try.underlying4, and_self, bne_self_eq_false, decide_true]
      by_cases hbk : bestOk N2 P2 l2 rc2 cl2 fl2
      · skip
        obtain ⟨b1, b2⟩ := best_le hbk
        try simp only [go_sem, Nat.reduceBEq, Nat.reduceAdd, Nat.reduceMul, Nat.reduceSub, Nat.reduceLeDiff, Nat.le_refl, implies_true, Nat.reduceLT, reduceIte, decide_true, decide_false, true_and, and_true, reduceCtorEq, Nat.mul_one, Int.reduceToNat, Int.reduceLE, Int.reduceLT, Int.reduceAdd, Int.reduceSub, Int.reduceMul, Int.cast_ofNat_Int, cast_zero_int, cast_one_int, Nat.reducePow, Nat.reduceEqDiff, Nat.reduceMod, Nat.zero_add, Nat.sub_zero, Nat.add_zero, bB, self_get bB, own_base L10, own_base0 L10, decb hbk, decb b1, show ¬ (((weakRes N2 P2 l2 rc2 cl2).length : Int) < (bestRes N2 P2 l2 rc2 cl2 fl2).2) by omega, Try.underlying4, and_self, bne_self_eq_false, decide_true]
        refine ⟨by kernel_rfl, (c_DrawFewestHydrants b n hc).use (fun _ m => m) ?_⟩
        rintro _ H11 ⟨⟨N3, P3, vC, l3, wC, nd3, cl3, rfl, nC, hP3, sC, hl3⟩, P11⟩
        have L11 : h.length ≤ H11.length := by have := P11.length_le; first | omega | (simp only [List.length_append, List.length_cons, List.length_nil] at this; omega)
        have Q11 : H10.length + 0 ≤ H11.length := by have := P11.length_le; first | omega | (simp only [List.length_append, List.length_cons, List.length_nil] at this; omega)
        replace hc := hc.mono P11
        obtain ⟨wC, rfl, ⟨⟨iC, rfl, _⟩, _⟩⟩ := id nC
        obtain ⟨aC, rfl⟩ := Sl.len2 sC
        try simp only [go_sem, Nat.reduceBEq, Nat.reduceAdd, Nat.reduceMul, Nat.reduceSub, Nat.reduceLeDiff, Nat.le_refl, implies_true, Nat.reduceLT, reduceIte, decide_true, decide_false, true_and, and_true, reduceCtorEq, Nat.mul_one, Int.reduceToNat, Int.reduceLE, Int.reduceLT, Int.reduceAdd, Int.reduceSub, Int.reduceMul, Int.cast_ofNat_Int, cast_zero_int, cast_one_int, Nat.reducePow, Nat.reduceEqDiff, Nat.reduceMod, Nat.zero_add, Nat.sub_zero, Nat.add_zero, own_base L11, own_base0 L11, P11]
        have hF : ((fewB N3 P3 l3 nd3 cl3).getD []).length ≤ 1048576 := by cases hf : fewB N3 P3 l3 nd3 cl3 with | none => simp | some d => have := (few_min hf).2.2.2.2.2; simp; omega
        refine ⟨by kernel_rfl, (c_FewestHydrants _ _ N3 P3 l3 nd3 cl3 (nC.mono (by simp)) (sC.mono (by simp)) (by omega) (by omega)).use (fun _ m => m) ?_⟩
        rintro _ H12 ⟨⟨vD, rfl, fD⟩, P12⟩
        have L12 : h.length ≤ H12.length := by have := P12.length_le; first | omega | (simp only [List.length_append, List.length_cons, List.length_nil] at this; omega)
        have Q12 : H11.length + 1 ≤ H12.length := by have := P12.length_le; first | omega | (simp only [List.length_append, List.length_cons, List.length_nil] at this; omega)
        replace hc := hc.mono ((List.prefix_append _ _).trans P12)
        replace nC := nC.mono ((List.prefix_append _ _).trans P12)
        replace sC := sC.mono ((List.prefix_append _ _).trans P12)
        have bC := keep_get (h := H11 ++ _) hget_new P12
        obtain ⟨uD, rfl, _⟩ := id fD
        try simp only [go_sem, Nat.reduceBEq, Nat.reduceAdd, Nat.reduceMul, Nat.reduceSub, Nat.reduceLeDiff, Nat.le_refl, implies_true, Nat.reduceLT, reduceIte, decide_true, decide_false, true_and, and_true, reduceCtorEq, Nat.mul_one, Int.reduceToNat, Int.reduceLE, Int.reduceLT, Int.reduceAdd, Int.reduceSub, Int.reduceMul, Int.cast_ofNat_Int, cast_zero_int, cast_one_int, Nat.reducePow, Nat.reduceEqDiff, Nat.reduceMod, Nat.zero_add, Nat.sub_zero, Nat.add_zero, bC, self_get bC, own_base L12, own_base0 L12, P12]
        refine ⟨by kernel_rfl, (c_sFewestHydrants _ _ N3 P3 l3 nd3 cl3 (nC.mono (by simp)) (sC.mono (by simp)) (by omega) (by omega)).use (fun _ m => m) ?_⟩
        rintro _ H13 ⟨⟨vE, rfl, fE⟩, P13⟩
        have L13 : h.length ≤ H13.length := by have := P13.length_le; first | omega | (simp only [List.length_append, List.length_cons, List.length_nil] at this; omega)
        have Q13 : H12.length + 0 ≤ H13.length := by have := P13.length_le; first | omega | (simp only [List.length_append, List.length_cons, List.length_nil] at this; omega)
        replace hc := hc.mono P13
        replace nC := nC.mono P13
        replace sC := sC.mono P13
        replace fD := fD.mono P13
        replace bC := keep_get bC P13
        obtain ⟨uE, rfl, _⟩ := id fE
        try simp only [go_sem, Nat.reduceBEq, Nat.reduceAdd, Nat.reduceMul, Nat.reduceSub, Nat.reduceLeDiff, Nat.le_refl, implies_true, Nat.reduceLT, reduceIte, decide_true, decide_false, true_and, and_true, reduceCtorEq, Nat.mul_one, Int.reduceToNat, Int.reduceLE, Int.reduceLT, Int.reduceAdd, Int.reduceSub, Int.reduceMul, Int.cast_ofNat_Int, cast_zero_int, cast_one_int, Nat.reducePow, Nat.reduceEqDiff, Nat.reduceMod, Nat.zero_add, Nat.sub_zero, Nat.add_zero, bC, self_get bC, own_base L13, own_base0 L13, P13]
        refine ⟨by kernel_rfl, (c_rInts _ _ _ (fD.mono (by simp)).ai (fE.mono (by simp)).ai hF).use (fun _ m => m) ?_⟩
        rintro _ _ ⟨rfl, rfl⟩
        try simp only [go_sem, Nat.reduceBEq, Nat.reduceAdd, Nat.reduceMul, Nat.reduceSub, Nat.reduceLeDiff, Nat.le_refl, implies_true, Nat.reduceLT, reduceIte, decide_true, decide_false, true_and, and_true, reduceCtorEq, Nat.mul_one, Int.reduceToNat, Int.reduceLE, Int.reduceLT, Int.reduceAdd, Int.reduceSub, Int.reduceMul, Int.cast_ofNat_Int, cast_zero_int, cast_one_int, Nat.reducePow, Nat.reduceEqDiff, Nat.reduceMod, Nat.zero_add, Nat.sub_zero, Nat.add_zero, bC, self_get bC, own_base L13, own_base0 L13, Try.underlying4, and_self, bne_self_eq_false, decide_true]
        cases hf : fewB N3 P3 l3 nd3 cl3 with
        | none =>
          try simp only [go_sem, Nat.reduceBEq, Nat.reduceAdd, Nat.reduceMul, Nat.reduceSub, Nat.reduceLeDiff, Nat.le_refl, implies_true, Nat.reduceLT, reduceIte, decide_true, decide_false, true_and, and_true, reduceCtorEq, Nat.mul_one, Int.reduceToNat, Int.reduceLE, Int.reduceLT, Int.reduceAdd, Int.reduceSub, Int.reduceMul, Int.cast_ofNat_Int, cast_zero_int, cast_one_int, Nat.reducePow, Nat.reduceEqDiff, Nat.reduceMod, Nat.zero_add, Nat.sub_zero, Nat.add_zero, bC, self_get bC, own_base L13, own_base0 L13, hf, Option.isSome_none, Option.getD_none, List.length_nil, Try.underlying4, and_self, bne_self_eq_false, decide_true]
        | some d =>
          obtain ⟨m1, m2, m3, m4, m5, m6⟩ := few_min hf
          rw [hf, Option.getD_some] at fD
          try simp only [go_sem, Nat.reduceBEq, Nat.reduceAdd, Nat.reduceMul, Nat.reduceSub, Nat.reduceLeDiff, Nat.le_refl, implies_true, Nat.reduceLT, reduceIte, decide_true, decide_false, true_and, and_true, reduceCtorEq, Nat.mul_one, Int.reduceToNat, Int.reduceLE, Int.reduceLT, Int.reduceAdd, Int.reduceSub, Int.reduceMul, Int.cast_ofNat_Int, cast_zero_int, cast_one_int, Nat.reducePow, Nat.reduceEqDiff, Nat.reduceMod, Nat.zero_add, Nat.sub_zero, Nat.add_zero, bC, self_get bC, own_base L13, own_base0 L13, hf, Option.isSome_some, Option.getD_some, Try.underlying4, and_self, bne_self_eq_false, decide_true]
          have aD := fD.ai
          refine vLoop.count mo d.length (fun i e h' => ∃ m : Int, e 35 = .slice aC l3.length 0 ∧ e 37 = .int .i64 cl3 ∧ e 38 = .slice uD d.length 0 ∧ e 42 = .int .i64 (sumF l3 (d.take i)) ∧ e 43 = .int .i64 m ∧ e 44 = .int .i64 i ∧ m ≤ 5000 ∧ 0 ≤ m ∧ (∀ x ∈ d.take i, m ≤ (l3.getD x.toNat hyd0).2) ∧ (m = 5000 ∨ ∃ x ∈ d.take i, (l3.getD x.toNat hyd0).2 = m) ∧ H13 = h') ?_ ?_
          · try simp only [go_sem, Nat.reduceBEq, Nat.reduceAdd, Nat.reduceMul, Nat.reduceSub, Nat.reduceLeDiff, Nat.le_refl, implies_true, Nat.reduceLT, reduceIte, decide_true, decide_false, true_and, and_true, reduceCtorEq, Nat.mul_one, Int.reduceToNat, Int.reduceLE, Int.reduceLT, Int.reduceAdd, Int.reduceSub, Int.reduceMul, Int.cast_ofNat_Int, cast_zero_int, cast_one_int, Nat.reducePow, Nat.reduceEqDiff, Nat.reduceMod, Nat.zero_add, Nat.sub_zero, Nat.add_zero, hf, Option.getD_some]
            exact ⟨5000, by simp [sumF], rfl, by simp, by simp, by simp, .inl rfl⟩
          · rintro i e _ hi ⟨m, e35, e37, e38, e42, e43, e44, g1, g2, g3, g4, rfl⟩
            try simp only [go_sem, Nat.reduceBEq, Nat.reduceAdd, Nat.reduceMul, Nat.reduceSub, Nat.reduceLeDiff, Nat.le_refl, implies_true, Nat.reduceLT, reduceIte, decide_true, decide_false, true_and, and_true, reduceCtorEq, Nat.mul_one, Int.reduceToNat, Int.reduceLE, Int.reduceLT, Int.reduceAdd, Int.reduceSub, Int.reduceMul, Int.cast_ofNat_Int, cast_zero_int, cast_one_int, Nat.reducePow, Nat.reduceEqDiff, Nat.reduceMod, Nat.zero_add, Nat.sub_zero, Nat.add_zero, bC, self_get bC, own_base L13, own_base0 L13, e35, e37, e38, e42, e43, e44]
            refine .intro (fun h1 => ?_) (fun h1 => ?_)
            · have hlt : i < d.length := by have := h1; simp at this; omega
              obtain ⟨id2, o2, K2, hv2, _, _, hk2, hd2, _, _, _, hat2⟩ := aD.at (by omega)
              obtain rfl : uD = some ⟨id2, o2, none⟩ := by simpa using hv2
              have hx := m2 d[i] (List.getElem_mem hlt)
              have hlt2 : d[i].toNat < (l3.map hyd).length := by simp; omega
              obtain ⟨id, o, K, hv, _, hk, hd, hb, hrow, hat⟩ := sC.at hlt2
              obtain rfl : aC = some ⟨id, o, none⟩ := by simpa using hv
              have q1 := hat 1 (by omega)
              rw [List.getElem_map] at q1
              simp only [hyd, List.getElem?_cons_zero, List.getElem?_cons_succ] at q1
              have hb1 := sumF_in (R := d.take i) m5 (fun x hx => m2 x (List.mem_of_mem_take hx))
              rw [List.length_take, Nat.min_eq_left (by omega)] at hb1
              have hb2 := m5 _ (List.getElem_mem (show d[i].toNat < l3.length by omega))
              have hs := sumF_take (l := l3) hlt
              rw [getDh (by omega)] at hs
              have w1 : IntKind.i64.wrap (sumF l3 (d.take i) + l3[d[i].toNat].2) = sumF l3 (d.take (i + 1)) := by rw [hs, wrap64 (by omega)]
              have k5 : IntKind.i64.wrap ((i : Int) + 1) = ((i + 1 : Nat) : Int) := by rw [wrap64 (by omega)]; rfl
              have hz : (i : Int) < d.length := by omega
              have ht : d.take (i + 1) = d.take i ++ [d[i]] := by rw [List.take_add_one, List.getElem?_eq_getElem hlt]; rfl
              have hg : (l3.getD d[i].toNat hyd0).2 = l3[d[i].toNat].2 := by rw [getDh (by omega)]
              by_cases h2 : l3[d[i].toNat].2 < m
              · try simp only [go_sem, Nat.reduceBEq, Nat.reduceAdd, Nat.reduceMul, Nat.reduceSub, Nat.reduceLeDiff, Nat.le_refl, implies_true, Nat.reduceLT, reduceIte, decide_true, decide_false, true_and, and_true, reduceCtorEq, Nat.mul_one, Int.reduceToNat, Int.reduceLE, Int.reduceLT, Int.reduceAdd, Int.reduceSub, Int.reduceMul, Int.cast_ofNat_Int, cast_zero_int, cast_one_int, Nat.reducePow, Nat.reduceEqDiff, Nat.reduceMod, Nat.zero_add, Nat.sub_zero, Nat.add_zero, e35, e37, e38, e42, e43, e44, hz, hk, hd, hk2, hd2, hat2 i hlt, show d[i] < (l3.length : Int) by omega, show 0 ≤ d[i] by omega, q1, w1, k5, h2]
                refine ⟨hlt, _, rfl, by omega, by omega, fun x hx => ?_, .inr ⟨d[i], by rw [ht]; exact List.mem_append_right _ (List.mem_singleton.2 rfl), hg⟩⟩
                rw [ht] at hx; rcases List.mem_append.1 hx with h3 | h3
                · have := g3 x h3; omega
                · obtain rfl : x = d[i] := by simpa using h3
                  omega
              · try simp only [go_sem, Nat.reduceBEq, Nat.reduceAdd, Nat.reduceMul, Nat.reduceSub, Nat.reduceLeDiff, Nat.le_refl, implies_true, Nat.reduceLT, reduceIte, decide_true, decide_false, true_and, and_true, reduceCtorEq, Nat.mul_one, Int.reduceToNat, Int.reduceLE, Int.reduceLT, Int.reduceAdd, Int.reduceSub, Int.reduceMul, Int.cast_ofNat_Int, cast_zero_int, cast_one_int, Nat.reducePow, Nat.reduceEqDiff, Nat.reduceMod, Nat.zero_add, Nat.sub_zero, Nat.add_zero, e35, e37, e38, e42, e43, e44, hz, hk, hd, hk2, hd2, hat2 i hlt, show d[i] < (l3.length : Int) by omega, show 0 ≤ d[i] by omega, q1, w1, k5, h2]
                refine ⟨hlt, m, rfl, g1, g2, fun x hx => ?_, ?_⟩
                · rw [ht] at hx; rcases List.mem_append.1 hx with h3 | h3
                  · exact g3 x h3
                  · obtain rfl : x = d[i] := by simpa using h3
                    omega
                · rcases g4 with h3 | ⟨x, h3, h4⟩
                  · exact .inl h3
                  · exact .inr ⟨x, by rw [ht]; exact List.mem_append_left _ h3, h4⟩
            · obtain rfl : i = d.length := by have := h1; simp at this; omega
              rw [List.take_length] at e42 g3 g4
              try simp only [go_sem, Nat.reduceBEq, Nat.reduceAdd, Nat.reduceMul, Nat.reduceSub, Nat.reduceLeDiff, Nat.le_refl, implies_true, Nat.reduceLT, reduceIte, decide_true, decide_false, true_and, and_true, reduceCtorEq, Nat.mul_one, Int.reduceToNat, Int.reduceLE, Int.reduceLT, Int.reduceAdd, Int.reduceSub, Int.reduceMul, Int.cast_ofNat_Int, cast_zero_int, cast_one_int, Nat.reducePow, Nat.reduceEqDiff, Nat.reduceMod, Nat.zero_add, Nat.sub_zero, Nat.add_zero, bC, self_get bC, own_base L13, own_base0 L13, e35, e37, e38, e42, e43, e44]
              refine ⟨by kernel_rfl, (c_ReserveFor _).use (fun _ m => m) ?_⟩
              rintro r _ ⟨hr, rfl⟩
              rw [reserve, if_pos m1] at hr
              subst hr
              have hb1 := sumF_in (R := d) m5 m2
              have hnd : 800 ≤ need cl3 := by unfold need; split; omega; split <;> omega
              have hmm : ∃ x ∈ d, (l3.getD x.toNat hyd0).2 = m := by
                rcases g4 with h3 | h3
                · cases d with
                  | nil => simp [sumF] at m3; omega
                  | cons x d =>
                    refine ⟨x, by simp, ?_⟩
                    have h5 := g3 x (by simp)
                    have h6 := m2 x (by simp)
                    have h7 := m5 _ (List.getElem_mem (show x.toNat < l3.length by omega))
                    rw [getDh (by omega)] at h5 ⊢
                    omega
                · exact h3
              obtain ⟨x, hx, hxm⟩ := hmm
              have h8 := m4 x hx
              rw [hxm] at h8
              have w5 : IntKind.i64.wrap (sumF l3 d - m) = sumF l3 d - m := wrap64 (by omega)
              try simp only [go_sem, Nat.reduceBEq, Nat.reduceAdd, Nat.reduceMul, Nat.reduceSub, Nat.reduceLeDiff, Nat.le_refl, implies_true, Nat.reduceLT, reduceIte, decide_true, decide_false, true_and, and_true, reduceCtorEq, Nat.mul_one, Int.reduceToNat, Int.reduceLE, Int.reduceLT, Int.reduceAdd, Int.reduceSub, Int.reduceMul, Int.cast_ofNat_Int, cast_zero_int, cast_one_int, Nat.reducePow, Nat.reduceEqDiff, Nat.reduceMod, Nat.zero_add, Nat.sub_zero, Nat.add_zero, e42, e43, w5, m3, h8]
      · skip
        try simp only [go_sem, Nat.reduceBEq, Nat.reduceAdd, Nat.reduceMul, Nat.reduceSub, Nat.reduceLeDiff, Nat.le_refl, implies_true, Nat.reduceLT, reduceIte, decide_true, decide_false, true_and, and_true, reduceCtorEq, Nat.mul_one, Int.reduceToNat, Int.reduceLE, Int.reduceLT, Int.reduceAdd, Int.reduceSub, Int.reduceMul, Int.cast_ofNat_Int, cast_zero_int, cast_one_int, Nat.reducePow, Nat.reduceEqDiff, Nat.reduceMod, Nat.zero_add, Nat.sub_zero, Nat.add_zero, bB, self_get bB, own_base L10, own_base0 L10, dect hbk, Try.underlying4, and_self, bne_self_eq_false, decide_true]
        refine ⟨by kernel_rfl, (c_DrawFewestHydrants b n hc).use (fun _ m => m) ?_⟩
        rintro _ H11 ⟨⟨N3, P3, vC, l3, wC, nd3, cl3, rfl, nC, hP3, sC, hl3⟩, P11⟩
        have L11 : h.length ≤ H11.length := by have := P11.length_le; first | omega | (simp only [List.length_append, List.length_cons, List.length_nil] at this; omega)
        have Q11 : H10.length + 0 ≤ H11.length := by have := P11.length_le; first | omega | (simp only [List.length_append, List.length_cons, List.length_nil] at this; omega)
        replace hc := hc.mono P11
        obtain ⟨wC, rfl, ⟨⟨iC, rfl, _⟩, _⟩⟩ := id nC
        obtain ⟨aC, rfl⟩ := Sl.len2 sC
        try simp only [go_sem, Nat.reduceBEq, Nat.reduceAdd, Nat.reduceMul, Nat.reduceSub, Nat.reduceLeDiff, Nat.le_refl, implies_true, Nat.reduceLT, reduceIte, decide_true, decide_false, true_and, and_true, reduceCtorEq, Nat.mul_one, Int.reduceToNat, Int.reduceLE, Int.reduceLT, Int.reduceAdd, Int.reduceSub, Int.reduceMul, Int.cast_ofNat_Int, cast_zero_int, cast_one_int, Nat.reducePow, Nat.reduceEqDiff, Nat.reduceMod, Nat.zero_add, Nat.sub_zero, Nat.add_zero, own_base L11, own_base0 L11, P11]
        have hF : ((fewB N3 P3 l3 nd3 cl3).getD []).length ≤ 1048576 := by cases hf : fewB N3 P3 l3 nd3 cl3 with | none => simp | some d => have := (few_min hf).2.2.2.2.2; simp; omega
        refine ⟨by kernel_rfl, (c_FewestHydrants _ _ N3 P3 l3 nd3 cl3 (nC.mono (by simp)) (sC.mono (by simp)) (by omega) (by omega)).use (fun _ m => m) ?_⟩
        rintro _ H12 ⟨⟨vD, rfl, fD⟩, P12⟩
        have L12 : h.length ≤ H12.length := by have := P12.length_le; first | omega | (simp only [List.length_append, List.length_cons, List.length_nil] at this; omega)
        have Q12 : H11.length + 1 ≤ H12.length := by have := P12.length_le; first | omega | (simp only [List.length_append, List.length_cons, List.length_nil] at this; omega)
        replace hc := hc.mono ((List.prefix_append _ _).trans P12)
        replace nC := nC.mono ((List.prefix_append _ _).trans P12)
        replace sC := sC.mono ((List.prefix_append _ _).trans P12)
        have bC := keep_get (h := H11 ++ _) hget_new P12
        obtain ⟨uD, rfl, _⟩ := id fD
        try simp only [go_sem, Nat.reduceBEq, Nat.reduceAdd, Nat.reduceMul, Nat.reduceSub, Nat.reduceLeDiff, Nat.le_refl, implies_true, Nat.reduceLT, reduceIte, decide_true, decide_false, true_and, and_true, reduceCtorEq, Nat.mul_one, Int.reduceToNat, Int.reduceLE, Int.reduceLT, Int.reduceAdd, Int.reduceSub, Int.reduceMul, Int.cast_ofNat_Int, cast_zero_int, cast_one_int, Nat.reducePow, Nat.reduceEqDiff, Nat.reduceMod, Nat.zero_add, Nat.sub_zero, Nat.add_zero, bC, self_get bC, own_base L12, own_base0 L12, P12]
        refine ⟨by kernel_rfl, (c_sFewestHydrants _ _ N3 P3 l3 nd3 cl3 (nC.mono (by simp)) (sC.mono (by simp)) (by omega) (by omega)).use (fun _ m => m) ?_⟩
        rintro _ H13 ⟨⟨vE, rfl, fE⟩, P13⟩
        have L13 : h.length ≤ H13.length := by have := P13.length_le; first | omega | (simp only [List.length_append, List.length_cons, List.length_nil] at this; omega)
        have Q13 : H12.length + 0 ≤ H13.length := by have := P13.length_le; first | omega | (simp only [List.length_append, List.length_cons, List.length_nil] at this; omega)
        replace hc := hc.mono P13
        replace nC := nC.mono P13
        replace sC := sC.mono P13
        replace fD := fD.mono P13
        replace bC := keep_get bC P13
        obtain ⟨uE, rfl, _⟩ := id fE
        try simp only [go_sem, Nat.reduceBEq, Nat.reduceAdd, Nat.reduceMul, Nat.reduceSub, Nat.reduceLeDiff, Nat.le_refl, implies_true, Nat.reduceLT, reduceIte, decide_true, decide_false, true_and, and_true, reduceCtorEq, Nat.mul_one, Int.reduceToNat, Int.reduceLE, Int.reduceLT, Int.reduceAdd, Int.reduceSub, Int.reduceMul, Int.cast_ofNat_Int, cast_zero_int, cast_one_int, Nat.reducePow, Nat.reduceEqDiff, Nat.reduceMod, Nat.zero_add, Nat.sub_zero, Nat.add_zero, bC, self_get bC, own_base L13, own_base0 L13, P13]
        refine ⟨by kernel_rfl, (c_rInts _ _ _ (fD.mono (by simp)).ai (fE.mono (by simp)).ai hF).use (fun _ m => m) ?_⟩
        rintro _ _ ⟨rfl, rfl⟩
        try simp only [go_sem, Nat.reduceBEq, Nat.reduceAdd, Nat.reduceMul, Nat.reduceSub, Nat.reduceLeDiff, Nat.le_refl, implies_true, Nat.reduceLT, reduceIte, decide_true, decide_false, true_and, and_true, reduceCtorEq, Nat.mul_one, Int.reduceToNat, Int.reduceLE, Int.reduceLT, Int.reduceAdd, Int.reduceSub, Int.reduceMul, Int.cast_ofNat_Int, cast_zero_int, cast_one_int, Nat.reducePow, Nat.reduceEqDiff, Nat.reduceMod, Nat.zero_add, Nat.sub_zero, Nat.add_zero, bC, self_get bC, own_base L13, own_base0 L13, Try.underlying4, and_self, bne_self_eq_false, decide_true]
        cases hf : fewB N3 P3 l3 nd3 cl3 with
        | none =>
          try simp only [go_sem, Nat.reduceBEq, Nat.reduceAdd, Nat.reduceMul, Nat.reduceSub, Nat.reduceLeDiff, Nat.le_refl, implies_true, Nat.reduceLT, reduceIte, decide_true, decide_false, true_and, and_true, reduceCtorEq, Nat.mul_one, Int.reduceToNat, Int.reduceLE, Int.reduceLT, Int.reduceAdd, Int.reduceSub, Int.reduceMul, Int.cast_ofNat_Int, cast_zero_int, cast_one_int, Nat.reducePow, Nat.reduceEqDiff, Nat.reduceMod, Nat.zero_add, Nat.sub_zero, Nat.add_zero, bC, self_get bC, own_base L13, own_base0 L13, hf, Option.isSome_none, Option.getD_none, List.length_nil, Try.underlying4, and_self, bne_self_eq_false, decide_true]
        | some d =>
          obtain ⟨m1, m2, m3, m4, m5, m6⟩ := few_min hf
          rw [hf, Option.getD_some] at fD
          try simp only [go_sem, Nat.reduceBEq, Nat.reduceAdd, Nat.reduceMul, Nat.reduceSub, Nat.reduceLeDiff, Nat.le_refl, implies_true, Nat.reduceLT, reduceIte, decide_true, decide_false, true_and, and_true, reduceCtorEq, Nat.mul_one, Int.reduceToNat, Int.reduceLE, Int.reduceLT, Int.reduceAdd, Int.reduceSub, Int.reduceMul, Int.cast_ofNat_Int, cast_zero_int, cast_one_int, Nat.reducePow, Nat.reduceEqDiff, Nat.reduceMod, Nat.zero_add, Nat.sub_zero, Nat.add_zero, bC, self_get bC, own_base L13, own_base0 L13, hf, Option.isSome_some, Option.getD_some, Try.underlying4, and_self, bne_self_eq_false, decide_true]
          have aD := fD.ai
          refine vLoop.count mo d.length (fun i e h' => ∃ m : Int, e 35 = .slice aC l3.length 0 ∧ e 37 = .int .i64 cl3 ∧ e 38 = .slice uD d.length 0 ∧ e 42 = .int .i64 (sumF l3 (d.take i)) ∧ e 43 = .int .i64 m ∧ e 44 = .int .i64 i ∧ m ≤ 5000 ∧ 0 ≤ m ∧ (∀ x ∈ d.take i, m ≤ (l3.getD x.toNat hyd0).2) ∧ (m = 5000 ∨ ∃ x ∈ d.take i, (l3.getD x.toNat hyd0).2 = m) ∧ H13 = h') ?_ ?_
          · try simp only [go_sem, Nat.reduceBEq, Nat.reduceAdd, Nat.reduceMul, Nat.reduceSub, Nat.reduceLeDiff, Nat.le_refl, implies_true, Nat.reduceLT, reduceIte, decide_true, decide_false, true_and, and_true, reduceCtorEq, Nat.mul_one, Int.reduceToNat, Int.reduceLE, Int.reduceLT, Int.reduceAdd, Int.reduceSub, Int.reduceMul, Int.cast_ofNat_Int, cast_zero_int, cast_one_int, Nat.reducePow, Nat.reduceEqDiff, Nat.reduceMod, Nat.zero_add, Nat.sub_zero, Nat.add_zero, hf, Option.getD_some]
            exact ⟨5000, by simp [sumF], rfl, by simp, by simp, by simp, .inl rfl⟩
          · rintro i e _ hi ⟨m, e35, e37, e38, e42, e43, e44, g1, g2, g3, g4, rfl⟩
            try simp only [go_sem, Nat.reduceBEq, Nat.reduceAdd, Nat.reduceMul, Nat.reduceSub, Nat.reduceLeDiff, Nat.le_refl, implies_true, Nat.reduceLT, reduceIte, decide_true, decide_false, true_and, and_true, reduceCtorEq, Nat.mul_one, Int.reduceToNat, Int.reduceLE, Int.reduceLT, Int.reduceAdd, Int.reduceSub, Int.reduceMul, Int.cast_ofNat_Int, cast_zero_int, cast_one_int, Nat.reducePow, Nat.reduceEqDiff, Nat.reduceMod, Nat.zero_add, Nat.sub_zero, Nat.add_zero, bC, self_get bC, own_base L13, own_base0 L13, e35, e37, e38, e42, e43, e44]
            refine .intro (fun h1 => ?_) (fun h1 => ?_)
            · have hlt : i < d.length := by have := h1; simp at this; omega
              obtain ⟨id2, o2, K2, hv2, _, _, hk2, hd2, _, _, _, hat2⟩ := aD.at (by omega)
              obtain rfl : uD = some ⟨id2, o2, none⟩ := by simpa using hv2
              have hx := m2 d[i] (List.getElem_mem hlt)
              have hlt2 : d[i].toNat < (l3.map hyd).length := by simp; omega
              obtain ⟨id, o, K, hv, _, hk, hd, hb, hrow, hat⟩ := sC.at hlt2
              obtain rfl : aC = some ⟨id, o, none⟩ := by simpa using hv
              have q1 := hat 1 (by omega)
              rw [List.getElem_map] at q1
              simp only [hyd, List.getElem?_cons_zero, List.getElem?_cons_succ] at q1
              have hb1 := sumF_in (R := d.take i) m5 (fun x hx => m2 x (List.mem_of_mem_take hx))
              rw [List.length_take, Nat.min_eq_left (by omega)] at hb1
              have hb2 := m5 _ (List.getElem_mem (show d[i].toNat < l3.length by omega))
              have hs := sumF_take (l := l3) hlt
              rw [getDh (by omega)] at hs
              have w1 : IntKind.i64.wrap (sumF l3 (d.take i) + l3[d[i].toNat].2) = sumF l3 (d.take (i + 1)) := by rw [hs, wrap64 (by omega)]
              have k5 : IntKind.i64.wrap ((i : Int) + 1) = ((i + 1 : Nat) : Int) := by rw [wrap64 (by omega)]; rfl
              have hz : (i : Int) < d.length := by omega
              have ht : d.take (i + 1) = d.take i ++ [d[i]] := by rw [List.take_add_one, List.getElem?_eq_getElem hlt]; rfl
              have hg : (l3.getD d[i].toNat hyd0).2 = l3[d[i].toNat].2 := by rw [getDh (by omega)]
              by_cases h2 : l3[d[i].toNat].2 < m
              · try simp only [go_sem, Nat.reduceBEq, Nat.reduceAdd, Nat.reduceMul, Nat.reduceSub, Nat.reduceLeDiff, Nat.le_refl, implies_true, Nat.reduceLT, reduceIte, decide_true, decide_false, true_and, and_true, reduceCtorEq, Nat.mul_one, Int.reduceToNat, Int.reduceLE, Int.reduceLT, Int.reduceAdd, Int.reduceSub, Int.reduceMul, Int.cast_ofNat_Int, cast_zero_int, cast_one_int, Nat.reducePow, Nat.reduceEqDiff, Nat.reduceMod, Nat.zero_add, Nat.sub_zero, Nat.add_zero, e35, e37, e38, e42, e43, e44, hz, hk, hd, hk2, hd2, hat2 i hlt, show d[i] < (l3.length : Int) by omega, show 0 ≤ d[i] by omega, q1, w1, k5, h2]
                refine ⟨hlt, _, rfl, by omega, by omega, fun x hx => ?_, .inr ⟨d[i], by rw [ht]; exact List.mem_append_right _ (List.mem_singleton.2 rfl), hg⟩⟩
                rw [ht] at hx; rcases List.mem_append.1 hx with h3 | h3
                · have := g3 x h3; omega
                · obtain rfl : x = d[i] := by simpa using h3
                  omega
              · try simp only [go_sem, Nat.reduceBEq, Nat.reduceAdd, Nat.reduceMul, Nat.reduceSub, Nat.reduceLeDiff, Nat.le_refl, implies_true, Nat.reduceLT, reduceIte, decide_true, decide_false, true_and, and_true, reduceCtorEq, Nat.mul_one, Int.reduceToNat, Int.reduceLE, Int.reduceLT, Int.reduceAdd, Int.reduceSub, Int.reduceMul, Int.cast_ofNat_Int, cast_zero_int, cast_one_int, Nat.reducePow, Nat.reduceEqDiff, Nat.reduceMod, Nat.zero_add, Nat.sub_zero, Nat.add_zero, e35, e37, e38, e42, e43, e44, hz, hk, hd, hk2, hd2, hat2 i hlt, show d[i] < (l3.length : Int) by omega, show 0 ≤ d[i] by omega, q1, w1, k5, h2]
                refine ⟨hlt, m, rfl, g1, g2, fun x hx => ?_, ?_⟩
                · rw [ht] at hx; rcases List.mem_append.1 hx with h3 | h3
                  · exact g3 x h3
                  · obtain rfl : x = d[i] := by simpa using h3
                    omega
                · rcases g4 with h3 | ⟨x, h3, h4⟩
                  · exact .inl h3
                  · exact .inr ⟨x, by rw [ht]; exact List.mem_append_left _ h3, h4⟩
            · obtain rfl : i = d.length := by have := h1; simp at this; omega
              rw [List.take_length] at e42 g3 g4
              try simp only [go_sem, Nat.reduceBEq, Nat.reduceAdd, Nat.reduceMul, Nat.reduceSub, Nat.reduceLeDiff, Nat.le_refl, implies_true, Nat.reduceLT, reduceIte, decide_true, decide_false, true_and, and_true, reduceCtorEq, Nat.mul_one, Int.reduceToNat, Int.reduceLE, Int.reduceLT, Int.reduceAdd, Int.reduceSub, Int.reduceMul, Int.cast_ofNat_Int, cast_zero_int, cast_one_int, Nat.reducePow, Nat.reduceEqDiff, Nat.reduceMod, Nat.zero_add, Nat.sub_zero, Nat.add_zero, bC, self_get bC, own_base L13, own_base0 L13, e35, e37, e38, e42, e43, e44]
              refine ⟨by kernel_rfl, (c_ReserveFor _).use (fun _ m => m) ?_⟩
              rintro r _ ⟨hr, rfl⟩
              rw [reserve, if_pos m1] at hr
              subst hr
              have hb1 := sumF_in (R := d) m5 m2
              have hnd : 800 ≤ need cl3 := by unfold need; split; omega; split <;> omega
              have hmm : ∃ x ∈ d, (l3.getD x.toNat hyd0).2 = m := by
                rcases g4 with h3 | h3
                · cases d with
                  | nil => simp [sumF] at m3; omega
                  | cons x d =>
                    refine ⟨x, by simp, ?_⟩
                    have h5 := g3 x (by simp)
                    have h6 := m2 x (by simp)
                    have h7 := m5 _ (List.getElem_mem (show x.toNat < l3.length by omega))
                    rw [getDh (by omega)] at h5 ⊢
                    omega
                · exact h3
              obtain ⟨x, hx, hxm⟩ := hmm
              have h8 := m4 x hx
              rw [hxm] at h8
              have w5 : IntKind.i64.wrap (sumF l3 d - m) = sumF l3 d - m := wrap64 (by omega)
              try simp only [go_sem, Nat.reduceBEq, Nat.reduceAdd, Nat.reduceMul, Nat.reduceSub, Nat.reduceLeDiff, Nat.le_refl, implies_true, Nat.reduceLT, reduceIte, decide_true, decide_false, true_and, and_true, reduceCtorEq, Nat.mul_one, Int.reduceToNat, Int.reduceLE, Int.reduceLT, Int.reduceAdd, Int.reduceSub, Int.reduceMul, Int.cast_ofNat_Int, cast_zero_int, cast_one_int, Nat.reducePow, Nat.reduceEqDiff, Nat.reduceMod, Nat.zero_add, Nat.sub_zero, Nat.add_zero, e42, e43, w5, m3, h8]
end

theorem a_FnHydrants (h : Heap) (a : List Value) (ft : FitsAll h [.slice (.int .u8)] a) : vCall [] Try.prog (fun _ => False) 6 a h (fun r _ => r = .bool true) := by
  obtain ⟨v, vs, rfl, f, g⟩ := ft.cons
  obtain rfl := g.nil
  obtain ⟨b, n, rfl, hc⟩ := Fits.code f
  exact l_FnHydrants b n hc
end Go.Proofs.Ytjgekhahklidcaa
