
/- The fewest hydrants that give enough: both sides. No condition. -/
import Derived.Test.YtjgekhahklidcaaHyd4
import Derived.Test.YtjgekhahklidcaaSub
namespace Go.Proofs.Ytjgekhahklidcaa
open Go.HH
set_option linter.unusedSimpArgs false
set_option linter.unusedVariables false

/-- One subset is weighed. -/
def fstep (L : List Int) (l : List Hyd) (nd : Int) (b : Option (List Int)) (s : Nat) : Option (List Int) :=
  if sumF l (choice L s L.length) < nd then b else match b with
    | none => some (choice L s L.length)
    | some d => if (choice L s L.length).length < d.length ∨ ((choice L s L.length).length = d.length ∧ lexL (choice L s L.length) d = true) then some (choice L s L.length) else some d
def fbest (L : List Int) (l : List Hyd) (nd : Int) : Nat → Option (List Int)
  | 0 => none
  | s + 1 => fstep L l nd (fbest L l nd s) s
theorem fbest_from {L : List Int} {l : List Hyd} {nd : Int} : ∀ {n : Nat} {d : List Int}, fbest L l nd n = some d → ∃ s, s < n ∧ d = choice L s L.length ∧ ¬ sumF l d < nd
  | 0, d, h => by simp [fbest] at h
  | n + 1, d, h => by
    unfold fbest fstep at h
    split at h
    · obtain ⟨s, h1, h2⟩ := fbest_from h; exact ⟨s, by omega, h2⟩
    · rename_i hn
      split at h
      · simp only [Option.some.injEq] at h; subst h; exact ⟨n, by omega, rfl, hn⟩
      · rename_i d' hd'
        split at h
        · simp only [Option.some.injEq] at h; subst h; exact ⟨n, by omega, rfl, hn⟩
        · simp only [Option.some.injEq] at h; subst h
          obtain ⟨s, h1, h2⟩ := fbest_from hd'; exact ⟨s, by omega, h2⟩
theorem fbest_len {L : List Int} {l : List Hyd} {nd : Int} {n : Nat} : ((fbest L l nd n).getD []).length ≤ L.length := by
  cases h : fbest L l nd n with
  | none => simp
  | some d =>
    obtain ⟨s, _, rfl, _⟩ := fbest_from h
    exact choice_len
def fewOk (N : Int) (P : List Pip) (l : List Hyd) (nd cl : Int) : Prop := canR N P l 0 ∧ (1 ≤ nd ∧ nd ≤ N) ∧ 1 ≤ cl ∧ cl ≤ 3
instance {N : Int} {P : List Pip} {l : List Hyd} {nd cl : Int} : Decidable (fewOk N P l nd cl) := by unfold fewOk; infer_instance
def fewB (N : Int) (P : List Pip) (l : List Hyd) (nd cl : Int) : Option (List Int) := if fewOk N P l nd cl then fbest (reachA P l nd 10) l (need cl) (2 ^ (reachA P l nd 10).length) else none

section
variable {h : Heap} {M : Nat → Prop}

theorem c_l24Less {n m : Nat} (v w : Value) (a b : List Int) (s : AI n h v a) (s' : AI m h w b) (hab : a.length = b.length) (hmax : a.length ≤ 1048576) :
    vCall [] Try.prog M 107 [v, w] h (fun r h' => r = .bool (lexL a b) ∧ h = h') := by
  obtain ⟨p, rfl⟩ := s.len
  obtain ⟨q, rfl⟩ := s'.len
  refine body_of mo Try.func107 rfl (by kernel_rfl) (Nat.le_of_ble_eq_true (by kernel_rfl)) rfl ?_
  simp only [go_sem, Nat.reduceBEq, Nat.reduceAdd, Nat.reduceMul, Nat.reduceSub, Nat.reduceLeDiff, Nat.le_refl, implies_true, Nat.reduceLT, reduceIte, decide_true, decide_false, true_and, and_true, reduceCtorEq, Nat.mul_one, Int.reduceToNat, Int.reduceLE, Int.reduceLT, Int.reduceAdd, Int.reduceSub, Int.reduceMul, Int.cast_ofNat_Int, cast_zero_int, cast_one_int, Nat.reducePow, Nat.reduceEqDiff, Nat.reduceMod, Nat.zero_add, Nat.sub_zero, Nat.add_zero]
  refine vLoop.count mo a.length (fun i e h' => Regs e [(0, .slice p a.length 0), (1, .slice q b.length 0), (5, .int .i64 i)] ∧ HeapIs h' h ∧
    ∀ (j : Nat) (h1 : j < a.length) (h2 : j < b.length), j < i → a[j] = b[j]) ?_ ?_
  · exact ⟨⟨rfl, rfl, rfl, trivial⟩, .rfl, fun j _ _ hj => absurd hj (by omega)⟩
  · rintro i e H hi ⟨⟨e0, e1, e5, _⟩, rfl, hsame⟩
    have hd := lexL_drop hi (by omega) hsame
    simp only [go_sem, Nat.reduceBEq, Nat.reduceAdd, Nat.reduceMul, Nat.reduceSub, Nat.reduceLeDiff, Nat.le_refl, implies_true, Nat.reduceLT, reduceIte, decide_true, decide_false, true_and, and_true, reduceCtorEq, Nat.mul_one, Int.reduceToNat, Int.reduceLE, Int.reduceLT, Int.reduceAdd, Int.reduceSub, Int.reduceMul, Int.cast_ofNat_Int, cast_zero_int, cast_one_int, Nat.reducePow, Nat.reduceEqDiff, Nat.reduceMod, Nat.zero_add, Nat.sub_zero, Nat.add_zero, e0, e1, e5]
    by_cases hlt : i < a.length
    · have ws := wsucc hlt (by omega)
      have hz : (i : Int) < a.length := by omega
      have h2 : i < b.length := by omega
      obtain ⟨id, o, k, hv, _, _, hk, hkd, _, _, _, hat⟩ := s.at (Nat.zero_lt_of_lt hlt)
      obtain rfl : p = some ⟨id, o, none⟩ := by simpa using hv
      obtain ⟨id2, o2, k2, hv2, _, _, hk2, hkd2, _, _, _, hat2⟩ := s'.at (Nat.zero_lt_of_lt h2)
      obtain rfl : q = some ⟨id2, o2, none⟩ := by simpa using hv2
      have hz2 : (i : Int) < b.length := by omega
      rw [List.drop_eq_getElem_cons hlt, List.drop_eq_getElem_cons h2, lexL] at hd
      simp only [go_sem, Nat.reduceBEq, Nat.reduceAdd, Nat.reduceMul, Nat.reduceSub, Nat.reduceLeDiff, Nat.le_refl, implies_true, Nat.reduceLT, reduceIte, decide_true, decide_false, true_and, and_true, reduceCtorEq, Nat.mul_one, Int.reduceToNat, Int.reduceLE, Int.reduceLT, Int.reduceAdd, Int.reduceSub, Int.reduceMul, Int.cast_ofNat_Int, cast_zero_int, cast_one_int, Nat.reducePow, Nat.reduceEqDiff, Nat.reduceMod, Nat.zero_add, Nat.sub_zero, Nat.add_zero, e0, e1, e5, hz, hz2, hk, hkd, hat i hlt, hk2, hkd2, hat2 i h2]
      by_cases c1 : a[i] = b[i]
      · simp only [go_sem, Nat.reduceBEq, Nat.reduceAdd, Nat.reduceMul, Nat.reduceSub, Nat.reduceLeDiff, Nat.le_refl, implies_true, Nat.reduceLT, reduceIte, decide_true, decide_false, true_and, and_true, reduceCtorEq, Nat.mul_one, Int.reduceToNat, Int.reduceLE, Int.reduceLT, Int.reduceAdd, Int.reduceSub, Int.reduceMul, Int.cast_ofNat_Int, cast_zero_int, cast_one_int, Nat.reducePow, Nat.reduceEqDiff, Nat.reduceMod, Nat.zero_add, Nat.sub_zero, Nat.add_zero, e0, e1, e5, show (a[i] != b[i]) = false by simpa using c1]
        refine ⟨hlt, ⟨e0, e1, congrArg _ ws, trivial⟩, .rfl, fun j h1 h2 hj => ?_⟩
        by_cases hji : j < i
        · exact hsame j h1 h2 hji
        · obtain rfl : j = i := by omega
          exact c1
      · simp only [go_sem, Nat.reduceBEq, Nat.reduceAdd, Nat.reduceMul, Nat.reduceSub, Nat.reduceLeDiff, Nat.le_refl, implies_true, Nat.reduceLT, reduceIte, decide_true, decide_false, true_and, and_true, reduceCtorEq, Nat.mul_one, Int.reduceToNat, Int.reduceLE, Int.reduceLT, Int.reduceAdd, Int.reduceSub, Int.reduceMul, Int.cast_ofNat_Int, cast_zero_int, cast_one_int, Nat.reducePow, Nat.reduceEqDiff, Nat.reduceMod, Nat.zero_add, Nat.sub_zero, Nat.add_zero, e0, e1, e5, show (a[i] != b[i]) = true by simpa using c1, hz, hz2, hk, hkd, hat i hlt, hk2, hkd2, hat2 i h2]
        rw [hd, if_neg c1]
    · obtain rfl : i = a.length := by omega
      rw [List.drop_length, List.drop_of_length_le (by omega)] at hd
      simp only [go_sem, Nat.reduceBEq, Nat.reduceAdd, Nat.reduceMul, Nat.reduceSub, Nat.reduceLeDiff, Nat.le_refl, implies_true, Nat.reduceLT, reduceIte, decide_true, decide_false, true_and, and_true, reduceCtorEq, Nat.mul_one, Int.reduceToNat, Int.reduceLE, Int.reduceLT, Int.reduceAdd, Int.reduceSub, Int.reduceMul, Int.cast_ofNat_Int, cast_zero_int, cast_one_int, Nat.reducePow, Nat.reduceEqDiff, Nat.reduceMod, Nat.zero_add, Nat.sub_zero, Nat.add_zero, e0, e1, e5, show ¬ ((a.length : Int) < a.length) by omega]
      rw [hd]; rfl

theorem c_FewestHydrants {n : Nat} (v vl : Value) (N : Int) (P : List Pip) (l : List Hyd) (nd cl : Int) (hv : NA n h v N P) (sl : Sl h 2 vl (l.map hyd)) (hmP : P.length ≤ 1048576) (hml : l.length ≤ 1048576) :
    vCall [] Try.prog M 57 [v, vl, .int .i64 nd, .int .i64 cl] h (fun r h' => (∃ w, r = .tuple #[w, .bool (fewB N P l nd cl).isSome] ∧ FI h.length h'.length h' w ((fewB N P l nd cl).getD [])) ∧ h <+: h') := by
  have hv0 := id hv
  obtain ⟨w, rfl, _⟩ := hv0
  refine body_of mo Try.func57 rfl (by kernel_rfl) (Nat.le_of_ble_eq_true (by kernel_rfl)) rfl ?_
  simp only [go_sem, Nat.reduceBEq, Nat.reduceAdd, Nat.reduceMul, Nat.reduceSub, Nat.reduceLeDiff, Nat.le_refl, implies_true, Nat.reduceLT, reduceIte, decide_true, decide_false, true_and, and_true, reduceCtorEq, Nat.mul_one, Int.reduceToNat, Int.reduceLE, Int.reduceLT, Int.reduceAdd, Int.reduceSub, Int.reduceMul, Int.cast_ofNat_Int, cast_zero_int, cast_one_int, Nat.reducePow, Nat.reduceEqDiff, Nat.reduceMod, Nat.zero_add, Nat.sub_zero, Nat.add_zero]
  refine ⟨by kernel_rfl, (c_canReach _ _ N P l 0 (hv.mono (by simp)) (sl.mono (by simp)) hmP hml).use (fun _ m => m) ?_⟩
  rintro _ _ ⟨rfl, ⟨t, rfl⟩⟩
  simp only [go_sem, Nat.reduceBEq, Nat.reduceAdd, Nat.reduceMul, Nat.reduceSub, Nat.reduceLeDiff, Nat.le_refl, implies_true, Nat.reduceLT, reduceIte, decide_true, decide_false, true_and, and_true, reduceCtorEq, Nat.mul_one, Int.reduceToNat, Int.reduceLE, Int.reduceLT, Int.reduceAdd, Int.reduceSub, Int.reduceMul, Int.cast_ofNat_Int, cast_zero_int, cast_one_int, Nat.reducePow, Nat.reduceEqDiff, Nat.reduceMod, Nat.zero_add, Nat.sub_zero, Nat.add_zero]
  have bad : ¬ fewOk N P l nd cl → ∀ (m : Nat) (H : Heap) (a : Option Addr), ∃ w, (Value.tuple #[Value.slice a 0 0, .bool false]) = .tuple #[w, .bool (fewB N P l nd cl).isSome] ∧ FI h.length m H w ((fewB N P l nd cl).getD []) := fun hn m H a =>
    ⟨_, by rw [fewB, if_neg hn]; rfl, by rw [fewB, if_neg hn]; exact .nil⟩
  by_cases h1 : canR N P l 0
  · simp only [go_sem, Nat.reduceBEq, Nat.reduceAdd, Nat.reduceMul, Nat.reduceSub, Nat.reduceLeDiff, Nat.le_refl, implies_true, Nat.reduceLT, reduceIte, decide_true, decide_false, true_and, and_true, reduceCtorEq, Nat.mul_one, Int.reduceToNat, Int.reduceLE, Int.reduceLT, Int.reduceAdd, Int.reduceSub, Int.reduceMul, Int.cast_ofNat_Int, cast_zero_int, cast_one_int, Nat.reducePow, Nat.reduceEqDiff, Nat.reduceMod, Nat.zero_add, Nat.sub_zero, Nat.add_zero, decb h1]
    refine ⟨by kernel_rfl, (c_has _ _ _).use (fun _ m => m) ?_⟩
    rintro _ _ ⟨rfl, ⟨t2, rfl⟩⟩
    by_cases h2 : 1 ≤ nd ∧ nd ≤ N
    · simp only [go_sem, Nat.reduceBEq, Nat.reduceAdd, Nat.reduceMul, Nat.reduceSub, Nat.reduceLeDiff, Nat.le_refl, implies_true, Nat.reduceLT, reduceIte, decide_true, decide_false, true_and, and_true, reduceCtorEq, Nat.mul_one, Int.reduceToNat, Int.reduceLE, Int.reduceLT, Int.reduceAdd, Int.reduceSub, Int.reduceMul, Int.cast_ofNat_Int, cast_zero_int, cast_one_int, Nat.reducePow, Nat.reduceEqDiff, Nat.reduceMod, Nat.zero_add, Nat.sub_zero, Nat.add_zero, decb h1, decb h2]
      refine ⟨by kernel_rfl, (c_isClass _).use (fun _ m => m) ?_⟩
      rintro _ _ ⟨rfl, rfl⟩
      by_cases h3 : 1 ≤ cl ∧ cl ≤ 3
      · have hok : fewOk N P l nd cl := ⟨h1, h2, h3⟩
        obtain ⟨Nn, rfl⟩ : ∃ m : Nat, N = m := ⟨N.toNat, by omega⟩
        simp only [go_sem, Nat.reduceBEq, Nat.reduceAdd, Nat.reduceMul, Nat.reduceSub, Nat.reduceLeDiff, Nat.le_refl, implies_true, Nat.reduceLT, reduceIte, decide_true, decide_false, true_and, and_true, reduceCtorEq, Nat.mul_one, Int.reduceToNat, Int.reduceLE, Int.reduceLT, Int.reduceAdd, Int.reduceSub, Int.reduceMul, Int.cast_ofNat_Int, cast_zero_int, cast_one_int, Nat.reducePow, Nat.reduceEqDiff, Nat.reduceMod, Nat.zero_add, Nat.sub_zero, Nat.add_zero, decb h1, decb h2, decb h3]
        refine ⟨by kernel_rfl, (c_needOf _ h3).use (fun _ m => m) ?_⟩
        rintro _ _ ⟨rfl, rfl⟩
        try simp only [go_sem, Nat.reduceBEq, Nat.reduceAdd, Nat.reduceMul, Nat.reduceSub, Nat.reduceLeDiff, Nat.le_refl, implies_true, Nat.reduceLT, reduceIte, decide_true, decide_false, true_and, and_true, reduceCtorEq, Nat.mul_one, Int.reduceToNat, Int.reduceLE, Int.reduceLT, Int.reduceAdd, Int.reduceSub, Int.reduceMul, Int.cast_ofNat_Int, cast_zero_int, cast_one_int, Nat.reducePow, Nat.reduceEqDiff, Nat.reduceMod, Nat.zero_add, Nat.sub_zero, Nat.add_zero]
        refine ⟨by kernel_rfl, (c_hydrantsFor _ _ Nn P l nd 10 (hv.mono (by simp)) (sl.mono (by simp)) h1.1 h1.hin h2).use (fun _ m => m) ?_⟩
        rintro v12 h1' ⟨sR, hp⟩
        have hfew : fewB Nn P l nd cl = fbest (reachA P l nd 10) l (need cl) (2 ^ (reachA P l nd 10).length) := by rw [fewB, if_pos hok]
        have hl10 := h1.2.1.2
        have gl := h1.hin
        have hRl : (reachA P l nd 10).length ≤ l.length := reachL_len
        have hRin : ∀ x ∈ reachA P l nd 10, 0 ≤ x ∧ x < l.length := reach_in
        rw [hfew]
        clear hfew bad
        generalize reachA P l nd 10 = R at *
        replace sR := sR.ai
        have hpre := (List.prefix_append _ _).trans hp
        have hle : h.length ≤ h1'.length := hpre.length_le
        replace sl := sl.mono hpre
        obtain ⟨a, rfl⟩ := Sl.len2 sl
        obtain ⟨b, rfl⟩ := sR.len
        simp only [go_sem, Nat.reduceBEq, Nat.reduceAdd, Nat.reduceMul, Nat.reduceSub, Nat.reduceLeDiff, Nat.le_refl, implies_true, Nat.reduceLT, reduceIte, decide_true, decide_false, true_and, and_true, reduceCtorEq, Nat.mul_one, Int.reduceToNat, Int.reduceLE, Int.reduceLT, Int.reduceAdd, Int.reduceSub, Int.reduceMul, Int.cast_ofNat_Int, cast_zero_int, cast_one_int, Nat.reducePow, Nat.reduceEqDiff, Nat.reduceMod, Nat.zero_add, Nat.sub_zero, Nat.add_zero, hBin_shl (show (0 : Int) ≤ R.length by omega), shl_one' (show R.length ≤ 60 by omega)]
        refine vLoop.count mo (2 ^ R.length) (fun s e h' => ∃ (v13 : Value), Regs e [(1, .slice a l.length 0), (10, .int .i64 (need cl)), (12, .slice b R.length 0), (13, v13), (14, .bool (fbest R l (need cl) s).isSome), (47, .int .i64 ((2 ^ R.length : Nat) : Int)), (48, .int .i64 s)] ∧
          h1' <+: h' ∧ FI h1'.length h'.length h' v13 ((fbest R l (need cl) s).getD [])) ?_ ?_
        · exact ⟨_, ⟨rfl, rfl, rfl, rfl, rfl, rfl, rfl, trivial⟩, List.prefix_append _ _, .nil⟩
        · rintro s e H hs ⟨v13, ⟨e1, e10, e12, e13, e14, e47, e48, _⟩, hpH, sB⟩
          have hleH : h.length ≤ H.length := Nat.le_trans hle hpH.length_le
          have hBl := fbest_len (L := R) (l := l) (nd := need cl) (n := s)
          have h2R : 2 ^ R.length ≤ 2 ^ 10 := Nat.pow_le_pow_right (by omega) (by omega)
          obtain ⟨c, hc⟩ := sB.ai.len
          subst hc
          simp only [go_sem, Nat.reduceBEq, Nat.reduceAdd, Nat.reduceMul, Nat.reduceSub, Nat.reduceLeDiff, Nat.le_refl, implies_true, Nat.reduceLT, reduceIte, decide_true, decide_false, true_and, and_true, reduceCtorEq, Nat.mul_one, Int.reduceToNat, Int.reduceLE, Int.reduceLT, Int.reduceAdd, Int.reduceSub, Int.reduceMul, Int.cast_ofNat_Int, cast_zero_int, cast_one_int, Nat.reducePow, Nat.reduceEqDiff, Nat.reduceMod, Nat.zero_add, Nat.sub_zero, Nat.add_zero, e1, e10, e12, e13, e14, e47, e48]
          by_cases hlt : s < 2 ^ R.length
          · have ws := wsucc hlt (by omega)
            have hz : (s : Int) < ((2 ^ R.length : Nat) : Int) := by omega
            have hs10 : s < 1024 := by omega
            simp only [go_sem, Nat.reduceBEq, Nat.reduceAdd, Nat.reduceMul, Nat.reduceSub, Nat.reduceLeDiff, Nat.le_refl, implies_true, Nat.reduceLT, reduceIte, decide_true, decide_false, true_and, and_true, reduceCtorEq, Nat.mul_one, Int.reduceToNat, Int.reduceLE, Int.reduceLT, Int.reduceAdd, Int.reduceSub, Int.reduceMul, Int.cast_ofNat_Int, cast_zero_int, cast_one_int, Nat.reducePow, Nat.reduceEqDiff, Nat.reduceMod, Nat.zero_add, Nat.sub_zero, Nat.add_zero, e1, e10, e12, e13, e14, e47, e48, hz]
            cases hb : fbest R l (need cl) s with
            | none =>
              rw [hb] at e13 e14 sB
              simp only [go_sem, Nat.reduceBEq, Nat.reduceAdd, Nat.reduceMul, Nat.reduceSub, Nat.reduceLeDiff, Nat.le_refl, implies_true, Nat.reduceLT, reduceIte, decide_true, decide_false, true_and, and_true, reduceCtorEq, Nat.mul_one, Int.reduceToNat, Int.reduceLE, Int.reduceLT, Int.reduceAdd, Int.reduceSub, Int.reduceMul, Int.cast_ofNat_Int, cast_zero_int, cast_one_int, Nat.reducePow, Nat.reduceEqDiff, Nat.reduceMod, Nat.zero_add, Nat.sub_zero, Nat.add_zero, e1, e10, e12, e13, e14, e47, e48, Option.isSome_none]
              refine vLoop.count mo R.length (fun i e h' => ∃ (t : Heap) (v16 : Value), Regs e [(1, .slice a l.length 0), (10, .int .i64 (need cl)), (12, .slice b R.length 0), (13, .slice c (Option.getD (none : Option (List Int)) []).length 0), (14, .bool false), (15, .int .i64 s), (16, v16), (17, .int .i64 (sumF l (choice R s i))), (47, .int .i64 ((2 ^ R.length : Nat) : Int)), (48, .int .i64 s), (61, .slice b R.length 0), (62, .int .i64 R.length), (63, .int .i64 i)] ∧
                HeapIs h' (H ++ t) ∧ OF H.length 0 t v16 (choice R s i)) ?_ ?_
              · exact ⟨_, .slice (some ⟨H.length, 0, none⟩) 0 0, (by simp [Regs, upd, put, env0, e1, e10, e12, e13, e14, e47, e48, choice, sumF]), .rfl, .mk' 0 rfl rfl rfl⟩
              · rintro i e _ hi ⟨t, v16, ⟨e1, e10, e12, e13, e14, e15, e16, e17, e47, e48, e61, e62, e63, _⟩, rfl, oi⟩
                obtain ⟨j, rfl, hj⟩ := id oi
                simp only [go_sem, Nat.reduceBEq, Nat.reduceAdd, Nat.reduceMul, Nat.reduceSub, Nat.reduceLeDiff, Nat.le_refl, implies_true, Nat.reduceLT, reduceIte, decide_true, decide_false, true_and, and_true, reduceCtorEq, Nat.mul_one, Int.reduceToNat, Int.reduceLE, Int.reduceLT, Int.reduceAdd, Int.reduceSub, Int.reduceMul, Int.cast_ofNat_Int, cast_zero_int, cast_one_int, Nat.reducePow, Nat.reduceEqDiff, Nat.reduceMod, Nat.zero_add, Nat.sub_zero, Nat.add_zero, e1, e10, e12, e13, e14, e15, e16, e17, e47, e48, e61, e62, e63]
                have hcl := choice_len (L := R) (s := s) (i := i)
                have hcin : ∀ x ∈ choice R s i, 0 ≤ x ∧ x < l.length := fun x hx => hRin x (choice_mem hi x hx)
                have hcb := sumF_bound gl hcin
                by_cases hir : i < R.length
                · have wi := wsucc hir (by omega)
                  have hzi : (i : Int) < R.length := by omega
                  obtain ⟨id2, o2, K2, hv2, _, _, hk2, hd2, _, _, _, hat2⟩ := sR.at (Nat.zero_lt_of_lt hir)
                  obtain rfl : b = some ⟨id2, o2, none⟩ := by simpa using hv2
                  have hk2 := pre_get hpH hk2
                  have hx := hRin R[i] (List.getElem_mem hir)
                  have hlt' : R[i].toNat < (l.map hyd).length := by simp; omega
                  obtain ⟨id, o, K, hv, _, hk, hd, hb, hrow, hat⟩ := sl.at hlt'
                  obtain rfl : a = some ⟨id, o, none⟩ := by simpa using hv
                  have hk := pre_get hpH hk
                  have g1 := hat 1 (by omega)
                  rw [List.getElem_map] at g1
                  simp only [hyd, List.getElem?_cons_zero, List.getElem?_cons_succ] at g1
                  have hb2 := (gl.at (i := R[i].toNat) (by omega)).2
                  simp only [go_sem, Nat.reduceBEq, Nat.reduceAdd, Nat.reduceMul, Nat.reduceSub, Nat.reduceLeDiff, Nat.le_refl, implies_true, Nat.reduceLT, reduceIte, decide_true, decide_false, true_and, and_true, reduceCtorEq, Nat.mul_one, Int.reduceToNat, Int.reduceLE, Int.reduceLT, Int.reduceAdd, Int.reduceSub, Int.reduceMul, Int.cast_ofNat_Int, cast_zero_int, cast_one_int, Nat.reducePow, Nat.reduceEqDiff, Nat.reduceMod, Nat.zero_add, Nat.sub_zero, Nat.add_zero, e1, e10, e12, e13, e14, e15, e16, e17, e47, e48, e61, e62, e63, hzi, hk2, hd2, hat2 i hir, hBin_shr (show (0 : Int) ≤ i by omega), shr_nat' (a := s) (i := i) (by omega), hBin_bit, bit_eq]
                  cases hbit : s.testBit i with
                  | true =>
                    have hyes := choice_yes hir hbit
                    have w1 : IntKind.i64.wrap (sumF l (choice R s i) + l[R[i].toNat].2) = sumF l (choice R s (i + 1)) := by
                      rw [hyes, sumF_snoc, getDh (by omega), wrap64 (by omega)]
                    simp only [go_sem, Nat.reduceBEq, Nat.reduceAdd, Nat.reduceMul, Nat.reduceSub, Nat.reduceLeDiff, Nat.le_refl, implies_true, Nat.reduceLT, reduceIte, decide_true, decide_false, true_and, and_true, reduceCtorEq, Nat.mul_one, Int.reduceToNat, Int.reduceLE, Int.reduceLT, Int.reduceAdd, Int.reduceSub, Int.reduceMul, Int.cast_ofNat_Int, cast_zero_int, cast_one_int, Nat.reducePow, Nat.reduceEqDiff, Nat.reduceMod, Nat.zero_add, Nat.sub_zero, Nat.add_zero, e1, e10, e12, e13, e14, e15, e16, e17, e47, e48, e61, e62, e63, hbit, own_base hleH, app_old hj, List.length_map, hk, hd, show R[i] < (l.length : Int) by omega, show 0 ≤ R[i] by omega, g1]
                    refine ⟨by omega, by omega, hir, _, _, ⟨e1, e10, e12, e13, e14, e15, rfl, congrArg _ w1, e47, e48, e61, e62, congrArg _ wi, trivial⟩, .rfl, (.mk' (t.length + 1) ?_ (by rw [hyes]; simp) ?_)⟩
                    · simp
                    · exact (new_at (by simp)).trans (by simp [iv, hyes])
                  | false =>
                    have hno := choice_no (L := R) hbit
                    simp only [go_sem, Nat.reduceBEq, Nat.reduceAdd, Nat.reduceMul, Nat.reduceSub, Nat.reduceLeDiff, Nat.le_refl, implies_true, Nat.reduceLT, reduceIte, decide_true, decide_false, true_and, and_true, reduceCtorEq, Nat.mul_one, Int.reduceToNat, Int.reduceLE, Int.reduceLT, Int.reduceAdd, Int.reduceSub, Int.reduceMul, Int.cast_ofNat_Int, cast_zero_int, cast_one_int, Nat.reducePow, Nat.reduceEqDiff, Nat.reduceMod, Nat.zero_add, Nat.sub_zero, Nat.add_zero, e1, e10, e12, e13, e14, e15, e16, e17, e47, e48, e61, e62, e63, hbit]
                    exact ⟨hir, _, _, ⟨e1, e10, e12, e13, e14, e15, e16, by rw [hno]; exact e17, e47, e48, e61, e62, congrArg _ wi, trivial⟩, .rfl, by rw [hno]; exact oi⟩
                · obtain rfl : i = R.length := by omega
                  have hstep : fbest R l (need cl) (s + 1) = fstep R l (need cl) (fbest R l (need cl) s) s := rfl
                  rw [hb] at hstep
                  unfold fstep at hstep
                  have f1 := OF.fi0 (m := h1'.length) oi hpH.length_le
                  have f0 := (sB.mono (List.prefix_append H t)).wide (Nat.le_refl _) (show H.length ≤ (H ++ t).length by simp)
                  have hpH2 := hpH.trans (List.prefix_append H t)
                  simp only [Nat.add_zero, List.length_append] at f1 f0
                  simp only [go_sem, Nat.reduceBEq, Nat.reduceAdd, Nat.reduceMul, Nat.reduceSub, Nat.reduceLeDiff, Nat.le_refl, implies_true, Nat.reduceLT, reduceIte, decide_true, decide_false, true_and, and_true, reduceCtorEq, Nat.mul_one, Int.reduceToNat, Int.reduceLE, Int.reduceLT, Int.reduceAdd, Int.reduceSub, Int.reduceMul, Int.cast_ofNat_Int, cast_zero_int, cast_one_int, Nat.reducePow, Nat.reduceEqDiff, Nat.reduceMod, Nat.zero_add, Nat.sub_zero, Nat.add_zero, e1, e10, e12, e13, e14, e15, e16, e17, e47, e48, e61, e62, e63, show ¬ ((R.length : Int) < R.length) by omega]
                  by_cases c1 : need cl ≤ sumF l (choice R s R.length)
                  · rw [if_neg (by omega)] at hstep
                    simp only [go_sem, Nat.reduceBEq, Nat.reduceAdd, Nat.reduceMul, Nat.reduceSub, Nat.reduceLeDiff, Nat.le_refl, implies_true, Nat.reduceLT, reduceIte, decide_true, decide_false, true_and, and_true, reduceCtorEq, Nat.mul_one, Int.reduceToNat, Int.reduceLE, Int.reduceLT, Int.reduceAdd, Int.reduceSub, Int.reduceMul, Int.cast_ofNat_Int, cast_zero_int, cast_one_int, Nat.reducePow, Nat.reduceEqDiff, Nat.reduceMod, Nat.zero_add, Nat.sub_zero, Nat.add_zero, e1, e10, e12, e13, e14, e15, e16, e17, e47, e48, e61, e62, e63, c1]
                    simp only at hstep
                    exact ⟨hlt, _, ⟨e1, e10, e12, rfl, by rw [hstep]; rfl, e47, congrArg _ ws, trivial⟩, hpH2, by rw [hstep]; exact f1⟩
                  · rw [if_pos (by omega)] at hstep
                    simp only [go_sem, Nat.reduceBEq, Nat.reduceAdd, Nat.reduceMul, Nat.reduceSub, Nat.reduceLeDiff, Nat.le_refl, implies_true, Nat.reduceLT, reduceIte, decide_true, decide_false, true_and, and_true, reduceCtorEq, Nat.mul_one, Int.reduceToNat, Int.reduceLE, Int.reduceLT, Int.reduceAdd, Int.reduceSub, Int.reduceMul, Int.cast_ofNat_Int, cast_zero_int, cast_one_int, Nat.reducePow, Nat.reduceEqDiff, Nat.reduceMod, Nat.zero_add, Nat.sub_zero, Nat.add_zero, e1, e10, e12, e13, e14, e15, e16, e17, e47, e48, e61, e62, e63, c1]
                    exact ⟨hlt, _, ⟨e1, e10, e12, e13, by rw [hstep]; exact e14, e47, congrArg _ ws, trivial⟩, hpH2, by rw [hstep]; exact f0⟩
            | some d =>
              rw [hb] at e13 e14 sB hBl
              have w64 : IntKind.u64.wrap (s : Int) = s := IntWalk.u64_in _ (by omega)
              simp only [go_sem, Nat.reduceBEq, Nat.reduceAdd, Nat.reduceMul, Nat.reduceSub, Nat.reduceLeDiff, Nat.le_refl, implies_true, Nat.reduceLT, reduceIte, decide_true, decide_false, true_and, and_true, reduceCtorEq, Nat.mul_one, Int.reduceToNat, Int.reduceLE, Int.reduceLT, Int.reduceAdd, Int.reduceSub, Int.reduceMul, Int.cast_ofNat_Int, cast_zero_int, cast_one_int, Nat.reducePow, Nat.reduceEqDiff, Nat.reduceMod, Nat.zero_add, Nat.sub_zero, Nat.add_zero, e1, e10, e12, e13, e14, e47, e48, Option.isSome_some, w64]
              refine ⟨by kernel_rfl, (c_OnesCount s hs10).use (fun _ m => m) ?_⟩
              rintro _ _ ⟨rfl, rfl⟩
              by_cases cp : d.length < popc s
              · simp only [go_sem, Nat.reduceBEq, Nat.reduceAdd, Nat.reduceMul, Nat.reduceSub, Nat.reduceLeDiff, Nat.le_refl, implies_true, Nat.reduceLT, reduceIte, decide_true, decide_false, true_and, and_true, reduceCtorEq, Nat.mul_one, Int.reduceToNat, Int.reduceLE, Int.reduceLT, Int.reduceAdd, Int.reduceSub, Int.reduceMul, Int.cast_ofNat_Int, cast_zero_int, cast_one_int, Nat.reducePow, Nat.reduceEqDiff, Nat.reduceMod, Nat.zero_add, Nat.sub_zero, Nat.add_zero, e1, e10, e12, e13, e14, e47, e48, Option.isSome_some, Option.getD_some, show (d.length : Int) < (popc s : Int) by omega]
                have hstep : fbest R l (need cl) (s + 1) = fstep R l (need cl) (fbest R l (need cl) s) s := rfl
                rw [hb] at hstep
                unfold fstep at hstep
                have hlen := popc_choice (L := R) (show R.length ≤ 10 by omega) hlt
                have hsame : fbest R l (need cl) (s + 1) = some d := by
                  rw [hstep]
                  split
                  · rfl
                  · simp only
                    rw [if_neg (by omega)]
                exact ⟨hlt, _, ⟨e1, e10, e12, e13, by rw [hsame]; exact e14, e47, congrArg _ ws, trivial⟩, hpH, by rw [hsame]; exact sB⟩
              · simp only [go_sem, Nat.reduceBEq, Nat.reduceAdd, Nat.reduceMul, Nat.reduceSub, Nat.reduceLeDiff, Nat.le_refl, implies_true, Nat.reduceLT, reduceIte, decide_true, decide_false, true_and, and_true, reduceCtorEq, Nat.mul_one, Int.reduceToNat, Int.reduceLE, Int.reduceLT, Int.reduceAdd, Int.reduceSub, Int.reduceMul, Int.cast_ofNat_Int, cast_zero_int, cast_one_int, Nat.reducePow, Nat.reduceEqDiff, Nat.reduceMod, Nat.zero_add, Nat.sub_zero, Nat.add_zero, e1, e10, e12, e13, e14, e47, e48, Option.isSome_some, Option.getD_some, show ¬ ((d.length : Int) < (popc s : Int)) by omega]
                refine vLoop.count mo R.length (fun i e h' => ∃ (t : Heap) (v16 : Value), Regs e [(1, .slice a l.length 0), (10, .int .i64 (need cl)), (12, .slice b R.length 0), (13, .slice c d.length 0), (14, .bool true), (15, .int .i64 s), (16, v16), (17, .int .i64 (sumF l (choice R s i))), (47, .int .i64 ((2 ^ R.length : Nat) : Int)), (48, .int .i64 s), (61, .slice b R.length 0), (62, .int .i64 R.length), (63, .int .i64 i)] ∧
                  HeapIs h' (H ++ t) ∧ OF H.length 0 t v16 (choice R s i)) ?_ ?_
                · exact ⟨_, .slice (some ⟨H.length, 0, none⟩) 0 0, (by simp [Regs, upd, put, env0, e1, e10, e12, e13, e14, e47, e48, choice, sumF]), .rfl, .mk' 0 rfl rfl rfl⟩
                · rintro i e _ hi ⟨t, v16, ⟨e1, e10, e12, e13, e14, e15, e16, e17, e47, e48, e61, e62, e63, _⟩, rfl, oi⟩
                  obtain ⟨j, rfl, hj⟩ := id oi
                  simp only [go_sem, Nat.reduceBEq, Nat.reduceAdd, Nat.reduceMul, Nat.reduceSub, Nat.reduceLeDiff, Nat.le_refl, implies_true, Nat.reduceLT, reduceIte, decide_true, decide_false, true_and, and_true, reduceCtorEq, Nat.mul_one, Int.reduceToNat, Int.reduceLE, Int.reduceLT, Int.reduceAdd, Int.reduceSub, Int.reduceMul, Int.cast_ofNat_Int, cast_zero_int, cast_one_int, Nat.reducePow, Nat.reduceEqDiff, Nat.reduceMod, Nat.zero_add, Nat.sub_zero, Nat.add_zero, e1, e10, e12, e13, e14, e15, e16, e17, e47, e48, e61, e62, e63]
                  have hcl := choice_len (L := R) (s := s) (i := i)
                  have hcin : ∀ x ∈ choice R s i, 0 ≤ x ∧ x < l.length := fun x hx => hRin x (choice_mem hi x hx)
                  have hcb := sumF_bound gl hcin
                  by_cases hir : i < R.length
                  · have wi := wsucc hir (by omega)
                    have hzi : (i : Int) < R.length := by omega
                    obtain ⟨id2, o2, K2, hv2, _, _, hk2, hd2, _, _, _, hat2⟩ := sR.at (Nat.zero_lt_of_lt hir)
                    obtain rfl : b = some ⟨id2, o2, none⟩ := by simpa using hv2
                    have hk2 := pre_get hpH hk2
                    have hx := hRin R[i] (List.getElem_mem hir)
                    have hlt' : R[i].toNat < (l.map hyd).length := by simp; omega
                    obtain ⟨id, o, K, hv, _, hk, hd, hb, hrow, hat⟩ := sl.at hlt'
                    obtain rfl : a = some ⟨id, o, none⟩ := by simpa using hv
                    have hk := pre_get hpH hk
                    have g1 := hat 1 (by omega)
                    rw [List.getElem_map] at g1
                    simp only [hyd, List.getElem?_cons_zero, List.getElem?_cons_succ] at g1
                    have hb2 := (gl.at (i := R[i].toNat) (by omega)).2
                    simp only [go_sem, Nat.reduceBEq, Nat.reduceAdd, Nat.reduceMul, Nat.reduceSub, Nat.reduceLeDiff, Nat.le_refl, implies_true, Nat.reduceLT, reduceIte, decide_true, decide_false, true_and, and_true, reduceCtorEq, Nat.mul_one, Int.reduceToNat, Int.reduceLE, Int.reduceLT, Int.reduceAdd, Int.reduceSub, Int.reduceMul, Int.cast_ofNat_Int, cast_zero_int, cast_one_int, Nat.reducePow, Nat.reduceEqDiff, Nat.reduceMod, Nat.zero_add, Nat.sub_zero, Nat.add_zero, e1, e10, e12, e13, e14, e15, e16, e17, e47, e48, e61, e62, e63, hzi, hk2, hd2, hat2 i hir, hBin_shr (show (0 : Int) ≤ i by omega), shr_nat' (a := s) (i := i) (by omega), hBin_bit, bit_eq]
                    cases hbit : s.testBit i with
                    | true =>
                      have hyes := choice_yes hir hbit
                      have w1 : IntKind.i64.wrap (sumF l (choice R s i) + l[R[i].toNat].2) = sumF l (choice R s (i + 1)) := by
                        rw [hyes, sumF_snoc, getDh (by omega), wrap64 (by omega)]
                      simp only [go_sem, Nat.reduceBEq, Nat.reduceAdd, Nat.reduceMul, Nat.reduceSub, Nat.reduceLeDiff, Nat.le_refl, implies_true, Nat.reduceLT, reduceIte, decide_true, decide_false, true_and, and_true, reduceCtorEq, Nat.mul_one, Int.reduceToNat, Int.reduceLE, Int.reduceLT, Int.reduceAdd, Int.reduceSub, Int.reduceMul, Int.cast_ofNat_Int, cast_zero_int, cast_one_int, Nat.reducePow, Nat.reduceEqDiff, Nat.reduceMod, Nat.zero_add, Nat.sub_zero, Nat.add_zero, e1, e10, e12, e13, e14, e15, e16, e17, e47, e48, e61, e62, e63, hbit, own_base hleH, app_old hj, List.length_map, hk, hd, show R[i] < (l.length : Int) by omega, show 0 ≤ R[i] by omega, g1]
                      refine ⟨by omega, by omega, hir, _, _, ⟨e1, e10, e12, e13, e14, e15, rfl, congrArg _ w1, e47, e48, e61, e62, congrArg _ wi, trivial⟩, .rfl, (.mk' (t.length + 1) ?_ (by rw [hyes]; simp) ?_)⟩
                      · simp
                      · exact (new_at (by simp)).trans (by simp [iv, hyes])
                    | false =>
                      have hno := choice_no (L := R) hbit
                      simp only [go_sem, Nat.reduceBEq, Nat.reduceAdd, Nat.reduceMul, Nat.reduceSub, Nat.reduceLeDiff, Nat.le_refl, implies_true, Nat.reduceLT, reduceIte, decide_true, decide_false, true_and, and_true, reduceCtorEq, Nat.mul_one, Int.reduceToNat, Int.reduceLE, Int.reduceLT, Int.reduceAdd, Int.reduceSub, Int.reduceMul, Int.cast_ofNat_Int, cast_zero_int, cast_one_int, Nat.reducePow, Nat.reduceEqDiff, Nat.reduceMod, Nat.zero_add, Nat.sub_zero, Nat.add_zero, e1, e10, e12, e13, e14, e15, e16, e17, e47, e48, e61, e62, e63, hbit]
                      exact ⟨hir, _, _, ⟨e1, e10, e12, e13, e14, e15, e16, by rw [hno]; exact e17, e47, e48, e61, e62, congrArg _ wi, trivial⟩, .rfl, by rw [hno]; exact oi⟩
                  · obtain rfl : i = R.length := by omega
                    have hstep : fbest R l (need cl) (s + 1) = fstep R l (need cl) (fbest R l (need cl) s) s := rfl
                    rw [hb] at hstep
                    unfold fstep at hstep
                    have f1 := OF.fi0 (m := h1'.length) oi hpH.length_le
                    have f0 := (sB.mono (List.prefix_append H t)).wide (Nat.le_refl _) (show H.length ≤ (H ++ t).length by simp)
                    have hpH2 := hpH.trans (List.prefix_append H t)
                    simp only [Nat.add_zero, List.length_append] at f1 f0
                    simp only [go_sem, Nat.reduceBEq, Nat.reduceAdd, Nat.reduceMul, Nat.reduceSub, Nat.reduceLeDiff, Nat.le_refl, implies_true, Nat.reduceLT, reduceIte, decide_true, decide_false, true_and, and_true, reduceCtorEq, Nat.mul_one, Int.reduceToNat, Int.reduceLE, Int.reduceLT, Int.reduceAdd, Int.reduceSub, Int.reduceMul, Int.cast_ofNat_Int, cast_zero_int, cast_one_int, Nat.reducePow, Nat.reduceEqDiff, Nat.reduceMod, Nat.zero_add, Nat.sub_zero, Nat.add_zero, e1, e10, e12, e13, e14, e15, e16, e17, e47, e48, e61, e62, e63, show ¬ ((R.length : Int) < R.length) by omega]
                    by_cases c1 : need cl ≤ sumF l (choice R s R.length)
                    · rw [if_neg (by omega)] at hstep
                      simp only [go_sem, Nat.reduceBEq, Nat.reduceAdd, Nat.reduceMul, Nat.reduceSub, Nat.reduceLeDiff, Nat.le_refl, implies_true, Nat.reduceLT, reduceIte, decide_true, decide_false, true_and, and_true, reduceCtorEq, Nat.mul_one, Int.reduceToNat, Int.reduceLE, Int.reduceLT, Int.reduceAdd, Int.reduceSub, Int.reduceMul, Int.cast_ofNat_Int, cast_zero_int, cast_one_int, Nat.reducePow, Nat.reduceEqDiff, Nat.reduceMod, Nat.zero_add, Nat.sub_zero, Nat.add_zero, e1, e10, e12, e13, e14, e15, e16, e17, e47, e48, e61, e62, e63, c1]
                      simp only at hstep
                      by_cases c2 : (choice R s R.length).length < d.length
                      · rw [if_pos (.inl c2)] at hstep
                        simp only [go_sem, Nat.reduceBEq, Nat.reduceAdd, Nat.reduceMul, Nat.reduceSub, Nat.reduceLeDiff, Nat.le_refl, implies_true, Nat.reduceLT, reduceIte, decide_true, decide_false, true_and, and_true, reduceCtorEq, Nat.mul_one, Int.reduceToNat, Int.reduceLE, Int.reduceLT, Int.reduceAdd, Int.reduceSub, Int.reduceMul, Int.cast_ofNat_Int, cast_zero_int, cast_one_int, Nat.reducePow, Nat.reduceEqDiff, Nat.reduceMod, Nat.zero_add, Nat.sub_zero, Nat.add_zero, e1, e10, e12, e13, e14, e15, e16, e17, e47, e48, e61, e62, e63, c1, show ((choice R s R.length).length : Int) < d.length by omega]
                        exact ⟨hlt, _, ⟨e1, e10, e12, rfl, by rw [hstep]; rfl, e47, congrArg _ ws, trivial⟩, hpH2, by rw [hstep]; exact f1⟩
                      · have hlen : (choice R s R.length).length = d.length := by have := popc_choice (show R.length ≤ 10 by omega) hlt; omega
                        simp only [go_sem, Nat.reduceBEq, Nat.reduceAdd, Nat.reduceMul, Nat.reduceSub, Nat.reduceLeDiff, Nat.le_refl, implies_true, Nat.reduceLT, reduceIte, decide_true, decide_false, true_and, and_true, reduceCtorEq, Nat.mul_one, Int.reduceToNat, Int.reduceLE, Int.reduceLT, Int.reduceAdd, Int.reduceSub, Int.reduceMul, Int.cast_ofNat_Int, cast_zero_int, cast_one_int, Nat.reducePow, Nat.reduceEqDiff, Nat.reduceMod, Nat.zero_add, Nat.sub_zero, Nat.add_zero, e1, e10, e12, e13, e14, e15, e16, e17, e47, e48, e61, e62, e63, c1, show ¬ (((choice R s R.length).length : Int) < d.length) by omega]
                        refine ⟨by kernel_rfl, (c_sCompare _ _ (choice R s R.length) d f1.ai f0.ai (by omega) (by simp only [Option.getD_some] at hBl; omega)).use (fun _ m => m) ?_⟩
                        rintro _ _ ⟨rfl, rfl⟩
                        have hc := cmpL_lex hlen
                        by_cases c3 : cmpL (choice R s R.length) d < 0
                        · rw [if_pos (.inr ⟨hlen, hc.1 c3⟩)] at hstep
                          simp only [go_sem, Nat.reduceBEq, Nat.reduceAdd, Nat.reduceMul, Nat.reduceSub, Nat.reduceLeDiff, Nat.le_refl, implies_true, Nat.reduceLT, reduceIte, decide_true, decide_false, true_and, and_true, reduceCtorEq, Nat.mul_one, Int.reduceToNat, Int.reduceLE, Int.reduceLT, Int.reduceAdd, Int.reduceSub, Int.reduceMul, Int.cast_ofNat_Int, cast_zero_int, cast_one_int, Nat.reducePow, Nat.reduceEqDiff, Nat.reduceMod, Nat.zero_add, Nat.sub_zero, Nat.add_zero, e1, e10, e12, e13, e14, e15, e16, e17, e47, e48, e61, e62, e63, c1, c3]
                          exact ⟨hlt, _, ⟨e1, e10, e12, rfl, by rw [hstep]; rfl, e47, congrArg _ ws, trivial⟩, hpH2, by rw [hstep]; exact f1⟩
                        · rw [if_neg (fun hh => hh.elim c2 (fun hh => c3 (hc.2 hh.2)))] at hstep
                          simp only [go_sem, Nat.reduceBEq, Nat.reduceAdd, Nat.reduceMul, Nat.reduceSub, Nat.reduceLeDiff, Nat.le_refl, implies_true, Nat.reduceLT, reduceIte, decide_true, decide_false, true_and, and_true, reduceCtorEq, Nat.mul_one, Int.reduceToNat, Int.reduceLE, Int.reduceLT, Int.reduceAdd, Int.reduceSub, Int.reduceMul, Int.cast_ofNat_Int, cast_zero_int, cast_one_int, Nat.reducePow, Nat.reduceEqDiff, Nat.reduceMod, Nat.zero_add, Nat.sub_zero, Nat.add_zero, e1, e10, e12, e13, e14, e15, e16, e17, e47, e48, e61, e62, e63, c1, c3, show ¬ (((choice R s R.length).length : Int) < d.length) by omega]
                          exact ⟨hlt, _, ⟨e1, e10, e12, e13, by rw [hstep]; exact e14, e47, congrArg _ ws, trivial⟩, hpH2, by rw [hstep]; exact f0⟩
                    · rw [if_pos (by omega)] at hstep
                      simp only [go_sem, Nat.reduceBEq, Nat.reduceAdd, Nat.reduceMul, Nat.reduceSub, Nat.reduceLeDiff, Nat.le_refl, implies_true, Nat.reduceLT, reduceIte, decide_true, decide_false, true_and, and_true, reduceCtorEq, Nat.mul_one, Int.reduceToNat, Int.reduceLE, Int.reduceLT, Int.reduceAdd, Int.reduceSub, Int.reduceMul, Int.cast_ofNat_Int, cast_zero_int, cast_one_int, Nat.reducePow, Nat.reduceEqDiff, Nat.reduceMod, Nat.zero_add, Nat.sub_zero, Nat.add_zero, e1, e10, e12, e13, e14, e15, e16, e17, e47, e48, e61, e62, e63, c1]
                      exact ⟨hlt, _, ⟨e1, e10, e12, e13, by rw [hstep]; exact e14, e47, congrArg _ ws, trivial⟩, hpH2, by rw [hstep]; exact f0⟩
          · obtain rfl : s = 2 ^ R.length := by omega
            simp only [go_sem, Nat.reduceBEq, Nat.reduceAdd, Nat.reduceMul, Nat.reduceSub, Nat.reduceLeDiff, Nat.le_refl, implies_true, Nat.reduceLT, reduceIte, decide_true, decide_false, true_and, and_true, reduceCtorEq, Nat.mul_one, Int.reduceToNat, Int.reduceLE, Int.reduceLT, Int.reduceAdd, Int.reduceSub, Int.reduceMul, Int.cast_ofNat_Int, cast_zero_int, cast_one_int, Nat.reducePow, Nat.reduceEqDiff, Nat.reduceMod, Nat.zero_add, Nat.sub_zero, Nat.add_zero, e1, e10, e12, e13, e14, e47, e48, show ¬ (((2 ^ R.length : Nat) : Int) < ((2 ^ R.length : Nat) : Int)) by omega]
            cases hb : fbest R l (need cl) (2 ^ R.length) with
            | none =>
              simp only [go_sem, Nat.reduceBEq, Nat.reduceAdd, Nat.reduceMul, Nat.reduceSub, Nat.reduceLeDiff, Nat.le_refl, implies_true, Nat.reduceLT, reduceIte, decide_true, decide_false, true_and, and_true, reduceCtorEq, Nat.mul_one, Int.reduceToNat, Int.reduceLE, Int.reduceLT, Int.reduceAdd, Int.reduceSub, Int.reduceMul, Int.cast_ofNat_Int, cast_zero_int, cast_one_int, Nat.reducePow, Nat.reduceEqDiff, Nat.reduceMod, Nat.zero_add, Nat.sub_zero, Nat.add_zero, e1, e10, e12, e13, e14, e47, e48, hb, Option.isSome_none]
              exact ⟨⟨_, rfl, .nil⟩, hpre.trans hpH⟩
            | some d =>
              rw [hb] at sB
              simp only [go_sem, Nat.reduceBEq, Nat.reduceAdd, Nat.reduceMul, Nat.reduceSub, Nat.reduceLeDiff, Nat.le_refl, implies_true, Nat.reduceLT, reduceIte, decide_true, decide_false, true_and, and_true, reduceCtorEq, Nat.mul_one, Int.reduceToNat, Int.reduceLE, Int.reduceLT, Int.reduceAdd, Int.reduceSub, Int.reduceMul, Int.cast_ofNat_Int, cast_zero_int, cast_one_int, Nat.reducePow, Nat.reduceEqDiff, Nat.reduceMod, Nat.zero_add, Nat.sub_zero, Nat.add_zero, e1, e10, e12, e13, e14, e47, e48, hb, Option.isSome_some]
              exact ⟨⟨_, rfl, sB.wide hle (Nat.le_refl _)⟩, hpre.trans hpH⟩
      · simp only [go_sem, Nat.reduceBEq, Nat.reduceAdd, Nat.reduceMul, Nat.reduceSub, Nat.reduceLeDiff, Nat.le_refl, implies_true, Nat.reduceLT, reduceIte, decide_true, decide_false, true_and, and_true, reduceCtorEq, Nat.mul_one, Int.reduceToNat, Int.reduceLE, Int.reduceLT, Int.reduceAdd, Int.reduceSub, Int.reduceMul, Int.cast_ofNat_Int, cast_zero_int, cast_one_int, Nat.reducePow, Nat.reduceEqDiff, Nat.reduceMod, Nat.zero_add, Nat.sub_zero, Nat.add_zero, decb h1, decb h2, dect h3]
        exact bad (fun hh => h3 hh.2.2) _ _ _
    · simp only [go_sem, Nat.reduceBEq, Nat.reduceAdd, Nat.reduceMul, Nat.reduceSub, Nat.reduceLeDiff, Nat.le_refl, implies_true, Nat.reduceLT, reduceIte, decide_true, decide_false, true_and, and_true, reduceCtorEq, Nat.mul_one, Int.reduceToNat, Int.reduceLE, Int.reduceLT, Int.reduceAdd, Int.reduceSub, Int.reduceMul, Int.cast_ofNat_Int, cast_zero_int, cast_one_int, Nat.reducePow, Nat.reduceEqDiff, Nat.reduceMod, Nat.zero_add, Nat.sub_zero, Nat.add_zero, decb h1, dect h2]
      exact bad (fun hh => h2 hh.2.1) _ _ _
  · simp only [go_sem, Nat.reduceBEq, Nat.reduceAdd, Nat.reduceMul, Nat.reduceSub, Nat.reduceLeDiff, Nat.le_refl, implies_true, Nat.reduceLT, reduceIte, decide_true, decide_false, true_and, and_true, reduceCtorEq, Nat.mul_one, Int.reduceToNat, Int.reduceLE, Int.reduceLT, Int.reduceAdd, Int.reduceSub, Int.reduceMul, Int.cast_ofNat_Int, cast_zero_int, cast_one_int, Nat.reducePow, Nat.reduceEqDiff, Nat.reduceMod, Nat.zero_add, Nat.sub_zero, Nat.add_zero, dect h1]
    exact bad (fun hh => h1 hh.1) _ _ _
theorem c_sFewestHydrants {n : Nat} (v vl : Value) (N : Int) (P : List Pip) (l : List Hyd) (nd cl : Int) (hv : NA n h v N P) (sl : Sl h 2 vl (l.map hyd)) (hmP : P.length ≤ 1048576) (hml : l.length ≤ 1048576) :
    vCall [] Try.prog M 58 [v, vl, .int .i64 nd, .int .i64 cl] h (fun r h' => (∃ w, r = .tuple #[w, .bool (fewB N P l nd cl).isSome] ∧ FI h.length h'.length h' w ((fewB N P l nd cl).getD [])) ∧ h <+: h') := by
  have hv0 := id hv
  obtain ⟨w, rfl, _⟩ := hv0
  refine body_of mo Try.func58 rfl (by kernel_rfl) (Nat.le_of_ble_eq_true (by kernel_rfl)) rfl ?_
  simp only [go_sem, Nat.reduceBEq, Nat.reduceAdd, Nat.reduceMul, Nat.reduceSub, Nat.reduceLeDiff, Nat.le_refl, implies_true, Nat.reduceLT, reduceIte, decide_true, decide_false, true_and, and_true, reduceCtorEq, Nat.mul_one, Int.reduceToNat, Int.reduceLE, Int.reduceLT, Int.reduceAdd, Int.reduceSub, Int.reduceMul, Int.cast_ofNat_Int, cast_zero_int, cast_one_int, Nat.reducePow, Nat.reduceEqDiff, Nat.reduceMod, Nat.zero_add, Nat.sub_zero, Nat.add_zero]
  refine ⟨by kernel_rfl, (c_l24Asked _ _ N P l 0 (hv.mono (by simp)) (sl.mono (by simp)) hmP hml).use (fun _ m => m) ?_⟩
  rintro _ _ ⟨rfl, ⟨t, rfl⟩⟩
  simp only [go_sem, Nat.reduceBEq, Nat.reduceAdd, Nat.reduceMul, Nat.reduceSub, Nat.reduceLeDiff, Nat.le_refl, implies_true, Nat.reduceLT, reduceIte, decide_true, decide_false, true_and, and_true, reduceCtorEq, Nat.mul_one, Int.reduceToNat, Int.reduceLE, Int.reduceLT, Int.reduceAdd, Int.reduceSub, Int.reduceMul, Int.cast_ofNat_Int, cast_zero_int, cast_one_int, Nat.reducePow, Nat.reduceEqDiff, Nat.reduceMod, Nat.zero_add, Nat.sub_zero, Nat.add_zero]
  have bad : ¬ fewOk N P l nd cl → ∀ (m : Nat) (H : Heap) (a : Option Addr), ∃ w, (Value.tuple #[Value.slice a 0 0, .bool false]) = .tuple #[w, .bool (fewB N P l nd cl).isSome] ∧ FI h.length m H w ((fewB N P l nd cl).getD []) := fun hn m H a =>
    ⟨_, by rw [fewB, if_neg hn]; rfl, by rw [fewB, if_neg hn]; exact .nil⟩
  by_cases h1 : canR N P l 0
  · simp only [go_sem, Nat.reduceBEq, Nat.reduceAdd, Nat.reduceMul, Nat.reduceSub, Nat.reduceLeDiff, Nat.le_refl, implies_true, Nat.reduceLT, reduceIte, decide_true, decide_false, true_and, and_true, reduceCtorEq, Nat.mul_one, Int.reduceToNat, Int.reduceLE, Int.reduceLT, Int.reduceAdd, Int.reduceSub, Int.reduceMul, Int.cast_ofNat_Int, cast_zero_int, cast_one_int, Nat.reducePow, Nat.reduceEqDiff, Nat.reduceMod, Nat.zero_add, Nat.sub_zero, Nat.add_zero, decb h1]
    refine ⟨by kernel_rfl, (c_l2Node _ N P _ (hv.mono (by simp)) hmP).use (fun _ m => m) ?_⟩
    rintro _ _ ⟨rfl, ⟨t2, rfl⟩⟩
    rw [show decide (netGood N P ∧ 1 ≤ nd ∧ nd ≤ N) = decide (1 ≤ nd ∧ nd ≤ N) by simp [h1.1]]
    by_cases h2 : 1 ≤ nd ∧ nd ≤ N
    · simp only [go_sem, Nat.reduceBEq, Nat.reduceAdd, Nat.reduceMul, Nat.reduceSub, Nat.reduceLeDiff, Nat.le_refl, implies_true, Nat.reduceLT, reduceIte, decide_true, decide_false, true_and, and_true, reduceCtorEq, Nat.mul_one, Int.reduceToNat, Int.reduceLE, Int.reduceLT, Int.reduceAdd, Int.reduceSub, Int.reduceMul, Int.cast_ofNat_Int, cast_zero_int, cast_one_int, Nat.reducePow, Nat.reduceEqDiff, Nat.reduceMod, Nat.zero_add, Nat.sub_zero, Nat.add_zero, decb h1, decb h2]
      refine ⟨by kernel_rfl, (c_l24Class _).use (fun _ m => m) ?_⟩
      rintro _ _ ⟨rfl, rfl⟩
      by_cases h3 : 1 ≤ cl ∧ cl ≤ 3
      · have hok : fewOk N P l nd cl := ⟨h1, h2, h3⟩
        obtain ⟨Nn, rfl⟩ : ∃ m : Nat, N = m := ⟨N.toNat, by omega⟩
        simp only [go_sem, Nat.reduceBEq, Nat.reduceAdd, Nat.reduceMul, Nat.reduceSub, Nat.reduceLeDiff, Nat.le_refl, implies_true, Nat.reduceLT, reduceIte, decide_true, decide_false, true_and, and_true, reduceCtorEq, Nat.mul_one, Int.reduceToNat, Int.reduceLE, Int.reduceLT, Int.reduceAdd, Int.reduceSub, Int.reduceMul, Int.cast_ofNat_Int, cast_zero_int, cast_one_int, Nat.reducePow, Nat.reduceEqDiff, Nat.reduceMod, Nat.zero_add, Nat.sub_zero, Nat.add_zero, decb h1, decb h2, decb h3]
        refine ⟨by kernel_rfl, (c_l24Reaching _ _ Nn P l nd 10 (hv.mono (by simp)) (sl.mono (by simp)) h1.1 h1.hin h2).use (fun _ m => m) ?_⟩
        rintro v12 h1' ⟨sR, hp⟩
        have hfew : fewB Nn P l nd cl = fbest (reachA P l nd 10) l (need cl) (2 ^ (reachA P l nd 10).length) := by rw [fewB, if_pos hok]
        have hl10 := h1.2.1.2
        have gl := h1.hin
        have hRl : (reachA P l nd 10).length ≤ l.length := reachL_len
        have hRin : ∀ x ∈ reachA P l nd 10, 0 ≤ x ∧ x < l.length := reach_in
        rw [hfew]
        clear hfew bad
        generalize reachA P l nd 10 = R at *
        replace sR := sR.ai
        have hpre := (List.prefix_append _ _).trans hp
        have hle : h.length ≤ h1'.length := hpre.length_le
        replace sl := sl.mono hpre
        obtain ⟨a, rfl⟩ := Sl.len2 sl
        obtain ⟨b, rfl⟩ := sR.len
        have wR : IntKind.u64.wrap (R.length : Int) = R.length := IntWalk.u64_in _ (by omega)
        try simp only [go_sem, Nat.reduceBEq, Nat.reduceAdd, Nat.reduceMul, Nat.reduceSub, Nat.reduceLeDiff, Nat.le_refl, implies_true, Nat.reduceLT, reduceIte, decide_true, decide_false, true_and, and_true, reduceCtorEq, Nat.mul_one, Int.reduceToNat, Int.reduceLE, Int.reduceLT, Int.reduceAdd, Int.reduceSub, Int.reduceMul, Int.cast_ofNat_Int, cast_zero_int, cast_one_int, Nat.reducePow, Nat.reduceEqDiff, Nat.reduceMod, Nat.zero_add, Nat.sub_zero, Nat.add_zero]
        refine vLoop.count mo (2 ^ R.length) (fun s e h' => ∃ (v13 : Value), Regs e [(1, .slice a l.length 0), (3, .int .i64 cl), (10, .slice b R.length 0), (11, v13), (12, .bool (fbest R l (need cl) s).isSome), (13, .int .i64 s)] ∧
          h1' <+: h' ∧ FI h1'.length h'.length h' v13 ((fbest R l (need cl) s).getD [])) ?_ ?_
        · exact ⟨.slice (some ⟨h1'.length, 0, none⟩) 0 0, (by simp [Regs, upd, put, env0, fbest]), List.prefix_append _ _, .nil⟩
        · rintro s e H hs ⟨v13, ⟨e1, e3, e10, e11, e12, e13, _⟩, hpH, sB⟩
          have hleH : h.length ≤ H.length := Nat.le_trans hle hpH.length_le
          have hBl := fbest_len (L := R) (l := l) (nd := need cl) (n := s)
          have h2R : 2 ^ R.length ≤ 2 ^ 10 := Nat.pow_le_pow_right (by omega) (by omega)
          obtain ⟨c, hc⟩ := sB.ai.len
          subst hc
          simp only [go_sem, Nat.reduceBEq, Nat.reduceAdd, Nat.reduceMul, Nat.reduceSub, Nat.reduceLeDiff, Nat.le_refl, implies_true, Nat.reduceLT, reduceIte, decide_true, decide_false, true_and, and_true, reduceCtorEq, Nat.mul_one, Int.reduceToNat, Int.reduceLE, Int.reduceLT, Int.reduceAdd, Int.reduceSub, Int.reduceMul, Int.cast_ofNat_Int, cast_zero_int, cast_one_int, Nat.reducePow, Nat.reduceEqDiff, Nat.reduceMod, Nat.zero_add, Nat.sub_zero, Nat.add_zero, e1, e3, e10, e11, e12, e13, wR, hBin_shl (show (0 : Int) ≤ R.length by omega), shl_one' (show R.length ≤ 60 by omega)]
          by_cases hlt : s < 2 ^ R.length
          · have ws := wsucc hlt (by omega)
            have hz : (s : Int) < ((2 ^ R.length : Nat) : Int) := by omega
            have hs10 : s < 1024 := by omega
            simp only [go_sem, Nat.reduceBEq, Nat.reduceAdd, Nat.reduceMul, Nat.reduceSub, Nat.reduceLeDiff, Nat.le_refl, implies_true, Nat.reduceLT, reduceIte, decide_true, decide_false, true_and, and_true, reduceCtorEq, Nat.mul_one, Int.reduceToNat, Int.reduceLE, Int.reduceLT, Int.reduceAdd, Int.reduceSub, Int.reduceMul, Int.cast_ofNat_Int, cast_zero_int, cast_one_int, Nat.reducePow, Nat.reduceEqDiff, Nat.reduceMod, Nat.zero_add, Nat.sub_zero, Nat.add_zero, e1, e3, e10, e11, e12, e13, hz]
            refine vLoop.count mo R.length (fun i e h' => ∃ (t : Heap) (v14 : Value), Regs e [(1, .slice a l.length 0), (3, .int .i64 cl), (10, .slice b R.length 0), (11, .slice c ((fbest R l (need cl) s).getD []).length 0), (12, .bool (fbest R l (need cl) s).isSome), (13, .int .i64 s), (14, v14), (15, .int .i64 i)] ∧
              HeapIs h' (H ++ t) ∧ OF H.length 0 t v14 (choice R s i)) ?_ ?_
            · exact ⟨_, .slice (some ⟨H.length, 0, none⟩) 0 0, (by simp [Regs, upd, put, env0, e1, e3, e10, e11, e12, e13, choice, sumF]), .rfl, .mk' 0 rfl rfl rfl⟩
            · rintro i e _ hi ⟨t, v14, ⟨e1, e3, e10, e11, e12, e13, e14, e15, _⟩, rfl, oi⟩
              obtain ⟨j, rfl, hj⟩ := id oi
              simp only [go_sem, Nat.reduceBEq, Nat.reduceAdd, Nat.reduceMul, Nat.reduceSub, Nat.reduceLeDiff, Nat.le_refl, implies_true, Nat.reduceLT, reduceIte, decide_true, decide_false, true_and, and_true, reduceCtorEq, Nat.mul_one, Int.reduceToNat, Int.reduceLE, Int.reduceLT, Int.reduceAdd, Int.reduceSub, Int.reduceMul, Int.cast_ofNat_Int, cast_zero_int, cast_one_int, Nat.reducePow, Nat.reduceEqDiff, Nat.reduceMod, Nat.zero_add, Nat.sub_zero, Nat.add_zero, e1, e3, e10, e11, e12, e13, e14, e15]
              have hcl := choice_len (L := R) (s := s) (i := i)
              by_cases hir : i < R.length
              · have wi := wsucc hir (by omega)
                have hzi : (i : Int) < R.length := by omega
                obtain ⟨id2, o2, K2, hv2, _, _, hk2, hd2, _, _, _, hat2⟩ := sR.at (Nat.zero_lt_of_lt hir)
                obtain rfl : b = some ⟨id2, o2, none⟩ := by simpa using hv2
                have hk2 := pre_get hpH hk2
                have wi2 : IntKind.u64.wrap (i : Int) = i := IntWalk.u64_in _ (by omega)
                simp only [go_sem, Nat.reduceBEq, Nat.reduceAdd, Nat.reduceMul, Nat.reduceSub, Nat.reduceLeDiff, Nat.le_refl, implies_true, Nat.reduceLT, reduceIte, decide_true, decide_false, true_and, and_true, reduceCtorEq, Nat.mul_one, Int.reduceToNat, Int.reduceLE, Int.reduceLT, Int.reduceAdd, Int.reduceSub, Int.reduceMul, Int.cast_ofNat_Int, cast_zero_int, cast_one_int, Nat.reducePow, Nat.reduceEqDiff, Nat.reduceMod, Nat.zero_add, Nat.sub_zero, Nat.add_zero, e1, e3, e10, e11, e12, e13, e14, e15, hzi, wi2, hBin_shr (show (0 : Int) ≤ i by omega), shr_nat' (a := s) (i := i) (by omega), hBin_bit, bit_eq]
                cases hbit : s.testBit i with
                | true =>
                  have hyes := choice_yes hir hbit
                  simp only [go_sem, Nat.reduceBEq, Nat.reduceAdd, Nat.reduceMul, Nat.reduceSub, Nat.reduceLeDiff, Nat.le_refl, implies_true, Nat.reduceLT, reduceIte, decide_true, decide_false, true_and, and_true, reduceCtorEq, Nat.mul_one, Int.reduceToNat, Int.reduceLE, Int.reduceLT, Int.reduceAdd, Int.reduceSub, Int.reduceMul, Int.cast_ofNat_Int, cast_zero_int, cast_one_int, Nat.reducePow, Nat.reduceEqDiff, Nat.reduceMod, Nat.zero_add, Nat.sub_zero, Nat.add_zero, e1, e3, e10, e11, e12, e13, e14, e15, hbit, own_base hleH, hzi, hk2, hd2, hat2 i hir, app_old hj, List.length_map]
                  refine ⟨by omega, by omega, hir, _, _, ⟨e1, e3, e10, e11, e12, e13, rfl, congrArg _ wi, trivial⟩, .rfl, (.mk' (t.length + 1) ?_ (by rw [hyes]; simp) ?_)⟩
                  · simp
                  · exact (new_at (by simp)).trans (by simp [iv, hyes])
                | false =>
                  have hno := choice_no (L := R) hbit
                  simp only [go_sem, Nat.reduceBEq, Nat.reduceAdd, Nat.reduceMul, Nat.reduceSub, Nat.reduceLeDiff, Nat.le_refl, implies_true, Nat.reduceLT, reduceIte, decide_true, decide_false, true_and, and_true, reduceCtorEq, Nat.mul_one, Int.reduceToNat, Int.reduceLE, Int.reduceLT, Int.reduceAdd, Int.reduceSub, Int.reduceMul, Int.cast_ofNat_Int, cast_zero_int, cast_one_int, Nat.reducePow, Nat.reduceEqDiff, Nat.reduceMod, Nat.zero_add, Nat.sub_zero, Nat.add_zero, e1, e3, e10, e11, e12, e13, e14, e15, hbit]
                  exact ⟨hir, _, _, ⟨e1, e3, e10, e11, e12, e13, e14, congrArg _ wi, trivial⟩, .rfl, by rw [hno]; exact oi⟩
              · obtain rfl : i = R.length := by omega
                have hstep : fbest R l (need cl) (s + 1) = fstep R l (need cl) (fbest R l (need cl) s) s := rfl
                unfold fstep at hstep
                have f1 := OF.fi0 (m := h1'.length) oi hpH.length_le
                have f0 := (sB.mono (List.prefix_append H t)).wide (Nat.le_refl _) (show H.length ≤ (H ++ t).length by simp)
                have hpH2 := hpH.trans (List.prefix_append H t)
                have hcin : ∀ x ∈ choice R s R.length, 0 ≤ x ∧ x < l.length := fun x hx => hRin x (choice_mem (Nat.le_refl _) x hx)
                simp only [Nat.add_zero] at f1
                simp only [go_sem, Nat.reduceBEq, Nat.reduceAdd, Nat.reduceMul, Nat.reduceSub, Nat.reduceLeDiff, Nat.le_refl, implies_true, Nat.reduceLT, reduceIte, decide_true, decide_false, true_and, and_true, reduceCtorEq, Nat.mul_one, Int.reduceToNat, Int.reduceLE, Int.reduceLT, Int.reduceAdd, Int.reduceSub, Int.reduceMul, Int.cast_ofNat_Int, cast_zero_int, cast_one_int, Nat.reducePow, Nat.reduceEqDiff, Nat.reduceMod, Nat.zero_add, Nat.sub_zero, Nat.add_zero, e1, e3, e10, e11, e12, e13, e14, e15, show ¬ ((R.length : Int) < R.length) by omega]
                refine ⟨by kernel_rfl, (c_l24Sum _ _ l (choice R s R.length) ((sl.mono hpH).mono (by simp)) f1.ai gl hcin (by omega)).use (fun _ m => m) ?_⟩
                rintro _ _ ⟨rfl, rfl⟩
                try simp only [go_sem, Nat.reduceBEq, Nat.reduceAdd, Nat.reduceMul, Nat.reduceSub, Nat.reduceLeDiff, Nat.le_refl, implies_true, Nat.reduceLT, reduceIte, decide_true, decide_false, true_and, and_true, reduceCtorEq, Nat.mul_one, Int.reduceToNat, Int.reduceLE, Int.reduceLT, Int.reduceAdd, Int.reduceSub, Int.reduceMul, Int.cast_ofNat_Int, cast_zero_int, cast_one_int, Nat.reducePow, Nat.reduceEqDiff, Nat.reduceMod, Nat.zero_add, Nat.sub_zero, Nat.add_zero, e1, e3, e10, e11, e12, e13, e14, e15]
                refine ⟨by kernel_rfl, (c_l24Need _ h3).use (fun _ m => m) ?_⟩
                rintro _ _ ⟨rfl, ⟨t3, rfl⟩⟩
                replace f1 := (f1.mono (List.prefix_append _ t3)).wide (Nat.le_refl _) (show (H ++ t).length ≤ (H ++ t ++ t3).length by simp)
                replace f0 := (f0.mono (List.prefix_append _ t3)).wide (Nat.le_refl _) (show (H ++ t).length ≤ (H ++ t ++ t3).length by simp)
                replace hpH2 := hpH2.trans (List.prefix_append (H ++ t) t3)
                simp only [List.length_append, List.append_assoc] at f1 f0 hpH2
                by_cases c1 : sumF l (choice R s R.length) < need cl
                · rw [if_pos c1] at hstep
                  simp only [go_sem, Nat.reduceBEq, Nat.reduceAdd, Nat.reduceMul, Nat.reduceSub, Nat.reduceLeDiff, Nat.le_refl, implies_true, Nat.reduceLT, reduceIte, decide_true, decide_false, true_and, and_true, reduceCtorEq, Nat.mul_one, Int.reduceToNat, Int.reduceLE, Int.reduceLT, Int.reduceAdd, Int.reduceSub, Int.reduceMul, Int.cast_ofNat_Int, cast_zero_int, cast_one_int, Nat.reducePow, Nat.reduceEqDiff, Nat.reduceMod, Nat.zero_add, Nat.sub_zero, Nat.add_zero, e1, e3, e10, e11, e12, e13, e14, e15, c1]
                  exact ⟨hlt, _, ⟨e1, e3, e10, e11, by rw [hstep]; exact e12, congrArg _ ws, trivial⟩, hpH2, by rw [hstep]; exact f0⟩
                · rw [if_neg c1] at hstep
                  cases hb : fbest R l (need cl) s with
                  | none =>
                    rw [hb] at hstep f0 e11 e12
                    simp only at hstep
                    simp only [go_sem, Nat.reduceBEq, Nat.reduceAdd, Nat.reduceMul, Nat.reduceSub, Nat.reduceLeDiff, Nat.le_refl, implies_true, Nat.reduceLT, reduceIte, decide_true, decide_false, true_and, and_true, reduceCtorEq, Nat.mul_one, Int.reduceToNat, Int.reduceLE, Int.reduceLT, Int.reduceAdd, Int.reduceSub, Int.reduceMul, Int.cast_ofNat_Int, cast_zero_int, cast_one_int, Nat.reducePow, Nat.reduceEqDiff, Nat.reduceMod, Nat.zero_add, Nat.sub_zero, Nat.add_zero, e1, e3, e10, e11, e12, e13, e14, e15, c1, Option.isSome_none]
                    exact ⟨hlt, _, ⟨e1, e3, e10, rfl, by rw [hstep]; rfl, congrArg _ ws, trivial⟩, hpH2, by rw [hstep]; exact f1⟩
                  | some d =>
                    rw [hb] at hstep f0 e11 e12 hBl
                    simp only at hstep
                    simp only [Option.getD_some] at hBl
                    by_cases c2 : (choice R s R.length).length < d.length
                    · rw [if_pos (.inl c2)] at hstep
                      simp only [go_sem, Nat.reduceBEq, Nat.reduceAdd, Nat.reduceMul, Nat.reduceSub, Nat.reduceLeDiff, Nat.le_refl, implies_true, Nat.reduceLT, reduceIte, decide_true, decide_false, true_and, and_true, reduceCtorEq, Nat.mul_one, Int.reduceToNat, Int.reduceLE, Int.reduceLT, Int.reduceAdd, Int.reduceSub, Int.reduceMul, Int.cast_ofNat_Int, cast_zero_int, cast_one_int, Nat.reducePow, Nat.reduceEqDiff, Nat.reduceMod, Nat.zero_add, Nat.sub_zero, Nat.add_zero, e1, e3, e10, e11, e12, e13, e14, e15, c1, Option.isSome_some, Option.getD_some, show ((choice R s R.length).length : Int) < d.length by omega]
                      exact ⟨hlt, _, ⟨e1, e3, e10, rfl, by rw [hstep]; rfl, congrArg _ ws, trivial⟩, hpH2, by rw [hstep]; exact f1⟩
                    · by_cases c4 : (choice R s R.length).length = d.length
                      · simp only [go_sem, Nat.reduceBEq, Nat.reduceAdd, Nat.reduceMul, Nat.reduceSub, Nat.reduceLeDiff, Nat.le_refl, implies_true, Nat.reduceLT, reduceIte, decide_true, decide_false, true_and, and_true, reduceCtorEq, Nat.mul_one, Int.reduceToNat, Int.reduceLE, Int.reduceLT, Int.reduceAdd, Int.reduceSub, Int.reduceMul, Int.cast_ofNat_Int, cast_zero_int, cast_one_int, Nat.reducePow, Nat.reduceEqDiff, Nat.reduceMod, Nat.zero_add, Nat.sub_zero, Nat.add_zero, e1, e3, e10, e11, e12, e13, e14, e15, c1, Option.isSome_some, Option.getD_some, show ¬ (((choice R s R.length).length : Int) < d.length) by omega, show (((choice R s R.length).length : Int) == d.length) = true by simp [c4]]
                        refine ⟨by kernel_rfl, (c_l24Less _ _ (choice R s R.length) d f1.ai f0.ai c4 (by omega)).use (fun _ m => m) ?_⟩
                        rintro _ _ ⟨rfl, rfl⟩
                        cases c3 : lexL (choice R s R.length) d with
                        | true =>
                          rw [if_pos (.inr ⟨c4, c3⟩)] at hstep
                          simp only [go_sem, Nat.reduceBEq, Nat.reduceAdd, Nat.reduceMul, Nat.reduceSub, Nat.reduceLeDiff, Nat.le_refl, implies_true, Nat.reduceLT, reduceIte, decide_true, decide_false, true_and, and_true, reduceCtorEq, Nat.mul_one, Int.reduceToNat, Int.reduceLE, Int.reduceLT, Int.reduceAdd, Int.reduceSub, Int.reduceMul, Int.cast_ofNat_Int, cast_zero_int, cast_one_int, Nat.reducePow, Nat.reduceEqDiff, Nat.reduceMod, Nat.zero_add, Nat.sub_zero, Nat.add_zero, e1, e3, e10, e11, e12, e13, e14, e15, c1, c3, Option.isSome_some, Option.getD_some, show ¬ (((choice R s R.length).length : Int) < d.length) by omega, show (((choice R s R.length).length : Int) == d.length) = true by simp [c4]]
                          exact ⟨hlt, _, ⟨e1, e3, e10, rfl, by rw [hstep]; rfl, congrArg _ ws, trivial⟩, hpH2, by rw [hstep]; exact f1⟩
                        | false =>
                          rw [if_neg (fun hh => hh.elim c2 (fun hh => by rw [c3] at hh; cases hh.2))] at hstep
                          simp only [go_sem, Nat.reduceBEq, Nat.reduceAdd, Nat.reduceMul, Nat.reduceSub, Nat.reduceLeDiff, Nat.le_refl, implies_true, Nat.reduceLT, reduceIte, decide_true, decide_false, true_and, and_true, reduceCtorEq, Nat.mul_one, Int.reduceToNat, Int.reduceLE, Int.reduceLT, Int.reduceAdd, Int.reduceSub, Int.reduceMul, Int.cast_ofNat_Int, cast_zero_int, cast_one_int, Nat.reducePow, Nat.reduceEqDiff, Nat.reduceMod, Nat.zero_add, Nat.sub_zero, Nat.add_zero, e1, e3, e10, e11, e12, e13, e14, e15, c1, c3, Option.isSome_some, Option.getD_some, show ¬ (((choice R s R.length).length : Int) < d.length) by omega, show (((choice R s R.length).length : Int) == d.length) = true by simp [c4]]
                          exact ⟨hlt, _, ⟨e1, e3, e10, e11, by rw [hstep]; exact e12, congrArg _ ws, trivial⟩, hpH2, by rw [hstep]; exact f0⟩
                      · rw [if_neg (fun hh => hh.elim c2 (fun hh => c4 hh.1))] at hstep
                        simp only [go_sem, Nat.reduceBEq, Nat.reduceAdd, Nat.reduceMul, Nat.reduceSub, Nat.reduceLeDiff, Nat.le_refl, implies_true, Nat.reduceLT, reduceIte, decide_true, decide_false, true_and, and_true, reduceCtorEq, Nat.mul_one, Int.reduceToNat, Int.reduceLE, Int.reduceLT, Int.reduceAdd, Int.reduceSub, Int.reduceMul, Int.cast_ofNat_Int, cast_zero_int, cast_one_int, Nat.reducePow, Nat.reduceEqDiff, Nat.reduceMod, Nat.zero_add, Nat.sub_zero, Nat.add_zero, e1, e3, e10, e11, e12, e13, e14, e15, c1, Option.isSome_some, Option.getD_some, show ¬ (((choice R s R.length).length : Int) < d.length) by omega, show (((choice R s R.length).length : Int) == d.length) = false by simpa using fun hh : ((choice R s R.length).length : Int) = d.length => c4 (by omega)]
                        exact ⟨hlt, _, ⟨e1, e3, e10, e11, by rw [hstep]; exact e12, congrArg _ ws, trivial⟩, hpH2, by rw [hstep]; exact f0⟩
          · obtain rfl : s = 2 ^ R.length := by omega
            simp only [go_sem, Nat.reduceBEq, Nat.reduceAdd, Nat.reduceMul, Nat.reduceSub, Nat.reduceLeDiff, Nat.le_refl, implies_true, Nat.reduceLT, reduceIte, decide_true, decide_false, true_and, and_true, reduceCtorEq, Nat.mul_one, Int.reduceToNat, Int.reduceLE, Int.reduceLT, Int.reduceAdd, Int.reduceSub, Int.reduceMul, Int.cast_ofNat_Int, cast_zero_int, cast_one_int, Nat.reducePow, Nat.reduceEqDiff, Nat.reduceMod, Nat.zero_add, Nat.sub_zero, Nat.add_zero, e1, e3, e10, e11, e12, e13, show ¬ (((2 ^ R.length : Nat) : Int) < ((2 ^ R.length : Nat) : Int)) by omega]
            exact ⟨⟨_, rfl, sB.wide hle (Nat.le_refl _)⟩, hpre.trans hpH⟩
      · simp only [go_sem, Nat.reduceBEq, Nat.reduceAdd, Nat.reduceMul, Nat.reduceSub, Nat.reduceLeDiff, Nat.le_refl, implies_true, Nat.reduceLT, reduceIte, decide_true, decide_false, true_and, and_true, reduceCtorEq, Nat.mul_one, Int.reduceToNat, Int.reduceLE, Int.reduceLT, Int.reduceAdd, Int.reduceSub, Int.reduceMul, Int.cast_ofNat_Int, cast_zero_int, cast_one_int, Nat.reducePow, Nat.reduceEqDiff, Nat.reduceMod, Nat.zero_add, Nat.sub_zero, Nat.add_zero, decb h1, decb h2, dect h3]
        exact bad (fun hh => h3 hh.2.2) _ _ _
    · simp only [go_sem, Nat.reduceBEq, Nat.reduceAdd, Nat.reduceMul, Nat.reduceSub, Nat.reduceLeDiff, Nat.le_refl, implies_true, Nat.reduceLT, reduceIte, decide_true, decide_false, true_and, and_true, reduceCtorEq, Nat.mul_one, Int.reduceToNat, Int.reduceLE, Int.reduceLT, Int.reduceAdd, Int.reduceSub, Int.reduceMul, Int.cast_ofNat_Int, cast_zero_int, cast_one_int, Nat.reducePow, Nat.reduceEqDiff, Nat.reduceMod, Nat.zero_add, Nat.sub_zero, Nat.add_zero, decb h1, dect h2]
      exact bad (fun hh => h2 hh.2.1) _ _ _
  · simp only [go_sem, Nat.reduceBEq, Nat.reduceAdd, Nat.reduceMul, Nat.reduceSub, Nat.reduceLeDiff, Nat.le_refl, implies_true, Nat.reduceLT, reduceIte, decide_true, decide_false, true_and, and_true, reduceCtorEq, Nat.mul_one, Int.reduceToNat, Int.reduceLE, Int.reduceLT, Int.reduceAdd, Int.reduceSub, Int.reduceMul, Int.cast_ofNat_Int, cast_zero_int, cast_one_int, Nat.reducePow, Nat.reduceEqDiff, Nat.reduceMod, Nat.zero_add, Nat.sub_zero, Nat.add_zero, dect h1]
    exact bad (fun hh => h1 hh.1) _ _ _
end
end Go.Proofs.Ytjgekhahklidcaa
