
/- The law about the text of a sample. No condition. -/
import Derived.Test.YtkogddiefniihabDoorSmpT
import Derived.Test.YtkogddiefniihabDoorH3
namespace Go.Proofs.YtkogddiefniihabDoor
open Go.HH Go.Proofs
set_option linter.unusedSimpArgs false
set_option linter.unusedVariables false

/-- A contract over fewer variables. -/
theorem HRuns.sub {G1 G : List (Nat × Nat)} (hs : ∀ x ∈ G1, x ∈ G) {P : Program} {f : FuncId} {args : List Value} {h : Heap} {M : Nat → Prop} {r : Value} {h' : Heap} (hh : HRuns G1 P f args h M r h') : HRuns G P f args h M r h' := by
  intro p w vs hr ha
  refine (hh p w vs ⟨fun g hg => hr.glob g (hs g hg), hr.dom, hr.blk, hr.esz, hr.inj⟩ ha).mono ?_
  rintro e w' ⟨v, q, rfl, hv, hq, ex⟩
  exact ⟨v, q, rfl, hv, ⟨fun g hg => by obtain ⟨t, a, b, c⟩ := hr.glob g hg; exact ⟨t, ex.le _ _ a, b, c⟩, hq.dom, hq.blk, hq.esz, hq.inj⟩, ex⟩
theorem vCall.sub {G1 G : List (Nat × Nat)} (hs : ∀ x ∈ G1, x ∈ G) {P : Program} {M : Nat → Prop} {f : FuncId} {args : List Value} {h : Heap} {K : Value → Heap → Prop} (hh : vCall G1 P M f args h K) : vCall G P M f args h K :=
  let ⟨r, h', a, k⟩ := hh
  ⟨r, h', HRuns.sub hs a, k⟩

def smpB (x : Smp) : ByteArray := smpS x.1.toNat x.2.1.toNat x.2.2.1.toNat x.2.2.2.toNat
def smpTV (x : Smp) : Value := if smpOk x then .tuple #[.string (smpB x), .bool true] else .tuple #[.string ⟨#[]⟩, .bool false]
theorem smpTV_shape (x : Smp) : ∃ s g, smpTV x = .tuple #[.string s, .bool g] := by
  unfold smpTV
  split <;> exact ⟨_, _, rfl⟩
/-- Both tables. -/
structure SmpAt (G : List (Nat × Nat)) (h : Heap) : Prop where
  sub : ∀ x ∈ glGS, x ∈ G
  pow : PowAt glGS h
  wrd : WordsAt glGS h
theorem SmpAt.mono {G : List (Nat × Nat)} {h h' : Heap} (a : SmpAt G h) (hp : h <+: h') : SmpAt G h' := ⟨a.sub, a.pow.mono hp, a.wrd.mono hp⟩

section
variable {G : List (Nat × Nat)} {h : Heap} {M : Nat → Prop}
theorem c_sampleText (pw : SmpAt G h) (x : Smp) (g : smpOk x) : vCall G Tryd.prog M 61 [.agg #[.int .i64 x.1, .int .i64 x.2.1, .int .i64 x.2.2.1, .int .i64 x.2.2.2]] h (fun r h' => r = .string (smpB x) ∧ h <+: h') := by
  obtain ⟨a, n, k, v⟩ := x
  obtain ⟨g1, g2, g3, g4⟩ := g
  dsimp only at g1 g2 g3 g4 ⊢
  obtain ⟨a, rfl⟩ := Int.eq_ofNat_of_zero_le g1.1
  obtain ⟨n, rfl⟩ := Int.eq_ofNat_of_zero_le (show 0 ≤ n by omega)
  obtain ⟨k, rfl⟩ := Int.eq_ofNat_of_zero_le (show 0 ≤ k by omega)
  obtain ⟨v, rfl⟩ := Int.eq_ofNat_of_zero_le g4.1
  exact vCall.sub pw.sub (c_sampleTextS pw.pow pw.wrd a n k v (by omega) (by omega) (by omega) (by omega))
theorem c_l23TextI (x : Smp) (g : smpOk x) : vCall [] Tryd.prog M 60 [.agg #[.int .i64 x.1, .int .i64 x.2.1, .int .i64 x.2.2.1, .int .i64 x.2.2.2]] h (fun r h' => r = .string (smpB x) ∧ h <+: h') := by
  obtain ⟨a, n, k, v⟩ := x
  obtain ⟨g1, g2, g3, g4⟩ := g
  dsimp only at g1 g2 g3 g4 ⊢
  obtain ⟨a, rfl⟩ := Int.eq_ofNat_of_zero_le g1.1
  obtain ⟨n, rfl⟩ := Int.eq_ofNat_of_zero_le (show 0 ≤ n by omega)
  obtain ⟨k, rfl⟩ := Int.eq_ofNat_of_zero_le (show 0 ≤ k by omega)
  obtain ⟨v, rfl⟩ := Int.eq_ofNat_of_zero_le g4.1
  exact c_l23Text a n k v (by omega) (by omega) (by omega) (by omega)
theorem decbS {p : Prop} [Decidable p] (g : p) : decide p = true := decide_eq_true g
theorem dectS {p : Prop} [Decidable p] (g : ¬ p) : decide p = false := decide_eq_false g
theorem eqsS {s : ByteArray} : (s.toList == s.toList) = true := beq_self_eq_true _
theorem c_SampleText (pw : SmpAt G h) (x : Smp) : vCall G Tryd.prog M 12 [.agg #[.int .i64 x.1, .int .i64 x.2.1, .int .i64 x.2.2.1, .int .i64 x.2.2.2]] h (fun r h' => r = smpTV x ∧ h <+: h') := by
  refine body_of mo Tryd.func12 rfl (by kernel_rfl) (Nat.le_of_ble_eq_true (by kernel_rfl)) rfl ?_
  simp only [go_sem, Nat.reduceBEq, Nat.reduceAdd, Nat.reduceMul, Nat.reduceSub, Nat.reduceLeDiff, Nat.le_refl, implies_true, Nat.reduceLT, reduceIte, decide_true, decide_false, true_and, and_true, reduceCtorEq, Nat.mul_one, Int.reduceToNat, Int.reduceLE, Int.reduceLT, Int.reduceAdd, Int.reduceSub, Int.reduceMul, Int.cast_ofNat_Int, cast_zero_int, cast_one_int, Nat.reducePow, Nat.reduceEqDiff, Nat.reduceMod, Nat.zero_add, Nat.sub_zero, Nat.add_zero]
  refine ⟨by kernel_rfl, ((c_IsValidSample x).addG).use (fun _ m => m) ?_⟩
  rintro _ _ ⟨rfl, ⟨t, rfl⟩⟩
  by_cases g : smpOk x
  · simp only [go_sem, Nat.reduceBEq, Nat.reduceAdd, Nat.reduceMul, Nat.reduceSub, Nat.reduceLeDiff, Nat.le_refl, implies_true, Nat.reduceLT, reduceIte, decide_true, decide_false, true_and, and_true, reduceCtorEq, Nat.mul_one, Int.reduceToNat, Int.reduceLE, Int.reduceLT, Int.reduceAdd, Int.reduceSub, Int.reduceMul, Int.cast_ofNat_Int, cast_zero_int, cast_one_int, Nat.reducePow, Nat.reduceEqDiff, Nat.reduceMod, Nat.zero_add, Nat.sub_zero, Nat.add_zero, decbS g]
    refine ⟨by kernel_rfl, (c_sampleText (pw.mono (by simp)) x g).use (fun _ m => m) ?_⟩
    rintro _ _ ⟨rfl, ⟨t2, rfl⟩⟩
    simp only [go_sem, Nat.reduceBEq, Nat.reduceAdd, Nat.reduceMul, Nat.reduceSub, Nat.reduceLeDiff, Nat.le_refl, implies_true, Nat.reduceLT, reduceIte, decide_true, decide_false, true_and, and_true, reduceCtorEq, Nat.mul_one, Int.reduceToNat, Int.reduceLE, Int.reduceLT, Int.reduceAdd, Int.reduceSub, Int.reduceMul, Int.cast_ofNat_Int, cast_zero_int, cast_one_int, Nat.reducePow, Nat.reduceEqDiff, Nat.reduceMod, Nat.zero_add, Nat.sub_zero, Nat.add_zero]
    rw [smpTV, if_pos g]
    try all_goals first | exact rfl | exact ⟨rfl, rfl⟩ | exact List.prefix_append _ _ | exact ⟨rfl, List.prefix_append _ _⟩ | assumption | exact ⟨rfl, by assumption⟩ | exact List.prefix_rfl | exact ⟨rfl, List.prefix_rfl⟩ | exact List.IsPrefix.trans (by assumption) (by assumption) | exact ⟨rfl, List.IsPrefix.trans (by assumption) (by assumption)⟩
    try simp
  · simp only [go_sem, Nat.reduceBEq, Nat.reduceAdd, Nat.reduceMul, Nat.reduceSub, Nat.reduceLeDiff, Nat.le_refl, implies_true, Nat.reduceLT, reduceIte, decide_true, decide_false, true_and, and_true, reduceCtorEq, Nat.mul_one, Int.reduceToNat, Int.reduceLE, Int.reduceLT, Int.reduceAdd, Int.reduceSub, Int.reduceMul, Int.cast_ofNat_Int, cast_zero_int, cast_one_int, Nat.reducePow, Nat.reduceEqDiff, Nat.reduceMod, Nat.zero_add, Nat.sub_zero, Nat.add_zero, dectS g]
    rw [smpTV, if_neg g]
    all_goals first | exact rfl | exact ⟨rfl, rfl⟩ | exact List.prefix_append _ _ | exact ⟨rfl, List.prefix_append _ _⟩ | assumption | exact ⟨rfl, by assumption⟩ | exact List.prefix_rfl | exact ⟨rfl, List.prefix_rfl⟩ | exact List.IsPrefix.trans (by assumption) (by assumption) | exact ⟨rfl, List.IsPrefix.trans (by assumption) (by assumption)⟩
theorem c_sSampleText (x : Smp) : vCall [] Tryd.prog M 10 [.agg #[.int .i64 x.1, .int .i64 x.2.1, .int .i64 x.2.2.1, .int .i64 x.2.2.2]] h (fun r h' => r = smpTV x ∧ h <+: h') := by
  refine body_of mo Tryd.func10 rfl (by kernel_rfl) (Nat.le_of_ble_eq_true (by kernel_rfl)) rfl ?_
  simp only [go_sem, Nat.reduceBEq, Nat.reduceAdd, Nat.reduceMul, Nat.reduceSub, Nat.reduceLeDiff, Nat.le_refl, implies_true, Nat.reduceLT, reduceIte, decide_true, decide_false, true_and, and_true, reduceCtorEq, Nat.mul_one, Int.reduceToNat, Int.reduceLE, Int.reduceLT, Int.reduceAdd, Int.reduceSub, Int.reduceMul, Int.cast_ofNat_Int, cast_zero_int, cast_one_int, Nat.reducePow, Nat.reduceEqDiff, Nat.reduceMod, Nat.zero_add, Nat.sub_zero, Nat.add_zero]
  refine ⟨by kernel_rfl, (c_l23One x).use (fun _ m => m) ?_⟩
  rintro _ _ ⟨rfl, ⟨t, rfl⟩⟩
  by_cases g : smpOk x
  · simp only [go_sem, Nat.reduceBEq, Nat.reduceAdd, Nat.reduceMul, Nat.reduceSub, Nat.reduceLeDiff, Nat.le_refl, implies_true, Nat.reduceLT, reduceIte, decide_true, decide_false, true_and, and_true, reduceCtorEq, Nat.mul_one, Int.reduceToNat, Int.reduceLE, Int.reduceLT, Int.reduceAdd, Int.reduceSub, Int.reduceMul, Int.cast_ofNat_Int, cast_zero_int, cast_one_int, Nat.reducePow, Nat.reduceEqDiff, Nat.reduceMod, Nat.zero_add, Nat.sub_zero, Nat.add_zero, decbS g]
    refine ⟨by kernel_rfl, (c_l23TextI x g).use (fun _ m => m) ?_⟩
    rintro _ _ ⟨rfl, ⟨t2, rfl⟩⟩
    simp only [go_sem, Nat.reduceBEq, Nat.reduceAdd, Nat.reduceMul, Nat.reduceSub, Nat.reduceLeDiff, Nat.le_refl, implies_true, Nat.reduceLT, reduceIte, decide_true, decide_false, true_and, and_true, reduceCtorEq, Nat.mul_one, Int.reduceToNat, Int.reduceLE, Int.reduceLT, Int.reduceAdd, Int.reduceSub, Int.reduceMul, Int.cast_ofNat_Int, cast_zero_int, cast_one_int, Nat.reducePow, Nat.reduceEqDiff, Nat.reduceMod, Nat.zero_add, Nat.sub_zero, Nat.add_zero]
    rw [smpTV, if_pos g]
    try all_goals first | exact rfl | exact ⟨rfl, rfl⟩ | exact List.prefix_append _ _ | exact ⟨rfl, List.prefix_append _ _⟩ | assumption | exact ⟨rfl, by assumption⟩ | exact List.prefix_rfl | exact ⟨rfl, List.prefix_rfl⟩ | exact List.IsPrefix.trans (by assumption) (by assumption) | exact ⟨rfl, List.IsPrefix.trans (by assumption) (by assumption)⟩
    try simp
  · simp only [go_sem, Nat.reduceBEq, Nat.reduceAdd, Nat.reduceMul, Nat.reduceSub, Nat.reduceLeDiff, Nat.le_refl, implies_true, Nat.reduceLT, reduceIte, decide_true, decide_false, true_and, and_true, reduceCtorEq, Nat.mul_one, Int.reduceToNat, Int.reduceLE, Int.reduceLT, Int.reduceAdd, Int.reduceSub, Int.reduceMul, Int.cast_ofNat_Int, cast_zero_int, cast_one_int, Nat.reducePow, Nat.reduceEqDiff, Nat.reduceMod, Nat.zero_add, Nat.sub_zero, Nat.add_zero, dectS g]
    rw [smpTV, if_neg g]
    all_goals first | exact rfl | exact ⟨rfl, rfl⟩ | exact List.prefix_append _ _ | exact ⟨rfl, List.prefix_append _ _⟩ | assumption | exact ⟨rfl, by assumption⟩ | exact List.prefix_rfl | exact ⟨rfl, List.prefix_rfl⟩ | exact List.IsPrefix.trans (by assumption) (by assumption) | exact ⟨rfl, List.IsPrefix.trans (by assumption) (by assumption)⟩
theorem l_SampleText (pw : SmpAt G h) (x : Smp) : vCall G Tryd.prog M 3 [.agg #[.int .i64 x.1, .int .i64 x.2.1, .int .i64 x.2.2.1, .int .i64 x.2.2.2]] h (fun r h' => r = .bool true) := by
  obtain ⟨s, g, hs⟩ := smpTV_shape x
  refine body_of mo Tryd.func3 rfl (by kernel_rfl) (Nat.le_of_ble_eq_true (by kernel_rfl)) rfl ?_
  simp only [go_sem, Nat.reduceBEq, Nat.reduceAdd, Nat.reduceMul, Nat.reduceSub, Nat.reduceLeDiff, Nat.le_refl, implies_true, Nat.reduceLT, reduceIte, decide_true, decide_false, true_and, and_true, reduceCtorEq, Nat.mul_one, Int.reduceToNat, Int.reduceLE, Int.reduceLT, Int.reduceAdd, Int.reduceSub, Int.reduceMul, Int.cast_ofNat_Int, cast_zero_int, cast_one_int, Nat.reducePow, Nat.reduceEqDiff, Nat.reduceMod, Nat.zero_add, Nat.sub_zero, Nat.add_zero]
  refine ⟨by kernel_rfl, ((c_toSample x).addG).use (fun _ m => m) ?_⟩
  rintro _ _ ⟨rfl, ⟨t, rfl⟩⟩
  simp only [go_sem, Nat.reduceBEq, Nat.reduceAdd, Nat.reduceMul, Nat.reduceSub, Nat.reduceLeDiff, Nat.le_refl, implies_true, Nat.reduceLT, reduceIte, decide_true, decide_false, true_and, and_true, reduceCtorEq, Nat.mul_one, Int.reduceToNat, Int.reduceLE, Int.reduceLT, Int.reduceAdd, Int.reduceSub, Int.reduceMul, Int.cast_ofNat_Int, cast_zero_int, cast_one_int, Nat.reducePow, Nat.reduceEqDiff, Nat.reduceMod, Nat.zero_add, Nat.sub_zero, Nat.add_zero]
  refine ⟨by kernel_rfl, ((c_sSampleText x).addG).use (fun _ m => m) ?_⟩
  rintro _ _ ⟨rfl, ⟨t2, rfl⟩⟩
  rw [hs]
  simp only [go_sem, Nat.reduceBEq, Nat.reduceAdd, Nat.reduceMul, Nat.reduceSub, Nat.reduceLeDiff, Nat.le_refl, implies_true, Nat.reduceLT, reduceIte, decide_true, decide_false, true_and, and_true, reduceCtorEq, Nat.mul_one, Int.reduceToNat, Int.reduceLE, Int.reduceLT, Int.reduceAdd, Int.reduceSub, Int.reduceMul, Int.cast_ofNat_Int, cast_zero_int, cast_one_int, Nat.reducePow, Nat.reduceEqDiff, Nat.reduceMod, Nat.zero_add, Nat.sub_zero, Nat.add_zero]
  refine ⟨by kernel_rfl, ((c_toSample x).addG).use (fun _ m => m) ?_⟩
  rintro _ _ ⟨rfl, ⟨t3, rfl⟩⟩
  simp only [go_sem, Nat.reduceBEq, Nat.reduceAdd, Nat.reduceMul, Nat.reduceSub, Nat.reduceLeDiff, Nat.le_refl, implies_true, Nat.reduceLT, reduceIte, decide_true, decide_false, true_and, and_true, reduceCtorEq, Nat.mul_one, Int.reduceToNat, Int.reduceLE, Int.reduceLT, Int.reduceAdd, Int.reduceSub, Int.reduceMul, Int.cast_ofNat_Int, cast_zero_int, cast_one_int, Nat.reducePow, Nat.reduceEqDiff, Nat.reduceMod, Nat.zero_add, Nat.sub_zero, Nat.add_zero]
  refine ⟨by kernel_rfl, (c_SampleText (pw.mono (by simp)) x).use (fun _ m => m) ?_⟩
  rintro _ _ ⟨rfl, ⟨t4, rfl⟩⟩
  rw [hs]
  simp only [go_sem, Nat.reduceBEq, Nat.reduceAdd, Nat.reduceMul, Nat.reduceSub, Nat.reduceLeDiff, Nat.le_refl, implies_true, Nat.reduceLT, reduceIte, decide_true, decide_false, true_and, and_true, reduceCtorEq, Nat.mul_one, Int.reduceToNat, Int.reduceLE, Int.reduceLT, Int.reduceAdd, Int.reduceSub, Int.reduceMul, Int.cast_ofNat_Int, cast_zero_int, cast_one_int, Nat.reducePow, Nat.reduceEqDiff, Nat.reduceMod, Nat.zero_add, Nat.sub_zero, Nat.add_zero, eqsS, Bool.not_true, bne_self_eq_false]
end
theorem a_FnExactSampleText (h : Heap) (a : List Value) (hp : glHS <+: h) (ft : FitsAll h [.struct (.pair (.int .i64) (.pair (.int .i64) (.pair (.int .i64) (.pair (.int .i64) .unit))))] a) : vCall glGS Tryd.prog (fun _ => False) 3 a h (fun r _ => r = .bool true) := by
  obtain ⟨v, vs, rfl, f, g⟩ := ft.cons
  obtain rfl := g.nil
  obtain ⟨cs, rfl, g⟩ := f.struct
  obtain ⟨_, _, rfl, f0, r0⟩ := g.pair
  obtain ⟨_, _, rfl, f1, r1⟩ := r0.pair
  obtain ⟨_, _, rfl, f2, r2⟩ := r1.pair
  obtain ⟨_, _, rfl, f3, r3⟩ := r2.pair
  obtain rfl := r3.unit
  obtain ⟨a0, rfl, _⟩ := f0.int
  obtain ⟨a1, rfl, _⟩ := f1.int
  obtain ⟨a2, rfl, _⟩ := f2.int
  obtain ⟨a3, rfl, _⟩ := f3.int
  obtain ⟨p, w⟩ := glHS_at hp
  exact l_SampleText ⟨fun _ h => h, p, w⟩ (a0, a1, a2, a3)
end Go.Proofs.YtkogddiefniihabDoor
