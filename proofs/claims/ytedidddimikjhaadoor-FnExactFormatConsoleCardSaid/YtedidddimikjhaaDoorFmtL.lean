
/- FormatConsole answers as the reference does. The table of powers reads as the program's text lays it. -/
import Derived.Test.YtedidddimikjhaaDoorFmt
namespace Go.Proofs.YtedidddimikjhaaDoor
open Go.HH Go.Proofs
set_option linter.unusedSimpArgs false
set_option linter.unusedVariables false

theorem fmtV_shape (c : Con) : ∃ s g, fmtV c = .tuple #[.string s, .bool g] := by
  unfold fmtV
  split <;> exact ⟨_, _, rfl⟩
section
variable {G : List (Nat × Nat)} {h : Heap} {M : Nat → Prop}
theorem l_FormatConsole (pw : PowAt G h) (c : Con) (wP wV : Value) (s : ConS h.length h c wP wV) (hb : ConB c) : vCall G Tryd.prog M 4 [conV c wP wV] h (fun r _ => r = .bool true) := by
  obtain ⟨tx, g, hf⟩ := fmtV_shape c
  refine body_of mo Tryd.func4 rfl (by kernel_rfl) (Nat.le_of_ble_eq_true (by kernel_rfl)) rfl ?_
  have cv : conV c wP wV = .agg #[.int .i64 c.N, wP, wV, .int .i64 c.src, .string c.D, .string c.Q, .int .i64 c.cnt] := rfl
  simp only [go_sem, Nat.reduceBEq, Nat.reduceAdd, Nat.reduceMul, Nat.reduceSub, Nat.reduceLeDiff, Nat.le_refl, implies_true, Nat.reduceLT, reduceIte, decide_true, decide_false, true_and, and_true, reduceCtorEq, Nat.mul_one, Int.reduceToNat, Int.reduceLE, Int.reduceLT, Int.reduceAdd, Int.reduceSub, Int.reduceMul, Int.cast_ofNat_Int, cast_zero_int, cast_one_int, Nat.reducePow, Nat.reduceEqDiff, Nat.reduceMod, Nat.zero_add, Nat.sub_zero, Nat.add_zero, conV]
  rw [← cv]
  refine ⟨by kernel_rfl, ((c_szConsole c wP wV (s.mono (by simp)) hb _ rfl).addG).use (fun _ m => m) ?_⟩
  rintro _ _ ⟨⟨z, rfl, hz⟩, ⟨t, rfl⟩⟩
  by_cases h1 : z < 0
  · simp only [go_sem, Nat.reduceBEq, Nat.reduceAdd, Nat.reduceMul, Nat.reduceSub, Nat.reduceLeDiff, Nat.le_refl, implies_true, Nat.reduceLT, reduceIte, decide_true, decide_false, true_and, and_true, reduceCtorEq, Nat.mul_one, Int.reduceToNat, Int.reduceLE, Int.reduceLT, Int.reduceAdd, Int.reduceSub, Int.reduceMul, Int.cast_ofNat_Int, cast_zero_int, cast_one_int, Nat.reducePow, Nat.reduceEqDiff, Nat.reduceMod, Nat.zero_add, Nat.sub_zero, Nat.add_zero, h1]
  have hc := conSize_small (fun hh => h1 (hz.2 hh))
  simp only [go_sem, Nat.reduceBEq, Nat.reduceAdd, Nat.reduceMul, Nat.reduceSub, Nat.reduceLeDiff, Nat.le_refl, implies_true, Nat.reduceLT, reduceIte, decide_true, decide_false, true_and, and_true, reduceCtorEq, Nat.mul_one, Int.reduceToNat, Int.reduceLE, Int.reduceLT, Int.reduceAdd, Int.reduceSub, Int.reduceMul, Int.cast_ofNat_Int, cast_zero_int, cast_one_int, Nat.reducePow, Nat.reduceEqDiff, Nat.reduceMod, Nat.zero_add, Nat.sub_zero, Nat.add_zero, h1]
  rw [← cv]
  refine ⟨by kernel_rfl, ((c_toConsole c wP wV (s.mono (by simp)) hc).addG).use (fun _ m => m) ?_⟩
  rintro _ _ ⟨⟨xP, xV, rfl, f1⟩, ⟨t1, rfl⟩⟩
  try simp only [List.append_assoc, List.cons_append] at f1
  try simp only [go_sem, Nat.reduceBEq, Nat.reduceAdd, Nat.reduceMul, Nat.reduceSub, Nat.reduceLeDiff, Nat.le_refl, implies_true, Nat.reduceLT, reduceIte, decide_true, decide_false, true_and, and_true, reduceCtorEq, Nat.mul_one, Int.reduceToNat, Int.reduceLE, Int.reduceLT, Int.reduceAdd, Int.reduceSub, Int.reduceMul, Int.cast_ofNat_Int, cast_zero_int, cast_one_int, Nat.reducePow, Nat.reduceEqDiff, Nat.reduceMod, Nat.zero_add, Nat.sub_zero, Nat.add_zero]
  refine ⟨by kernel_rfl, ((c_sFormatConsole c xP xV f1.s hc).addG).use (fun _ m => m) ?_⟩
  rintro _ _ ⟨rfl, ⟨t2, rfl⟩⟩
  rw [hf]
  simp only [go_sem, Nat.reduceBEq, Nat.reduceAdd, Nat.reduceMul, Nat.reduceSub, Nat.reduceLeDiff, Nat.le_refl, implies_true, Nat.reduceLT, reduceIte, decide_true, decide_false, true_and, and_true, reduceCtorEq, Nat.mul_one, Int.reduceToNat, Int.reduceLE, Int.reduceLT, Int.reduceAdd, Int.reduceSub, Int.reduceMul, Int.cast_ofNat_Int, cast_zero_int, cast_one_int, Nat.reducePow, Nat.reduceEqDiff, Nat.reduceMod, Nat.zero_add, Nat.sub_zero, Nat.add_zero]
  rw [← cv]
  refine ⟨by kernel_rfl, ((c_toConsole c wP wV (s.mono (by simp)) hc).addG).use (fun _ m => m) ?_⟩
  rintro _ _ ⟨⟨yP, yV, rfl, f2⟩, ⟨t3, rfl⟩⟩
  try simp only [List.append_assoc, List.cons_append] at f2
  have cy : conV c yP yV = .agg #[.int .i64 c.N, yP, yV, .int .i64 c.src, .string c.D, .string c.Q, .int .i64 c.cnt] := rfl
  simp only [go_sem, Nat.reduceBEq, Nat.reduceAdd, Nat.reduceMul, Nat.reduceSub, Nat.reduceLeDiff, Nat.le_refl, implies_true, Nat.reduceLT, reduceIte, decide_true, decide_false, true_and, and_true, reduceCtorEq, Nat.mul_one, Int.reduceToNat, Int.reduceLE, Int.reduceLT, Int.reduceAdd, Int.reduceSub, Int.reduceMul, Int.cast_ofNat_Int, cast_zero_int, cast_one_int, Nat.reducePow, Nat.reduceEqDiff, Nat.reduceMod, Nat.zero_add, Nat.sub_zero, Nat.add_zero, conV, frOne f2.p, frOne f2.v, Bool.and_self]
  try rw [← cy]
  refine ⟨by kernel_rfl, (c_FormatConsole (pw.mono (by simp)) c yP yV (f2.s.mono (by simp)) ((FR.eszC f2.v).mono (by simp)) hc).use (fun _ m => m) ?_⟩
  rintro _ _ ⟨rfl, ⟨t4, rfl⟩⟩
  rw [hf]
  simp only [go_sem, Nat.reduceBEq, Nat.reduceAdd, Nat.reduceMul, Nat.reduceSub, Nat.reduceLeDiff, Nat.le_refl, implies_true, Nat.reduceLT, reduceIte, decide_true, decide_false, true_and, and_true, reduceCtorEq, Nat.mul_one, Int.reduceToNat, Int.reduceLE, Int.reduceLT, Int.reduceAdd, Int.reduceSub, Int.reduceMul, Int.cast_ofNat_Int, cast_zero_int, cast_one_int, Nat.reducePow, Nat.reduceEqDiff, Nat.reduceMod, Nat.zero_add, Nat.sub_zero, Nat.add_zero, Tryd.underlying4, bne_self_eq_false, beq_self_eq_true, Bool.not_true]
  rw [← cv]
  refine ⟨by kernel_rfl, ((c_toConsole c wP wV (s.mono (by simp)) hc).addG).use (fun _ m => m) ?_⟩
  rintro _ _ ⟨⟨zP, zV, rfl, f3⟩, ⟨t5, rfl⟩⟩
  try simp only [List.append_assoc, List.cons_append] at f3
  try simp only [go_sem, Nat.reduceBEq, Nat.reduceAdd, Nat.reduceMul, Nat.reduceSub, Nat.reduceLeDiff, Nat.le_refl, implies_true, Nat.reduceLT, reduceIte, decide_true, decide_false, true_and, and_true, reduceCtorEq, Nat.mul_one, Int.reduceToNat, Int.reduceLE, Int.reduceLT, Int.reduceAdd, Int.reduceSub, Int.reduceMul, Int.cast_ofNat_Int, cast_zero_int, cast_one_int, Nat.reducePow, Nat.reduceEqDiff, Nat.reduceMod, Nat.zero_add, Nat.sub_zero, Nat.add_zero]
  try rw [← cy]
  refine ⟨by kernel_rfl, ((c_eqConsole c yP yV zP zV (f2.s.mono (by simp)) f3.s hc).addG).use (fun _ m => m) ?_⟩
  rintro _ _ ⟨rfl, ⟨t6, rfl⟩⟩
  simp only [go_sem, Nat.reduceBEq, Nat.reduceAdd, Nat.reduceMul, Nat.reduceSub, Nat.reduceLeDiff, Nat.le_refl, implies_true, Nat.reduceLT, reduceIte, decide_true, decide_false, true_and, and_true, reduceCtorEq, Nat.mul_one, Int.reduceToNat, Int.reduceLE, Int.reduceLT, Int.reduceAdd, Int.reduceSub, Int.reduceMul, Int.cast_ofNat_Int, cast_zero_int, cast_one_int, Nat.reducePow, Nat.reduceEqDiff, Nat.reduceMod, Nat.zero_add, Nat.sub_zero, Nat.add_zero]
end
theorem a_FnExactFormatConsole (h : Heap) (a : List Value) (hp : glH <+: h) (ft : FitsAll h [.struct (.pair (.struct (.pair (.int .i64) (.pair (.slice (.struct (.pair (.int .i64) (.pair (.int .i64) (.pair (.int .i64) (.pair (.int .i64) .unit)))))) .unit))) (.pair (.slice (.struct (.pair (.int .i64) (.pair (.int .i64) (.pair (.int .i64) (.pair .bool .unit)))))) (.pair (.int .i64) (.pair (.struct (.pair .str (.pair .str (.pair (.int .i64) .unit)))) .unit))))] a) : vCall glG Tryd.prog (fun _ => False) 4 a h (fun r _ => r = .bool true) := by
  obtain ⟨v, vs, rfl, f, g⟩ := ft.cons
  obtain rfl := g.nil
  obtain ⟨c, wP, wV, rfl, s, hb⟩ := Fits.cons f
  exact l_FormatConsole (glH_at hp) c wP wV s hb
end Go.Proofs.YtedidddimikjhaaDoor
