
/- Draws of records and logs. No condition. -/
import Derived.Test.YtkogddiefniihaaDoorLogD
import Derived.Test.YtkogddiefniihaaDoorH3
namespace Go.Proofs.YtkogddiefniihaaDoor
open Go.HH Go.Proofs
set_option linter.unusedSimpArgs false
set_option linter.unusedVariables false

theorem strOf_zeros (n : Nat) : strOfV (List.take n (zeros n [Value.int .u8 0])) = some (mkB (List.replicate n 0)) := by
  have e : zeros n [Value.int .u8 0] = (List.replicate n (0 : UInt8)).map u8v := by rw [zeros_one, List.map_replicate]; rfl
  rw [e, List.take_of_length_le (by simp)]
  exact strOfV_bytes _
theorem strOf_three : strOfV [Value.int .u8 0, Value.int .u8 0, Value.int .u8 0] = some (mkB [0, 0, 0]) := rfl
def recZ : Blk := ⟨[.string ⟨#[]⟩, .string ⟨#[]⟩], 2, .rw⟩
def logZ : Blk := ⟨[.string ⟨#[]⟩, .string ⟨#[]⟩, .int .i64 0], 3, .rw⟩

section
variable {H : Heap} {M : Nat → Prop}

set_option maxRecDepth 20000 in
theorem d_logRecord {id n B : Nat} {a : Option Addr} (s : St H id n a B) (hM : M id) (hB : B ≤ 100000) :
    vCall [] Tryd.prog M 65 [.pointer (some ⟨id, 0, none⟩)] H (fun r H' => (∃ c r2 : ByteArray, r = .agg #[.string c, .string r2] ∧ c.size ≤ 20 ∧ r2.size ≤ 20) ∧ St H' id n a (B + 8) ∧ Agr id (id + 1) H H') := by
  have hid := s.lt
  have hown : own H.length M id := Or.inr hM
  refine body_of mo Tryd.func65 rfl (by kernel_rfl) (Nat.le_of_ble_eq_true (by kernel_rfl)) rfl ?_
  try simp only [go_sem, Nat.reduceBEq, Nat.reduceAdd, Nat.reduceMul, Nat.reduceSub, Nat.reduceLeDiff, Nat.le_refl, implies_true, Nat.reduceLT, reduceIte, decide_true, decide_false, true_and, and_true, reduceCtorEq, Nat.mul_one, Int.reduceToNat, Int.reduceLE, Int.reduceLT, Int.reduceAdd, Int.reduceSub, Int.reduceMul, Int.cast_ofNat_Int, cast_zero_int, cast_one_int, Nat.reducePow, Nat.reduceEqDiff, Nat.reduceMod, Nat.zero_add, Nat.sub_zero, Nat.add_zero]
  refine ⟨by kernel_rfl, (d_of 20 _ _ _ (s.app _) hown hget_lit1 (by decide) rfl (by decide) (by omega) (by omega) (by omega) (by omega)).use (fun _ m => m) ?_⟩
  rintro _ H1 ⟨⟨c, rfl, hc⟩, s1, g1⟩
  have z1 := agr_get g1 hget_lit0 (by omega)
  have L1 := g1.1
  simp only [List.length_append, List.length_cons, List.length_nil] at L1
  try simp only [go_sem, Nat.reduceBEq, Nat.reduceAdd, Nat.reduceMul, Nat.reduceSub, Nat.reduceLeDiff, Nat.le_refl, implies_true, Nat.reduceLT, reduceIte, decide_true, decide_false, true_and, and_true, reduceCtorEq, Nat.mul_one, Int.reduceToNat, Int.reduceLE, Int.reduceLT, Int.reduceAdd, Int.reduceSub, Int.reduceMul, Int.cast_ofNat_Int, cast_zero_int, cast_one_int, Nat.reducePow, Nat.reduceEqDiff, Nat.reduceMod, Nat.zero_add, Nat.sub_zero, Nat.add_zero]
  refine ⟨by kernel_rfl, (d_ofL 20 _ _ s1 hown (by decide) (by decide) (by omega) (by omega) (by omega)).use (fun _ m => m) ?_⟩
  rintro _ H2 ⟨⟨r2, rfl, hr⟩, s2, g2, L2⟩
  have bs0 : Gst H (H2 ++ [⟨[.string c, .string r2], 2, .rw⟩]) id n a (B + 4) H.length H2.length recZ [.string c, .string r2] 2 :=
    ⟨s2.app _, (Agr.app.trans g1).trans (g2.trans Agr.app), self_get (agr_get g2 z1 (by omega)) _, hget_new, by omega⟩
  try simp only [go_sem, Nat.reduceBEq, Nat.reduceAdd, Nat.reduceMul, Nat.reduceSub, Nat.reduceLeDiff, Nat.le_refl, implies_true, Nat.reduceLT, reduceIte, decide_true, decide_false, true_and, and_true, reduceCtorEq, Nat.mul_one, Int.reduceToNat, Int.reduceLE, Int.reduceLT, Int.reduceAdd, Int.reduceSub, Int.reduceMul, Int.cast_ofNat_Int, cast_zero_int, cast_one_int, Nat.reducePow, Nat.reduceEqDiff, Nat.reduceMod, Nat.zero_add, Nat.sub_zero, Nat.add_zero, own_ge (show H.length ≤ H2.length by omega), set_get bs0.b]
  refine ⟨by kernel_rfl, (d_pick _ bs0.st hown (by omega)).use (fun _ m => m) ?_⟩
  rintro _ H3 ⟨⟨m, rfl, m0, m1⟩, s3, g3⟩
  have bs := bs0.step s3 g3
  have o1 : own H.length M H2.length = True := own_ge (by omega)
  have o2 : own H.length M H.length = True := own_ge (Nat.le_refl _)
  have fin : ∀ (Hx : Heap) (c' r' : ByteArray) (Bx : Nat), Gst H Hx id n a Bx H.length H2.length recZ [.string c', .string r'] 2 → Bx ≤ B + 8 → c'.size ≤ 20 → r'.size ≤ 20 →
      (∃ c r2 : ByteArray, Value.agg #[.string c', .string r'] = .agg #[.string c, .string r2] ∧ c.size ≤ 20 ∧ r2.size ≤ 20) ∧ St (Hx.set H.length ⟨[.string c', .string r'], 2, .rw⟩) id n a (B + 8) ∧ Agr id (id + 1) H (Hx.set H.length ⟨[.string c', .string r'], 2, .rw⟩) := fun Hx c' r' Bx q hq h1 h2 => by
    obtain ⟨d1, d2⟩ := q.done rfl ⟨[.string c', .string r'], 2, .rw⟩
    exact ⟨⟨c', r', rfl, h1, h2⟩, d1.more hq, d2⟩
  by_cases q1 : m = 0
  · have L3 := hget_lt bs.r
    try simp only [go_sem, Nat.reduceBEq, Nat.reduceAdd, Nat.reduceMul, Nat.reduceSub, Nat.reduceLeDiff, Nat.le_refl, implies_true, Nat.reduceLT, reduceIte, decide_true, decide_false, true_and, and_true, reduceCtorEq, Nat.mul_one, Int.reduceToNat, Int.reduceLE, Int.reduceLT, Int.reduceAdd, Int.reduceSub, Int.reduceMul, Int.cast_ofNat_Int, cast_zero_int, cast_one_int, Nat.reducePow, Nat.reduceEqDiff, Nat.reduceMod, Nat.zero_add, Nat.sub_zero, Nat.add_zero, show (m == 0) = true by simpa using q1, strOf_three, own_ge (show H.length ≤ H3.length + 1 by omega)]
    have bs1 := bs.grow [⟨[.int .u8 0, .int .u8 0, .int .u8 0], 1, .rw⟩]
    refine ⟨by kernel_rfl, (d_of 20 _ _ _ (bs.grow _).st hown hget_lit1 (by decide) rfl (by decide) (by omega) (by omega) (by omega) (by omega)).use (fun _ m => m) ?_⟩
    rintro _ H4 ⟨⟨x, rfl, hx⟩, s4, g4⟩
    have bs2 := (bs.grow _).step s4 g4
    have bs3 := bs2.put [.string x, .string r2]
    simp only [go_sem, Nat.reduceBEq, Nat.reduceAdd, Nat.reduceMul, Nat.reduceSub, Nat.reduceLeDiff, Nat.le_refl, implies_true, Nat.reduceLT, reduceIte, decide_true, decide_false, true_and, and_true, reduceCtorEq, Nat.mul_one, Int.reduceToNat, Int.reduceLE, Int.reduceLT, Int.reduceAdd, Int.reduceSub, Int.reduceMul, Int.cast_ofNat_Int, cast_zero_int, cast_one_int, Nat.reducePow, Nat.reduceEqDiff, Nat.reduceMod, Nat.zero_add, Nat.sub_zero, Nat.add_zero, show (m == 0) = true by simpa using q1, o1, o2, bs2.b, bs3.b, bs3.r, set_get bs3.r, set_get bs2.b, recZ]
    exact fin _ _ _ _ bs3 (by omega) hx hr
  · have q2 : (m == 0) = false := by simpa using q1
    by_cases q3 : m = 1
    · try simp only [go_sem, Nat.reduceBEq, Nat.reduceAdd, Nat.reduceMul, Nat.reduceSub, Nat.reduceLeDiff, Nat.le_refl, implies_true, Nat.reduceLT, reduceIte, decide_true, decide_false, true_and, and_true, reduceCtorEq, Nat.mul_one, Int.reduceToNat, Int.reduceLE, Int.reduceLT, Int.reduceAdd, Int.reduceSub, Int.reduceMul, Int.cast_ofNat_Int, cast_zero_int, cast_one_int, Nat.reducePow, Nat.reduceEqDiff, Nat.reduceMod, Nat.zero_add, Nat.sub_zero, Nat.add_zero, q2, show (m == 1) = true by simpa using q3]
      refine ⟨by kernel_rfl, (d_ofL 20 _ _ bs.st hown (by decide) (by decide) (by omega) (by omega) (by omega)).use (fun _ m => m) ?_⟩
      rintro _ H4 ⟨⟨x, rfl, hx⟩, s4, g4, L4⟩
      have bs2 := bs.step s4 g4
      have bs3 := bs2.put [.string c, .string x]
      simp only [go_sem, Nat.reduceBEq, Nat.reduceAdd, Nat.reduceMul, Nat.reduceSub, Nat.reduceLeDiff, Nat.le_refl, implies_true, Nat.reduceLT, reduceIte, decide_true, decide_false, true_and, and_true, reduceCtorEq, Nat.mul_one, Int.reduceToNat, Int.reduceLE, Int.reduceLT, Int.reduceAdd, Int.reduceSub, Int.reduceMul, Int.cast_ofNat_Int, cast_zero_int, cast_one_int, Nat.reducePow, Nat.reduceEqDiff, Nat.reduceMod, Nat.zero_add, Nat.sub_zero, Nat.add_zero, q2, show (m == 1) = true by simpa using q3, o1, o2, bs2.b, bs3.b, bs3.r, set_get bs3.r, set_get bs2.b, recZ]
      exact fin _ _ _ _ bs3 (by omega) hc hx
    · simp only [go_sem, Nat.reduceBEq, Nat.reduceAdd, Nat.reduceMul, Nat.reduceSub, Nat.reduceLeDiff, Nat.le_refl, implies_true, Nat.reduceLT, reduceIte, decide_true, decide_false, true_and, and_true, reduceCtorEq, Nat.mul_one, Int.reduceToNat, Int.reduceLE, Int.reduceLT, Int.reduceAdd, Int.reduceSub, Int.reduceMul, Int.cast_ofNat_Int, cast_zero_int, cast_one_int, Nat.reducePow, Nat.reduceEqDiff, Nat.reduceMod, Nat.zero_add, Nat.sub_zero, Nat.add_zero, q2, show (m == 1) = false by simpa using q3, o1, o2, bs.b, bs.r, set_get bs.r, recZ]
      exact fin _ _ _ _ bs (by omega) hc hr

theorem appV_bound (D P : ByteArray) (n : Int) (c r : ByteArray) : ∃ a b m g, appV D P n c r = .tuple #[.agg #[.string a, .string b, .int .i64 m], .int .i64 g] ∧ a.size + b.size ≤ D.size + P.size + 372 := by
  unfold appV
  split
  · rename_i h
    split
    · exact ⟨_, _, _, _, rfl, by omega⟩
    · have g := h.2
      rw [recOk_L] at g
      have gc := logOk_count h.1
      have := lineL_len (k := n.toNat) g (by omega)
      exact ⟨_, _, _, _, rfl, by rw [ByteArray.size_append, mkB_size, List.length_append, List.length_singleton]; omega⟩
  · exact ⟨_, _, _, _, rfl, by omega⟩
theorem syncV_bound (D P : ByteArray) (n : Int) : ∃ a b m g, syncV D P n = .tuple #[.agg #[.string a, .string b, .int .i64 m], .bool g] ∧ a.size + b.size ≤ D.size + P.size := by
  have z : (⟨#[]⟩ : ByteArray).size = 0 := rfl
  unfold syncV
  split
  · exact ⟨_, _, _, _, rfl, by rw [ByteArray.size_append, z]; omega⟩
  · exact ⟨_, _, _, _, rfl, by rw [z]; omega⟩

set_option maxRecDepth 20000 in
theorem d_log {id n B : Nat} {a : Option Addr} (s : St H id n a B) (hM : M id) (hB : B ≤ 95000) :
    vCall [] Tryd.prog M 69 [.pointer (some ⟨id, 0, none⟩)] H (fun r H' => (∃ (D P : ByteArray) (k : Int), r = .agg #[.string D, .string P, .int .i64 k] ∧ D.size + P.size ≤ 3000) ∧ St H' id n a (B + 100) ∧ Agr id (id + 1) H H') := by
  have hid := s.lt
  have hown : own H.length M id := Or.inr hM
  refine body_ofR ([(5,[0,2,1007])]) mo Tryd.func69 rfl (by kernel_rfl) (Nat.le_of_ble_eq_true (by kernel_rfl)) rfl ?_
  try simp only [go_sem, Nat.reduceBEq, Nat.reduceAdd, Nat.reduceMul, Nat.reduceSub, Nat.reduceLeDiff, Nat.le_refl, implies_true, Nat.reduceLT, reduceIte, decide_true, decide_false, true_and, and_true, reduceCtorEq, Nat.mul_one, Int.reduceToNat, Int.reduceLE, Int.reduceLT, Int.reduceAdd, Int.reduceSub, Int.reduceMul, Int.cast_ofNat_Int, cast_zero_int, cast_one_int, Nat.reducePow, Nat.reduceEqDiff, Nat.reduceMod, Nat.zero_add, Nat.sub_zero, Nat.add_zero]
  have z0 : (⟨#[]⟩ : ByteArray).size = 0 := rfl
  have bs0 : Gst H (H ++ [logZ, logZ]) id n a B H.length (H.length + 1) logZ [.string ⟨#[]⟩, .string ⟨#[]⟩, .int .i64 0] 3 :=
    ⟨s.app _, Agr.app, hget_lit0, hget_lit1, by omega⟩
  have o1 : own H.length M (H.length + 1) = True := own_ge (by omega)
  have o2 : own H.length M H.length = True := own_ge (Nat.le_refl _)
  refine ⟨by kernel_rfl, (d_pick _ bs0.st hown (by omega)).use (fun _ m => m) ?_⟩
  rintro _ H1 ⟨⟨m, rfl, m0, m1⟩, s1, g1⟩
  have bs1 := bs0.step s1 g1
  try simp only [go_sem, Nat.reduceBEq, Nat.reduceAdd, Nat.reduceMul, Nat.reduceSub, Nat.reduceLeDiff, Nat.le_refl, implies_true, Nat.reduceLT, reduceIte, decide_true, decide_false, true_and, and_true, reduceCtorEq, Nat.mul_one, Int.reduceToNat, Int.reduceLE, Int.reduceLT, Int.reduceAdd, Int.reduceSub, Int.reduceMul, Int.cast_ofNat_Int, cast_zero_int, cast_one_int, Nat.reducePow, Nat.reduceEqDiff, Nat.reduceMod, Nat.zero_add, Nat.sub_zero, Nat.add_zero]
  refine vLoopR.count mo m.toNat (fun i e H' => ∃ (D P : ByteArray) (k : Int), e 0 = .pointer (some ⟨id, 0, none⟩) ∧ e 2 = .pointer (some ⟨H.length, 0, none⟩) ∧ e 3 = .pointer (some ⟨H.length + 1, 0, none⟩) ∧ e 4 = .int .i64 (m - i) ∧
    Gst H H' id n a (B + 2 + 10 * i) H.length (H.length + 1) logZ [.string D, .string P, .int .i64 k] 3 ∧ D.size + P.size ≤ 372 * i) ?_ ?_
  · refine ⟨⟨#[]⟩, ⟨#[]⟩, 0, ?_⟩
    try simp only [go_sem, Nat.reduceBEq, Nat.reduceAdd, Nat.reduceMul, Nat.reduceSub, Nat.reduceLeDiff, Nat.le_refl, implies_true, Nat.reduceLT, reduceIte, decide_true, decide_false, true_and, and_true, reduceCtorEq, Nat.mul_one, Int.reduceToNat, Int.reduceLE, Int.reduceLT, Int.reduceAdd, Int.reduceSub, Int.reduceMul, Int.cast_ofNat_Int, cast_zero_int, cast_one_int, Nat.reducePow, Nat.reduceEqDiff, Nat.reduceMod, Nat.zero_add, Nat.sub_zero, Nat.add_zero]
    exact ⟨by simp [bs1], by omega⟩
  · rintro i e H' hi ⟨D, P, k, e0, e2, e3, e4, bs, hz⟩
    by_cases hlt : (i : Int) < m
    · have q1 : (0 : Int) < m - i := by omega
      try simp only [go_sem, Nat.reduceBEq, Nat.reduceAdd, Nat.reduceMul, Nat.reduceSub, Nat.reduceLeDiff, Nat.le_refl, implies_true, Nat.reduceLT, reduceIte, decide_true, decide_false, true_and, and_true, reduceCtorEq, Nat.mul_one, Int.reduceToNat, Int.reduceLE, Int.reduceLT, Int.reduceAdd, Int.reduceSub, Int.reduceMul, Int.cast_ofNat_Int, cast_zero_int, cast_one_int, Nat.reducePow, Nat.reduceEqDiff, Nat.reduceMod, Nat.zero_add, Nat.sub_zero, Nat.add_zero, e0, e2, e3, e4, q1, bs.b]
      refine ⟨by kernel_rfl, (d_logRecord bs.st hown (by omega)).use (fun _ m => m) ?_⟩
      rintro _ H2 ⟨⟨c, r, rfl, hc, hr⟩, s2, g2⟩
      have bs2 := bs.step s2 g2
      simp only [go_sem, Nat.reduceBEq, Nat.reduceAdd, Nat.reduceMul, Nat.reduceSub, Nat.reduceLeDiff, Nat.le_refl, implies_true, Nat.reduceLT, reduceIte, decide_true, decide_false, true_and, and_true, reduceCtorEq, Nat.mul_one, Int.reduceToNat, Int.reduceLE, Int.reduceLT, Int.reduceAdd, Int.reduceSub, Int.reduceMul, Int.cast_ofNat_Int, cast_zero_int, cast_one_int, Nat.reducePow, Nat.reduceEqDiff, Nat.reduceMod, Nat.zero_add, Nat.sub_zero, Nat.add_zero, e0, e2, e3, e4, q1, bs2.b, g2.1]
      refine ⟨by kernel_rfl, (c_sAppendRecord D P k c r (by omega) (by omega) (by omega)).use (fun _ m => m) ?_⟩
      rintro _ _ ⟨rfl, ⟨t, rfl⟩⟩
      obtain ⟨D2, P2, k2, co, hv, hb⟩ := appV_bound D P k c r
      rw [hv]
      have bs3 := bs2.grow t
      have bs4 := bs3.put [.string D2, .string P2, .int .i64 k2]
      try simp only [go_sem, Nat.reduceBEq, Nat.reduceAdd, Nat.reduceMul, Nat.reduceSub, Nat.reduceLeDiff, Nat.le_refl, implies_true, Nat.reduceLT, reduceIte, decide_true, decide_false, true_and, and_true, reduceCtorEq, Nat.mul_one, Int.reduceToNat, Int.reduceLE, Int.reduceLT, Int.reduceAdd, Int.reduceSub, Int.reduceMul, Int.cast_ofNat_Int, cast_zero_int, cast_one_int, Nat.reducePow, Nat.reduceEqDiff, Nat.reduceMod, Nat.zero_add, Nat.sub_zero, Nat.add_zero, e0, e2, e3, e4, q1, bs3.b, o1, List.prefix_append, List.prefix_rfl]
      refine ⟨by kernel_rfl, (d_one _ bs4.st hown (by omega)).use (fun _ m => m) ?_⟩
      rintro _ H3 ⟨⟨gb, rfl⟩, s5, g5⟩
      have bs5 := bs4.step s5 g5
      cases gb
      · try simp only [go_sem, Nat.reduceBEq, Nat.reduceAdd, Nat.reduceMul, Nat.reduceSub, Nat.reduceLeDiff, Nat.le_refl, implies_true, Nat.reduceLT, reduceIte, decide_true, decide_false, true_and, and_true, reduceCtorEq, Nat.mul_one, Int.reduceToNat, Int.reduceLE, Int.reduceLT, Int.reduceAdd, Int.reduceSub, Int.reduceMul, Int.cast_ofNat_Int, cast_zero_int, cast_one_int, Nat.reducePow, Nat.reduceEqDiff, Nat.reduceMod, Nat.zero_add, Nat.sub_zero, Nat.add_zero, e0, e2, e3, e4, q1, bs5.b]
        refine ⟨by omega, D2, P2, k2, by rw [wrap64 (by omega)]; congr 1; omega, bs5.more (by omega), by omega⟩
      · try simp only [go_sem, Nat.reduceBEq, Nat.reduceAdd, Nat.reduceMul, Nat.reduceSub, Nat.reduceLeDiff, Nat.le_refl, implies_true, Nat.reduceLT, reduceIte, decide_true, decide_false, true_and, and_true, reduceCtorEq, Nat.mul_one, Int.reduceToNat, Int.reduceLE, Int.reduceLT, Int.reduceAdd, Int.reduceSub, Int.reduceMul, Int.cast_ofNat_Int, cast_zero_int, cast_one_int, Nat.reducePow, Nat.reduceEqDiff, Nat.reduceMod, Nat.zero_add, Nat.sub_zero, Nat.add_zero, e0, e2, e3, e4, q1, bs5.b]
        refine ⟨by kernel_rfl, (c_sSyncLog D2 P2 k2 (by omega)).use (fun _ m => m) ?_⟩
        rintro _ _ ⟨rfl, ⟨t2, rfl⟩⟩
        obtain ⟨D3, P3, k3, gg, hv2, hb2⟩ := syncV_bound D2 P2 k2
        rw [hv2]
        have bs6 := bs5.grow t2
        have bs7 := bs6.put [.string D3, .string P3, .int .i64 k3]
        try simp only [go_sem, Nat.reduceBEq, Nat.reduceAdd, Nat.reduceMul, Nat.reduceSub, Nat.reduceLeDiff, Nat.le_refl, implies_true, Nat.reduceLT, reduceIte, decide_true, decide_false, true_and, and_true, reduceCtorEq, Nat.mul_one, Int.reduceToNat, Int.reduceLE, Int.reduceLT, Int.reduceAdd, Int.reduceSub, Int.reduceMul, Int.cast_ofNat_Int, cast_zero_int, cast_one_int, Nat.reducePow, Nat.reduceEqDiff, Nat.reduceMod, Nat.zero_add, Nat.sub_zero, Nat.add_zero, e0, e2, e3, e4, q1, bs6.b, o1]
        refine ⟨by omega, D3, P3, k3, by rw [wrap64 (by omega)]; congr 1; omega, bs7.more (by omega), by omega⟩
    · have bs' := bs
      unfold logZ at bs'
      try simp only [go_sem, Nat.reduceBEq, Nat.reduceAdd, Nat.reduceMul, Nat.reduceSub, Nat.reduceLeDiff, Nat.le_refl, implies_true, Nat.reduceLT, reduceIte, decide_true, decide_false, true_and, and_true, reduceCtorEq, Nat.mul_one, Int.reduceToNat, Int.reduceLE, Int.reduceLT, Int.reduceAdd, Int.reduceSub, Int.reduceMul, Int.cast_ofNat_Int, cast_zero_int, cast_one_int, Nat.reducePow, Nat.reduceEqDiff, Nat.reduceMod, Nat.zero_add, Nat.sub_zero, Nat.add_zero, e0, e2, e3, e4, show ¬ (0 : Int) < m - i by omega, bs'.b, bs'.r, o2, set_get bs'.r]
      obtain ⟨d1, d2⟩ := bs.done rfl ⟨[.string D, .string P, .int .i64 k], 3, .rw⟩
      exact ⟨⟨D, P, k, rfl, by omega⟩, d1.more (by omega), d2⟩

set_option maxRecDepth 20000 in
theorem d_anyLog {id n B : Nat} {a : Option Addr} (s : St H id n a B) (hM : M id) (hB : B ≤ 90000) :
    vCall [] Tryd.prog M 62 [.pointer (some ⟨id, 0, none⟩)] H (fun r H' => (∃ (D P : ByteArray) (k : Int), r = .agg #[.string D, .string P, .int .i64 k] ∧ D.size + P.size ≤ 6000) ∧ St H' id n a (B + 200) ∧ Agr id (id + 1) H H') := by
  have hid := s.lt
  have hown : own H.length M id := Or.inr hM
  refine body_of mo Tryd.func62 rfl (by kernel_rfl) (Nat.le_of_ble_eq_true (by kernel_rfl)) rfl ?_
  try simp only [go_sem, Nat.reduceBEq, Nat.reduceAdd, Nat.reduceMul, Nat.reduceSub, Nat.reduceLeDiff, Nat.le_refl, implies_true, Nat.reduceLT, reduceIte, decide_true, decide_false, true_and, and_true, reduceCtorEq, Nat.mul_one, Int.reduceToNat, Int.reduceLE, Int.reduceLT, Int.reduceAdd, Int.reduceSub, Int.reduceMul, Int.cast_ofNat_Int, cast_zero_int, cast_one_int, Nat.reducePow, Nat.reduceEqDiff, Nat.reduceMod, Nat.zero_add, Nat.sub_zero, Nat.add_zero]
  refine ⟨by kernel_rfl, (d_log (s.app _) hown (by omega)).use (fun _ m => m) ?_⟩
  rintro _ H1 ⟨⟨D, P, k, rfl, hz⟩, s1, g1⟩
  have z1 := agr_get g1 hget_new (by omega)
  have L1 := g1.1
  simp only [List.length_append, List.length_cons, List.length_nil] at L1
  have bs0 : Gst H (H1 ++ [⟨[.string D, .string P, .int .i64 k], 3, .rw⟩]) id n a (B + 100) H.length H1.length logZ [.string D, .string P, .int .i64 k] 3 :=
    ⟨s1.app _, Agr.app.trans (g1.trans Agr.app), self_get z1 _, hget_new, by omega⟩
  have o1 : own H.length M H1.length = True := own_ge (by omega)
  have o2 : own H.length M H.length = True := own_ge (Nat.le_refl _)
  try simp only [go_sem, Nat.reduceBEq, Nat.reduceAdd, Nat.reduceMul, Nat.reduceSub, Nat.reduceLeDiff, Nat.le_refl, implies_true, Nat.reduceLT, reduceIte, decide_true, decide_false, true_and, and_true, reduceCtorEq, Nat.mul_one, Int.reduceToNat, Int.reduceLE, Int.reduceLT, Int.reduceAdd, Int.reduceSub, Int.reduceMul, Int.cast_ofNat_Int, cast_zero_int, cast_one_int, Nat.reducePow, Nat.reduceEqDiff, Nat.reduceMod, Nat.zero_add, Nat.sub_zero, Nat.add_zero, o1, set_get bs0.b]
  refine ⟨by kernel_rfl, (d_pick _ bs0.st hown (by omega)).use (fun _ m => m) ?_⟩
  rintro _ H2 ⟨⟨m, rfl, m0, m1⟩, s2, g2⟩
  have bs := bs0.step s2 g2
  have fin : ∀ (Hx : Heap) (D' P' : ByteArray) (k' : Int) (Bx : Nat), Gst H Hx id n a Bx H.length H1.length logZ [.string D', .string P', .int .i64 k'] 3 → Bx ≤ B + 200 → D'.size + P'.size ≤ 6000 →
      (∃ (D P : ByteArray) (k : Int), Value.agg #[.string D', .string P', .int .i64 k'] = .agg #[.string D, .string P, .int .i64 k] ∧ D.size + P.size ≤ 6000) ∧ St (Hx.set H.length ⟨[.string D', .string P', .int .i64 k'], 3, .rw⟩) id n a (B + 200) ∧ Agr id (id + 1) H (Hx.set H.length ⟨[.string D', .string P', .int .i64 k'], 3, .rw⟩) := fun Hx D' P' k' Bx q hq h1 => by
    obtain ⟨d1, d2⟩ := q.done rfl ⟨[.string D', .string P', .int .i64 k'], 3, .rw⟩
    exact ⟨⟨D', P', k', rfl, h1⟩, d1.more hq, d2⟩
  by_cases q1 : m = 0
  · have bs1 := bs.put [.string D, .string P, .int .i64 (IntKind.i64.wrap (k + 1))]
    have bs1' := bs1
    unfold logZ at bs1'
    try simp only [go_sem, Nat.reduceBEq, Nat.reduceAdd, Nat.reduceMul, Nat.reduceSub, Nat.reduceLeDiff, Nat.le_refl, implies_true, Nat.reduceLT, reduceIte, decide_true, decide_false, true_and, and_true, reduceCtorEq, Nat.mul_one, Int.reduceToNat, Int.reduceLE, Int.reduceLT, Int.reduceAdd, Int.reduceSub, Int.reduceMul, Int.cast_ofNat_Int, cast_zero_int, cast_one_int, Nat.reducePow, Nat.reduceEqDiff, Nat.reduceMod, Nat.zero_add, Nat.sub_zero, Nat.add_zero, show (m == 0) = true by simpa using q1, bs.b, o1, o2, set_get bs.b, bs1'.b, bs1'.r, set_get bs1'.r]
    exact fin _ _ _ _ _ bs1 (by omega) (by omega)
  · have q2 : (m == 0) = false := by simpa using q1
    by_cases q3 : m = 1
    · have q4 : (m == 1) = true := by simpa using q3
      try simp only [go_sem, Nat.reduceBEq, Nat.reduceAdd, Nat.reduceMul, Nat.reduceSub, Nat.reduceLeDiff, Nat.le_refl, implies_true, Nat.reduceLT, reduceIte, decide_true, decide_false, true_and, and_true, reduceCtorEq, Nat.mul_one, Int.reduceToNat, Int.reduceLE, Int.reduceLT, Int.reduceAdd, Int.reduceSub, Int.reduceMul, Int.cast_ofNat_Int, cast_zero_int, cast_one_int, Nat.reducePow, Nat.reduceEqDiff, Nat.reduceMod, Nat.zero_add, Nat.sub_zero, Nat.add_zero, q2, q4, bs.b]
      refine ⟨by kernel_rfl, (d_spoilt P ⟨#[35, 64, 10, 48, 49]⟩ bs.st hown (by omega) (by decide) (by omega)).use (fun _ m => m) ?_⟩
      rintro _ H3 ⟨⟨P2, rfl, hP2⟩, s3, g3⟩
      have bs1 := bs.step s3 g3
      have bs2 := bs1.put [.string D, .string P2, .int .i64 k]
      have bs2' := bs2
      unfold logZ at bs2'
      try simp only [go_sem, Nat.reduceBEq, Nat.reduceAdd, Nat.reduceMul, Nat.reduceSub, Nat.reduceLeDiff, Nat.le_refl, implies_true, Nat.reduceLT, reduceIte, decide_true, decide_false, true_and, and_true, reduceCtorEq, Nat.mul_one, Int.reduceToNat, Int.reduceLE, Int.reduceLT, Int.reduceAdd, Int.reduceSub, Int.reduceMul, Int.cast_ofNat_Int, cast_zero_int, cast_one_int, Nat.reducePow, Nat.reduceEqDiff, Nat.reduceMod, Nat.zero_add, Nat.sub_zero, Nat.add_zero, q2, q4, bs1.b, o1, o2, set_get bs1.b, bs2'.b, bs2'.r, set_get bs2'.r]
      exact fin _ _ _ _ _ bs2 (by omega) (by omega)
    · have q4 : (m == 1) = false := by simpa using q3
      by_cases q5 : m = 2
      · have q6 : (m == 2) = true := by simpa using q5
        have bs2 := bs.put [.string (D ++ P), .string P, .int .i64 k]
        have bs2' := bs2
        unfold logZ at bs2'
        try simp only [go_sem, Nat.reduceBEq, Nat.reduceAdd, Nat.reduceMul, Nat.reduceSub, Nat.reduceLeDiff, Nat.le_refl, implies_true, Nat.reduceLT, reduceIte, decide_true, decide_false, true_and, and_true, reduceCtorEq, Nat.mul_one, Int.reduceToNat, Int.reduceLE, Int.reduceLT, Int.reduceAdd, Int.reduceSub, Int.reduceMul, Int.cast_ofNat_Int, cast_zero_int, cast_one_int, Nat.reducePow, Nat.reduceEqDiff, Nat.reduceMod, Nat.zero_add, Nat.sub_zero, Nat.add_zero, q2, q4, q6, bs.b, joinDP D P (by omega), o1, o2, set_get bs.b, bs2'.b, bs2'.r, set_get bs2'.r]
        exact fin _ _ _ _ _ bs2 (by omega) (by rw [ByteArray.size_append]; omega)
      · have q6 : (m == 2) = false := by simpa using q5
        have bs' := bs
        unfold logZ at bs'
        try simp only [go_sem, Nat.reduceBEq, Nat.reduceAdd, Nat.reduceMul, Nat.reduceSub, Nat.reduceLeDiff, Nat.le_refl, implies_true, Nat.reduceLT, reduceIte, decide_true, decide_false, true_and, and_true, reduceCtorEq, Nat.mul_one, Int.reduceToNat, Int.reduceLE, Int.reduceLT, Int.reduceAdd, Int.reduceSub, Int.reduceMul, Int.cast_ofNat_Int, cast_zero_int, cast_one_int, Nat.reducePow, Nat.reduceEqDiff, Nat.reduceMod, Nat.zero_add, Nat.sub_zero, Nat.add_zero, q2, q4, q6, bs'.b, bs'.r, o1, o2, set_get bs'.r]
        exact fin _ _ _ _ _ bs (by omega) (by omega)
end
end Go.Proofs.YtkogddiefniihaaDoor
