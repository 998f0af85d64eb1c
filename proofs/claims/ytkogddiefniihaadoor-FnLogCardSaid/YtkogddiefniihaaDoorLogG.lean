
/- Marks on records of the log. No condition. -/
import Derived.Test.YtkogddiefniihaaDoorLogC
import Derived.Test.YtkogddiefniihaaDoorH3
namespace Go.Proofs.YtkogddiefniihaaDoor
open Go.HH Go.Proofs
set_option linter.unusedSimpArgs false
set_option linter.unusedVariables false

/-- A mark's text. -/
def mtxt (k : Nat) : ByteArray := ⟨#[109]⟩ ++ num k
theorem dec_split {n : Nat} (h : ¬ n < 10) : Lib.decDigits n = Lib.decDigits (n / 10) ++ [UInt8.ofNat (48 + n % 10)] := by
  rw [Lib.decDigits, dif_neg h]
/-- What is told of a number behind its first places. -/
def mrest (k m : Nat) (out : ByteArray) : Prop := (0 < m → Lib.decDigits k = Lib.decDigits m ++ bl out) ∧ (m = 0 → Lib.decDigits k = bl out)
theorem mrest_step {k m : Nat} {out : ByteArray} (h : mrest k m out) (hm : 0 < m) : mrest k (m / 10) ((⟨#[UInt8.ofNat (48 + m % 10)]⟩ : ByteArray) ++ out) := by
  have h1 := h.1 hm
  have e1 : bl (⟨#[UInt8.ofNat (48 + m % 10)]⟩ : ByteArray) = [UInt8.ofNat (48 + m % 10)] := rfl
  constructor
  · intro h2
    rw [h1, dec_split (by omega), bl_app, e1, List.append_assoc]
  · intro h2
    have h3 : m < 10 := by omega
    rw [h1, Lib.decDigits_one h3, bl_app, e1, Nat.mod_eq_of_lt h3]
theorem pow_gt (i : Nat) : i < 10 ^ i := Nat.lt_pow_self (by omega)

section
variable {G : List (Nat × Nat)} {h : Heap} {M : Nat → Prop}

theorem c_markText (k : Nat) (hk : 0 < k ∧ k ≤ 1000000) : vCall [] Tryd.prog M 61 [.int .i64 k] h (fun r h' => r = .string (mtxt k) ∧ h <+: h') := by
  refine body_of mo Tryd.func61 rfl (by kernel_rfl) (Nat.le_of_ble_eq_true (by kernel_rfl)) rfl ?_
  simp only [go_sem, Nat.reduceBEq, Nat.reduceAdd, Nat.reduceMul, Nat.reduceSub, Nat.reduceLeDiff, Nat.le_refl, implies_true, Nat.reduceLT, reduceIte, decide_true, decide_false, true_and, and_true, reduceCtorEq, Nat.mul_one, Int.reduceToNat, Int.reduceLE, Int.reduceLT, Int.reduceAdd, Int.reduceSub, Int.reduceMul, Int.cast_ofNat_Int, cast_zero_int, cast_one_int, Nat.reducePow, Nat.reduceEqDiff, Nat.reduceMod, Nat.zero_add, Nat.sub_zero, Nat.add_zero, show ¬ ((k : Int) ≤ 0) by omega]
  refine vLoop.count mo k (fun i e h' => ∃ (out : ByteArray) (t : Heap), e 0 = .int .i64 (k / 10 ^ i : Nat) ∧ e 3 = .string out ∧ mrest k (k / 10 ^ i) out ∧ out.size ≤ i ∧ h' = h ++ t) ?_ ?_
  · refine ⟨⟨#[]⟩, [], by simp [upd, env0], rfl, ?_, Nat.le_refl 0, by simp⟩
    rw [Nat.pow_zero, Nat.div_one]
    exact ⟨fun _ => by simp [bl], fun h0 => by omega⟩
  · rintro i e _ hi ⟨out, t, e0, e3, hm, hsz, rfl⟩
    obtain ⟨m, hmm⟩ : ∃ m, m = k / 10 ^ i := ⟨_, rfl⟩
    rw [← hmm] at e0 hm
    have hmk : m ≤ k := by rw [hmm]; exact Nat.div_le_self _ _
    by_cases h0 : 0 < m
    · have hik : i < k := by
        have h1 : 10 ^ i ≤ k := by
          rcases Nat.lt_or_ge k (10 ^ i) with h2 | h2
          · rw [hmm, Nat.div_eq_of_lt h2] at h0; omega
          · exact h2
        have := pow_gt i
        omega
      have q1 : ((m : Nat) : Int).tmod 10 = ((m % 10 : Nat) : Int) := by rw [Int.tmod_eq_emod_of_nonneg (by omega)]; omega
      have w1 : IntKind.i64.wrap (48 + ((m % 10 : Nat) : Int)) = ((48 + m % 10 : Nat) : Int) := by rw [wrap64 (by omega)]; omega
      have w2 : IntKind.u8.wrap ((48 + m % 10 : Nat) : Int) = ((48 + m % 10 : Nat) : Int) := wrapU8 (by omega)
      have st : strOfV [Value.int .u8 ((48 + m % 10 : Nat) : Int)] = some ⟨#[UInt8.ofNat (48 + m % 10)]⟩ := rfl
      have a1 : hBin .add (.string ⟨#[UInt8.ofNat (48 + m % 10)]⟩) (.string out) = some (.string (⟨#[UInt8.ofNat (48 + m % 10)]⟩ ++ out)) := adds (by
        have : (⟨#[UInt8.ofNat (48 + m % 10)]⟩ : ByteArray).size = 1 := rfl
        omega)
      have q2 : ((m : Nat) : Int).tdiv 10 = ((m / 10 : Nat) : Int) := by rw [Int.tdiv_eq_ediv_of_nonneg (by omega)]; omega
      have w3 : IntKind.i64.wrap ((m / 10 : Nat) : Int) = ((m / 10 : Nat) : Int) := wrap64 (by omega)
      simp only [go_sem, Nat.reduceBEq, Nat.reduceAdd, Nat.reduceMul, Nat.reduceSub, Nat.reduceLeDiff, Nat.le_refl, implies_true, Nat.reduceLT, reduceIte, decide_true, decide_false, true_and, and_true, reduceCtorEq, Nat.mul_one, Int.reduceToNat, Int.reduceLE, Int.reduceLT, Int.reduceAdd, Int.reduceSub, Int.reduceMul, Int.cast_ofNat_Int, cast_zero_int, cast_one_int, Nat.reducePow, Nat.reduceEqDiff, Nat.reduceMod, Nat.zero_add, Nat.sub_zero, Nat.add_zero, e0, e3, show (0 : Int) < (m : Nat) by omega, hBin_rem (show (10 : Int) ≠ 0 by omega), q1, w1, w2, onCv_more (Nat.one_pos), st, a1, hBin_quo (show (10 : Int) ≠ 0 by omega), q2, w3]
      have e10 : k / 10 ^ (i + 1) = m / 10 := by rw [hmm, Nat.pow_succ, Nat.div_div_eq_div_mul]
      rw [e10]
      exact ⟨hik, _, _, rfl, rfl, mrest_step hm h0, by rw [ByteArray.size_append]; have : (⟨#[UInt8.ofNat (48 + m % 10)]⟩ : ByteArray).size = 1 := rfl; omega, rfl⟩
    · have ho : out = num k := bl_ext (by rw [bl_num]; exact (hm.2 (by omega)).symm)
      have a1 : hBin .add (.string ⟨#[109]⟩) (.string out) = some (.string (mtxt k)) := by rw [mtxt, ← ho]; exact adds (by
        have : (⟨#[109]⟩ : ByteArray).size = 1 := rfl
        omega)
      simp only [go_sem, Nat.reduceBEq, Nat.reduceAdd, Nat.reduceMul, Nat.reduceSub, Nat.reduceLeDiff, Nat.le_refl, implies_true, Nat.reduceLT, reduceIte, decide_true, decide_false, true_and, and_true, reduceCtorEq, Nat.mul_one, Int.reduceToNat, Int.reduceLE, Int.reduceLT, Int.reduceAdd, Int.reduceSub, Int.reduceMul, Int.cast_ofNat_Int, cast_zero_int, cast_one_int, Nat.reducePow, Nat.reduceEqDiff, Nat.reduceMod, Nat.zero_add, Nat.sub_zero, Nat.add_zero, e0, e3, show ¬ ((0 : Int) < (m : Nat)) by omega, a1]
      try all_goals first | exact rfl | exact ⟨rfl, rfl⟩ | exact List.prefix_append _ _ | exact ⟨rfl, List.prefix_append _ _⟩ | assumption | exact ⟨rfl, by assumption⟩ | exact List.prefix_rfl | exact ⟨rfl, List.prefix_rfl⟩ | exact List.IsPrefix.trans (by assumption) (by assumption) | exact ⟨rfl, List.IsPrefix.trans (by assumption) (by assumption)⟩

/-- The rows that marks leave. -/
def mkr (k i : Nat) : List Value := [.string (mtxt (k + 2 * i)), .string (mtxt (k + 2 * i + 1))]
def mkrs (k n : Nat) : List (List Value) := (List.range n).map (mkr k)
theorem mkrs_len {k n : Nat} : (mkrs k n).length = n := by simp [mkrs]
theorem mkrs_row {k n : Nat} : ∀ r ∈ mkrs k n, r.length = 2 := by
  intro r hr; obtain ⟨i, _, rfl⟩ := List.mem_map.1 hr; rfl
theorem mkrs_succ {k n : Nat} : mkrs k (n + 1) = mkrs k n ++ [mkr k n] := by simp [mkrs, List.range_succ]
theorem mkrs_at {k n i : Nat} (h : i < (mkrs k n).length) : (mkrs k n)[i] = mkr k i := by simp [mkrs]
theorem set2 {P Q : List Value} {x y a b : Value} {n : Nat} (hn : P.length = n) : setRange (setRange (P ++ x :: y :: Q) n [a]) (n + 1) [b] = P ++ a :: b :: Q := by
  have one : ∀ (P : List Value) (x a : Value) (Q : List Value) (n : Nat), P.length = n → setRange (P ++ x :: Q) n [a] = P ++ a :: Q := fun P x a Q n hn => by
    subst hn
    rw [setRange, List.take_left' rfl, List.length_singleton, ← List.drop_drop, List.drop_left' rfl]
    simp
  rw [one P x a _ n hn]
  have e1 : P ++ a :: y :: Q = (P ++ [a]) ++ y :: Q := by simp
  rw [e1, one (P ++ [a]) y b Q (n + 1) (by simp [hn])]
  simp

theorem c_markLogRecordS {lo hi : Nat} (v : Value) (l : List (BL × BL)) (s : FR lo hi 2 h v (l.map recR)) (hM : ∀ i, lo ≤ i → i < hi → M i) (k : Nat) (hk : 0 < k ∧ k ≤ 1000) (hmax : l.length ≤ 1000) :
    vCall [] Tryd.prog M 35 [v, .int .i64 k] h (fun r h' => r = .int .i64 (k + 2 * l.length : Nat) ∧ FR lo hi 2 h' v (mkrs k l.length) ∧ Agr lo hi h h') := by
  obtain ⟨id, rfl, g1, g2, g3, hlen⟩ := s
  rw [List.length_map]
  have hown : own h.length M id := Or.inr (hM id g1 g2)
  refine body_of mo Tryd.func35 rfl (by kernel_rfl) (Nat.le_of_ble_eq_true (by kernel_rfl)) rfl ?_
  simp only [go_sem, Nat.reduceBEq, Nat.reduceAdd, Nat.reduceMul, Nat.reduceSub, Nat.reduceLeDiff, Nat.le_refl, implies_true, Nat.reduceLT, reduceIte, decide_true, decide_false, true_and, and_true, reduceCtorEq, Nat.mul_one, Int.reduceToNat, Int.reduceLE, Int.reduceLT, Int.reduceAdd, Int.reduceSub, Int.reduceMul, Int.cast_ofNat_Int, cast_zero_int, cast_one_int, Nat.reducePow, Nat.reduceEqDiff, Nat.reduceMod, Nat.zero_add, Nat.sub_zero, Nat.add_zero]
  refine vLoop.count mo l.length (fun i e h' => e 0 = .slice (some ⟨id, 0, none⟩) l.length 0 ∧ e 1 = .int .i64 (k + 2 * i : Nat) ∧ e 5 = .int .i64 i ∧
    Agr lo hi h h' ∧ hget h' id = some ⟨(mkrs k i).flatten ++ ((l.drop i).map recR).flatten, 2, .rw⟩) ?_ ?_
  · exact ⟨rfl, by simp [upd, env0], rfl, Agr.refl, by simpa [mkrs] using g3⟩
  · rintro i e h' hi ⟨e0, e1, e5, hag, hg⟩
    simp only [go_sem, Nat.reduceBEq, Nat.reduceAdd, Nat.reduceMul, Nat.reduceSub, Nat.reduceLeDiff, Nat.le_refl, implies_true, Nat.reduceLT, reduceIte, decide_true, decide_false, true_and, and_true, reduceCtorEq, Nat.mul_one, Int.reduceToNat, Int.reduceLE, Int.reduceLT, Int.reduceAdd, Int.reduceSub, Int.reduceMul, Int.cast_ofNat_Int, cast_zero_int, cast_one_int, Nat.reducePow, Nat.reduceEqDiff, Nat.reduceMod, Nat.zero_add, Nat.sub_zero, Nat.add_zero, e0, e1, e5]
    refine .intro (fun h1 => ?_) (fun h1 => ?_)
    · have hlt : i < l.length := by simpa using h1
      have hz : (i : Int) < l.length := by omega
      have hidl := hget_lt hg
      have w1 : IntKind.i64.wrap (((k + 2 * i : Nat) : Int) + 1) = ((k + 2 * i + 1 : Nat) : Int) := by rw [wrap64 (by omega)]; omega
      have w2 : IntKind.i64.wrap (((k + 2 * i + 1 : Nat) : Int) + 1) = ((k + 2 * (i + 1) : Nat) : Int) := by rw [wrap64 (by omega)]; omega
      have hP : (mkrs k i).flatten.length = i * 2 := by rw [flatten_len mkrs_row, mkrs_len]
      have hdrop : l.drop i = l[i] :: l.drop (i + 1) := List.drop_eq_getElem_cons hlt
      rw [hdrop] at hg
      simp only [List.map_cons, List.flatten_cons, recR, List.cons_append, List.nil_append] at hg
      have q0 : i * 2 + 2 ≤ ((mkrs k i).flatten ++ Value.string (mkB l[i].1) :: Value.string (mkB l[i].2) :: ((l.drop (i + 1)).map recR).flatten).length := by
        rw [List.length_append, hP]; simp only [List.length_cons]; omega
      obtain ⟨C, hC⟩ : ∃ C : List Value, (mkrs k i).flatten ++ Value.string (mkB l[i].1) :: Value.string (mkB l[i].2) :: ((l.drop (i + 1)).map recR).flatten = C := ⟨_, rfl⟩
      rw [hC] at hg
      rw [hC] at q0
      simp only [go_sem, Nat.reduceBEq, Nat.reduceAdd, Nat.reduceMul, Nat.reduceSub, Nat.reduceLeDiff, Nat.le_refl, implies_true, Nat.reduceLT, reduceIte, decide_true, decide_false, true_and, and_true, reduceCtorEq, Nat.mul_one, Int.reduceToNat, Int.reduceLE, Int.reduceLT, Int.reduceAdd, Int.reduceSub, Int.reduceMul, Int.cast_ofNat_Int, cast_zero_int, cast_one_int, Nat.reducePow, Nat.reduceEqDiff, Nat.reduceMod, Nat.zero_add, Nat.sub_zero, Nat.add_zero, e0, e1, e5]
      refine ⟨by kernel_rfl, (c_markText (k + 2 * i) (by omega)).use (fun _ m => m) ?_⟩
      rintro _ _ ⟨rfl, ⟨t, rfl⟩⟩
      have q1 : (setRange C (i * 2) [.string (mtxt (k + 2 * i))]).length = C.length := setRange_length (by simp; omega)
      have hs1 : ∀ b, hget ((h' ++ t).set id b) id = some b := fun b => hget_set_same (by simp; omega)
      simp only [go_sem, Nat.reduceBEq, Nat.reduceAdd, Nat.reduceMul, Nat.reduceSub, Nat.reduceLeDiff, Nat.le_refl, implies_true, Nat.reduceLT, reduceIte, decide_true, decide_false, true_and, and_true, reduceCtorEq, Nat.mul_one, Int.reduceToNat, Int.reduceLE, Int.reduceLT, Int.reduceAdd, Int.reduceSub, Int.reduceMul, Int.cast_ofNat_Int, cast_zero_int, cast_one_int, Nat.reducePow, Nat.reduceEqDiff, Nat.reduceMod, Nat.zero_add, Nat.sub_zero, Nat.add_zero, e0, e1, e5, hz, self_get hg t, hown, w1]
      refine ⟨by omega, ?_⟩
      refine ⟨by kernel_rfl, (c_markText (k + 2 * i + 1) (by omega)).use (fun _ m => m) ?_⟩
      rintro _ _ ⟨rfl, ⟨t2, rfl⟩⟩
      have hs2 : ∀ b, hget ((h' ++ t).set id b ++ t2) id = some b := fun b => self_get (hs1 b) t2
      have hs3 : ∀ b b2, hget (((h' ++ t).set id b ++ t2).set id b2) id = some b2 := fun b b2 => hget_set_same (by simp; omega)
      simp only [go_sem, Nat.reduceBEq, Nat.reduceAdd, Nat.reduceMul, Nat.reduceSub, Nat.reduceLeDiff, Nat.le_refl, implies_true, Nat.reduceLT, reduceIte, decide_true, decide_false, true_and, and_true, reduceCtorEq, Nat.mul_one, Int.reduceToNat, Int.reduceLE, Int.reduceLT, Int.reduceAdd, Int.reduceSub, Int.reduceMul, Int.cast_ofNat_Int, cast_zero_int, cast_one_int, Nat.reducePow, Nat.reduceEqDiff, Nat.reduceMod, Nat.zero_add, Nat.sub_zero, Nat.add_zero, e0, e1, e5, hz, hs2, hown, w1, w2]
      refine ⟨by omega, hlt, by rw [wrap64 (by omega)]; rfl, ((hag.trans Agr.app).trans (Agr.set g1 g2)).trans (Agr.app.trans (Agr.set g1 g2)), ?_⟩
      rw [hs3, ← hC, set2 hP, mkrs_succ, List.flatten_append]
      simp [mkr]
    · simp only [go_sem, Nat.reduceBEq, Nat.reduceAdd, Nat.reduceMul, Nat.reduceSub, Nat.reduceLeDiff, Nat.le_refl, implies_true, Nat.reduceLT, reduceIte, decide_true, decide_false, true_and, and_true, reduceCtorEq, Nat.mul_one, Int.reduceToNat, Int.reduceLE, Int.reduceLT, Int.reduceAdd, Int.reduceSub, Int.reduceMul, Int.cast_ofNat_Int, cast_zero_int, cast_one_int, Nat.reducePow, Nat.reduceEqDiff, Nat.reduceMod, Nat.zero_add, Nat.sub_zero, Nat.add_zero, e0, e1, e5]
      obtain rfl : i = l.length := by have : ¬ i < l.length := by simpa using h1
                                      omega
      rw [List.drop_length, List.map_nil, List.flatten_nil, List.append_nil] at hg
      exact ⟨rfl, ⟨id, by rw [mkrs_len], g1, g2, hg, mkrs_row⟩, hag⟩

theorem c_heldLogRecordS (v : Value) (n k : Nat) (hk : 0 < k ∧ k ≤ 1000) (s : Sl h 2 v (mkrs k n)) (hmax : n ≤ 1000) :
    vCall [] Tryd.prog M 36 [v, .int .i64 k] h (fun r h' => r = .int .i64 (k + 2 * n : Nat) ∧ h <+: h') := by
  obtain ⟨a, hv, _, _⟩ := id s
  rw [mkrs_len] at hv
  refine body_of mo Tryd.func36 rfl (by kernel_rfl) (Nat.le_of_ble_eq_true (by kernel_rfl)) rfl ?_
  subst hv
  simp only [go_sem, Nat.reduceBEq, Nat.reduceAdd, Nat.reduceMul, Nat.reduceSub, Nat.reduceLeDiff, Nat.le_refl, implies_true, Nat.reduceLT, reduceIte, decide_true, decide_false, true_and, and_true, reduceCtorEq, Nat.mul_one, Int.reduceToNat, Int.reduceLE, Int.reduceLT, Int.reduceAdd, Int.reduceSub, Int.reduceMul, Int.cast_ofNat_Int, cast_zero_int, cast_one_int, Nat.reducePow, Nat.reduceEqDiff, Nat.reduceMod, Nat.zero_add, Nat.sub_zero, Nat.add_zero]
  refine vLoop.count mo n (fun i e h' => e 0 = .slice a n 0 ∧ e 1 = .int .i64 (k + 2 * i : Nat) ∧ e 5 = .int .i64 i ∧ ∃ t, h' = h ++ t) ?_ ?_
  · exact ⟨rfl, by simp [upd, env0], rfl, [], by simp⟩
  · rintro i e h' hi ⟨e0, e1, e5, t, rfl⟩
    simp only [go_sem, Nat.reduceBEq, Nat.reduceAdd, Nat.reduceMul, Nat.reduceSub, Nat.reduceLeDiff, Nat.le_refl, implies_true, Nat.reduceLT, reduceIte, decide_true, decide_false, true_and, and_true, reduceCtorEq, Nat.mul_one, Int.reduceToNat, Int.reduceLE, Int.reduceLT, Int.reduceAdd, Int.reduceSub, Int.reduceMul, Int.cast_ofNat_Int, cast_zero_int, cast_one_int, Nat.reducePow, Nat.reduceEqDiff, Nat.reduceMod, Nat.zero_add, Nat.sub_zero, Nat.add_zero, e0, e1, e5]
    refine .intro (fun h1 => ?_) (fun h1 => ?_)
    · have hlt : i < n := by simpa using h1
      have hlt' : i < (mkrs k n).length := by rw [mkrs_len]; exact hlt
      have hz : (i : Int) < n := by omega
      obtain ⟨id, off, b, hv, hk2, _, hd, hb, hrow, hat⟩ := s.at hlt'
      obtain rfl : a = some ⟨id, off, none⟩ := by simp only [Value.slice.injEq] at hv; exact hv.1
      have g0 := hat 0 (by omega)
      have g1 := hat 1 (by omega)
      rw [mkrs_at hlt'] at g0 g1
      simp only [mkr, List.getElem?_cons_zero, List.getElem?_cons_succ, Nat.add_zero] at g0 g1
      have w1 : IntKind.i64.wrap (((k + 2 * i : Nat) : Int) + 1) = ((k + 2 * i + 1 : Nat) : Int) := by rw [wrap64 (by omega)]; omega
      have w2 : IntKind.i64.wrap (((k + 2 * i + 1 : Nat) : Int) + 1) = ((k + 2 * (i + 1) : Nat) : Int) := by rw [wrap64 (by omega)]; omega
      simp only [go_sem, Nat.reduceBEq, Nat.reduceAdd, Nat.reduceMul, Nat.reduceSub, Nat.reduceLeDiff, Nat.le_refl, implies_true, Nat.reduceLT, reduceIte, decide_true, decide_false, true_and, and_true, reduceCtorEq, Nat.mul_one, Int.reduceToNat, Int.reduceLE, Int.reduceLT, Int.reduceAdd, Int.reduceSub, Int.reduceMul, Int.cast_ofNat_Int, cast_zero_int, cast_one_int, Nat.reducePow, Nat.reduceEqDiff, Nat.reduceMod, Nat.zero_add, Nat.sub_zero, Nat.add_zero, e0, e1, e5, hz, hk2, hd, g0]
      refine ⟨by kernel_rfl, (c_markText (k + 2 * i) (by omega)).use (fun _ m => m) ?_⟩
      rintro _ _ ⟨rfl, ⟨t2, rfl⟩⟩
      simp only [go_sem, Nat.reduceBEq, Nat.reduceAdd, Nat.reduceMul, Nat.reduceSub, Nat.reduceLeDiff, Nat.le_refl, implies_true, Nat.reduceLT, reduceIte, decide_true, decide_false, true_and, and_true, reduceCtorEq, Nat.mul_one, Int.reduceToNat, Int.reduceLE, Int.reduceLT, Int.reduceAdd, Int.reduceSub, Int.reduceMul, Int.cast_ofNat_Int, cast_zero_int, cast_one_int, Nat.reducePow, Nat.reduceEqDiff, Nat.reduceMod, Nat.zero_add, Nat.sub_zero, Nat.add_zero, e0, e1, e5, hz, hk2, hd, g1, eqs, w1]
      refine ⟨by kernel_rfl, (c_markText (k + 2 * i + 1) (by omega)).use (fun _ m => m) ?_⟩
      rintro _ _ ⟨rfl, ⟨t3, rfl⟩⟩
      simp only [go_sem, Nat.reduceBEq, Nat.reduceAdd, Nat.reduceMul, Nat.reduceSub, Nat.reduceLeDiff, Nat.le_refl, implies_true, Nat.reduceLT, reduceIte, decide_true, decide_false, true_and, and_true, reduceCtorEq, Nat.mul_one, Int.reduceToNat, Int.reduceLE, Int.reduceLT, Int.reduceAdd, Int.reduceSub, Int.reduceMul, Int.cast_ofNat_Int, cast_zero_int, cast_one_int, Nat.reducePow, Nat.reduceEqDiff, Nat.reduceMod, Nat.zero_add, Nat.sub_zero, Nat.add_zero, e0, e1, e5, hz, hk2, hd, g1, eqs, w1, w2]
      refine ⟨hlt, by rw [wrap64 (by omega)]; rfl, _, rfl⟩
    · simp only [go_sem, Nat.reduceBEq, Nat.reduceAdd, Nat.reduceMul, Nat.reduceSub, Nat.reduceLeDiff, Nat.le_refl, implies_true, Nat.reduceLT, reduceIte, decide_true, decide_false, true_and, and_true, reduceCtorEq, Nat.mul_one, Int.reduceToNat, Int.reduceLE, Int.reduceLT, Int.reduceAdd, Int.reduceSub, Int.reduceMul, Int.cast_ofNat_Int, cast_zero_int, cast_one_int, Nat.reducePow, Nat.reduceEqDiff, Nat.reduceMod, Nat.zero_add, Nat.sub_zero, Nat.add_zero, e0, e1, e5]
      obtain rfl : i = n := by have : ¬ i < n := by simpa using h1
                               omega
      rfl
end
end Go.Proofs.YtkogddiefniihaaDoor
