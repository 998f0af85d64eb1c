
/- The numbers that stand in a text. No condition. -/
import Derived.Test.YtfolkgkcaiaifaaDoorLogL
import Derived.Test.YtfolkgkcaiaifaaDoorInts
import Derived.Test.YtfolkgkcaiaifaaDoorH3
namespace Go.Proofs.YtfolkgkcaiaifaaDoor
open Go.HH Go.Proofs
set_option linter.unusedSimpArgs false
set_option linter.unusedVariables false

def isDg (c : UInt8) : Bool := decide (48 ≤ c.toNat ∧ c.toNat ≤ 57)
/-- The digits at a text's head, six at most, and their value. -/
def dg6 (l : BL) : BL := (l.takeWhile isDg).take 6
def valL (l : BL) : Nat := l.foldl (fun n c => 10 * n + (c.toNat - 48)) 0
theorem valL_snoc (l : BL) (c : UInt8) : valL (l ++ [c]) = 10 * valL l + (c.toNat - 48) := by rw [valL, List.foldl_append]; rfl
theorem valL_lt : ∀ (l : BL), (∀ c ∈ l, isDg c = true) → valL l < 10 ^ l.length := by
  intro l
  induction hn : l.length generalizing l with
  | zero => intro _; rw [List.eq_nil_of_length_eq_zero hn]; decide
  | succ n ih =>
    intro h
    rcases List.eq_nil_or_concat l with rfl | ⟨p, c, rfl⟩
    · simp at hn
    · rw [List.concat_eq_append] at hn h ⊢
      have h1 := ih p (by simpa using hn) (fun x hx => h x (List.mem_append_left _ hx))
      have h2 : 48 ≤ c.toNat ∧ c.toNat ≤ 57 := by simpa [isDg] using h c (by simp)
      rw [valL_snoc, Nat.pow_succ]
      omega
/-- What numbers are read from a text, so many at most. -/
inductive NumsR : Nat → BL → List Int → Prop
  | stop (l : BL) : NumsR 0 l []
  | nil (m : Nat) : NumsR m [] []
  | skip {m : Nat} {c : UInt8} {r : BL} {o : List Int} : isDg c = false → NumsR (m + 1) r o → NumsR (m + 1) (c :: r) o
  | take {m : Nat} {c : UInt8} {r : BL} {o : List Int} : isDg c = true → NumsR m ((c :: r).drop ((dg6 (c :: r)).length + 1)) o → NumsR (m + 1) (c :: r) ((valL (dg6 (c :: r)) : Int) :: o)
theorem NumsR.uniq {m : Nat} {l : BL} {a b : List Int} (h : NumsR m l a) (h' : NumsR m l b) : a = b := by
  induction h generalizing b with
  | stop l => cases h' <;> rfl
  | nil m => cases h' <;> rfl
  | skip hc _ ih =>
    cases h' with
    | skip _ h2 => exact ih h2
    | take hc2 _ => rw [hc] at hc2; cases hc2
  | take hc _ ih =>
    cases h' with
    | skip hc2 _ => rw [hc] at hc2; cases hc2
    | take _ h2 => rw [ih h2]
theorem NumsR.len {m : Nat} {l : BL} {a : List Int} (h : NumsR m l a) : a.length ≤ m := by
  induction h with
  | stop l => exact Nat.le_refl 0
  | nil m => exact Nat.zero_le _
  | skip _ _ ih => exact ih
  | take _ _ ih => rw [List.length_cons]; omega
theorem dg6_all (l : BL) : ∀ c ∈ dg6 l, isDg c = true := fun c hc => by
  have : ∀ {l : BL} {c : UInt8}, c ∈ l.takeWhile isDg → isDg c = true := by
    intro l
    induction l with
    | nil => intro c hc; cases hc
    | cons x r ih =>
      intro c hc
      rw [List.takeWhile_cons] at hc
      split at hc
      · rename_i hx
        rcases List.mem_cons.1 hc with rfl | h2
        · exact hx
        · exact ih h2
      · cases hc
  exact this (List.mem_of_mem_take hc)
theorem dg6_len (l : BL) : (dg6 l).length ≤ 6 := by rw [dg6, List.length_take]; omega
theorem NumsR.bound {m : Nat} {l : BL} {a : List Int} (h : NumsR m l a) : ∀ x ∈ a, 0 ≤ x ∧ x ≤ 999999 := by
  induction h with
  | stop l => intro x hx; cases hx
  | nil m => intro x hx; cases hx
  | skip _ _ ih => exact ih
  | @take m c r o _ _ ih =>
    intro x hx
    rcases List.mem_cons.1 hx with rfl | h2
    · have h1 := valL_lt _ (dg6_all (c :: r))
      have h2 : 10 ^ (dg6 (c :: r)).length ≤ 10 ^ 6 := Nat.pow_le_pow_right (by omega) (dg6_len _)
      omega
    · exact ih x h2
/-- Pieces of texts. -/
theorem NumsR.free {m : Nat} {q : BL} {o : List Int} (h : NumsR (m + 1) q o) : ∀ {p : BL}, (∀ c ∈ p, isDg c = false) → NumsR (m + 1) (p ++ q) o
  | [], _ => h
  | c :: p, hp => .skip (hp c (by simp)) (NumsR.free h (p := p) fun x hx => hp x (List.mem_cons_of_mem _ hx))
theorem takeWhile_dg {p q : BL} (hp : ∀ c ∈ p, isDg c = true) (hq : ∀ c r, q = c :: r → isDg c = false) : (p ++ q).takeWhile isDg = p := by
  induction p with
  | nil =>
    cases q with
    | nil => rfl
    | cons c r => rw [List.nil_append, List.takeWhile_cons, hq c r rfl]; rfl
  | cons x p ih => rw [List.cons_append, List.takeWhile_cons, hp x (by simp), if_pos rfl, ih fun c hc => hp c (List.mem_cons_of_mem _ hc)]
theorem dec_dg (n : Nat) : ∀ c ∈ Lib.decDigits n, isDg c = true := fun c hc => decide_eq_true (dec_digit n c hc)
theorem dec_val : ∀ n, valL (Lib.decDigits n) = n := by
  intro n
  induction n using Nat.strongRecOn with
  | _ n ih =>
    by_cases h : n < 10
    · rw [Lib.decDigits_one h]
      show 10 * 0 + ((UInt8.ofNat (48 + n)).toNat - 48) = n
      simp; omega
    · rw [show Lib.decDigits n = Lib.decDigits (n / 10) ++ [UInt8.ofNat (48 + n % 10)] by rw [Lib.decDigits, dif_neg h], valL_snoc, ih (n / 10) (by omega)]
      have : n % 10 < 10 := Nat.mod_lt _ (by omega)
      have e : (UInt8.ofNat (48 + n % 10)).toNat = 48 + n % 10 := by simp; omega
      rw [e]; omega
theorem dec_pos (n : Nat) : ∃ c r, Lib.decDigits n = c :: r := by
  by_cases h : n < 10
  · exact ⟨_, _, Lib.decDigits_one h⟩
  · rw [show Lib.decDigits n = Lib.decDigits (n / 10) ++ [UInt8.ofNat (48 + n % 10)] by rw [Lib.decDigits, dif_neg h]]
    cases hx : Lib.decDigits (n / 10) with
    | nil => exact ⟨_, _, rfl⟩
    | cons c r => exact ⟨_, _, rfl⟩
theorem dg6_num {n : Nat} {q : BL} (hn : n < 1000000) (hq : ∀ c r, q = c :: r → isDg c = false) : dg6 (Lib.decDigits n ++ q) = Lib.decDigits n := by
  rw [dg6, takeWhile_dg (dec_dg n) hq]
  exact List.take_of_length_le (dec_len (k := 6) hn (by omega))
theorem NumsR.num {m n : Nat} {c : UInt8} {q : BL} {o : List Int} (hn : n < 1000000) (hc : isDg c = false) (h : NumsR m q o) : NumsR (m + 1) (Lib.decDigits n ++ c :: q) ((n : Int) :: o) := by
  have e := dg6_num (q := c :: q) hn (fun d r he => by cases he; exact hc)
  obtain ⟨x, r, hx⟩ := dec_pos n
  have e2 : Lib.decDigits n ++ c :: q = x :: (r ++ c :: q) := by rw [hx]; rfl
  have key := @NumsR.take m x (r ++ c :: q) o (dec_dg n x (by rw [hx]; simp))
  rw [← e2, e, dec_val] at key
  refine key ?_
  rw [← List.drop_drop, List.drop_left' rfl]
  exact h
theorem NumsR.last {m n : Nat} (hn : n < 1000000) : NumsR (m + 1) (Lib.decDigits n) [(n : Int)] := by
  have e := dg6_num (q := []) hn (fun d r he => by cases he)
  rw [List.append_nil] at e
  obtain ⟨x, r, hx⟩ := dec_pos n
  have key := @NumsR.take m x r [] (dec_dg n x (by rw [hx]; simp))
  rw [← hx, e, dec_val] at key
  refine key ?_
  rw [List.drop_eq_nil_of_le (by omega)]
  exact .nil _

theorem takeWhile_pre {p q : BL} (hp : ∀ c ∈ p, isDg c = true) : (p ++ q).takeWhile isDg = p ++ q.takeWhile isDg := by
  induction p with
  | nil => rfl
  | cons x p ih => rw [List.cons_append, List.takeWhile_cons, hp x (by simp), if_pos rfl, ih fun c hc => hp c (List.mem_cons_of_mem _ hc)]; rfl
theorem dg6_stop {D : BL} {k : Nat} (hk : k ≤ 6) (hl : k ≤ D.length) (hd : ∀ c ∈ D.take k, isDg c = true) (hs : k = 6 ∨ ∀ c r, D.drop k = c :: r → isDg c = false) : dg6 D = D.take k := by
  have e : D.takeWhile isDg = D.take k ++ (D.drop k).takeWhile isDg := by
    have := takeWhile_pre (q := D.drop k) hd
    rwa [List.take_append_drop] at this
  have lk : (D.take k).length = k := by rw [List.length_take]; omega
  rw [dg6, e]
  rcases hs with rfl | hs
  · rw [List.take_append_of_le_length (by omega), List.take_of_length_le (by omega)]
  · have : (D.drop k).takeWhile isDg = [] := by
      cases hx : D.drop k with
      | nil => rfl
      | cons c r => rw [List.takeWhile_cons, hs c r hx]; rfl
    rw [this, List.append_nil, List.take_of_length_le (by omega)]

section
variable {h : Heap} {M : Nat → Prop}

theorem c_numbersOf (s : ByteArray) (most : Nat) (hs : s.size ≤ 10000000) (hm : most ≤ 1000) : vCall [] Tryd.prog M 43 [.string s, .int .i64 most] h
    (fun r h' => (∃ l, FI h.length h'.length h' r l ∧ NumsR most (bl s) l) ∧ h <+: h') := by
  have hbl := bl_len s
  refine body_of mo Tryd.func43 rfl (by kernel_rfl) (Nat.le_of_ble_eq_true (by kernel_rfl)) rfl ?_
  simp only [go_sem, Nat.reduceBEq, Nat.reduceAdd, Nat.reduceMul, Nat.reduceSub, Nat.reduceLeDiff, Nat.le_refl, implies_true, Nat.reduceLT, reduceIte, decide_true, decide_false, true_and, and_true, reduceCtorEq, Nat.mul_one, Int.reduceToNat, Int.reduceLE, Int.reduceLT, Int.reduceAdd, Int.reduceSub, Int.reduceMul, Int.cast_ofNat_Int, cast_zero_int, cast_one_int, Nat.reducePow, Nat.reduceEqDiff, Nat.reduceMod, Nat.zero_add, Nat.sub_zero, Nat.add_zero]
  refine vLoop.rank mo (s.size + 2) (fun m e h' => ∃ (i : Nat) (l : List Int) (t : Heap) (j : Nat), m + i = s.size + 2 ∧ i ≤ s.size + 1 ∧ e 0 = .string s ∧ e 1 = .int .i64 most ∧ e 6 = .int .i64 i ∧ e 5 = .slice (some ⟨h.length + j, 0, none⟩) l.length 0 ∧
    h' = h ++ t ∧ t[j]? = some ⟨l.map iv, 1, .rw⟩ ∧ l.length ≤ most ∧ ∀ o, NumsR (most - l.length) ((bl s).drop i) o → NumsR most (bl s) (l ++ o)) ?_ ?_
  · exact ⟨0, [], [⟨[], 1, .rw⟩], 0, rfl, by omega, rfl, rfl, rfl, rfl, rfl, rfl, Nat.zero_le _, fun o ho => ho⟩
  · rintro m e _ ⟨i, l, t, j, hmi, hi, e0, e1, e6, e5, rfl, hj, hl, hn⟩
    have fin : NumsR (most - l.length) ((bl s).drop i) [] → (∃ l2, FI h.length (h.length + t.length) (h ++ t) (.slice (some ⟨h.length + j, 0, none⟩) l.length 0) l2 ∧ NumsR most (bl s) l2) := fun ho => by
      have jlt := (List.getElem?_eq_some_iff.1 hj).1
      have := hn [] ho
      rw [List.append_nil] at this
      exact ⟨l, FI.at (by omega) (by omega) (by rw [hget_app]; exact hj), this⟩
    by_cases g1 : i < s.size
    · have d1 : (i : Int) < s.size := by omega
      by_cases g2 : l.length < most
      · have d2 : (l.length : Int) < most := by omega
        have hlt' : i < (bl s).length := by omega
        have hb := bl_get g1
        have hdrop : (bl s).drop i = (bl s)[i] :: (bl s).drop (i + 1) := List.drop_eq_getElem_cons hlt'
        obtain ⟨b, hbe⟩ : ∃ b, b = (bl s)[i] := ⟨_, rfl⟩
        rw [← hbe] at hb hdrop
        have hb2 : (b.toNat : Int) ≤ 255 := by have := b.toNat_lt; omega
        obtain ⟨mo1, hmo⟩ : ∃ mo1, most - l.length = mo1 + 1 := ⟨most - l.length - 1, by omega⟩
        by_cases g3 : isDg b = true
        · have g4 : 48 ≤ b.toNat ∧ b.toNat ≤ 57 := by simpa [isDg] using g3
          simp only [go_sem, Nat.reduceBEq, Nat.reduceAdd, Nat.reduceMul, Nat.reduceSub, Nat.reduceLeDiff, Nat.le_refl, implies_true, Nat.reduceLT, reduceIte, decide_true, decide_false, true_and, and_true, reduceCtorEq, Nat.mul_one, Int.reduceToNat, Int.reduceLE, Int.reduceLT, Int.reduceAdd, Int.reduceSub, Int.reduceMul, Int.cast_ofNat_Int, cast_zero_int, cast_one_int, Nat.reducePow, Nat.reduceEqDiff, Nat.reduceMod, Nat.zero_add, Nat.sub_zero, Nat.add_zero, e0, e1, e5, e6, d1, d2, hb, show ¬ ((b.toNat : Int) < 48) by omega, show ¬ ((57 : Int) < b.toNat) by omega]
          obtain ⟨D, hD⟩ : ∃ D, D = (bl s).drop i := ⟨_, rfl⟩
          have lD : D.length = s.size - i := by rw [hD, List.length_drop, hbl]
          refine vLoop.count mo 6 (fun k e h' => e 0 = .string s ∧ e 1 = .int .i64 most ∧ e 6 = .int .i64 (i + k : Nat) ∧ e 5 = .slice (some ⟨h.length + j, 0, none⟩) l.length 0 ∧ e 7 = .int .i64 (valL (D.take k) : Nat) ∧ e 8 = .int .i64 k ∧
            HeapIs (h ++ t) h' ∧ k ≤ D.length ∧ ∀ c ∈ D.take k, isDg c = true) ?_ ?_
          · refine ⟨?_, ?_, ?_, ?_, ?_, ?_, HeapIs.rfl, Nat.zero_le _, fun c hc => by simp at hc⟩ <;> simp [upd, e0, e1, e5, e6, valL]
          · rintro k e _ hk ⟨e0, e1, e6, e5, e7, e8, hh, hkl, hdg⟩
            cases hh
            have vlt := valL_lt (D.take k) hdg
            have pk : (D.take k).length = k := by rw [List.length_take]; omega
            rw [pk] at vlt
            have p6 : 10 ^ k ≤ 10 ^ 6 := Nat.pow_le_pow_right (by omega) hk
            have out : dg6 D = D.take k → ∃ m', m' < m ∧ ∃ (i' : Nat) (l' : List Int) (t' : Heap) (j' : Nat), m' + i' = s.size + 2 ∧ i' ≤ s.size + 1 ∧ Value.int .i64 (IntKind.i64.wrap (((i + k : Nat) : Int) + 1)) = .int .i64 i' ∧ Value.slice (some ⟨h.length + (t.length + 1), 0, none⟩) (l.length + 1) 0 = .slice (some ⟨h.length + j', 0, none⟩) l'.length 0 ∧
                h ++ ((t ++ [Blk.mk [.int .i64 (valL (D.take k) : Nat)] 1 .rw]).set j (Blk.mk (l.map iv) 1 .dead) ++ [Blk.mk (l.map iv ++ [.int .i64 (valL (D.take k) : Nat)]) 1 .rw]) = h ++ t' ∧ t'[j']? = some ⟨l'.map iv, 1, .rw⟩ ∧ l'.length ≤ most ∧ ∀ o, NumsR (most - l'.length) ((bl s).drop i') o → NumsR most (bl s) (l' ++ o) := fun hd6 => by
              refine ⟨m - 1 - k, by omega, i + k + 1, l ++ [((valL (D.take k) : Nat) : Int)], _, t.length + 1, by omega, by omega, by rw [wrap64 (by omega)]; rfl, by rw [List.length_append]; rfl, rfl, ?_, by rw [List.length_append, List.length_singleton]; omega, fun o ho => ?_⟩
              · rw [List.map_append]; exact new_at (by simp)
              · rw [List.append_assoc]
                refine hn _ ?_
                rw [List.length_append, List.length_singleton, show most - (l.length + 1) = mo1 by omega] at ho
                rw [hmo, ← hD, show D = b :: (bl s).drop (i + 1) by rw [hD]; exact hdrop]
                have hDb : b :: (bl s).drop (i + 1) = D := by rw [hD]; exact hdrop.symm
                have key := @NumsR.take mo1 b ((bl s).drop (i + 1)) o g3
                rw [hDb, hd6, pk] at key
                rw [hDb]
                refine key ?_
                rw [hD, List.drop_drop]
                exact ho
            by_cases q1 : i + k < s.size
            · have dq1 : ((i + k : Nat) : Int) < s.size := by omega
              have hlt2 : i + k < (bl s).length := by omega
              have hb2 := bl_get q1
              have hDk : D.drop k = (bl s)[i + k] :: (bl s).drop (i + k + 1) := by rw [hD, List.drop_drop]; exact List.drop_eq_getElem_cons hlt2
              have hDk2 : D[k]? = some (bl s)[i + k] := by rw [hD, List.getElem?_drop, List.getElem?_eq_getElem hlt2]
              obtain ⟨c, hce⟩ : ∃ c, c = (bl s)[i + k] := ⟨_, rfl⟩
              rw [← hce] at hb2 hDk hDk2
              have hc2 : (c.toNat : Int) ≤ 255 := by have := c.toNat_lt; omega
              by_cases q2 : isDg c = true
              · have q3 : 48 ≤ c.toNat ∧ c.toNat ≤ 57 := by simpa [isDg] using q2
                by_cases q4 : k < 6
                · have w1 : IntKind.i64.wrap (10 * ((valL (D.take k) : Nat) : Int)) = 10 * ((valL (D.take k) : Nat) : Int) := wrap64 (by omega)
                  have w2 : IntKind.u8.wrap ((c.toNat : Int) - 48) = ((c.toNat - 48 : Nat) : Int) := by rw [IntWalk.u8_in _ (by omega)]; omega
                  have w3 : IntKind.i64.wrap ((c.toNat - 48 : Nat) : Int) = ((c.toNat - 48 : Nat) : Int) := wrap64 (by omega)
                  have w4 : IntKind.i64.wrap (10 * ((valL (D.take k) : Nat) : Int) + ((c.toNat - 48 : Nat) : Int)) = ((valL (D.take (k + 1)) : Nat) : Int) := by
                    rw [wrap64 (by omega), List.take_add_one, hDk2]
                    show _ = ((valL (D.take k ++ [c]) : Nat) : Int)
                    rw [valL_snoc]; omega
                  simp only [go_sem, Nat.reduceBEq, Nat.reduceAdd, Nat.reduceMul, Nat.reduceSub, Nat.reduceLeDiff, Nat.le_refl, implies_true, Nat.reduceLT, reduceIte, decide_true, decide_false, true_and, and_true, reduceCtorEq, Nat.mul_one, Int.reduceToNat, Int.reduceLE, Int.reduceLT, Int.reduceAdd, Int.reduceSub, Int.reduceMul, Int.cast_ofNat_Int, cast_zero_int, cast_one_int, Nat.reducePow, Nat.reduceEqDiff, Nat.reduceMod, Nat.zero_add, Nat.sub_zero, Nat.add_zero, e0, e1, e5, e6, e7, e8, dq1, hb2, show (48 : Int) ≤ c.toNat by omega, show (c.toNat : Int) ≤ 57 by omega, show (k : Int) < 6 by omega, w1, w2, w3, w4]
                  refine ⟨q4, by rw [wrap64 (by omega)]; rfl, by rw [wrap64 (by omega)]; rfl, HeapIs.rfl, by omega, fun x hx => ?_⟩
                  rw [List.take_add_one, hDk2] at hx
                  rcases List.mem_append.1 hx with hx | hx
                  · exact hdg x hx
                  · simp at hx; rw [hx]; exact q2
                · simp only [go_sem, Nat.reduceBEq, Nat.reduceAdd, Nat.reduceMul, Nat.reduceSub, Nat.reduceLeDiff, Nat.le_refl, implies_true, Nat.reduceLT, reduceIte, decide_true, decide_false, true_and, and_true, reduceCtorEq, Nat.mul_one, Int.reduceToNat, Int.reduceLE, Int.reduceLT, Int.reduceAdd, Int.reduceSub, Int.reduceMul, Int.cast_ofNat_Int, cast_zero_int, cast_one_int, Nat.reducePow, Nat.reduceEqDiff, Nat.reduceMod, Nat.zero_add, Nat.sub_zero, Nat.add_zero, e0, e1, e5, e6, e7, e8, dq1, hb2, show (48 : Int) ≤ c.toNat by omega, show (c.toNat : Int) ≤ 57 by omega, show ¬ (k : Int) < 6 by omega, app_old hj, List.length_map]
                  exact ⟨by omega, by omega, out (dg6_stop hk hkl hdg (.inl (by omega)))⟩
              · have o1 := out (dg6_stop hk hkl hdg (.inr fun c' r' he => by rw [hDk] at he; cases he; simpa using q2))
                have q3 : ¬ (48 ≤ c.toNat ∧ c.toNat ≤ 57) := by simpa [isDg] using q2
                by_cases q5 : (48 : Int) ≤ c.toNat
                · simp only [go_sem, Nat.reduceBEq, Nat.reduceAdd, Nat.reduceMul, Nat.reduceSub, Nat.reduceLeDiff, Nat.le_refl, implies_true, Nat.reduceLT, reduceIte, decide_true, decide_false, true_and, and_true, reduceCtorEq, Nat.mul_one, Int.reduceToNat, Int.reduceLE, Int.reduceLT, Int.reduceAdd, Int.reduceSub, Int.reduceMul, Int.cast_ofNat_Int, cast_zero_int, cast_one_int, Nat.reducePow, Nat.reduceEqDiff, Nat.reduceMod, Nat.zero_add, Nat.sub_zero, Nat.add_zero, e0, e1, e5, e6, e7, e8, dq1, hb2, q5, show ¬ (c.toNat : Int) ≤ 57 by omega, app_old hj, List.length_map]
                  exact ⟨by omega, by omega, o1⟩
                · simp only [go_sem, Nat.reduceBEq, Nat.reduceAdd, Nat.reduceMul, Nat.reduceSub, Nat.reduceLeDiff, Nat.le_refl, implies_true, Nat.reduceLT, reduceIte, decide_true, decide_false, true_and, and_true, reduceCtorEq, Nat.mul_one, Int.reduceToNat, Int.reduceLE, Int.reduceLT, Int.reduceAdd, Int.reduceSub, Int.reduceMul, Int.cast_ofNat_Int, cast_zero_int, cast_one_int, Nat.reducePow, Nat.reduceEqDiff, Nat.reduceMod, Nat.zero_add, Nat.sub_zero, Nat.add_zero, e0, e1, e5, e6, e7, e8, dq1, hb2, q5, app_old hj, List.length_map]
                  exact ⟨by omega, by omega, o1⟩
            · have o1 := out (dg6_stop hk hkl hdg (.inr fun c' r' he => by rw [List.drop_eq_nil_of_le (by omega)] at he; cases he))
              simp only [go_sem, Nat.reduceBEq, Nat.reduceAdd, Nat.reduceMul, Nat.reduceSub, Nat.reduceLeDiff, Nat.le_refl, implies_true, Nat.reduceLT, reduceIte, decide_true, decide_false, true_and, and_true, reduceCtorEq, Nat.mul_one, Int.reduceToNat, Int.reduceLE, Int.reduceLT, Int.reduceAdd, Int.reduceSub, Int.reduceMul, Int.cast_ofNat_Int, cast_zero_int, cast_one_int, Nat.reducePow, Nat.reduceEqDiff, Nat.reduceMod, Nat.zero_add, Nat.sub_zero, Nat.add_zero, e0, e1, e5, e6, e7, e8, show ¬ ((i + k : Nat) : Int) < s.size by omega, app_old hj, List.length_map]
              exact ⟨by omega, by omega, o1⟩
        · have g4 : ¬ (48 ≤ b.toNat ∧ b.toNat ≤ 57) := by simpa [isDg] using g3
          have step : ∃ m', m' < m ∧ ∃ (i' : Nat) (l' : List Int) (t' : Heap) (j' : Nat), m' + i' = s.size + 2 ∧ i' ≤ s.size + 1 ∧ Value.int .i64 (IntKind.i64.wrap ((i : Int) + 1)) = .int .i64 i' ∧ Value.slice (some ⟨h.length + j, 0, none⟩) l.length 0 = .slice (some ⟨h.length + j', 0, none⟩) l'.length 0 ∧
              h ++ t = h ++ t' ∧ t'[j']? = some ⟨l'.map iv, 1, .rw⟩ ∧ l'.length ≤ most ∧ ∀ o, NumsR (most - l'.length) ((bl s).drop i') o → NumsR most (bl s) (l' ++ o) :=
            ⟨m - 1, by omega, i + 1, l, t, j, by omega, by omega, by rw [wrap64 (by omega)]; rfl, rfl, rfl, hj, hl, fun o ho => hn o (by
              rw [hdrop, hmo]; rw [hmo] at ho; exact .skip (by simpa using g3) ho)⟩
          by_cases g5 : (b.toNat : Int) < 48
          · simp only [go_sem, Nat.reduceBEq, Nat.reduceAdd, Nat.reduceMul, Nat.reduceSub, Nat.reduceLeDiff, Nat.le_refl, implies_true, Nat.reduceLT, reduceIte, decide_true, decide_false, true_and, and_true, reduceCtorEq, Nat.mul_one, Int.reduceToNat, Int.reduceLE, Int.reduceLT, Int.reduceAdd, Int.reduceSub, Int.reduceMul, Int.cast_ofNat_Int, cast_zero_int, cast_one_int, Nat.reducePow, Nat.reduceEqDiff, Nat.reduceMod, Nat.zero_add, Nat.sub_zero, Nat.add_zero, e0, e1, e5, e6, d1, d2, hb, g5]
            exact step
          · simp only [go_sem, Nat.reduceBEq, Nat.reduceAdd, Nat.reduceMul, Nat.reduceSub, Nat.reduceLeDiff, Nat.le_refl, implies_true, Nat.reduceLT, reduceIte, decide_true, decide_false, true_and, and_true, reduceCtorEq, Nat.mul_one, Int.reduceToNat, Int.reduceLE, Int.reduceLT, Int.reduceAdd, Int.reduceSub, Int.reduceMul, Int.cast_ofNat_Int, cast_zero_int, cast_one_int, Nat.reducePow, Nat.reduceEqDiff, Nat.reduceMod, Nat.zero_add, Nat.sub_zero, Nat.add_zero, e0, e1, e5, e6, d1, d2, hb, g5, show (57 : Int) < b.toNat by omega]
            exact step
      · simp only [go_sem, Nat.reduceBEq, Nat.reduceAdd, Nat.reduceMul, Nat.reduceSub, Nat.reduceLeDiff, Nat.le_refl, implies_true, Nat.reduceLT, reduceIte, decide_true, decide_false, true_and, and_true, reduceCtorEq, Nat.mul_one, Int.reduceToNat, Int.reduceLE, Int.reduceLT, Int.reduceAdd, Int.reduceSub, Int.reduceMul, Int.cast_ofNat_Int, cast_zero_int, cast_one_int, Nat.reducePow, Nat.reduceEqDiff, Nat.reduceMod, Nat.zero_add, Nat.sub_zero, Nat.add_zero, e0, e1, e5, e6, d1, show ¬ ((l.length : Int) < most) by omega]
        refine fin ?_
        rw [show most - l.length = 0 by omega]; exact .stop _
    · simp only [go_sem, Nat.reduceBEq, Nat.reduceAdd, Nat.reduceMul, Nat.reduceSub, Nat.reduceLeDiff, Nat.le_refl, implies_true, Nat.reduceLT, reduceIte, decide_true, decide_false, true_and, and_true, reduceCtorEq, Nat.mul_one, Int.reduceToNat, Int.reduceLE, Int.reduceLT, Int.reduceAdd, Int.reduceSub, Int.reduceMul, Int.cast_ofNat_Int, cast_zero_int, cast_one_int, Nat.reducePow, Nat.reduceEqDiff, Nat.reduceMod, Nat.zero_add, Nat.sub_zero, Nat.add_zero, e0, e1, e5, e6, show ¬ ((i : Int) < s.size) by omega]
      refine fin ?_
      rw [List.drop_eq_nil_of_le (by omega)]; exact .nil _
end
end Go.Proofs.YtfolkgkcaiaifaaDoor
