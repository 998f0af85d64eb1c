
/- The log in plain lists: lines, records, and what is read from a text. No condition. -/
import Derived.Test.YtedidddimikjhaaDoorText
import Derived.Test.YtedidddimikjhaaDoorNum
namespace Go.Proofs.YtedidddimikjhaaDoor
open Go.HH Go.Proofs
set_option linter.unusedSimpArgs false
set_option linter.unusedVariables false

abbrev BL := List UInt8
/-- A text of these bytes. -/
def mkB (l : BL) : ByteArray := ⟨l.toArray⟩
theorem bl_mkB (l : BL) : bl (mkB l) = l := rfl
theorem mkB_bl (s : ByteArray) : mkB (bl s) = s := bl_ext rfl
theorem mkB_size (l : BL) : (mkB l).size = l.length := by rw [← bl_len, bl_mkB]
theorem mkB_inj {a b : BL} : mkB a = mkB b ↔ a = b := ⟨fun h => by rw [← bl_mkB a, h, bl_mkB], fun h => by rw [h]⟩
theorem bl_app (s t : ByteArray) : bl (s ++ t) = bl s ++ bl t := by simp [bl, ByteArray.data_append]
theorem mkB_app (a b : BL) : mkB (a ++ b) = mkB a ++ mkB b := bl_ext (by rw [bl_app, bl_mkB, bl_mkB, bl_mkB])
theorem bl_num (n : Nat) : bl (num n) = Lib.decDigits n := rfl
theorem num_mkB (n : Nat) : num n = mkB (Lib.decDigits n) := rfl
theorem bl_extract (s : ByteArray) (a b : Nat) : bl (s.extract a b) = ((bl s).take b).drop a := by
  rw [List.drop_take]
  simp only [bl, ByteArray.data_extract, Array.toList_extract]

/-- What stands before the first byte b, and what behind it. -/
def cutA (l : BL) (b : UInt8) : BL := l.takeWhile fun x => x != b
def cutB (l : BL) (b : UInt8) : BL := (l.dropWhile fun x => x != b).drop 1
theorem cutA_miss {b : UInt8} : ∀ {p : BL}, b ∉ p → cutA p b = p
  | [], _ => rfl
  | x :: p, h => by
    have h1 : x ≠ b := fun e => h (by rw [e]; exact List.mem_cons_self)
    have h2 := cutA_miss (b := b) (p := p) (fun e => h (List.mem_cons_of_mem _ e))
    unfold cutA at h2 ⊢
    rw [List.takeWhile_cons_of_pos (by simpa using h1), h2]
theorem cutB_miss {b : UInt8} : ∀ {p : BL}, b ∉ p → cutB p b = []
  | [], _ => rfl
  | x :: p, h => by
    have h1 : x ≠ b := fun e => h (by rw [e]; exact List.mem_cons_self)
    have h2 := cutB_miss (b := b) (p := p) (fun e => h (List.mem_cons_of_mem _ e))
    unfold cutB at h2 ⊢
    rw [List.dropWhile_cons_of_pos (by simpa using h1), h2]
theorem cutA_hit {b : UInt8} {q : BL} : ∀ {p : BL}, b ∉ p → cutA (p ++ b :: q) b = p
  | [], _ => by simp [cutA]
  | x :: p, h => by
    have h1 : x ≠ b := fun e => h (by rw [e]; exact List.mem_cons_self)
    have h2 := cutA_hit (b := b) (q := q) (p := p) (fun e => h (List.mem_cons_of_mem _ e))
    unfold cutA at h2 ⊢
    rw [List.cons_append, List.takeWhile_cons_of_pos (by simpa using h1), h2]
theorem cutB_hit {b : UInt8} {q : BL} : ∀ {p : BL}, b ∉ p → cutB (p ++ b :: q) b = q
  | [], _ => by simp [cutB]
  | x :: p, h => by
    have h1 : x ≠ b := fun e => h (by rw [e]; exact List.mem_cons_self)
    have h2 := cutB_hit (b := b) (q := q) (p := p) (fun e => h (List.mem_cons_of_mem _ e))
    unfold cutB at h2 ⊢
    rw [List.cons_append, List.dropWhile_cons_of_pos (by simpa using h1), h2]
theorem cut_mem {l : BL} {b : UInt8} (h : b ∈ l) : l = cutA l b ++ b :: cutB l b ∧ b ∉ cutA l b := by
  obtain ⟨p, q, rfl, hp⟩ := List.eq_append_cons_of_mem h
  rw [cutA_hit hp, cutB_hit hp]
  exact ⟨rfl, hp⟩

/-- The pieces of a text between bytes. -/
def spl (b : UInt8) (a : List BL × BL) (x : UInt8) : List BL × BL := if x = b then (a.1 ++ [a.2], []) else (a.1, a.2 ++ [x])
def splitL (l : BL) (b : UInt8) : List BL := (l.foldl (spl b) ([], [])).1 ++ [(l.foldl (spl b) ([], [])).2]
theorem spl_none {b : UInt8} : ∀ {l : BL} (a : List BL × BL), b ∉ l → l.foldl (spl b) a = (a.1, a.2 ++ l)
  | [], a, _ => by simp
  | x :: l, a, h => by
    have h1 : x ≠ b := fun e => h (by rw [e]; exact List.mem_cons_self)
    rw [List.foldl_cons, spl_none (l := l) _ (fun e => h (List.mem_cons_of_mem _ e)), spl, if_neg h1]
    simp
theorem spl_pre {b : UInt8} : ∀ (l : BL) (a : List BL × BL), a.1 <+: (l.foldl (spl b) a).1
  | [], a => List.prefix_rfl
  | x :: l, a => by
    rw [List.foldl_cons]
    refine List.IsPrefix.trans ?_ (spl_pre l _)
    unfold spl
    split
    · exact List.prefix_append _ _
    · exact List.prefix_rfl
theorem splitL_head (l : BL) (b : UInt8) : ∃ r, splitL l b = cutA l b :: r ∧ (r = [] ↔ b ∉ l) := by
  by_cases h : b ∈ l
  · obtain ⟨p, q, rfl, hp⟩ := List.eq_append_cons_of_mem h
    have e : (p ++ b :: q).foldl (spl b) ([], []) = q.foldl (spl b) ([p], []) := by
      rw [List.foldl_append, spl_none _ hp, List.foldl_cons, spl, if_pos rfl]; simp
    obtain ⟨t, ht⟩ := spl_pre (b := b) q ([p], [])
    refine ⟨t ++ [(q.foldl (spl b) ([p], [])).2], ?_, ?_⟩
    · rw [splitL, e, cutA_hit hp, ← ht]; rfl
    · simp
  · refine ⟨[], ?_, by simpa using h⟩
    rw [splitL, spl_none _ h, cutA_miss h]; simp

/-- The checksum. -/
def sumL (l : BL) : Nat := l.foldl (fun n b => (41 * n + b.toNat + 1) % 999979) 7
theorem sumL_snoc (l : BL) (b : UInt8) : sumL (l ++ [b]) = (41 * sumL l + b.toNat + 1) % 999979 := by
  rw [sumL, List.foldl_append]; rfl
theorem sumL_lt (l : BL) : sumL l < 999979 := by
  rcases List.eq_nil_or_concat l with rfl | ⟨p, b, rfl⟩
  · decide
  · rw [List.concat_eq_append, sumL_snoc]; exact Nat.mod_lt _ (by decide)
theorem dec_digit : ∀ (u : Nat), ∀ c ∈ Lib.decDigits u, 48 ≤ c.toNat ∧ c.toNat ≤ 57 := by
  intro u
  induction u using Nat.strongRecOn with
  | _ u ih =>
    intro c hc
    rw [Lib.decDigits] at hc
    split at hc
    · rename_i h
      simp at hc
      subst hc
      simp
      omega
    · rename_i h
      rcases List.mem_append.1 hc with hc | hc
      · exact ih (u / 10) (by omega) c hc
      · simp at hc
        subst hc
        have : u % 10 < 10 := Nat.mod_lt _ (by decide)
        simp
        omega
theorem dec_no {u : Nat} {b : UInt8} (h : b.toNat < 48 ∨ 57 < b.toNat) : b ∉ Lib.decDigits u := by
  intro hb
  have := dec_digit u b hb
  omega

/-- A good record, as lists. -/
def okL (c r : BL) : Bool := decide (1 ≤ c.length ∧ c.length ≤ 160 ∧ r.length ≤ 200) && c.all okc && r.all okc && !c.contains 64
theorem recOk_mk (c r : BL) : recOk (mkB c) (mkB r) = okL c r := by
  simp only [recOk, okL, plainS, bl_mkB, mkB_size]
theorem okL_iff {c r : BL} : okL c r = true ↔ (1 ≤ c.length ∧ c.length ≤ 160 ∧ r.length ≤ 200) ∧ (∀ b ∈ c, okc b = true) ∧ (∀ b ∈ r, okc b = true) ∧ 64 ∉ c := by
  simp only [okL, Bool.and_eq_true, decide_eq_true_eq, List.all_eq_true, Bool.not_eq_true', and_assoc]
  have : (c.contains 64 = false) ↔ 64 ∉ c := by
    rw [← Bool.not_eq_true, List.contains_iff_mem]
  rw [this]
theorem okc_no {b : UInt8} (h : okc b = true) : b ≠ 35 ∧ b ≠ 10 := by
  have h1 : 32 ≤ b.toNat ∧ b.toNat ≤ 126 ∧ b.toNat ≠ 35 := by simpa [okc] using h
  constructor
  · rintro rfl; exact h1.2.2 rfl
  · rintro rfl; exact absurd h1.1 (by decide)
/-- The text of a record ahead of its checksum, and its line. -/
def recL (k : Nat) (c r : BL) : BL := Lib.decDigits k ++ 32 :: (c ++ 64 :: r)
def lineL (k : Nat) (c r : BL) : BL := recL k c r ++ 35 :: Lib.decDigits (sumL (recL k c r))
theorem recL_no35 {k : Nat} {c r : BL} (h : okL c r = true) : 35 ∉ recL k c r := by
  obtain ⟨_, h1, h2, _⟩ := okL_iff.1 h
  simp only [recL, List.mem_append, List.mem_cons, not_or]
  exact ⟨dec_no (by decide), by decide, fun hb => (okc_no (h1 _ hb)).1 rfl, by decide, fun hb => (okc_no (h2 _ hb)).1 rfl⟩
theorem lineL_no10 {k : Nat} {c r : BL} (h : okL c r = true) : 10 ∉ lineL k c r := by
  obtain ⟨_, h1, h2, _⟩ := okL_iff.1 h
  simp only [lineL, recL, List.mem_append, List.mem_cons, not_or]
  exact ⟨⟨dec_no (by decide), by decide, fun hb => (okc_no (h1 _ hb)).2 rfl, by decide, fun hb => (okc_no (h2 _ hb)).2 rfl⟩, by decide, dec_no (by decide)⟩
theorem dec_len {n k : Nat} (h : n < 10 ^ k) (hk : 0 < k) : (Lib.decDigits n).length ≤ k := by
  have := num_size k n h hk
  rwa [← bl_len, bl_num] at this
theorem recL_len {k : Nat} {c r : BL} (h : okL c r = true) (hk : k < 100) : (recL k c r).length ≤ 364 := by
  obtain ⟨h0, _⟩ := okL_iff.1 h
  have := dec_len (n := k) (k := 2) (by omega) (by omega)
  simp only [recL, List.length_append, List.length_cons]
  omega
theorem lineL_len {k : Nat} {c r : BL} (h : okL c r = true) (hk : k < 100) : (lineL k c r).length ≤ 371 := by
  have h1 := recL_len h hk
  have := dec_len (n := sumL (recL k c r)) (k := 6) (Nat.lt_trans (sumL_lt _) (by omega)) (by omega)
  simp only [lineL, List.length_append, List.length_cons]
  omega
theorem cut_line {k : Nat} {c r : BL} (h : okL c r = true) : cutA (lineL k c r) 35 = recL k c r := cutA_hit (recL_no35 h)
theorem cut_rec {k : Nat} {c r : BL} : cutB (recL k c r) 32 = c ++ 64 :: r := cutB_hit (dec_no (by decide))

/-- The record of a line. -/
def readL (k : Nat) (l : BL) : Option (BL × BL) :=
  if okL (cutA (cutB (cutA l 35) 32) 64) (cutB (cutB (cutA l 35) 32) 64) = true ∧ lineL k (cutA (cutB (cutA l 35) 32) 64) (cutB (cutB (cutA l 35) 32) 64) = l
  then some (cutA (cutB (cutA l 35) 32) 64, cutB (cutB (cutA l 35) 32) 64) else none
theorem readL_line {k : Nat} {c r : BL} (h : okL c r = true) : readL k (lineL k c r) = some (c, r) := by
  have h4 := (okL_iff.1 h).2.2.2
  rw [readL, cut_line h, cut_rec, cutA_hit h4, cutB_hit h4, if_pos ⟨h, rfl⟩]
theorem readL_some {k : Nat} {l c r : BL} (h : readL k l = some (c, r)) : okL c r = true ∧ l = lineL k c r := by
  unfold readL at h
  split at h
  · rename_i g
    cases h
    exact ⟨g.1, g.2.symm⟩
  · cases h
/-- The same, as the other program reads. -/
theorem readL_no_head {k : Nat} {l : BL} (h : ¬ Lib.decDigits k ++ [32] <+: cutA l 35) : readL k l = none := by
  cases e : readL k l with
  | none => rfl
  | some x =>
    obtain ⟨g, rfl⟩ := readL_some (c := x.1) (r := x.2) e
    exact absurd ⟨x.1 ++ 64 :: x.2, by rw [cut_line g, recL]; simp⟩ h
theorem readL_head {k : Nat} {l rest : BL} (h : cutA l 35 = Lib.decDigits k ++ [32] ++ rest) :
    readL k l = if okL (cutA rest 64) (cutB rest 64) = true ∧ lineL k (cutA rest 64) (cutB rest 64) = l then some (cutA rest 64, cutB rest 64) else none := by
  have : cutB (cutA l 35) 32 = rest := by
    rw [h, List.append_assoc, List.singleton_append]
    exact cutB_hit (dec_no (by decide))
  rw [readL, this]
theorem readL_no_at {k : Nat} {l rest : BL} (h : cutA l 35 = Lib.decDigits k ++ [32] ++ rest) (h2 : 64 ∉ rest) : readL k l = none := by
  cases e : readL k l with
  | none => rfl
  | some x =>
    obtain ⟨g, rfl⟩ := readL_some (c := x.1) (r := x.2) e
    rw [cut_line g, recL, List.append_assoc, List.singleton_append, List.append_cancel_left_eq] at h
    rw [List.cons.injEq] at h
    exact absurd (by rw [← h.2]; simp) h2

/-- The records at the head of a text: n at most, numbered from k. -/
def openL : Nat → Nat → BL → List (BL × BL)
  | 0, _, _ => []
  | n + 1, k, s => if 10 ∈ s then (match readL k (cutA s 10) with | some e => e :: openL n (k + 1) (cutB s 10) | none => []) else []
def endL : Nat → List (BL × BL) → Nat
  | _, [] => 0
  | k, e :: r => (lineL k e.1 e.2).length + 1 + endL (k + 1) r
theorem openL_no {n k : Nat} {s : BL} (h : 10 ∉ s) : openL n k s = [] := by
  cases n with
  | zero => rfl
  | succ n => rw [openL, if_neg h]
theorem openL_none {n k : Nat} {s : BL} (h : readL k (cutA s 10) = none) : openL n k s = [] := by
  cases n with
  | zero => rfl
  | succ n => rw [openL, h]; simp
theorem openL_some {n k : Nat} {s : BL} {e : BL × BL} (h : 10 ∈ s) (g : readL k (cutA s 10) = some e) : openL (n + 1) k s = e :: openL n (k + 1) (cutB s 10) := by
  rw [openL, if_pos h, g]
theorem openL_len : ∀ (n k : Nat) (s : BL), (openL n k s).length ≤ n
  | 0, _, _ => Nat.le_refl 0
  | n + 1, k, s => by
    rw [openL]
    split
    · split
      · rw [List.length_cons]; exact Nat.succ_le_succ (openL_len n _ _)
      · exact Nat.zero_le _
    · exact Nat.zero_le _
theorem endL_snoc : ∀ (k : Nat) (d : List (BL × BL)) (e : BL × BL), endL k (d ++ [e]) = endL k d + (lineL (k + d.length) e.1 e.2).length + 1
  | k, [], e => by simp [endL]
  | k, x :: d, e => by
    rw [List.cons_append, endL, endL, endL_snoc (k + 1) d e, List.length_cons, show k + 1 + d.length = k + (d.length + 1) by omega]
    omega
theorem drop_line (x y : BL) : (x ++ 10 :: y).drop (x.length + 1) = y := by simp [List.drop_append]
theorem line_at {s : BL} {a k : Nat} {e : BL × BL} (h : 10 ∈ s.drop a) (g : readL k (cutA (s.drop a) 10) = some e) :
    s.drop a = lineL k e.1 e.2 ++ 10 :: s.drop (a + (lineL k e.1 e.2).length + 1) ∧ cutA (s.drop a) 10 = lineL k e.1 e.2 ∧ cutB (s.drop a) 10 = s.drop (a + (lineL k e.1 e.2).length + 1) ∧ a + (lineL k e.1 e.2).length + 1 ≤ s.length := by
  have e1 := (readL_some (c := e.1) (r := e.2) g).2
  have h2 := (cut_mem h).1
  rw [e1] at h2
  have h3 : cutB (s.drop a) 10 = s.drop (a + (lineL k e.1 e.2).length + 1) := by
    have := congrArg (List.drop ((lineL k e.1 e.2).length + 1)) h2
    rw [List.drop_drop, drop_line] at this
    rw [← this, Nat.add_assoc]
  have h4 := congrArg List.length h2
  rw [List.length_drop, List.length_append, List.length_cons] at h4
  refine ⟨by rw [← h3]; exact h2, e1, h3, by omega⟩

theorem endL_le : ∀ (n k : Nat) (s : BL), n + k ≤ 100 → endL k (openL n k s) ≤ 372 * (openL n k s).length ∧ endL k (openL n k s) ≤ s.length
  | 0, _, _, _ => ⟨Nat.le_refl 0, Nat.zero_le _⟩
  | n + 1, k, s, hk => by
    by_cases h : 10 ∈ s
    · cases g : readL k (cutA s 10) with
      | none => rw [openL_none g]; exact ⟨Nat.le_refl 0, Nat.zero_le _⟩
      | some e =>
        obtain ⟨h1, h2⟩ := endL_le n (k + 1) (cutB s 10) (by omega)
        obtain ⟨g1, g2⟩ := readL_some (c := e.1) (r := e.2) g
        have h3 := lineL_len (k := k) g1 (by omega)
        have h4 := congrArg List.length (cut_mem h).1
        rw [List.length_append, List.length_cons, g2] at h4
        rw [openL_some h g, endL, List.length_cons]
        omega
    · rw [openL_no h]; exact ⟨Nat.le_refl 0, Nat.zero_le _⟩
theorem cut_app {b : UInt8} {D P : BL} (h : b ∈ D) : cutA (D ++ P) b = cutA D b ∧ cutB (D ++ P) b = cutB D b ++ P := by
  obtain ⟨p, q, rfl, hp⟩ := List.eq_append_cons_of_mem h
  rw [List.append_assoc, List.cons_append, cutA_hit hp, cutB_hit hp, cutA_hit hp, cutB_hit hp]
  exact ⟨rfl, rfl⟩
theorem open_pre : ∀ (n k : Nat) (D P : BL), openL n k D <+: openL n k (D ++ P)
  | 0, _, _, _ => List.prefix_rfl
  | n + 1, k, D, P => by
    by_cases h : 10 ∈ D
    · obtain ⟨e1, e2⟩ := cut_app (P := P) h
      cases g : readL k (cutA D 10) with
      | none => rw [openL_none g]; exact List.nil_prefix
      | some e =>
        rw [openL_some h g, openL_some (List.mem_append_left _ h) (by rw [e1]; exact g), e2]
        exact List.cons_prefix_cons.2 ⟨rfl, open_pre n (k + 1) _ P⟩
    · rw [openL_no h]; exact List.nil_prefix
theorem open_end : ∀ (n k : Nat) (D P : BL) (j : Nat), j ≤ (openL n k (D ++ P)).length → endL k ((openL n k (D ++ P)).take j) = D.length → endL k (openL n k D) = D.length
  | n, k, D, P, 0, _, h => by
    rw [List.take_zero] at h
    have : D = [] := List.eq_nil_of_length_eq_zero h.symm
    subst this
    rw [openL_no (by simp)]; rfl
  | 0, k, D, P, j + 1, h1, h => by simp [openL] at h1
  | n + 1, k, D, P, j + 1, h1, h => by
    by_cases hm : 10 ∈ D ++ P
    · cases g : readL k (cutA (D ++ P) 10) with
      | none => rw [openL_none g] at h1; simp at h1
      | some e =>
        rw [openL_some hm g] at h h1
        rw [List.take_succ_cons, endL] at h
        have h2 := (cut_mem hm).1
        have h3 := (cut_mem hm).2
        rw [(readL_some (c := e.1) (r := e.2) g).2] at h2 h3
        have hD : 10 ∈ D := by
          have : (D ++ P).take D.length = D := by simp
          rw [← this, h2, List.take_append]
          refine List.mem_append_right _ ?_
          rw [show D.length - (lineL k e.1 e.2).length = (endL (k + 1) (List.take j (openL n (k + 1) (cutB (D ++ P) 10)))) + 1 by omega, List.take_succ_cons]
          exact List.mem_cons_self
        obtain ⟨e1, e2⟩ := cut_app (P := P) hD
        rw [e1] at g
        rw [e2] at h h1
        rw [List.length_cons] at h1
        have h4 := congrArg List.length (cut_mem hD).1
        rw [List.length_append, List.length_cons, (readL_some (c := e.1) (r := e.2) g).2] at h4
        rw [openL_some hD g, endL, open_end n (k + 1) (cutB D 10) P j (by omega) (by omega)]
        omega
    · rw [openL_no hm] at h1; simp at h1

/-- Where each record ends. -/
def endsL (d : List (BL × BL)) : List Int := (List.range (d.length + 1)).map fun j => (endL 0 (d.take j) : Int)
theorem endsL_nil : endsL [] = [0] := rfl
theorem endsL_len (d : List (BL × BL)) : (endsL d).length = d.length + 1 := by simp [endsL]
theorem endsL_snoc (d : List (BL × BL)) (e : BL × BL) : endsL (d ++ [e]) = endsL d ++ [(endL 0 (d ++ [e]) : Int)] := by
  unfold endsL
  rw [List.length_append, List.length_singleton, List.range_succ, List.map_append, List.map_singleton, List.take_of_length_le (by simp)]
  congr 1
  refine List.map_congr_left fun j hj => ?_
  rw [List.take_append_of_le_length (by have := List.mem_range.1 hj; omega)]
theorem endsL_at {d : List (BL × BL)} {j : Nat} (hj : j < (endsL d).length) : (endsL d)[j] = (endL 0 (d.take j) : Int) := by
  simp [endsL]
theorem endL_take_le : ∀ (k : Nat) (d : List (BL × BL)) (j : Nat), endL k (d.take j) ≤ endL k d
  | k, [], j => by simp
  | k, e :: d, 0 => by simp [endL]
  | k, e :: d, j + 1 => by
    rw [List.take_succ_cons, endL, endL]
    have := endL_take_le (k + 1) d j
    omega
/-- Where a reading stands: the records read, and the rest of the text. -/
def AtL (s : BL) (d : List (BL × BL)) : Prop := d.length ≤ 60 ∧ openL 60 0 s = d ++ openL (60 - d.length) d.length (s.drop (endL 0 d)) ∧ endL 0 d ≤ s.length
theorem AtL.start (s : BL) : AtL s [] := ⟨by simp, by simp [endL], by simp [endL]⟩
theorem AtL.step {s : BL} {d : List (BL × BL)} {e : BL × BL} (a : AtL s d) (hd : d.length < 60) (hm : 10 ∈ s.drop (endL 0 d)) (g : readL d.length (cutA (s.drop (endL 0 d)) 10) = some e) :
    AtL s (d ++ [e]) ∧ endL 0 (d ++ [e]) = endL 0 d + ((lineL d.length e.1 e.2).length + 1) := by
  obtain ⟨h1, h2, h3⟩ := a
  obtain ⟨_, _, l3, l4⟩ := line_at hm g
  have e1 : endL 0 (d ++ [e]) = endL 0 d + (lineL d.length e.1 e.2).length + 1 := by rw [endL_snoc, Nat.zero_add]
  refine ⟨⟨by rw [List.length_append, List.length_singleton]; omega, ?_, by omega⟩, by omega⟩
  rw [h2, show 60 - d.length = (60 - (d.length + 1)) + 1 by omega, openL_some hm g, l3, e1, List.length_append, List.length_singleton, List.append_assoc, List.singleton_append]
theorem AtL.stop {s : BL} {d : List (BL × BL)} (a : AtL s d) (h : ¬ (10 ∈ s.drop (endL 0 d) ∧ d.length < 60 ∧ (readL d.length (cutA (s.drop (endL 0 d)) 10)).isSome = true)) : openL 60 0 s = d := by
  obtain ⟨h1, h2, h3⟩ := a
  rw [h2]
  by_cases hm : 10 ∈ s.drop (endL 0 d)
  · by_cases hd : d.length < 60
    · have : readL d.length (cutA (s.drop (endL 0 d)) 10) = none := by
        rw [← Option.not_isSome_iff_eq_none]; exact fun hh => h ⟨hm, hd, hh⟩
      rw [openL_none this, List.append_nil]
    · rw [show 60 - d.length = 0 by omega, openL, List.append_nil]
  · rw [openL_no hm, List.append_nil]

/-- A good log: what both programs ask. -/
def logOk (D P : BL) (count : Int) : Prop := endL 0 (openL 60 0 (D ++ P)) = (D ++ P).length ∧ endL 0 (openL 60 0 D) = D.length ∧ ((openL 60 0 (D ++ P)).length : Int) = count
instance (D P : BL) (count : Int) : Decidable (logOk D P count) := by unfold logOk; infer_instance
theorem logOk_small {D P : BL} (h : endL 0 (openL 60 0 (D ++ P)) = (D ++ P).length) : (D ++ P).length ≤ 22320 := by
  have h1 := (endL_le 60 0 (D ++ P) (by omega)).1
  have h2 := openL_len 60 0 (D ++ P)
  omega
theorem logOk_ends {D P : BL} : (∃ j, j ≤ (openL 60 0 (D ++ P)).length ∧ endL 0 ((openL 60 0 (D ++ P)).take j) = D.length) ↔ endL 0 (openL 60 0 D) = D.length := by
  constructor
  · rintro ⟨j, h1, h2⟩
    exact open_end 60 0 D P j h1 h2
  · intro h
    obtain ⟨t, ht⟩ := open_pre 60 0 D P
    refine ⟨(openL 60 0 D).length, ?_, ?_⟩
    · rw [← ht, List.length_append]; omega
    · rw [← ht, List.take_left']
      · exact h
      · rfl
end Go.Proofs.YtedidddimikjhaaDoor
