
/- The words and the numbers of a sample's text. No condition. -/
import Derived.Test.YtkogddiefniihabDoorSmpL
import Derived.Test.YtkogddiefniihabDoorPSup
import Derived.Test.YtkogddiefniihabDoorH3
namespace Go.Proofs.YtkogddiefniihabDoor
open Go.HH Go.Proofs
set_option linter.unusedSimpArgs false
set_option linter.unusedVariables false

def wDay : BL := [100, 97, 121]
def wNod : BL := [110, 111, 100, 101]
def wordK (k : Nat) : BL := wordL.getD k []
theorem bl_wordB (k : Nat) : bl (wordB k) = wordK k := rfl
theorem bl_d3 (x : Nat) : bl (d3 x) = dl3 x := rfl
theorem smp_bl (a n k v : Nat) : bl (smpS a n k v) = wDay ++ 32 :: (Lib.decDigits a ++ 44 :: 32 :: (wNod ++ 32 :: (Lib.decDigits n ++ 58 :: 32 :: (wordK k ++ 32 :: (Lib.decDigits (v / 1000) ++ 46 :: dl3 (v % 1000)))))) := by
  have e1 : bl tDay = [100, 97, 121, 32] := rfl
  have e2 : bl tAt = [44, 32, 110, 111, 100, 101, 32] := rfl
  have e3 : bl tCol = [58, 32] := rfl
  have e4 : bl tSp = [32] := rfl
  have e5 : bl tDot = [46] := rfl
  simp only [smpS, bl_app, bl_num, bl_wordB, bl_d3, List.append_assoc, e1, e2, e3, e4, e5, wDay, wNod, List.cons_append, List.nil_append]
theorem dl3_dg (x : Nat) (hx : x < 1000) : ∀ c ∈ dl3 x, isDg c = true := fun c hc => by
  have key : ∀ y, y < 10 → isDg (UInt8.ofNat (48 + y)) = true := fun y hy => by
    have : (UInt8.ofNat (48 + y)).toNat = 48 + y := by simp; omega
    simp only [isDg, this]; exact decide_eq_true (by omega)
  simp only [dl3, List.mem_cons, List.not_mem_nil, or_false] at hc
  rcases hc with rfl | rfl | rfl
  · exact key _ (by omega)
  · exact key _ (by omega)
  · exact key _ (by omega)
theorem dl3_val (x : Nat) (hx : x < 1000) : valL (dl3 x) = x := by
  have key : ∀ y, y < 10 → (UInt8.ofNat (48 + y)).toNat = 48 + y := fun y hy => by simp; omega
  simp only [valL, dl3, List.foldl_cons, List.foldl_nil, key (x / 100) (by omega), key (x / 10 % 10) (by omega), key (x % 10) (by omega)]
  omega
theorem NumsR.lastD {m x : Nat} (hx : x < 1000) : NumsR (m + 1) (dl3 x) [(x : Int)] := by
  have e : dg6 (dl3 x) = dl3 x := by
    have := takeWhile_dg (q := []) (dl3_dg x hx) (fun c r h => by cases h)
    rw [List.append_nil] at this
    rw [dg6, this]; rfl
  have key := @NumsR.take m (UInt8.ofNat (48 + x / 100)) [UInt8.ofNat (48 + x / 10 % 10), UInt8.ofNat (48 + x % 10)] [] (dl3_dg x hx _ (by simp [dl3]))
  rw [show UInt8.ofNat (48 + x / 100) :: [UInt8.ofNat (48 + x / 10 % 10), UInt8.ofNat (48 + x % 10)] = dl3 x from rfl, e, dl3_val x hx] at key
  refine key ?_
  rw [List.drop_eq_nil_of_le (by omega)]
  exact .nil _
theorem wordK_nodig (k : Nat) (hk : k ≤ 4) : ∀ c ∈ wordK k, isDg c = false := by
  rcases k with _ | _ | _ | _ | _ | k
  · exact dgno (by decide)
  · exact dgno (by decide)
  · exact dgno (by decide)
  · exact dgno (by decide)
  · exact dgno (by decide)
  · omega
theorem smp_nums {a n k v : Nat} (ha : a ≤ 3650) (hn : n ≤ 8) (hk : k ≤ 4) (hv : v ≤ 100000) : NumsR 5 (bl (smpS a n k v)) [(a : Int), (n : Int), ((v / 1000 : Nat) : Int), ((v % 1000 : Nat) : Int)] := by
  have one : ∀ {m : Nat} {c : UInt8} {q : BL} {o : List Int}, isDg c = false → NumsR (m + 1) q o → NumsR (m + 1) (c :: q) o := fun h1 h2 => .skip h1 h2
  rw [smp_bl]
  refine NumsR.free (one (by decide) (NumsR.num (by omega) (by decide) (one (by decide) (NumsR.free (one (by decide) (NumsR.num (by omega) (by decide) (one (by decide) (NumsR.free (one (by decide) (NumsR.num (by omega) (by decide) (NumsR.lastD (by omega)))) (wordK_nodig k hk))))) (dgno (by decide)))))) (dgno (by decide))
/-- The words of a sample's text. -/
def smpW (a n k v : Nat) : List BL := [wDay, Lib.decDigits a ++ [44], wNod, Lib.decDigits n ++ [58], wordK k, Lib.decDigits (v / 1000) ++ 46 :: dl3 (v % 1000)]
theorem dg_no32 {l : BL} (h : ∀ c ∈ l, isDg c = true) : (32 : UInt8) ∉ l := fun hc => by have := h _ hc; exact absurd this (by decide)
theorem wordK_no32 (k : Nat) (hk : k ≤ 4) : (32 : UInt8) ∉ wordK k := by
  rcases k with _ | _ | _ | _ | _ | k
  all_goals first | decide | omega
theorem smp_split {a n k v : Nat} (hk : k ≤ 4) : splitL (bl (smpS a n k v)) 32 = smpW a n k v := by
  have c1 : ∀ (l q : BL) (c : UInt8), l ++ c :: 32 :: q = (l ++ [c]) ++ 32 :: q := fun l q c => by simp
  have n1 : (32 : UInt8) ∉ Lib.decDigits a ++ [44] := fun h => by
    rcases List.mem_append.1 h with h | h
    · exact dec_no32 a h
    · exact absurd h (by decide)
  have n2 : (32 : UInt8) ∉ Lib.decDigits n ++ [58] := fun h => by
    rcases List.mem_append.1 h with h | h
    · exact dec_no32 n h
    · exact absurd h (by decide)
  have n3 : (32 : UInt8) ∉ Lib.decDigits (v / 1000) ++ 46 :: dl3 (v % 1000) := fun h => by
    rcases List.mem_append.1 h with h | h
    · exact dec_no32 _ h
    · rcases List.mem_cons.1 h with h | h
      · exact absurd h (by decide)
      · exact dg_no32 (dl3_dg _ (Nat.mod_lt _ (by omega))) h
  rw [smp_bl, splitL_hit (by decide), c1, splitL_hit n1, splitL_hit (by decide), c1 (Lib.decDigits n), splitL_hit n2, splitL_hit (wordK_no32 k hk), splitL_last n3]
  rfl

/-! Which word a text holds. -/
def isLt (c : UInt8) : Bool := decide (97 ≤ c.toNat ∧ c.toNat ≤ 122)
theorem infix_cut {w X Y : BL} {c : UInt8} (h0 : w ≠ []) (hc : c ∉ w) (h : w <:+: X ++ c :: Y) : w <:+: X ∨ w <:+: Y := by
  obtain ⟨P, Q, e⟩ := h
  rcases List.append_eq_append_iff.1 e with ⟨a, e1, _⟩ | ⟨c', e1, e2⟩
  · exact .inl ⟨P, a, e1.symm⟩
  · rcases List.append_eq_append_iff.1 e1 with ⟨a, e3, e4⟩ | ⟨d, e3, e4⟩
    · cases c' with
      | nil => rw [List.append_nil] at e4; exact .inl ⟨P, [], by rw [List.append_nil, e4, e3]⟩
      | cons y c'' =>
        rw [List.cons_append] at e2
        obtain ⟨rfl, _⟩ := List.cons.inj e2
        exact absurd (by rw [e4]; simp) hc
    · cases d with
      | nil =>
        rw [List.nil_append] at e4
        subst e4
        cases c' with
        | nil => exact absurd rfl h0
        | cons y w' =>
          rw [List.cons_append] at e2
          obtain ⟨rfl, _⟩ := List.cons.inj e2
          exact absurd (by simp) hc
      | cons y d' =>
        rw [e4, List.cons_append, List.cons_append] at e2
        exact .inr ⟨d', Q, (List.cons.inj e2).2.symm⟩
theorem infix_no {w X : BL} {x : UInt8} (hx : x ∈ w) (hX : x ∉ X) : ¬ w <:+: X := fun h => hX (h.subset hx)
def hasK (j k : Nat) : Bool := Lib.contains (wordK k) (wordK j) || Lib.contains wDay (wordK j) || Lib.contains wNod (wordK j)
theorem hasK_eq {j k : Nat} (hj : 1 ≤ j ∧ j ≤ 4) (hk : 1 ≤ k ∧ k ≤ 4) : hasK j k = decide (j = k) := by
  obtain ⟨j, rfl⟩ : ∃ i, j = i + 1 := ⟨j - 1, by omega⟩
  obtain ⟨k, rfl⟩ : ∃ i, k = i + 1 := ⟨k - 1, by omega⟩
  rcases j with _ | _ | _ | _ | j <;> rcases k with _ | _ | _ | _ | k <;> first | rfl | omega
theorem wordK_lt {j : Nat} (hj : 1 ≤ j ∧ j ≤ 4) : wordK j ≠ [] ∧ (∀ c ∈ wordK j, isLt c = true) := by
  obtain ⟨j, rfl⟩ : ∃ i, j = i + 1 := ⟨j - 1, by omega⟩
  rcases j with _ | _ | _ | _ | j
  · exact ⟨by decide, List.all_eq_true.1 (by decide)⟩
  · exact ⟨by decide, List.all_eq_true.1 (by decide)⟩
  · exact ⟨by decide, List.all_eq_true.1 (by decide)⟩
  · exact ⟨by decide, List.all_eq_true.1 (by decide)⟩
  · omega
theorem lt_dg {c : UInt8} (h : isLt c = true) : isDg c = false := by
  simp only [isLt, decide_eq_true_eq] at h
  exact decide_eq_false (by omega)
theorem smp_has {a n k v j : Nat} (hj : 1 ≤ j ∧ j ≤ 4) (hk : 1 ≤ k ∧ k ≤ 4) : Lib.contains (bl (smpS a n k v)) (wordK j) = decide (j = k) := by
  obtain ⟨h0, hl⟩ := wordK_lt hj
  have no : ∀ c : UInt8, isLt c = false → c ∉ wordK j := fun c hc h => by rw [hl c h] at hc; cases hc
  have nd : ∀ X : BL, (∀ c ∈ X, isDg c = true) → ¬ wordK j <:+: X := fun X hX => by
    obtain ⟨x, hx⟩ := List.exists_mem_of_ne_nil _ h0
    exact infix_no hx fun h => by have := hX x h; rw [lt_dg (hl x hx)] at this; cases this
  rw [← hasK_eq hj hk, Bool.eq_iff_iff, contains_iff, hasK, Bool.or_eq_true, Bool.or_eq_true, contains_iff, contains_iff, contains_iff, smp_bl]
  constructor
  · intro h
    rcases infix_cut h0 (no _ (by decide)) h with h | h
    · exact .inl (.inr h)
    rcases infix_cut h0 (no _ (by decide)) h with h | h
    · exact absurd h (nd _ (dec_dg a))
    rcases infix_cut (X := []) h0 (no _ (by decide)) h with h | h
    · exact absurd (List.eq_nil_of_infix_nil h) h0
    rcases infix_cut h0 (no _ (by decide)) h with h | h
    · exact .inr h
    rcases infix_cut h0 (no _ (by decide)) h with h | h
    · exact absurd h (nd _ (dec_dg n))
    rcases infix_cut (X := []) h0 (no _ (by decide)) h with h | h
    · exact absurd (List.eq_nil_of_infix_nil h) h0
    rcases infix_cut h0 (no _ (by decide)) h with h | h
    · exact .inl (.inl h)
    rcases infix_cut h0 (no _ (by decide)) h with h | h
    · exact absurd h (nd _ (dec_dg _))
    · exact absurd h (nd _ (dl3_dg _ (Nat.mod_lt _ (by omega))))
  · have up : ∀ {X Y Z : BL}, wordK j <:+: Y → wordK j <:+: X ++ Y := fun {X Y Z} h => h.trans (List.suffix_append _ _).isInfix
    rintro ((h | h) | h)
    · refine h.trans ⟨wDay ++ 32 :: (Lib.decDigits a ++ 44 :: 32 :: (wNod ++ 32 :: (Lib.decDigits n ++ [58, 32]))), 32 :: (Lib.decDigits (v / 1000) ++ 46 :: dl3 (v % 1000)), by simp⟩
    · exact h.trans (List.prefix_append _ _).isInfix
    · refine h.trans ⟨wDay ++ 32 :: (Lib.decDigits a ++ [44, 32]), 32 :: (Lib.decDigits n ++ 58 :: 32 :: (wordK k ++ 32 :: (Lib.decDigits (v / 1000) ++ 46 :: dl3 (v % 1000)))), by simp⟩
end Go.Proofs.YtkogddiefniihabDoor
