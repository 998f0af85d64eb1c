
/- What the laws about logs need, in plain lists. No condition. -/
import Derived.Test.YtkogddiefniihaaDoorLogL
namespace Go.Proofs.YtkogddiefniihaaDoor
open Go.HH Go.Proofs
set_option linter.unusedSimpArgs false
set_option linter.unusedVariables false

/-- A log of lines. -/
def linesL : Nat → List (BL × BL) → BL
  | _, [] => []
  | k, e :: r => lineL k e.1 e.2 ++ 10 :: linesL (k + 1) r
theorem linesL_len : ∀ (k : Nat) (d : List (BL × BL)), (linesL k d).length = endL k d
  | _, [] => rfl
  | k, e :: r => by
    rw [linesL, endL, List.length_append, List.length_cons, linesL_len (k + 1) r]; omega
theorem open_lines : ∀ (n k : Nat) (s : BL), linesL k (openL n k s) = s.take (endL k (openL n k s)) ∧ ∀ e ∈ openL n k s, okL e.1 e.2 = true
  | 0, _, s => ⟨by simp [openL, linesL, endL], fun e he => by cases he⟩
  | n + 1, k, s => by
    by_cases h : 10 ∈ s
    · cases g : readL k (cutA s 10) with
      | none => rw [openL_none g]; exact ⟨by simp [linesL, endL], fun e he => by cases he⟩
      | some e =>
        obtain ⟨g1, g2⟩ := readL_some (c := e.1) (r := e.2) g
        obtain ⟨i1, i2⟩ := open_lines n (k + 1) (cutB s 10)
        rw [openL_some h g]
        refine ⟨?_, fun x hx => ?_⟩
        · rw [linesL, endL, i1]
          have hs := (cut_mem h).1
          rw [g2] at hs
          obtain ⟨T, hT⟩ : ∃ T, T = cutB s 10 := ⟨_, rfl⟩
          rw [← hT] at hs ⊢
          obtain ⟨q, hq⟩ : ∃ q, q = endL (k + 1) (openL n (k + 1) T) := ⟨_, rfl⟩
          rw [← hq, hs]
          rw [show (lineL k e.1 e.2).length + 1 + q = (lineL k e.1 e.2).length + (q + 1) by omega, List.take_length_add_append, List.take_succ_cons]
        · rcases List.mem_cons.1 hx with rfl | hx
          · exact g1
          · exact i2 x hx
    · rw [openL_no h]; exact ⟨by simp [linesL, endL], fun e he => by cases he⟩
/-- Lines are read again, whatever follows. -/
theorem lines_open : ∀ (d : List (BL × BL)) (k n : Nat) (X : BL), (∀ e ∈ d, okL e.1 e.2 = true) → openL (d.length + n) k (linesL k d ++ X) = d ++ openL n (k + d.length) X
  | [], k, n, X, _ => by simp [linesL]
  | e :: r, k, n, X, h => by
    have g := h e (by simp)
    have no := lineL_no10 (k := k) g
    have e1 : linesL k (e :: r) ++ X = lineL k e.1 e.2 ++ 10 :: (linesL (k + 1) r ++ X) := by rw [linesL, List.append_assoc, List.cons_append]
    have c1 : cutA (linesL k (e :: r) ++ X) 10 = lineL k e.1 e.2 := by rw [e1]; exact cutA_hit no
    have c2 : cutB (linesL k (e :: r) ++ X) 10 = linesL (k + 1) r ++ X := by rw [e1]; exact cutB_hit no
    rw [List.length_cons, show r.length + 1 + n = (r.length + n) + 1 by omega, openL_some (by rw [e1]; simp) (by rw [c1]; exact readL_line g), c2, lines_open r (k + 1) n X fun x hx => h x (List.mem_cons_of_mem _ hx)]
    rw [show k + 1 + r.length = k + (r.length + 1) by omega]; rfl
theorem openL_nil (n k : Nat) : openL n k [] = [] := openL_no (by simp)
theorem logOk_lines {S : BL} (h : endL 0 (openL 60 0 S) = S.length) : linesL 0 (openL 60 0 S) = S := by
  rw [(open_lines 60 0 S).1, h, List.take_length]
/-- One more record. -/
theorem logOk_app {D P c r : BL} {n : Nat} (g : logOk D P n) (hn : n < 60) (hr : okL c r = true) :
    openL 60 0 (D ++ (P ++ (lineL n c r ++ [10]))) = openL 60 0 (D ++ P) ++ [(c, r)] ∧ logOk D (P ++ (lineL n c r ++ [10])) (n + 1 : Nat) := by
  obtain ⟨d, hd⟩ : ∃ d, d = openL 60 0 (D ++ P) := ⟨_, rfl⟩
  have g1 := g.1
  have g3 := g.2.2
  rw [← hd] at g1 g3
  have hl : d.length = n := by omega
  have ok := (open_lines 60 0 (D ++ P)).2
  have hS := logOk_lines g.1
  rw [← hd] at ok hS
  have key : openL 60 0 (D ++ (P ++ (lineL n c r ++ [10]))) = d ++ [(c, r)] := by
    rw [← List.append_assoc, ← hS]
    have := lines_open d 0 (60 - n) (lineL n c r ++ [10]) ok
    rw [hl, show n + (60 - n) = 60 by omega] at this
    rw [this]
    congr 1
    have no := lineL_no10 (k := n) hr
    rw [show 60 - n = (59 - n) + 1 by omega, Nat.zero_add, openL_some (by simp) (by rw [cutA_hit no]; exact readL_line hr), cutB_hit no, openL_nil]
  rw [← hd]
  refine ⟨key, ?_, g.2.1, ?_⟩
  · rw [key, endL_snoc, g1, hl]
    simp only [List.length_append, List.length_singleton, Nat.zero_add]
    omega
  · rw [key, List.length_append, hl]; rfl
/-- A recovered log is a good one. -/
theorem logOk_take (s : BL) : openL 60 0 (s.take (endL 0 (openL 60 0 s))) = openL 60 0 s ∧ logOk (s.take (endL 0 (openL 60 0 s))) [] (openL 60 0 s).length := by
  obtain ⟨d, hd⟩ : ∃ d, d = openL 60 0 s := ⟨_, rfl⟩
  obtain ⟨h1, h2⟩ := open_lines 60 0 s
  have h3 := openL_len 60 0 s
  have h4 := (endL_le 60 0 s (by omega)).2
  rw [← hd] at h1 h2 h3 h4 ⊢
  have key : openL 60 0 (s.take (endL 0 d)) = d := by
    rw [← h1]
    have := lines_open d 0 (60 - d.length) [] h2
    rw [List.append_nil, openL_nil, List.append_nil, show d.length + (60 - d.length) = 60 by omega] at this
    exact this
  have hl : (s.take (endL 0 d)).length = endL 0 d := by rw [List.length_take]; omega
  refine ⟨key, ?_, ?_, ?_⟩
  · rw [List.append_nil, key, hl]
  · rw [key, hl]
  · rw [List.append_nil, key]
theorem dec_inj : ∀ {a b : Nat}, Lib.decDigits a = Lib.decDigits b → a = b := by
  intro a
  induction a using Nat.strongRecOn with
  | _ a ih =>
    intro b h
    have u8 : ∀ {x y : Nat}, x < 10 → y < 10 → UInt8.ofNat (48 + x) = UInt8.ofNat (48 + y) → x = y := fun {x y} hx hy e => by
      have := congrArg UInt8.toNat e
      simp at this
      omega
    have pos : ∀ n, 0 < (Lib.decDigits n).length := fun n => by
      rw [Lib.decDigits]; split <;> simp
    by_cases ha : a < 10
    · by_cases hb : b < 10
      · rw [Lib.decDigits_one ha, Lib.decDigits_one hb] at h
        exact u8 ha hb (List.cons.inj h).1
      · rw [Lib.decDigits_one ha, show Lib.decDigits b = Lib.decDigits (b / 10) ++ [UInt8.ofNat (48 + b % 10)] by rw [Lib.decDigits, dif_neg hb]] at h
        have e := congrArg List.length h
        have p := pos (b / 10)
        rw [List.length_append, List.length_singleton, List.length_singleton] at e
        omega
    · by_cases hb : b < 10
      · rw [Lib.decDigits_one hb, show Lib.decDigits a = Lib.decDigits (a / 10) ++ [UInt8.ofNat (48 + a % 10)] by rw [Lib.decDigits, dif_neg ha]] at h
        have e := congrArg List.length h
        have p := pos (a / 10)
        rw [List.length_append, List.length_singleton, List.length_singleton] at e
        omega
      · rw [show Lib.decDigits a = Lib.decDigits (a / 10) ++ [UInt8.ofNat (48 + a % 10)] by rw [Lib.decDigits, dif_neg ha], show Lib.decDigits b = Lib.decDigits (b / 10) ++ [UInt8.ofNat (48 + b % 10)] by rw [Lib.decDigits, dif_neg hb]] at h
        obtain ⟨h1, h2⟩ := List.append_inj' h rfl
        have h3 := ih (a / 10) (by omega) h1
        have h4 := u8 (Nat.mod_lt _ (by omega)) (Nat.mod_lt _ (by omega)) (List.cons.inj h2).1
        omega
/-- A line alone is a log if it is the first one. -/
theorem line_alone {k : Nat} {c r : BL} (h : okL c r = true) : openL 60 0 (lineL k c r ++ [10]) = if k = 0 then [(c, r)] else [] := by
  have no := lineL_no10 (k := k) h
  split
  · rename_i h0
    subst h0
    rw [openL_some (by simp) (by rw [cutA_hit no]; exact readL_line h), cutB_hit no, openL_nil]
  · rename_i h0
    refine openL_none ?_
    rw [cutA_hit no]
    cases e : readL 0 (lineL k c r) with
    | none => rfl
    | some x =>
      obtain ⟨g, e2⟩ := readL_some (c := x.1) (r := x.2) e
      have c1 := cut_line (k := k) h
      rw [e2, cut_line g] at c1
      have e3 := congrArg (cutA · 32) c1
      simp only [recL] at e3
      rw [cutA_hit (dec_no (by decide)), cutA_hit (dec_no (by decide))] at e3
      exact absurd (dec_inj e3).symm h0
/-- A byte that ends no line adds no record. -/
theorem open_snoc : ∀ (n k : Nat) (S : BL) (x : UInt8), x ≠ 10 → openL n k (S ++ [x]) = openL n k S
  | 0, _, _, _, _ => rfl
  | n + 1, k, S, x, hx => by
    by_cases h : 10 ∈ S
    · obtain ⟨e1, e2⟩ := cut_app (P := [x]) h
      cases g : readL k (cutA S 10) with
      | none => rw [openL_none g, openL_none (by rw [e1]; exact g)]
      | some e => rw [openL_some h g, openL_some (List.mem_append_left _ h) (by rw [e1]; exact g), e2, open_snoc n (k + 1) _ x hx]
    · rw [openL_no h, openL_no (by simp only [List.mem_append, List.mem_singleton, not_or]; exact ⟨h, fun e => hx e.symm⟩)]
theorem lines_byte : ∀ (d : List (BL × BL)) (k : Nat), (∀ e ∈ d, okL e.1 e.2 = true) → ∀ b ∈ linesL k d, b.toNat ≤ 126
  | [], _, _, b, hb => by cases hb
  | e :: r, k, h, b, hb => by
    obtain ⟨_, h1, h2, _⟩ := okL_iff.1 (h e (by simp))
    have okb : ∀ (b : UInt8), okc b = true → b.toNat ≤ 126 := fun b h => by
      have h1 : 32 ≤ b.toNat ∧ b.toNat ≤ 126 ∧ b.toNat ≠ 35 := by simpa [okc] using h
      exact h1.2.1
    rw [linesL, lineL, recL] at hb
    simp only [List.mem_append, List.mem_cons] at hb
    rcases hb with ((hb | rfl | hb | rfl | hb) | rfl | hb) | rfl | hb
    · have := dec_digit _ b hb; omega
    · decide
    · exact okb b (h1 b hb)
    · decide
    · exact okb b (h2 b hb)
    · decide
    · have := dec_digit _ b hb; omega
    · decide
    · exact lines_byte r (k + 1) (fun x hx => h x (List.mem_cons_of_mem _ hx)) b hb
end Go.Proofs.YtkogddiefniihaaDoor
