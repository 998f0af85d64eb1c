
/- How far a node is: balls around a node, and a search in the order of a queue. No condition. -/
import Derived.Test.YtedidddimikjhaaPipes
namespace Go.Proofs.Ytedidddimikjhaa
open Go.HH
set_option linter.unusedSimpArgs false
set_option linter.unusedVariables false

/-- The nodes that lie at most so many pipes from a node. -/
def ball (P : List Pip) (s : Int) : Nat → Int → Bool
  | 0, v => v == s
  | k + 1, v => ball P s k v || P.any fun p => (ball P s k p.2.1 && p.2.2.1 == v) || (ball P s k p.2.2.1 && p.2.1 == v)
def adj (P : List Pip) (a b : Int) : Prop := ∃ p ∈ P, (p.2.1 = a ∧ p.2.2.1 = b) ∨ (p.2.2.1 = a ∧ p.2.1 = b)
theorem adj.symm {P : List Pip} {a b : Int} (h : adj P a b) : adj P b a := by
  obtain ⟨p, hp, h | h⟩ := h
  · exact ⟨p, hp, .inr ⟨h.2, h.1⟩⟩
  · exact ⟨p, hp, .inl ⟨h.2, h.1⟩⟩
theorem ball_zero {P : List Pip} {s v : Int} : ball P s 0 v = true ↔ v = s := by simp [ball]
theorem ball_succ {P : List Pip} {s v : Int} {k : Nat} : ball P s (k + 1) v = true ↔ ball P s k v = true ∨ ∃ a, ball P s k a = true ∧ adj P a v := by
  simp only [ball, Bool.or_eq_true, List.any_eq_true, Bool.and_eq_true, beq_iff_eq]
  refine or_congr Iff.rfl ⟨?_, ?_⟩
  · rintro ⟨p, hp, ⟨h1, h2⟩ | ⟨h1, h2⟩⟩
    · exact ⟨_, h1, p, hp, .inl ⟨rfl, h2⟩⟩
    · exact ⟨_, h1, p, hp, .inr ⟨rfl, h2⟩⟩
  · rintro ⟨a, h, p, hp, ⟨rfl, h2⟩ | ⟨rfl, h2⟩⟩
    · exact ⟨p, hp, .inl ⟨h, h2⟩⟩
    · exact ⟨p, hp, .inr ⟨h, h2⟩⟩
theorem ball_mono {P : List Pip} {s v : Int} {j k : Nat} (h : j ≤ k) (hb : ball P s j v = true) : ball P s k v = true := by
  induction h with
  | refl => exact hb
  | step _ ih => exact ball_succ.2 (.inl ih)
theorem ball_pre {P : List Pip} {a b : Int} (hab : adj P a b) : ∀ {k : Nat} {v : Int}, ball P b k v = true → ball P a (k + 1) v = true
  | 0, v, h => by
    rw [ball_zero] at h
    subst h
    exact ball_succ.2 (.inr ⟨a, ball_zero.2 rfl, hab⟩)
  | k + 1, v, h => by
    rcases ball_succ.1 h with h | ⟨c, h, hc⟩
    · exact ball_mono (Nat.le_succ _) (ball_pre hab h)
    · exact ball_succ.2 (.inr ⟨c, ball_pre hab h, hc⟩)
theorem ball_symm {P : List Pip} {s : Int} : ∀ {k : Nat} {v : Int}, ball P s k v = true → ball P v k s = true
  | 0, v, h => by rw [ball_zero] at h ⊢; exact h.symm
  | k + 1, v, h => by
    rcases ball_succ.1 h with h | ⟨c, h, hc⟩
    · exact ball_mono (Nat.le_succ _) (ball_symm h)
    · exact ball_pre hc.symm (ball_symm h)

/-- A network as it should be, with its nodes from 1 to N. -/
def ends (N : Int) (P : List Pip) : Prop := ∀ p ∈ P, (1 ≤ p.2.1 ∧ p.2.1 ≤ N) ∧ (1 ≤ p.2.2.1 ∧ p.2.2.1 ≤ N) ∧ p.2.1 ≠ p.2.2.1
theorem ends.adj {N : Int} {P : List Pip} (he : ends N P) {a b : Int} (h : adj P a b) : 1 ≤ b ∧ b ≤ N := by
  obtain ⟨p, hp, h | h⟩ := h
  · have := he p hp; omega
  · have := he p hp; omega
theorem ball_in {N : Int} {P : List Pip} (he : ends N P) {s : Int} (hs : 1 ≤ s ∧ s ≤ N) : ∀ {k : Nat} {v : Int}, ball P s k v = true → 1 ≤ v ∧ v ≤ N
  | 0, v, h => by rw [ball_zero] at h; omega
  | k + 1, v, h => by
    rcases ball_succ.1 h with h | ⟨c, h, hc⟩
    · exact ball_in he hs h
    · exact he.adj hc

theorem countP_lt {α : Type} {p q : α → Bool} : ∀ {l : List α}, (∀ x ∈ l, p x = true → q x = true) → (∃ x ∈ l, q x = true ∧ p x = false) → l.countP p < l.countP q
  | [], _, h => by obtain ⟨x, hx, _⟩ := h; simp at hx
  | y :: l, hm, h => by
    have hle : l.countP p ≤ l.countP q := List.countP_mono_left fun x hx => hm x (by simp [hx])
    have hy := hm y (by simp)
    simp only [List.countP_cons]
    by_cases hex : ∃ x ∈ l, q x = true ∧ p x = false
    · have ih := countP_lt (l := l) (fun x hx => hm x (by simp [hx])) hex
      cases hp : p y with
      | false => cases hq : q y <;> simp <;> omega
      | true => rw [hy hp]; simp; omega
    · obtain ⟨x, hx, h1, h2⟩ := h
      rcases List.mem_cons.1 hx with rfl | hx
      · rw [h1, h2]; simp; omega
      · exact absurd ⟨x, hx, h1, h2⟩ hex

/-- No node is farther than there are nodes. -/
theorem ball_stop {N : Nat} {P : List Pip} (he : ends N P) {s : Int} (hs : 1 ≤ s ∧ s ≤ N) {k : Nat} {v : Int} (h : ball P s k v = true) : ball P s N v = true := by
  have grow : ∀ k, k + 1 ≤ (List.range N).countP (fun i : Nat => ball P s k ((i : Int) + 1)) ∨ ∃ j, j ≤ k ∧ ∀ v, ball P s (j + 1) v = true → ball P s j v = true := by
    intro k
    induction k with
    | zero =>
      refine .inl ?_
      have : 0 < (List.range N).countP (fun i : Nat => ball P s 0 ((i : Int) + 1)) := by
        rw [List.countP_pos_iff]
        exact ⟨(s - 1).toNat, by simp; omega, by rw [ball_zero]; omega⟩
      omega
    | succ k ih =>
      rcases ih with ih | ⟨j, hj, hst⟩
      · by_cases hstop : ∀ v, ball P s (k + 1) v = true → ball P s k v = true
        · exact .inr ⟨k, by omega, hstop⟩
        · simp only [Classical.not_forall] at hstop
          obtain ⟨v, hv, hn⟩ := hstop
          have hr := ball_in he hs hv
          refine .inl (Nat.lt_of_le_of_lt ih (countP_lt (fun x _ hx => ball_mono (Nat.le_succ _) hx) ⟨(v - 1).toNat, by simp; omega, ?_, ?_⟩))
          · rw [show (((v - 1).toNat : Nat) : Int) + 1 = v by omega]; exact hv
          · rw [show (((v - 1).toNat : Nat) : Int) + 1 = v by omega]; simpa using hn
      · exact .inr ⟨j, by omega, hst⟩
  obtain ⟨j, hj, hst⟩ : ∃ j, j ≤ N ∧ ∀ v, ball P s (j + 1) v = true → ball P s j v = true := by
    rcases grow N with h | h
    · have := List.countP_le_length (p := fun i : Nat => ball P s N ((i : Int) + 1)) (l := List.range N)
      rw [List.length_range] at this
      omega
    · exact h
  have all : ∀ m v, ball P s (j + m) v = true → ball P s j v = true := by
    intro m
    induction m with
    | zero => exact fun v hv => hv
    | succ m ih =>
      intro v hv
      rcases ball_succ.1 (show ball P s (j + m + 1) v = true from hv) with h1 | ⟨a, h1, h2⟩
      · exact ih v h1
      · exact hst v (ball_succ.2 (.inr ⟨a, ih a h1, h2⟩))
  rcases Nat.le_total k j with h1 | h1
  · exact ball_mono (Nat.le_trans h1 hj) h
  · refine ball_mono hj (all (k - j) v ?_)
    rwa [show j + (k - j) = k by omega]

/-- What a search has found: 'D' the nodes' distances so far, 'Q' the queue. -/
def dv (D : List Int) (v : Int) : Int := D.getD v.toNat (-1)
theorem dv_set {D : List Int} {v w x : Int} (hv : 1 ≤ v) (hw : 1 ≤ w) (hl : v.toNat < D.length) : dv (D.set v.toNat x) w = if w = v then x else dv D w := by
  unfold dv
  by_cases h : w = v
  · subst h
    simp [List.getD, hl]
  · rw [if_neg h]
    have : v.toNat ≠ w.toNat := by omega
    simp [List.getD, List.getElem?_set_ne this]
structure Bfs (P : List Pip) (s : Int) (N : Nat) (D : List Int) (Q : List Int) : Prop where
  len : D.length = N + 1
  src : dv D s = 0
  low : ∀ v : Int, 1 ≤ v → v ≤ N → -1 ≤ dv D v
  snd : ∀ v : Int, 1 ≤ v → v ≤ N → ∀ k : Nat, dv D v = k → ball P s k v = true
  qin : ∀ q ∈ Q, (1 ≤ q ∧ q ≤ N) ∧ 0 ≤ dv D q
  done : ∀ v : Int, 1 ≤ v → v ≤ N → 0 ≤ dv D v → v ∉ Q → ∀ b, adj P v b → 0 ≤ dv D b ∧ dv D b ≤ dv D v + 1
  sorted : Q.Pairwise fun a b => dv D a ≤ dv D b
  top : ∀ q ∈ Q, ∀ v : Int, 1 ≤ v → v ≤ N → dv D v ≤ dv D q + 1

theorem Bfs.init {P : List Pip} {s : Int} {N : Nat} (hs : 1 ≤ s ∧ s ≤ N) : Bfs P s N ((List.replicate (N + 1) (-1 : Int)).set s.toNat 0) [s] := by
  have hd : ∀ w : Int, 1 ≤ w → dv ((List.replicate (N + 1) (-1 : Int)).set s.toNat 0) w = if w = s then 0 else -1 := fun w hw => by
    rw [dv_set hs.1 hw (by simp; omega)]
    have : dv (List.replicate (N + 1) (-1 : Int)) w = -1 := by
      unfold dv
      rw [List.getD_eq_getElem?_getD, List.getElem?_replicate]
      split <;> rfl
    rw [this]
  refine ⟨by simp, by rw [hd s hs.1, if_pos rfl], fun v h1 h2 => by rw [hd v h1]; split <;> omega, fun v h1 h2 k hk => ?_, fun q hq => ?_, fun v h1 h2 h3 h4 => ?_, by simp, fun q hq v h1 h2 => ?_⟩
  · rw [hd v h1] at hk
    split at hk
    · rename_i h; exact ball_mono (Nat.zero_le _) (ball_zero.2 h)
    · omega
  · obtain rfl : q = s := by simpa using hq
    exact ⟨hs, by rw [hd q hs.1, if_pos rfl]; omega⟩
  · rw [hd v h1] at h3
    split at h3
    · rename_i h; exact absurd (by simp [h]) h4
    · omega
  · obtain rfl : q = s := by simpa using hq
    rw [hd v h1, hd q hs.1, if_pos rfl]
    split <;> omega

/-- A node that is found anew. -/
theorem Bfs.push {P : List Pip} {s : Int} {N : Nat} {D R : List Int} {q to : Int} (hs : 1 ≤ s ∧ s ≤ N) (b : Bfs P s N D (q :: R)) (hto : 1 ≤ to ∧ to ≤ N) (hadj : adj P q to) (hneg : dv D to < 0) :
    Bfs P s N (D.set to.toNat (dv D q + 1)) (q :: R ++ [to]) := by
  obtain ⟨hq1, hq2⟩ := b.qin q (by simp)
  have hd : ∀ w : Int, 1 ≤ w → dv (D.set to.toNat (dv D q + 1)) w = if w = to then dv D q + 1 else dv D w := fun w hw => dv_set hto.1 hw (by rw [b.len]; omega)
  have hqt : q ≠ to := fun h => by rw [h] at hq2; omega
  have hst : s ≠ to := fun h => by have := b.src; rw [h] at this; omega
  have hmem : ∀ r, r ∈ q :: R → r ≠ to := fun r hr h => by have := (b.qin r hr).2; rw [h] at this; omega
  have hqle : ∀ r, r ∈ q :: R → dv D q ≤ dv D r := fun r hr => by
    rcases List.mem_cons.1 hr with rfl | hr
    · exact Int.le_refl _
    · exact (List.pairwise_cons.1 b.sorted).1 r hr
  refine ⟨by rw [List.length_set]; exact b.len, by rw [hd s hs.1, if_neg hst]; exact b.src, fun v h1 h2 => ?_, fun v h1 h2 k hk => ?_, fun r hr => ?_, fun v h1 h2 h3 h4 c hc => ?_, ?_, fun r hr v h1 h2 => ?_⟩
  · rw [hd v h1]
    split
    · omega
    · exact b.low v h1 h2
  · rw [hd v h1] at hk
    split at hk
    · rename_i h
      subst h
      have : ball P s (dv D q).toNat q = true := b.snd q hq1.1 hq1.2 _ (by omega)
      have h2 := ball_succ.2 (.inr ⟨q, this, hadj⟩)
      rwa [show (dv D q).toNat + 1 = k by omega] at h2
    · exact b.snd v h1 h2 k hk
  · rcases List.mem_append.1 hr with hr | hr
    · obtain ⟨h1, h2⟩ := b.qin r hr
      exact ⟨h1, by rw [hd r h1.1, if_neg (hmem r hr)]; exact h2⟩
    · obtain rfl : r = to := by simpa using hr
      exact ⟨hto, by rw [hd r hto.1, if_pos rfl]; omega⟩
  · have hvt : v ≠ to := fun h => h4 (by simp [h])
    rw [hd v h1, if_neg hvt] at h3 ⊢
    obtain ⟨g1, g2⟩ := b.done v h1 h2 h3 (fun h => h4 (List.mem_append_left _ h)) c hc
    have hct : c ≠ to := fun h => by rw [h] at g1; omega
    have hc1 : 1 ≤ c ∨ ¬ 1 ≤ c := by omega
    rcases hc1 with hc1 | hc1
    · rw [hd c hc1, if_neg hct]; exact ⟨g1, g2⟩
    · have : dv (D.set to.toNat (dv D q + 1)) c = dv D c := by
        unfold dv
        have : to.toNat ≠ c.toNat := by omega
        simp [List.getD, List.getElem?_set_ne this]
      rw [this]; exact ⟨g1, g2⟩
  · rw [List.pairwise_append]
    refine ⟨b.sorted.imp_of_mem fun {x y} hx hy hxy => ?_, by simp, fun x hx y hy => ?_⟩
    · rw [hd x (b.qin x hx).1.1, hd y (b.qin y hy).1.1, if_neg (hmem x hx), if_neg (hmem y hy)]; exact hxy
    · obtain rfl : y = to := by simpa using hy
      rw [hd x (b.qin x hx).1.1, if_neg (hmem x hx), hd y hto.1, if_pos rfl]
      exact b.top q (by simp) x (b.qin x hx).1.1 (b.qin x hx).1.2
  · rcases List.mem_append.1 hr with hr | hr
    · have hq3 := hqle r hr
      rw [hd r (b.qin r hr).1.1, if_neg (hmem r hr), hd v h1]
      split
      · omega
      · exact b.top r hr v h1 h2
    · obtain rfl : r = to := by simpa using hr
      rw [hd r hto.1, if_pos rfl, hd v h1]
      have := b.top q (by simp) v h1 h2
      split <;> omega

/-- A node that is done. -/
theorem Bfs.pop {P : List Pip} {s : Int} {N : Nat} {D R : List Int} {q : Int} (b : Bfs P s N D (q :: R)) (hdone : ∀ c, adj P q c → 0 ≤ dv D c ∧ dv D c ≤ dv D q + 1) : Bfs P s N D R := by
  refine ⟨b.len, b.src, b.low, b.snd, fun r hr => b.qin r (by simp [hr]), fun v h1 h2 h3 h4 c hc => ?_, (List.pairwise_cons.1 b.sorted).2, fun r hr => b.top r (by simp [hr])⟩
  by_cases h : v = q
  · subst h; exact hdone c hc
  · exact b.done v h1 h2 h3 (by simp [h, h4]) c hc

/-- What the search has found in the end. -/
theorem Bfs.fin {P : List Pip} {s : Int} {N : Nat} {D : List Int} (he : ends N P) (hs : 1 ≤ s ∧ s ≤ N) (b : Bfs P s N D []) {v : Int} (h1 : 1 ≤ v) (h2 : v ≤ N) (m : Nat) : (0 ≤ dv D v ∧ dv D v ≤ m) ↔ ball P s m v = true := by
  have comp : ∀ k v, ball P s k v = true → 0 ≤ dv D v ∧ dv D v ≤ k := by
    intro k
    induction k with
    | zero =>
      intro v hv
      rw [ball_zero] at hv
      rw [hv, b.src]; simp
    | succ k ih =>
      intro v hv
      rcases ball_succ.1 hv with hv | ⟨a, ha, hav⟩
      · have := ih v hv; omega
      · have h3 := ih a ha
        have h4 := ball_in he hs ha
        have := b.done a h4.1 h4.2 h3.1 (by simp) v hav
        omega
  refine ⟨fun ⟨h3, h4⟩ => ?_, fun h => comp m v h⟩
  exact ball_mono (by omega) (b.snd v h1 h2 (dv D v).toNat (by omega))
end Go.Proofs.Ytedidddimikjhaa
