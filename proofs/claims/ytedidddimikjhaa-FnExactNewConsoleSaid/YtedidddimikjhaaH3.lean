/- The rules by which simp reckons a function over abstract blocks, and the way back to the model. No condition. -/
import Derived.Test.YtedidddimikjhaaH2
import Derived.ProofKit
import Derived.ChangeOld
import Derived.Below
import Derived.Carry
import Derived.OpenShut
import Derived.ChangeArms
import Derived.WideShapes
import Derived.LaidMore
import Derived.Lib.LaidTab
import Derived.Sort.Grow
import Derived.Deep.Draws
set_option linter.unusedSimpArgs false
set_option linter.unusedVariables false
namespace Go.HH

/-! Regions that draw, without a head: operations on registers, loads and fresh variables are free; the others follow one after the other. -/

def loadOp : Op → Bool
  | .load .. => true
  | _ => false
def constX : Operand → Option Value
  | .const (.int k n) => some (.int k n)
  | _ => none
def constL (ps : List (Nat × Operand)) : Bool := ps.all fun x => (constX x.2).isSome
/-- A fresh variable, or a row of numbers that stand in the text. -/
def allocOp : Op → Bool
  | .alloc _ => true
  | .buildSlice _ _ ps => !(ps.toList.isEmpty) && constL ps.toList
  | _ => false
def callOp : Op → Bool
  | .call c => !(lenC c.callee)
  | _ => false
def quietOp : Op → Bool
  | .store .. => false
  | .call c => match c.callee with
    | .builtin .append => false
    | _ => true
  | _ => true
/-- An operation that writes nothing: of the calls those that are not listed. -/
def qt (lo : List Nat) (i : Nat) (op : Op) : Bool := quietOp op && !(callOp op && lo.contains i)
def hardR (o : Oper) : Bool := !(reg o) && (!(loadOp o.op) && !(allocOp o.op))

theorem HRelT.more {G : List (Nat × Nat)} {T : Nat → Prop} {p : Phi} {h g : Heap} {w : World} (r : HRelT G T p h w) : HRelT G T p (h ++ g) w := by
  have at' : ∀ id t k, p id = some t → (h ++ g)[id]? = some k → h[id]? = some k := fun id t k e hk => by rwa [List.getElem?_append_left (r.dom id t e).1] at hk
  exact ⟨r.glob, fun id t e => ⟨by have := (r.dom id t e).1; simp; omega, (r.dom id t e).2⟩, fun id t k tt e hk hd => r.blk id t k tt e (at' id t k e hk) hd, fun id t k e hk => r.esz id t k e (at' id t k e hk),
    fun id id' t t' k k' e e' hk hk' hrw hd hb => r.inj id id' t t' k k' e e' (at' id t k e hk) (at' id' t' k' e' hk') hrw hd hb⟩

/-- A block that was kept for a fresh variable gets its row. -/
theorem HRelT.take {G : List (Nat × Nat)} {p : Phi} {h : Heap} {w : World} (r : HRel G p h w) {id0 : Nat} {cells : List Value} {c : Array Value} {esz : Nat} (elem : TypeId) (hn : p id0 = none) (hk0 : h[id0]? = some ⟨cells, esz, .rw⟩) (hc : LRel p cells c.toList) :
    HRel G (phiPush p id0 ⟨w.heap.size, 0, esz, c.size⟩) h { w with heap := w.heap.push (.cells c elem (0, 0)) } := by
  have hle : p.le (phiPush p id0 ⟨w.heap.size, 0, esz, c.size⟩) := fun id t e => by
    unfold phiPush
    rw [if_neg]
    · exact e
    · intro hid; rw [hid, hn] at e; cases e
  have hkeep : ∀ b, b < w.heap.size → (w.heap.push (Obj.cells c elem (0, 0)))[b]? = w.heap[b]? := fun b hb => by
    rw [Array.getElem?_push, if_neg (by omega)]
  have split : ∀ id t, phiPush p id0 ⟨w.heap.size, 0, esz, c.size⟩ id = some t → (p id = some t ∧ id < h.length ∧ t.b < w.heap.size) ∨ (id = id0 ∧ t = ⟨w.heap.size, 0, esz, c.size⟩) := by
    intro id t e
    unfold phiPush at e
    split at e
    · rename_i hid; exact .inr ⟨hid, (Option.some.inj e).symm⟩
    · exact .inl ⟨e, r.dom id t e⟩
  have hl : cells.length = c.size := by simpa using hc.1
  refine ⟨fun g hg => ?_, fun id t e => ?_, fun id t k tt e hk hd => ?_, fun id t k e hk => ?_, fun id id' t t' k k' e e' hk hk' hrw hd hb => ?_⟩
  · obtain ⟨t, a, b⟩ := r.glob g hg
    exact ⟨t, hle _ _ a, b⟩
  · rcases split id t e with ⟨_, a, b⟩ | ⟨rfl, rfl⟩
    · exact ⟨a, by simp; omega⟩
    · exact ⟨(List.getElem?_eq_some_iff.1 hk0).1, by simp⟩
  · rcases split id t e with ⟨a, b, b'⟩ | ⟨rfl, rfl⟩
    · obtain ⟨x1, cc, el, f, x2, x3, x4, x5, x6⟩ := r.blk id t k trivial a hk hd
      exact ⟨x1, cc, el, f, by rw [hkeep _ b']; exact x2, x3, x4, fun i v hv => let ⟨v', y1, y2⟩ := x5 i v hv; ⟨v', y1, y2.mono hle⟩, x6⟩
    · rw [hk0, Option.some.injEq] at hk
      subst hk
      refine ⟨rfl, c, elem, (0, 0), ?_, rfl, by simp; omega, fun i v hv => ?_, fun _ o _ => by omega⟩
      · show (w.heap.push _)[w.heap.size]? = _
        rw [Array.getElem?_push, if_pos rfl]
      · obtain ⟨v', a, b⟩ := hc.2 i v hv
        exact ⟨v', by simpa using a, b.mono hle⟩
  · rcases split id t e with ⟨a, b, b'⟩ | ⟨rfl, rfl⟩
    · exact r.esz id t k a hk
    · rw [hk0, Option.some.injEq] at hk
      subst hk
      rfl
  · rcases split id t e with ⟨a, b, b'⟩ | ⟨rfl, rfl⟩ <;> rcases split id' t' e' with ⟨a', c', c''⟩ | ⟨rfl, rfl⟩
    · exact r.inj id id' t t' k k' a a' hk hk' hrw hd hb
    · simp at hb; omega
    · simp at hb; omega
    · rfl

section
variable {G : List (Nat × Nat)} {P : Program} {M : Nat → Prop} {ops : Array Oper} {E : Nat → Env} {H : Nat → Heap} {V : Nat → Value} {rs : Nat → Nat}

/-- One operation. -/
def FreshAt (P : Program) (o : Oper) (z : List Value) (esz r : Nat) (v : Value) : Prop :=
  ∀ (ev : Operand → Value), (∀ c, ev (.const c) = c) → ∀ (w : World), ∃ (mk : Value) (c : Array Value) (elem : TypeId),
    (execOp ev o).run P w = .ok (.value mk) { w with heap := w.heap.push (.cells c elem (0, 0)) } ∧ (∀ p : Phi, LRel p z c.toList) ∧ ∀ q : Phi, q r = some ⟨w.heap.size, 0, esz, c.size⟩ → VRel q v mk
def Rfree (q : Bool) (G : List (Nat × Nat)) (P : Program) (M : Nat → Prop) (ops : Array Oper) (o : Oper) (r : Nat) (e : Env) (h : Heap) (v : Value) (h' : Heap) : Prop :=
  (wantedH ops o e = false ∧ v = undef ∧ h' = h) ∨
  (wantedH ops o e = true ∧ ((reg o = true ∧ h' = h ∧ ∀ h2, HStep G P o allT M e h2 v h2) ∨
    (loadOp o.op = true ∧ h' = h ∧ ∃ t x id off, o.op = .load t x ∧ Opd.val e x = .pointer (some ⟨id, off, none⟩) ∧ id < h.length ∧ ∀ h2 : Heap, h2[id]? = h[id]? → HStep G P o allT M e h2 v h2) ∨
    (∃ z esz, allocOp o.op = true ∧ h' = h ∧ FreshAt P o z esz r v ∧ h[r]? = some ⟨z, esz, .rw⟩) ∨
    (hardR o = true ∧ HStep G P o allT M e h v h' ∧ (q = true → h <+: h'))))

structure TraceF (G : List (Nat × Nat)) (P : Program) (M : Nat → Prop) (ops : Array Oper) (n0 : Nat) (lo : List Nat) (rs : Nat → Nat) (E : Nat → Env) (H : Nat → Heap) (V : Nat → Value) : Prop where
  envs : ∀ i o, ops[i]? = some o → E (i + 1) = put (E i) o.dst (V i)
  step : ∀ i o, ops[i]? = some o → Rfree (qt lo i o.op) G P M ops o (rs i) (E i) (H i) (V i) (H (i + 1))
  /-- what a load has read is kept by the writers after it that do not wait for it -/
  kept : ∀ i o j oj, ops[i]? = some o → ops[j]? = some oj → i < j → i ∈ lo ∧ lo.contains (j + 1000) = false → wantedH ops o (E i) = true → wantedH ops oj (E j) = true → qt lo j oj.op = false → ∀ t x id off, o.op = .load t x → Opd.val (E i) x = .pointer (some ⟨id, off, none⟩) → (H (j + 1))[id]? = (H j)[id]?
  /-- what is kept for a fresh variable is kept by the writers before it -/
  fresh : ∀ i o j oj, ops[i]? = some o → ops[j]? = some oj → j < i → allocOp o.op = true → qt lo j oj.op = false → wantedH ops oj (E j) = true → (H (j + 1))[rs i]? = (H j)[rs i]?
  stays : ∀ i o j oj, ops[i]? = some o → ops[j]? = some oj → i < j → i ∈ lo ∧ lo.contains (j + 1000) = false → allocOp o.op = true → qt lo j oj.op = false → wantedH ops oj (E j) = true → (H (j + 1))[rs i]? = (H j)[rs i]?
  inj : ∀ i o j oj, ops[i]? = some o → ops[j]? = some oj → allocOp o.op = true → allocOp oj.op = true → rs i = rs j → i = j
  low : ∀ i o, ops[i]? = some o → allocOp o.op = true → n0 ≤ rs i ∧ rs i < (H 0).length
  len : ∀ i, i < ops.size → (H i).length ≤ (H (i + 1)).length

def freeT (ops : Array Oper) (lo : List Nat) : Bool := (List.range ops.size).all fun t => match ops[t]? with
  | none => true
  | some ot => ot.after.all (fun e => !Region.binds .any e || decide (e.on < t)) && ((!(allocOp ot.op) || ot.guard.isNone) && (List.range t).all (fun j => match ops[j]? with
    | none => true
    | some oj => (ot.after.any (fun e => Region.binds .any e && e.on == j) || oj.apart ops ot) &&
        ((!(hardR oj) || !(hardR ot) || waitsB ops 8 t j) && ((!(loadOp oj.op) || qt lo t ot.op || waitsB ops 8 t j || (lo.contains j && !(lo.contains (t + 1000)))) && ((qt lo j oj.op || !(loadOp ot.op) || waitsB ops 8 t j) && (!(allocOp oj.op) || qt lo t ot.op || waitsB ops 8 t j || (lo.contains j && !(lo.contains (t + 1000)))))))))

theorem freeT_spec {lo : List Nat} (h : freeT ops lo = true) {t : Nat} {ot : Oper} (ht : ops[t]? = some ot) :
    (∀ e ∈ ot.after, Region.binds .any e = true → e.on < t) ∧ (allocOp ot.op = true → ot.guard = none) ∧ ∀ j oj, j < t → ops[j]? = some oj →
      ((∃ e ∈ ot.after, Region.binds .any e = true ∧ e.on = j) ∨ oj.apart ops ot = true) ∧ (hardR oj = true → hardR ot = true → waitsB ops 8 t j = true) ∧
      (loadOp oj.op = true → qt lo t ot.op = false → waitsB ops 8 t j = true ∨ (j ∈ lo ∧ lo.contains (t + 1000) = false)) ∧ (qt lo j oj.op = false → loadOp ot.op = true → waitsB ops 8 t j = true) ∧
      (allocOp oj.op = true → qt lo t ot.op = false → waitsB ops 8 t j = true ∨ (j ∈ lo ∧ lo.contains (t + 1000) = false)) := by
  have hlt := (Array.getElem?_eq_some_iff.1 ht).1
  have h1 := List.all_eq_true.1 h t (List.mem_range.2 hlt)
  rw [ht] at h1
  simp only [Bool.and_eq_true] at h1
  obtain ⟨h2, h3, h4⟩ := h1
  refine ⟨fun e he hb => ?_, fun ha => ?_, fun j oj hjt hoj => ?_⟩
  · have := (Array.all_eq_true_iff_forall_mem.1 h2) e he
    simpa [hb] using this
  · simpa [ha] using h3
  · have h5 := List.all_eq_true.1 h4 j (List.mem_range.2 hjt)
    rw [hoj] at h5
    simp only [Bool.or_eq_true, Bool.and_eq_true, Bool.not_eq_true'] at h5
    obtain ⟨h6, h7, h8, h9, h10⟩ := h5
    refine ⟨?_, fun r1 r2 => ?_, fun r1 r2 => ?_, fun r1 r2 => ?_, fun r1 r2 => ?_⟩
    · rcases h6 with h6 | h6
      · simp only [Array.any_eq_true, Bool.and_eq_true, beq_iff_eq] at h6
        obtain ⟨x, hx, hb⟩ := h6
        exact .inl ⟨_, Array.getElem_mem hx, hb.1, hb.2⟩
      · exact .inr h6
    · rcases h7 with (h7 | h7) | h7
      · rw [r1] at h7; cases h7
      · rw [r2] at h7; cases h7
      · exact h7
    · rcases h8 with ((h7 | h7) | h7) | h7
      · rw [r1] at h7; cases h7
      · rw [r2] at h7; cases h7
      · exact .inl h7
      · exact .inr ⟨by simpa using h7.1, h7.2⟩
    · rcases h9 with (h7 | h7) | h7
      · rw [r1] at h7; cases h7
      · rw [r2] at h7; cases h7
      · exact h7
    · rcases h10 with ((h7 | h7) | h7) | h7
      · rw [r1] at h7; cases h7
      · rw [r2] at h7; cases h7
      · exact .inl h7
      · exact .inr ⟨by simpa using h7.1, h7.2⟩

structure FInv (ops : Array Oper) (rs : Nat → Nat) (E : Nat → Env) (H : Nat → Heap) (V : Nat → Value) (listed : Array Bool) (e : Env) (h : Heap) (p : Phi) : Prop where
  lsize : listed.size = ops.size
  closed : ∀ i o, ops[i]? = some o → listed.getD i false = true → ∀ e ∈ o.after, Region.binds .any e = true → listed.getD e.on false = true
  env : ∀ t, e t = hv ops E V (fun i => listed.getD i false) t ops.size
  heap : ∃ m, m ≤ ops.size ∧ h = H m ∧ ∀ j oj, ops[j]? = some oj → hardR oj = true → (listed.getD j false = true ↔ j < m)
  un : ∀ i o, ops[i]? = some o → allocOp o.op = true → listed.getD i false = false → p (rs i) = none

theorem hard_of_write {lo : List Nat} {i : Nat} {o : Oper} (h : qt lo i o.op = false) : hardR o = true := by
  unfold qt quietOp callOp at h
  unfold hardR reg regOp loadOp allocOp
  revert h
  cases o.op with
  | call c =>
    obtain ⟨callee, x, y⟩ := c
    cases callee with
    | builtin b => cases b <;> simp [lenC]
    | _ => simp [lenC]
  | _ => simp

theorem TraceF.same {n0 : Nat} {lo : List Nat} (T : TraceF G P M ops n0 lo rs E H V) {i : Nat} {o : Oper} (ho : ops[i]? = some o) (hh : hardR o = false) : H (i + 1) = H i := by
  rcases T.step i o ho with ⟨_, _, h⟩ | ⟨_, ⟨_, h, _⟩ | ⟨_, h, _⟩ | ⟨_, _, _, h, _⟩ | ⟨h, _⟩⟩
  · exact h
  · exact h
  · exact h
  · exact h
  · rw [hh] at h; cases h

theorem TraceF.flat {n0 : Nat} {lo : List Nat} (T : TraceF G P M ops n0 lo rs E H V) {i m : Nat} (him : i ≤ m) (hm : m ≤ ops.size) (hr : ∀ j oj, i ≤ j → j < m → ops[j]? = some oj → hardR oj = false) : H m = H i := by
  induction m with
  | zero => have : i = 0 := by omega
            subst this; rfl
  | succ m ih =>
    rcases Nat.lt_or_ge i (m + 1) with h | h
    · have hlt : m < ops.size := by omega
      have e1 := ih (by omega) (by omega) (fun j oj h1 h2 => hr j oj h1 (by omega))
      rw [T.same (Array.getElem?_eq_getElem hlt) (hr m ops[m] (by omega) (by omega) (Array.getElem?_eq_getElem hlt)), e1]
    · have : i = m + 1 := by omega
      subst this; rfl

/-- A block that the operations between keep. -/
theorem TraceF.keeps {n0 : Nat} {lo : List Nat} (T : TraceF G P M ops n0 lo rs E H V) {id i m : Nat} (him : i ≤ m) (hm : m ≤ ops.size) (hid : id < (H i).length)
    (hw : ∀ j oj, i ≤ j → j < m → ops[j]? = some oj → qt lo j oj.op = false → wantedH ops oj (E j) = true → (H (j + 1))[id]? = (H j)[id]?) : (H m)[id]? = (H i)[id]? := by
  induction m with
  | zero => have : i = 0 := by omega
            subst this; rfl
  | succ m ih =>
    rcases Nat.lt_or_ge i (m + 1) with h | h
    · have hlt : m < ops.size := by omega
      have ho : ops[m]? = some ops[m] := Array.getElem?_eq_getElem hlt
      have e1 := ih (by omega) (by omega) (fun j oj h1 h2 => hw j oj h1 (by omega))
      rw [← e1]
      by_cases hh : hardR ops[m] = true
      · cases hq : qt lo m ops[m].op with
        | false =>
          by_cases hwt : wantedH ops ops[m] (E m) = true
          · exact hw m _ (by omega) (by omega) ho hq hwt
          · rcases T.step m _ ho with ⟨_, _, h⟩ | ⟨h, _⟩
            · rw [h]
            · exact absurd h hwt
        | true =>
          have hidm : id < (H m).length := by
            obtain ⟨k, hk⟩ : ∃ k, (H i)[id]? = some k := ⟨_, List.getElem?_eq_getElem hid⟩
            rw [hk] at e1
            exact (List.getElem?_eq_some_iff.1 e1).1
          rcases T.step m _ ho with ⟨_, _, h⟩ | ⟨_, ⟨h1, h, _⟩ | ⟨_, h, _⟩ | ⟨_, _, _, h, _⟩ | ⟨_, _, h⟩⟩
          · rw [h]
          · rw [h]
          · rw [h]
          · rw [h]
          · obtain ⟨t, ht⟩ := h hq
            rw [← ht, List.getElem?_append_left hidm]
      · rw [T.same ho (by simpa using hh)]
    · have : i = m + 1 := by omega
      subst this; rfl

theorem TraceF.grows {n0 : Nat} {lo : List Nat} (T : TraceF G P M ops n0 lo rs E H V) : ∀ m, m ≤ ops.size → (H 0).length ≤ (H m).length
  | 0, _ => Nat.le_refl _
  | m + 1, h => Nat.le_trans (T.grows m (by omega)) (T.len m (by omega))

theorem wpAny_free {n0 nt : Nat} {lo : List Nat} (T : TraceF G P M ops n0 lo rs E H V) (hfree : freeT ops lo = true) (hB : ops.toList.all (operB G nt) = true) {p0 : Phi} {h0 : Heap} (hn0 : n0 = h0.length) {w0 : World} {Q : Exit → Act → World → Prop}
    (hQ : ∀ p a w, HRel G p (H ops.size) w → ERel p nt (E ops.size) a → Ext M p0 p h0 (H ops.size) w0 w → Q .normal a w) :
    ∀ (fuel : Nat) (listed : Array Bool) (e : Env) (h : Heap) (p : Phi) (a : Act) (w : World), FInv ops rs E H V listed e h p → HRel G p h w → ERel p nt e a → Ext M p0 p h0 h w0 w →
      listed.toList.count false ≤ fuel → wpAny P .any ops Q fuel listed a w := by
  have hend : ∀ (listed : Array Bool) (e : Env) (h : Heap) (p : Phi) (a : Act) (w : World), FInv ops rs E H V listed e h p → HRel G p h w → ERel p nt e a → Ext M p0 p h0 h w0 w → (∀ k, k < ops.size → listed.getD k false = true) → Q .normal a w := by
    intro listed e h p a w D hr er ex hall
    obtain ⟨m, hm2, rfl, hm3⟩ := D.heap
    have e1 : H ops.size = H m := T.flat hm2 (Nat.le_refl _) fun j oj h1 h2 hj => by
      cases hreg : hardR oj with
      | false => rfl
      | true => have := (hm3 j oj hj hreg).1 (hall j h2); omega
    have e2 : e = E ops.size := funext fun t => by
      rw [D.env t, ← hv_text T.envs (t := t) ops.size ops.size (Nat.le_refl _) (Nat.le_refl _)]
      exact hv_congr _ fun k hk _ => by rw [hall k hk]; simp [hk]
    subst e2
    rw [← e1] at hr ex
    exact hQ p a w hr er ex
  have hready : ∀ (listed : Array Bool) (e : Env) (h : Heap) (p : Phi), FInv ops rs E H V listed e h p → Region.ready .any ops listed = [] → ∀ k, k < ops.size → listed.getD k false = true := by
    intro listed e h p D hr k
    induction k using Nat.strongRecOn with
    | _ k ih =>
      intro hk
      cases hl : listed.getD k false with
      | true => rfl
      | false =>
        exfalso
        have hks : k < listed.size := by rw [D.lsize]; exact hk
        have : k ∈ Region.ready .any ops listed := by
          refine mem_ready.2 ⟨by simpa [Array.getD, hks] using hl, ops[k], Array.getElem?_eq_getElem hk, fun e he hb => ?_⟩
          have h1 := (freeT_spec hfree (Array.getElem?_eq_getElem hk)).1 e he hb
          exact ih e.on h1 (by omega)
        rw [hr] at this
        cases this
  intro fuel
  induction fuel with
  | zero =>
    intro listed e h p a w D hr er ex hc
    have hall : ∀ k, k < ops.size → listed.getD k false = true := by
      intro k hk
      have hks : k < listed.size := by rw [D.lsize]; exact hk
      cases hl : listed.getD k false with
      | true => rfl
      | false =>
        exfalso
        have h0 : listed.toList.count false = 0 := by omega
        have : false ∈ listed.toList := by
          have e : listed[k] = false := by simpa [Array.getD, hks] using hl
          rw [← e]
          simp
        rw [List.count_eq_zero] at h0
        exact h0 this
    refine ⟨?_, hend listed e h p a w D hr er ex hall⟩
    cases hrd : Region.ready .any ops listed with
    | nil => rfl
    | cons i r =>
      exfalso
      have hi : i ∈ Region.ready .any ops listed := by rw [hrd]; simp
      obtain ⟨h1, o, h2, _⟩ := mem_ready.1 hi
      have hk := (Array.getElem?_eq_some_iff.1 h2).1
      have hks : i < listed.size := by rw [D.lsize]; exact hk
      have := hall i hk
      simp [Array.getD, hks] at this h1
      rw [h1] at this
      cases this
  | succ fuel ih =>
    intro listed e h p a w D hr er ex hc
    refine ⟨fun hrd => hend listed e h p a w D hr er ex (hready listed e h p D hrd), fun i hi => ?_⟩
    obtain ⟨hun, o, ho, hedge⟩ := mem_ready.1 hi
    have hlt : i < ops.size := (Array.getElem?_eq_some_iff.1 ho).1
    have hll : i < listed.size := by rw [D.lsize]; exact hlt
    have hun' : listed.getD i false = false := by simpa [Array.getD, hll] using hun
    have hpair := (freeT_spec hfree ho).2.2
    -- the operations that write what i looks at are done just where the text has them before i
    have same : ∀ t, t ∈ o.looksAt ops ∨ o.dst = some t → ∀ k, k < ops.size → k ≠ i → ((ops[k]?).bind (·.dst)) = some t → listed.getD k false = decide (k < i) := by
      intro t ht k hk hki hd
      have hok : ops[k]? = some ops[k] := Array.getElem?_eq_getElem hk
      rw [hok, Option.bind_some] at hd
      rcases Nat.lt_or_ge k i with h | h
      · rw [decide_eq_true h]
        rcases (hpair k _ h hok).1 with ⟨e, he, hb, hon⟩ | hap
        · rw [← hon]; exact hedge e he hb
        · obtain ⟨h1, h2, h3⟩ := Oper.apart_spec hap
          rcases ht with ht | ht
          · exact absurd ht (h1 t hd)
          · exact absurd ht (h2 t hd)
      · have hik : i < k := by omega
        rw [decide_eq_false (by omega)]
        rcases ((freeT_spec hfree hok).2.2 i o hik ho).1 with ⟨e, he, hb, hon⟩ | hap
        · cases hl : listed.getD k false with
          | false => rfl
          | true =>
            have := D.closed k _ hok hl e he hb
            rw [hon, hun'] at this
            cases this
        · obtain ⟨h1, h2, h3⟩ := Oper.apart_spec hap
          rcases ht with ht | ht
          · exact absurd ht (h3 t hd)
          · exact absurd hd (h2 t ht)
    have hval : ∀ t, t ∈ o.looksAt ops → e t = E i t := fun t ht => by
      rw [D.env t, ← hv_text T.envs (t := t) ops.size i (by omega) (Nat.le_refl _)]
      exact hv_congr _ fun k hk hd => by
        by_cases hki : k = i
        · subst hki; simp [hun']
        · exact same t (.inl ht) k hk hki hd
    have hopv : ∀ x ∈ o.op.operands, Opd.val e x = Opd.val (E i) x := fun x hx => by
      cases x with
      | tmp t => exact hval t (List.mem_append_left _ (List.mem_filterMap.2 ⟨.tmp t, by simpa using hx, rfl⟩))
      | _ => rfl
    have hoB := List.all_eq_true.1 hB o (by have := Array.mem_of_getElem? ho; simpa using this)
    simp only [operB, Bool.and_eq_true, Array.all_eq_true_iff_forall_mem] at hoB
    have hdn : ∀ d, o.dst = some d → d < nt := fun d hd => by have := hoB.2; rw [hd] at this; simpa using this
    have hopd : ∀ x ∈ o.op.operands, VRel p (Opd.val e x) (a.eval x) := fun x hx => opd_rel hr (fun t _ => er.val t) (hoB.1 x hx)
    have hwt : Region.wanted o (yielded ops a.tmps) = wantedH ops o (E i) := by
      rw [← wantedH_congr (e := E i) (e' := e) hval]
      exact wanted_rel fun g want t _ _ => ⟨p, er.val t⟩
    have getD_set : ∀ j, (listed.setIfInBounds i true).getD j false = if j = i then true else listed.getD j false := fun j => by
      by_cases hj : j = i
      · subst hj; simp [Array.getD, hll]
      · simp [Array.getD_eq_getD_getElem?, Array.getElem?_setIfInBounds_ne (Ne.symm hj), hj]
    have closed' : ∀ j oj, ops[j]? = some oj → (listed.setIfInBounds i true).getD j false = true → ∀ e ∈ oj.after, Region.binds .any e = true → (listed.setIfInBounds i true).getD e.on false = true := by
      intro j oj hoj hl e he hb
      rw [getD_set] at hl ⊢
      by_cases hj : j = i
      · subst hj
        rw [ho] at hoj; cases hoj
        split
        · rfl
        · exact hedge e he hb
      · rw [if_neg hj] at hl
        split
        · rfl
        · exact D.closed j oj hoj hl e he hb
    have env' : ∀ t, put e o.dst (V i) t = hv ops E V (fun j => (listed.setIfInBounds i true).getD j false) t ops.size := by
      intro t
      by_cases hd : o.dst = some t
      · have e1 : hv ops E V (fun j => (listed.setIfInBounds i true).getD j false) t ops.size = hv ops E V (fun j => decide (j < i + 1)) t ops.size := hv_congr _ fun k hk hdk => by
          rw [getD_set]
          by_cases hki : k = i
          · subst hki; simp
          · rw [if_neg hki, same t (.inr hd) k hk hki hdk]
            simp only [decide_eq_decide]; omega
        rw [e1, hv_text T.envs (t := t) ops.size (i + 1) (by omega) (Nat.le_refl _), T.envs i o ho, hd]
        simp [put, upd]
      · have e1 : hv ops E V (fun j => (listed.setIfInBounds i true).getD j false) t ops.size = hv ops E V (fun j => listed.getD j false) t ops.size := hv_congr _ fun k hk hdk => by
          rw [getD_set]
          by_cases hki : k = i
          · subst hki
            rw [ho] at hdk
            exact absurd hdk hd
          · rw [if_neg hki]
        rw [e1, ← D.env t]
        cases hx : o.dst with
        | none => rfl
        | some d => simp only [put, upd]; rw [if_neg (fun c => hd (by rw [hx, c]))]
    have hcount : (listed.setIfInBounds i true).toList.count false ≤ fuel := by
      have e : listed[i] = false := by simpa [Array.getD, hll] using hun
      have := List.count_set (a := true) (b := false) (l := listed.toList) (i := i) (by simpa using hll)
      simp only [Array.getElem_toList, e] at this
      have e2 : (if (false == false) = true then 1 else 0) = 1 := rfl
      have e3 : (if (true == false) = true then 1 else 0) = 0 := rfl
      rw [e2, e3] at this
      rw [Array.toList_setIfInBounds, this]
      omega
    obtain ⟨m, hm2, hhm, hm3⟩ := D.heap
    have hb4 : hardR o = true → ∀ j oj, j < i → ops[j]? = some oj → hardR oj = true → listed.getD j false = true := fun hi j oj h2 h3 h4 =>
      waits_listed D.closed 8 i j o ho hedge ((hpair j oj h2 h3).2.1 h4 hi)
    have hmi : hardR o = true → m ≤ i := fun hreg => by
      rcases Nat.lt_or_ge i m with h1 | h1
      · have := (hm3 i o ho hreg).2 h1; rw [hun'] at this; cases this
      · exact h1
    have hHm : hardR o = true → H i = H m := fun hreg => T.flat (hmi hreg) (by omega) fun j oj h1 h2 h3 => by
      cases hrj : hardR oj with
      | false => rfl
      | true => have := (hm3 j oj h3 hrj).1 (hb4 hreg j oj h2 h3 hrj); omega
    have next : hardR o = true → ∀ j oj, ops[j]? = some oj → hardR oj = true → ((listed.setIfInBounds i true).getD j false = true ↔ j < i + 1) := fun hreg j oj h2 h3 => by
      rw [getD_set]
      by_cases hji : j = i
      · rw [if_pos hji]; simp; omega
      · rw [if_neg hji]
        rcases Nat.lt_or_ge j i with h4 | h4
        · exact ⟨fun _ => by omega, fun _ => hb4 hreg j oj h4 h2 h3⟩
        · refine ⟨fun hl => ?_, fun h5 => by omega⟩
          have := waits_listed D.closed 8 j i oj h2 (D.closed j oj h2 hl) (((freeT_spec hfree h2).2.2 i o (by omega) ho).2.1 hreg h3)
          rw [hun'] at this; cases this
    have unq : ∀ {q : Phi} {w' : World} {h' : Heap}, Ext M p q h h' w w' → ∀ j oj, ops[j]? = some oj → allocOp oj.op = true → (listed.setIfInBounds i true).getD j false = false → q (rs j) = none := fun {q w' h'} hex j oj h1 h2 h3 => by
      rw [getD_set] at h3
      split at h3
      · cases h3
      · have h4 := D.un j oj h1 h2 h3
        cases hq : q (rs j) with
        | none => rfl
        | some t =>
          have h5 := (hex.new _ t hq h4).1
          have h6 := (T.low j oj h1 h2).2
          have h7 : (H 0).length ≤ h.length := by
            rw [hhm]
            exact T.grows m hm2
          omega
    -- a step that keeps the heap
    have stay : hardR o = false ∨ H (i + 1) = H i → ∀ {q : Phi}, (∀ j oj, ops[j]? = some oj → allocOp oj.op = true → (listed.setIfInBounds i true).getD j false = false → q (rs j) = none) → FInv ops rs E H V (listed.setIfInBounds i true) (put e o.dst (V i)) h q := fun hro q hq => by
      refine ⟨by simp [D.lsize], closed', env', ?_, hq⟩
      by_cases hreg : hardR o = true
      · refine ⟨i + 1, by omega, ?_, next hreg⟩
        rcases hro with h1 | h1
        · rw [hreg] at h1; cases h1
        · rw [h1, hHm hreg]; exact hhm
      · refine ⟨m, hm2, hhm, fun j oj h2 h3 => ?_⟩
        rw [getD_set]
        by_cases hji : j = i
        · subst hji; rw [ho] at h2; cases h2; exact absurd h3 hreg
        · rw [if_neg hji]; exact hm3 j oj h2 h3
    unfold wpOp
    simp only [ho]
    rw [hwt]
    rcases T.step i o ho with ⟨hw, hv0, hHi⟩ | ⟨hw, ⟨hreg, hHi, hs⟩ | ⟨hld, hHi, t, x, id, off, hop, hxv, hid, hs⟩ | ⟨z, esz, hal, hHi, hF, hk⟩ | ⟨hreg, hs, hpre⟩⟩
    · rw [if_neg (by simp [hw])]
      have hst := stay (.inr hHi) (unq (Ext.refl M p h w))
      rw [hv0] at hst
      exact ih _ _ _ p _ w hst hr (er.put hdn (VRel.undef p)) ex hcount
    · rw [if_pos hw]
      refine .inl ((hs h).congr hopv p a w hr hopd _ _ ?_)
      intro q v' w' hrq hvq exq
      replace hrq := hrq.all
      exact ih _ _ _ q _ w' (stay (.inr hHi) (unq exq)) hrq ((er.mono exq.le).put hdn hvq) (ex.trans exq) hcount
    · rw [if_pos hw]
      have hnh : hardR o = false := by simp [hardR, hld]
      have hx0 := hopd x (by rw [hop]; simp [Op.operands])
      rw [hopv x (by rw [hop]; simp [Op.operands]), hxv] at hx0
      obtain ⟨tg, hp1, _⟩ := hx0.ptr_inv
      have hidh := (hr.dom id tg hp1).1
      have hsame : h[id]? = (H i)[id]? := by
        rw [hhm]
        rcases Nat.lt_or_ge i m with h1 | h1
        · refine T.keeps (by omega) hm2 hid fun j oj h2 h3 h4 h5 h6 => ?_
          have hij : i < j := by
            rcases Nat.lt_or_ge i j with h7 | h7
            · exact h7
            · have : i = j := by omega
              subst this; rw [ho] at h4; cases h4
              rw [hard_of_write h5] at hnh; cases hnh
          rcases ((freeT_spec hfree h4).2.2 i o hij ho).2.2.1 hld h5 with h7 | h7
          · have hl := (hm3 j oj h4 (hard_of_write h5)).2 h3
            have := waits_listed D.closed 8 j i oj h4 (D.closed j oj h4 hl) h7
            rw [hun'] at this; cases this
          · exact T.kept i o j oj ho h4 hij h7 hw h6 h5 t x id off hop hxv
        · refine (T.keeps h1 (by omega) (by rw [← hhm]; exact hidh) fun j oj h2 h3 h4 h5 h6 => ?_).symm
          have h7 := (hpair j oj h3 h4).2.2.2.1 h5 hld
          have := (hm3 j oj h4 (hard_of_write h5)).1 (waits_listed D.closed 8 i j o ho hedge h7)
          omega
      refine .inl ((hs h hsame).congr hopv p a w hr hopd _ _ ?_)
      intro q v' w' hrq hvq exq
      replace hrq := hrq.all
      exact ih _ _ _ q _ w' (stay (.inl hnh) (unq exq)) hrq ((er.mono exq.le).put hdn hvq) (ex.trans exq) hcount
    · rw [if_pos hw]
      have hnh : hardR o = false := by simp [hardR, hal]
      have hlow := T.low i o ho hal
      have hblk : h[rs i]? = some ⟨z, esz, .rw⟩ := by
        rw [← hk, hhm]
        have h0i : (H i)[rs i]? = (H 0)[rs i]? := T.keeps (Nat.zero_le i) (by omega) hlow.2 fun j oj h2 h3 h4 h5 h6 => T.fresh i o j oj ho h4 h3 hal h5 h6
        rw [h0i]
        refine T.keeps (Nat.zero_le m) hm2 hlow.2 fun j oj h2 h3 h4 h5 h6 => ?_
        rcases Nat.lt_or_ge j i with h7 | h7
        · exact T.fresh i o j oj ho h4 h7 hal h5 h6
        · have hij : i < j := by
            rcases Nat.lt_or_ge i j with h8 | h8
            · exact h8
            · have : i = j := by omega
              subst this; rw [ho] at h4; cases h4
              rw [hard_of_write h5] at hnh; cases hnh
          rcases ((freeT_spec hfree h4).2.2 i o hij ho).2.2.2.2 hal h5 with hwt | hwt
          · have hl := (hm3 j oj h4 (hard_of_write h5)).2 h3
            have := waits_listed D.closed 8 j i oj h4 (D.closed j oj h4 hl) hwt
            rw [hun'] at this; cases this
          · exact T.stays i o j oj ho h4 hij hwt hal h5 h6
      have hnone := D.un i o ho hal hun'
      obtain ⟨mk, c, elem, hex, hlz, hvm⟩ := hF a.eval (fun _ => rfl) w
      have hr1 := hr.take elem hnone hblk (hlz p)
      have hle : p.le (phiPush p (rs i) ⟨w.heap.size, 0, esz, c.size⟩) := fun id t2 e2 => by
        unfold phiPush
        rw [if_neg]
        · exact e2
        · intro hid; rw [hid, hnone] at e2; cases e2
      have ex1 : Ext M p0 (phiPush p (rs i) ⟨w.heap.size, 0, esz, c.size⟩) h0 h w0 { w with heap := w.heap.push (.cells c elem (0, 0)) } := by
        refine ⟨Phi.le_trans ex.le hle, fun id t2 e2 en => ?_, ex.len, fun b hb hm => ?_, by simp; have := ex.size; omega, ex.os, ex.tape, ex.output⟩
        · unfold phiPush at e2
          split at e2
          · rename_i hid
            subst hid
            cases e2
            exact ⟨by omega, .inl ex.size⟩
          · exact ex.new id t2 e2 en
        · rw [← ex.frame b hb hm]
          have := ex.size
          simp only [Array.getElem?_push]
          rw [if_neg (by omega)]
      refine .inl ?_
      have hq : ∀ j oj, ops[j]? = some oj → allocOp oj.op = true → (listed.setIfInBounds i true).getD j false = false → phiPush p (rs i) ⟨w.heap.size, 0, esz, c.size⟩ (rs j) = none := fun j oj h1 h2 h3 => by
        rw [getD_set] at h3
        split at h3
        · cases h3
        · rename_i hji
          unfold phiPush
          rw [if_neg (fun hh => hji (T.inj j oj i o h1 ho h2 hal hh))]
          exact D.un j oj h1 h2 h3
      have hst := stay (.inl hnh) hq
      have fin := ih _ _ _ _ (a.put o.dst mk) _ hst hr1 ((er.mono hle).put hdn (hvm _ phiPush_same)) ex1 hcount
      unfold Oper.wp
      rw [hex]
      exact fin
    · rw [if_pos hw]
      have hh : h = H i := by rw [hhm, hHm hreg]
      subst hh
      refine .inl (hs.congr hopv p a w hr hopd _ _ ?_)
      intro q v' w' hrq hvq exq
      replace hrq := hrq.all
      exact ih _ _ _ q _ w' ⟨by simp [D.lsize], closed', env', ⟨i + 1, by omega, rfl, next hreg⟩, unq exq⟩ hrq ((er.mono exq.le).put hdn hvq) (ex.trans exq) hcount
end

/-! A row of such operations. -/

def keep : List Nat → Heap → Heap → Prop
  | [], _, _ => True
  | x :: l, h, h' => h'[x]? = h[x]? ∧ keep l h h'

theorem keep_mem {h h' : Heap} {x : Nat} : ∀ {l : List Nat}, keep l h h' → x ∈ l → h'[x]? = h[x]?
  | [], _, hx => by cases hx
  | y :: l, hk, hx => by
    rcases List.mem_cons.1 hx with rfl | hx
    · exact hk.1
    · exact keep_mem hk.2 hx

def rdk (lo rd : List Nat) (k : Nat) : List Nat := if lo.contains (k + 1000) = true then [] else rd

def FOps (G : List (Nat × Nat)) (P : Program) (M : Nat → Prop) (ops : Array Oper) (lo : List Nat) : Nat → List Nat → List Nat → List Oper → Env → Heap → (Env → Heap → Prop) → Prop
  | _, _, _, [], e, h, K => K e h
  | k, rs, rd, o :: os, e, h, K => ∃ v h' r rs' rd', Rfree (qt lo k o.op) G P M ops o r e h v h' ∧ h.length ≤ h'.length ∧ (allocOp o.op = true → rs = r :: rs') ∧ (allocOp o.op = false → rs' = rs) ∧ (∀ x ∈ rd, x ∈ rd') ∧ (k ∈ lo → allocOp o.op = true → r ∈ rd') ∧
      (k ∈ lo → wantedH ops o e = true → ∀ t x id off, o.op = .load t x → Opd.val e x = .pointer (some ⟨id, off, none⟩) → id ∈ rd') ∧
      (qt lo k o.op = false → wantedH ops o e = true → keep (rs ++ rdk lo rd k) h h') ∧ FOps G P M ops lo (k + 1) rs' rd' os (put e o.dst v) h' K

section
variable {G : List (Nat × Nat)} {P : Program} {M : Nat → Prop} {ops : Array Oper}

/-- What is known of the operation at place i. -/
structure FAt (G : List (Nat × Nat)) (P : Program) (M : Nat → Prop) (ops : Array Oper) (lo : List Nat) (o : Oper) (i r : Nat) (rs rs' rd rd' : List Nat) (e e' : Env) (h h' : Heap) (v : Value) : Prop where
  env : e' = put e o.dst v
  step : Rfree (qt lo i o.op) G P M ops o r e h v h'
  len : h.length ≤ h'.length
  al : allocOp o.op = true → rs = r :: rs'
  no : allocOp o.op = false → rs' = rs
  sub : ∀ x ∈ rd, x ∈ rd'
  la : i ∈ lo → allocOp o.op = true → r ∈ rd'
  ld : i ∈ lo → wantedH ops o e = true → ∀ t x id off, o.op = .load t x → Opd.val e x = .pointer (some ⟨id, off, none⟩) → id ∈ rd'
  wr : qt lo i o.op = false → wantedH ops o e = true → keep (rs ++ rdk lo rd i) h h'

theorem FOps.trace {lo : List Nat} : ∀ (l : List Oper) (k : Nat) (rs rd : List Nat) (e : Env) (h : Heap) (K : Env → Heap → Prop), FOps G P M ops lo k rs rd l e h K →
    ∃ (E : Nat → Env) (H : Nat → Heap) (V : Nat → Value) (r : Nat → Nat) (RS RD : Nat → List Nat), E k = e ∧ H k = h ∧ RS k = rs ∧ RD k = rd ∧ K (E (k + l.length)) (H (k + l.length)) ∧
      ∀ i o, l[i]? = some o → FAt G P M ops lo o (k + i) (r (k + i)) (RS (k + i)) (RS (k + i + 1)) (RD (k + i)) (RD (k + i + 1)) (E (k + i)) (E (k + i + 1)) (H (k + i)) (H (k + i + 1)) (V (k + i))
  | [], k, rs, rd, e, h, K, hv => ⟨fun _ => e, fun _ => h, fun _ => undef, fun _ => 0, fun _ => rs, fun _ => rd, rfl, rfl, rfl, rfl, hv, fun i o hi => by simp at hi⟩
  | o :: os, k, rs, rd, e, h, K, hv => by
    obtain ⟨v, h', r0, rs', rd', s1, s2, s3, s4, s5, s8, s6, s7, hv⟩ := hv
    obtain ⟨E, H, V, r, RS, RD, h1, h2, h3, h4, h5, h6⟩ := FOps.trace os (k + 1) rs' rd' _ h' K hv
    refine ⟨fun j => if j = k then e else E j, fun j => if j = k then h else H j, fun j => if j = k then v else V j, fun j => if j = k then r0 else r j, fun j => if j = k then rs else RS j, fun j => if j = k then rd else RD j, by simp, by simp, by simp, by simp, ?_, ?_⟩
    · have : k + (os.length + 1) ≠ k := by omega
      simp only [List.length_cons, this, if_false]
      rw [show k + (os.length + 1) = k + 1 + os.length from by omega]
      exact h5
    · intro i o1 hi
      cases i with
      | zero =>
        simp only [List.getElem?_cons_zero, Option.some.injEq] at hi
        subst hi
        have : k + 1 ≠ k := by omega
        simp only [Nat.add_zero, this, if_false, if_true, h1, h2, h3, h4]
        exact ⟨rfl, s1, s2, s3, s4, s5, s8, s6, s7⟩
      | succ i =>
        simp only [List.getElem?_cons_succ] at hi
        have e1 : k + (i + 1) ≠ k := by omega
        have e2 : k + (i + 1) + 1 ≠ k := by omega
        have := h6 i o1 hi
        simp only [e1, e2, if_false]
        rw [show k + (i + 1) = k + 1 + i from by omega]
        exact this

theorem HWp.region_free {n : Nat} {id : Nat} {lo rs : List Nat} {bs : List Blk} {Q : Exit → Env → Heap → Prop} {e : Env} {h : Heap} (hm : P.follows .mixedOrders = true) (hok : freeT ops lo = true) (hB : ops.toList.all (operB G n) = true)
    (hrs : rs.Nodup ∧ ∀ x ∈ rs, h.length ≤ x ∧ x < (h ++ bs).length) (hh : FOps G P M ops lo 0 rs [] ops.toList e (h ++ bs) (fun e' h' => Q .normal e' h')) : HWp G P n M (.region id ops true) Q e h := by
  obtain ⟨E, H, V, r, RS, RD, h1, h2, h3, h4, h5, h6⟩ := FOps.trace ops.toList 0 rs [] e (h ++ bs) _ hh
  simp only [Nat.zero_add, Array.length_toList] at h5 h6
  have h6 : ∀ i o, ops[i]? = some o → FAt G P M ops lo o i (r i) (RS i) (RS (i + 1)) (RD i) (RD (i + 1)) (E i) (E (i + 1)) (H i) (H (i + 1)) (V i) := fun i o hi => h6 i o (by simpa using hi)
  have rdm : ∀ i j, i ≤ j → j ≤ ops.size → ∀ x ∈ RD i, x ∈ RD j := fun i j hij => by
    induction j with
    | zero => intro _ x hx; have : i = 0 := by omega
              subst this; exact hx
    | succ j ih =>
      intro hj x hx
      rcases Nat.lt_or_ge i (j + 1) with h | h
      · exact (h6 j ops[j] (Array.getElem?_eq_getElem (by omega))).sub x (ih (by omega) (by omega) x hx)
      · have : i = j + 1 := by omega
        subst this; exact hx
  have rss : ∀ i j, i ≤ j → j ≤ ops.size → RS j <:+ RS i := fun i j hij => by
    induction j with
    | zero => intro _; have : i = 0 := by omega
              subst this; exact List.suffix_rfl
    | succ j ih =>
      intro hj
      rcases Nat.lt_or_ge i (j + 1) with h | h
      · have hf := h6 j ops[j] (Array.getElem?_eq_getElem (by omega))
        refine List.IsSuffix.trans ?_ (ih (by omega) (by omega))
        cases ha : allocOp ops[j].op with
        | true => rw [hf.al ha]; exact List.suffix_cons _ _
        | false => rw [hf.no ha]; exact List.suffix_rfl
      · have : i = j + 1 := by omega
        subst this; exact List.suffix_rfl
  have rmem : ∀ i o, ops[i]? = some o → allocOp o.op = true → r i ∈ RS i := fun i o ho ha => by rw [(h6 i o ho).al ha]; simp
  have rne : ∀ i o j oj, ops[i]? = some o → ops[j]? = some oj → allocOp o.op = true → allocOp oj.op = true → i < j → r i ≠ r j := fun i o j oj ho hoj ha haj hij hr => by
    have hj := (Array.getElem?_eq_some_iff.1 hoj).1
    have hi := (Array.getElem?_eq_some_iff.1 ho).1
    have s1 := rss (i + 1) j hij (by omega)
    have m1 := s1.subset (rmem j oj hoj haj)
    have s2 := rss 0 i (Nat.zero_le _) (by omega)
    rw [h3] at s2
    have nd := hrs.1.sublist s2.sublist
    rw [(h6 i o ho).al ha, List.nodup_cons] at nd
    rw [← hr] at m1
    exact nd.1 m1
  have T : TraceF G P M ops h.length lo r E H V := by
    refine ⟨fun i o hi => (h6 i o hi).env, fun i o hi => (h6 i o hi).step, fun i o j oj ho hoj hij hlo hw hwj hq t x id off hop hxv => ?_, fun i o j oj ho hoj hji ha hq hwj => ?_, fun i o j oj ho hoj hij hlo ha hq hwj => ?_, fun i o j oj ho hoj ha haj hr => ?_, fun i o ho ha => ?_, fun i hi => (h6 i ops[i] (Array.getElem?_eq_getElem hi)).len⟩
    · have hj := (Array.getElem?_eq_some_iff.1 hoj).1
      have hi := (Array.getElem?_eq_some_iff.1 ho).1
      have m1 := (h6 i o ho).ld hlo.1 hw t x id off hop hxv
      exact keep_mem ((h6 j oj hoj).wr hq hwj) (List.mem_append_right _ (by rw [rdk, if_neg (by rw [hlo.2]; decide)]; exact rdm (i + 1) j hij (by omega) _ m1))
    · have hi := (Array.getElem?_eq_some_iff.1 ho).1
      exact keep_mem ((h6 j oj hoj).wr hq hwj) (List.mem_append_left _ ((rss j i (by omega) (by omega)).subset (rmem i o ho ha)))
    · have hj := (Array.getElem?_eq_some_iff.1 hoj).1
      exact keep_mem ((h6 j oj hoj).wr hq hwj) (List.mem_append_right _ (by rw [rdk, if_neg (by rw [hlo.2]; decide)]; exact rdm (i + 1) j hij (by omega) _ ((h6 i o ho).la hlo.1 ha)))
    · rcases Nat.lt_trichotomy i j with h | h | h
      · exact absurd hr (rne i o j oj ho hoj ha haj h)
      · exact h
      · exact absurd hr.symm (rne j oj i o hoj ho haj ha h)
    · have hi := (Array.getElem?_eq_some_iff.1 ho).1
      have := (rss 0 i (Nat.zero_le _) (by omega)).subset (rmem i o ho ha)
      rw [h3] at this
      rw [h2]
      exact hrs.2 _ this
  refine ⟨.normal, E ops.size, H ops.size, fun p a w hr er => ?_, h5⟩
  refine wp_region_any hm ?_
  have hr1 : HRel G p (h ++ bs) { w with drawn := w.drawn + 1 } := (show HRel G p (h ++ bs) w from hr.more).drew
  have ex1 : Ext M p p h (h ++ bs) w { w with drawn := w.drawn + 1 } := ⟨Phi.le_refl p, fun id t e e' => (by rw [e] at e'; cases e'), by simp, fun _ _ _ => rfl, Nat.le_refl _, rfl, rfl, rfl⟩
  refine wpAny_free T hok hB rfl (p0 := p) (h0 := h) (w0 := w) (fun q2 a2 w2 hr2 er2 ex2 => ⟨rfl, q2, hr2, er2, ex2⟩) _ _ e (h ++ bs) p a _ ⟨by simp, ?_, ?_, ⟨0, Nat.zero_le _, h2.symm, ?_⟩, ?_⟩ hr1 er ex1 ?_
  · intro i o _ hl
    simp [Array.getD_eq_getD_getElem?, Array.getElem?_replicate] at hl
    split at hl <;> simp at hl
  · intro t
    rw [← h1, ← hv_text T.envs (t := t) ops.size 0 (Nat.zero_le _) (Nat.le_refl _)]
    refine hv_congr _ fun k hk _ => ?_
    simp [Array.getD_eq_getD_getElem?, hk]
  · intro j oj hj _
    simp [Array.getD_eq_getD_getElem?, Array.getElem?_replicate]
    split <;> rfl
  · intro i o ho ha _
    have := (T.low i o ho ha).1
    cases hp : p (r i) with
    | none => rfl
    | some t => have := (hr.dom _ t hp).1; omega
  · simp
end
end Go.HH

namespace Go.HH
universe u

/-! What one operation asks, as a proposition to be reckoned. -/

def hget (h : Heap) (i : Nat) : Option Blk := h[i]?

def okOf (o : Option Unit) : Prop := o = some ()

/-- What simp is not to look into. -/
inductive Hold {α : Sort u} (k : α) : Type
  | mk : Hold k
abbrev hold {α : Sort u} (k : α) : Hold k := .mk

def onLoad (o : Option Nat) {A : Prop} {B : Nat → Prop} (_ : Hold A) (_ : Hold B) : Prop := match o with
  | none => A
  | some n => B n
def onKind (o : TypeDesc) {K : IntKind → Prop} (_ : Hold K) : Prop := match o with
  | .int k => K k
  | _ => False

def vCall (G : List (Nat × Nat)) (P : Program) (M : Nat → Prop) (f : FuncId) (args : List Value) (h : Heap) (K : Value → Heap → Prop) : Prop := ∃ r h', HRuns G P f args h M r h' ∧ K r h'

def tsize (P : Program) (t : TypeId) : Option Nat := (P.info? t).map (·.size)
/-- A type's zero value in cells, if no address stands in it. -/
def tz (P : Program) (t : TypeId) : Option (List Value) := match tzero P t with
  | some z => if z.all plainB = true then some z else none
  | none => none
theorem tz_spec {P : Program} {t : TypeId} {z : List Value} (h : tz P t = some z) : tzero P t = some z ∧ ∀ v ∈ z, plainB v = true := by
  unfold tz at h
  split at h
  · split at h
    · rename_i hz hp; cases h; exact ⟨hz, List.all_eq_true.1 hp⟩
    · cases h
  · cases h

def tbytes (P : Program) (t : TypeId) : Option Nat := (P.info? t).map (·.bytes)

/-! Eliminators: simp looks at what is taken apart and at nothing else. -/

def pickV (b : Bool) (u v : Value) : Value := if b then u else v
def bindV (v : Value) {K : Value → Prop} (_ : Hold K) : Prop := K v
def onPtr (v : Value) {K : Nat → Nat → Prop} (_ : Hold K) : Prop := match v with
  | .pointer (some ⟨id, off, none⟩) => K id off
  | _ => False
def onInt (v : Value) {K : IntKind → Int → Prop} (_ : Hold K) : Prop := match v with
  | .int k n => K k n
  | _ => False
def onBool (v : Value) {K : Bool → Prop} (_ : Hold K) : Prop := match v with
  | .bool b => K b
  | _ => False
def onSome {α : Type} (o : Option α) {K : α → Prop} (_ : Hold K) : Prop := match o with
  | some a => K a
  | none => False
def onTuple (v : Value) {K : Array Value → Prop} (_ : Hold K) : Prop := match v with
  | .tuple vs => K vs
  | _ => False
def onFunc (v : Value) {K : FuncId → Array Value → Array Value → Prop} (_ : Hold K) : Prop := match v with
  | .func (.func f) first captured => K f first captured
  | _ => False
/-- A slice (with its place), or a pointer, or a text. -/
def onSeq (v : Value) {K : Nat → Nat → Nat → Prop} {L : Nat → Nat → Prop} {S : ByteArray → Prop} (_ : Hold K) (_ : Hold L) (_ : Hold S) : Prop := match v with
  | .slice (some ⟨id, off, none⟩) len 0 => K id off len
  | .pointer (some ⟨id, off, none⟩) => L id off
  | .string s => S s
  | _ => False
/-- A slice that is empty, or one with its place, or a text. -/
def onSl (v : Value) {E : Option Addr → Prop} {K : Nat → Nat → Nat → Prop} {S : ByteArray → Prop} (_ : Hold E) (_ : Hold K) (_ : Hold S) : Prop := match v with
  | .slice oa 0 0 => E oa
  | .slice (some ⟨id, off, none⟩) (n + 1) 0 => K id off (n + 1)
  | .string s => S s
  | _ => False
def onLen (v : Value) {K : Nat → Prop} {S : ByteArray → Prop} (_ : Hold K) (_ : Hold S) : Prop := match v with
  | .slice _ len _ => K len
  | .string s => S s
  | _ => False
def onTwo (u v : Value) {B : Bool → Bool → Prop} {K : Value → Value → Prop} (_ : Hold B) (_ : Hold K) : Prop := match u, v with
  | .bool b, .bool c => B b c
  | u, v => K u v
def onApp (u v : Value) {Z : Prop} {N : Nat → Nat → Nat → Prop} {K : Nat → Nat → Nat → Nat → Nat → Nat → Prop} (_ : Hold Z) (_ : Hold N) (_ : Hold K) : Prop := match u, v with
  | .slice _ _ _, .slice _ 0 _ => Z
  | .slice none 0 0, .slice (some ⟨id2, off2, none⟩) n 0 => N id2 off2 n
  | .slice (some ⟨id, off, none⟩) len 0, .slice (some ⟨id2, off2, none⟩) n 0 => K id off len id2 off2 n
  | _, _ => False

/-- A number, a text, an empty slice or a slice with its place. -/
def onCv (v : Value) {K : IntKind → Int → Prop} {S : ByteArray → Prop} {E : Prop} {L : Nat → Nat → Nat → Prop} (_ : Hold K) (_ : Hold S) (_ : Hold E) (_ : Hold L) : Prop := match v with
  | .int k n => K k n
  | .string s => S s
  | .slice _ 0 0 => E
  | .slice (some ⟨id, off, none⟩) (n + 1) 0 => L id off (n + 1)
  | _ => False

def onPlaces (o : Option (List (Nat × Nat))) {A : List (Nat × Nat) → Prop} {B : Prop} (_ : Hold A) (_ : Hold B) : Prop := match o with
  | some pl => A pl
  | none => B
def onArr (v : Value) {A : Array Value → Prop} {B : Prop} (_ : Hold A) (_ : Hold B) : Prop := match v with
  | .agg cs => A cs
  | _ => B

def vBuiltin (P : Program) (M : Nat → Prop) (b : Builtin) (args : List Operand) (ats : List TypeId) (e : Env) (h : Heap) (K : Value → Heap → Prop) : Prop :=
  match b, args, ats with
  | .len, [x], [t] => onLen (Opd.val e x) (hold fun (len : Nat) => (telem P t).isSome = true ∧ K (.int .i64 len) h) (hold fun (s : ByteArray) => P.underlying t = some .string ∧ K (.int .i64 s.size) h)
  | .max, [x, y], _ => onInt (Opd.val e x) (hold fun (k : IntKind) (m : Int) => onInt (Opd.val e y) (hold fun (k' : IntKind) (n : Int) => k = k' ∧ K (.int k (if n > m then n else m)) h))
  | .max, [x, y, z], _ => onInt (Opd.val e x) (hold fun (k : IntKind) (m : Int) => onInt (Opd.val e y) (hold fun (k' : IntKind) (n : Int) => onInt (Opd.val e z) (hold fun (k2 : IntKind) (c : Int) => k = k' ∧ k = k2 ∧ K (.int k (if c > (if n > m then n else m) then c else (if n > m then n else m))) h)))
  | .min, [x, y], _ => onInt (Opd.val e x) (hold fun (k : IntKind) (m : Int) => onInt (Opd.val e y) (hold fun (k' : IntKind) (n : Int) => k = k' ∧ K (.int k (if n < m then n else m)) h))
  | .append, [s, x], [t, t2] => onApp (Opd.val e s) (Opd.val e x)
      (hold ((tapp P t).isSome = true ∧ (telem P t2).isSome = true ∧ bindV (Opd.val e s) (hold fun v => K v h)))
      (hold fun (id2 off2 n : Nat) => onSome (tapp P t) (hold fun sb => onSome (hget h id2) (hold fun k2 => t2 = t ∧ 0 < n ∧ k2.st ≠ .dead ∧ off2 + n * sb.1 ≤ k2.cells.length ∧ n ≤ 9223372036854775807 ∧ n * sb.2 ≤ 140737488355328 ∧
          K (.slice (some ⟨h.length, 0, none⟩) n 0) (h ++ [⟨(k2.cells.drop off2).take (n * sb.1), sb.1, .rw⟩]))))
      (hold fun (id off len id2 off2 n : Nat) => onSome (tapp P t) (hold fun sb => onSome (hget h id) (hold fun k => onSome (hget h id2) (hold fun k2 => t2 = t ∧ 0 < n ∧ M id ∧ k.st = .rw ∧ off + len * sb.1 = k.cells.length ∧ k.esz = sb.1 ∧ k2.st ≠ .dead ∧ off2 + n * sb.1 ≤ k2.cells.length ∧ ((k2.cells.drop off2).take (n * sb.1)).all oneC = true ∧
          len + n ≤ 9223372036854775807 ∧ (len + n) * sb.2 ≤ 140737488355328 ∧
          K (.slice (some ⟨h.length, 0, none⟩) (len + n) 0) (h.set id ⟨k.cells, k.esz, .dead⟩ ++ [⟨k.cells.drop off ++ (k2.cells.drop off2).take (n * sb.1), sb.1, .rw⟩])))))
  | _, _, _ => False

/-- The operations that only reckon. -/
def vOp (G : List (Nat × Nat)) (P : Program) (M : Nat → Prop) (op : Op) (e : Env) (h : Heap) (K : Value → Heap → Prop) : Prop :=
  match op with
  | .move x => bindV (Opd.val e x) (hold fun v => K v h)
  | .assign x => bindV (Opd.val e x) (hold fun v => K v h)
  | .pick c x y => onBool (Opd.val e c) (hold fun b => bindV (pickV b (Opd.val e x) (Opd.val e y)) (hold fun v => K v h))
  | .alloc t => onSome (tz P t) (hold fun z => K (.pointer (some ⟨h.length, 0, none⟩)) (h ++ [⟨z, P.cellsOf t, .rw⟩]))
  | .box t x => bindV (Opd.val e x) (hold fun v => K (.pointer (some ⟨h.length, 0, none⟩)) (h ++ [⟨v.cells.toList, P.cellsOf t, .rw⟩]))
  | .load t x => onPtr (Opd.val e x) (hold fun (id off : Nat) => onSome (hget h id) (hold fun k => k.st ≠ .dead ∧ onSome (tload P t) (hold fun tl => onLoad tl (hold (onSome (k.cells[off]?) (hold fun v => K v h))) (hold fun n => off + n ≤ k.cells.length ∧ bindV (.agg ((k.cells.drop off).take n).toArray) (hold fun v => K v h)))))
  | .store t x y => onPtr (Opd.val e x) (hold fun (id off : Nat) => onSome (hget h id) (hold fun k => bindV (Opd.val e y) (hold fun v => k.st = .rw ∧ M id ∧ tsize P t = some v.cells.size ∧ off + v.cells.size ≤ k.cells.length ∧ v.cells.toList.all oneC = true ∧
          K undef (h.set id ⟨setRange k.cells off v.cells.toList, k.esz, .rw⟩))))
  | .fieldAddr s x f => onPtr (Opd.val e x) (hold fun (id off : Nat) => onSome (tfield P s f) (hold fun d => bindV (.pointer (some ⟨id, off + d.1, none⟩)) (hold fun v => K v h)))
  | .indexAddr t x y => onSeq (Opd.val e x)
      (hold fun (id off len : Nat) => onInt (Opd.val e y) (hold fun (_ : IntKind) (n : Int) => onSome (telem P t) (hold fun te => 0 ≤ n ∧ n < len ∧ bindV (.pointer (some ⟨id, off + n.toNat * te.1, none⟩)) (hold fun v => K v h))))
      (hold fun (id off : Nat) => onInt (Opd.val e y) (hold fun (_ : IntKind) (n : Int) => onSome (tarr P t) (hold fun te => 0 ≤ n ∧ n < te.1 ∧ bindV (.pointer (some ⟨id, off + n.toNat * te.2.1, none⟩)) (hold fun v => K v h))))
      (hold fun _ => False)
  | .nilCheck x => onPtr (Opd.val e x) (hold fun (id off : Nat) => K (.pointer (some ⟨id, off, none⟩)) h)
  | .binOp .eql t x y _ => onTwo (Opd.val e x) (Opd.val e y) (hold fun b c => P.underlying t = some .bool ∧ K (.bool (b == c)) h) (hold fun u v => onSome (hEql P t u v) (hold fun r => K r h))
  | .binOp .neq t x y _ => onTwo (Opd.val e x) (Opd.val e y) (hold fun b c => P.underlying t = some .bool ∧ K (.bool (b != c)) h) (hold fun u v => onSome (hNeq P t u v) (hold fun r => K r h))
  | .binOp op _ x y _ => onTwo (Opd.val e x) (Opd.val e y) (hold fun _ _ => False) (hold fun u v => onSome (hBin op u v) (hold fun r => K r h))
  | .unOp op _ x => bindV (Opd.val e x) (hold fun v => onSome (hUn op v) (hold fun r => K r h))
  | .extract x i => onTuple (Opd.val e x) (hold fun vs => onSome (vs[i]?) (hold fun v => K v h))
  | .build t ps => onPlaces (tplaces P t) (hold fun pl => onSome (tz P t) (hold fun z => onSome (hFill (pl[·]?) z (ps.toList.map fun (i, x) => (i, Opd.val e x))) (hold fun out => bindV (.agg out.toArray) (hold fun v => K v h))))
      (hold (onSome (tarr P t) (hold fun te => onSome (tz P t) (hold fun z => onSome (hFill (fun i => some (i * te.2.1, te.2.1)) z (ps.toList.map fun (i, x) => (i, Opd.val e x))) (hold fun out => bindV (.agg out.toArray) (hold fun v => K v h))))))
  | .buildSlice t len ps => onSome (telem P t) (hold fun te => onSome (tz P te.2) (hold fun z => z.length = te.1 ∧ len * te.1 ≤ 2 ^ 24 ∧
      onSome (hFill (fun i => some (i * te.1, te.1)) ((List.range (len * te.1)).map fun i => z.getD (i % z.length) undef) (ps.toList.map fun (i, x) => (i, Opd.val e x))) (hold fun out =>
        out.length = len * te.1 ∧ K (.slice (some ⟨h.length, 0, none⟩) len 0) (h ++ [⟨out, te.1, .rw⟩]))))
  | .makeFunc fn first captured => bindV (.func fn (first.map (Opd.val e)) (captured.map (Opd.val e))) (hold fun v => K v h)
  | .makeSlice t x y => onInt (Opd.val e x) (hold fun (_ : IntKind) (n : Int) => onSome (telem P t) (hold fun te => onSome (tz P te.2) (hold fun z => onSome (tbytes P te.2) (hold fun (bt : Nat) => y = x ∧ z.length = te.1 ∧ 0 < te.1 ∧ 0 ≤ n ∧ n ≤ 9223372036854775807 ∧ (bt : Int) * n ≤ 281474976710656 ∧
            K (.slice (some ⟨h.length, 0, none⟩) n.toNat 0) (h ++ [⟨(List.range (n.toNat * te.1)).map fun i => z.getD (i % z.length) undef, te.1, .rw⟩])))))
  | .index t x y => onArr (Opd.val e x) (hold fun cs => onInt (Opd.val e y) (hold fun (_ : IntKind) (n : Int) => onSome (tarr P t) (hold fun te => te.2.1 = 1 ∧ tload P te.2.2 = some none ∧ 0 ≤ n ∧ n < te.1 ∧ onSome (cs[n.toNat]?) (hold fun v => K v h))))
      (hold (onSeq (Opd.val e x) (hold fun _ _ _ => False) (hold fun _ _ => False) (hold fun (s : ByteArray) => onInt (Opd.val e y) (hold fun (_ : IntKind) (n : Int) => P.underlying t = some .string ∧ 0 ≤ n ∧ onSome (s[n.toNat]?) (hold fun b => bindV (.int .u8 b.toNat) (hold fun v => K v h))))))
  | .convert s d x => onCv (Opd.val e x) (hold fun (_ : IntKind) (n : Int) => (P.underlying s).isSome = true ∧ onSome (P.underlying d) (hold fun td => onKind td (hold fun k' => K (.int k' (k'.wrap n)) h)))
      (hold fun str => M h.length ∧ P.underlying s = some .string ∧ onSome (telem P d) (hold fun te => P.underlying te.2 = some (.int .u8) ∧ K (.slice (some ⟨h.length, 0, none⟩) str.size 0) (h ++ [⟨bytesV str, 1, .rw⟩])))
      (hold (M h.length ∧ P.underlying d = some .string ∧ onSome (telem P s) (hold fun te => P.underlying te.2 = some (.int .u8) ∧ K (.string ⟨#[]⟩) h)))
      (hold fun (id off len : Nat) => M h.length ∧ P.underlying d = some .string ∧ onSome (telem P s) (hold fun te => P.underlying te.2 = some (.int .u8) ∧ onSome (hget h id) (hold fun k => k.st ≠ .dead ∧ off + len ≤ k.cells.length ∧ onSome (strOfV ((k.cells.drop off).take len)) (hold fun str => K (.string str) h))))
  | .slice t x lo hi none => onSl (Opd.val e x)
      (hold fun (oa : Option Addr) => (telem P t).isSome = true ∧ onSome (bnd e hi 0) (hold fun m => onSome (bnd e lo 0) (hold fun l => m = 0 ∧ l = 0 ∧ bindV (.slice oa 0 0) (hold fun v => K v h))))
      (hold fun (id off len : Nat) => onSome (telem P t) (hold fun te => onSome (hget h id) (hold fun k => onSome (bnd e hi len) (hold fun m => onSome (bnd e lo 0) (hold fun l => k.esz = te.1 ∧ m ≤ len ∧ l ≤ m ∧ bindV (.slice (some ⟨id, off + l * te.1, none⟩) (m - l) 0) (hold fun v => K v h))))))
      (hold fun (s : ByteArray) => onSome (bnd e hi s.size) (hold fun m => onSome (bnd e lo 0) (hold fun l => P.underlying t = some .string ∧ m ≤ s.size ∧ l ≤ m ∧ bindV (.string (s.extract l m)) (hold fun v => K v h))))
  | .call c => match c.callee with
    | .value f => onFunc (Opd.val e f) (hold fun fid first captured => callable P fid = true ∧ vCall G P M fid (first.toList ++ (c.args.toList.map (Opd.val e)) ++ captured.toList) h K)
    | .builtin b => vBuiltin P M b c.args.toList c.argTypes.toList e h K
    | _ => False
  | _ => False

section
variable {G : List (Nat × Nat)} {P : Program} {M : Nat → Prop} {e : Env} {h : Heap} {o : Oper} {K : Value → Heap → Prop}

theorem vBuiltin_sound {b : Builtin} {args : Array Operand} {ats : Array TypeId} {dst : Option Tmp} {ty : TypeId} {pos : String} {after : Array Edge} {guard : Option (Nat × Bool)} (hv : vBuiltin P M b args.toList ats.toList e h K) :
    ∃ v h', HStep G P { dst := dst, op := .call { callee := .builtin b, args := args, argTypes := ats }, type := ty, pos := pos, after := after, guard := guard } allT M e h v h' ∧ K v h' := by
  obtain ⟨args⟩ := args
  obtain ⟨ats⟩ := ats
  simp only at hv
  unfold vBuiltin at hv
  split at hv
  · unfold onLen at hv
    split at hv
    · rename_i hx; exact ⟨_, _, .lenSlice rfl hx hv.1, hv.2⟩
    · rename_i hx; exact ⟨_, _, .lenString rfl hx hv.1, hv.2⟩
    · exact hv.elim
  · unfold onInt at hv
    split at hv
    · rename_i hx
      split at hv
      · rename_i hy
        obtain ⟨rfl, hv⟩ := hv
        exact ⟨_, _, .max2 (t := 0) rfl hx hy rfl, hv⟩
      · exact hv.elim
    · exact hv.elim
  · unfold onInt at hv
    split at hv
    · rename_i hx
      split at hv
      · rename_i hy
        split at hv
        · rename_i hz
          obtain ⟨rfl, rfl, hv⟩ := hv
          exact ⟨_, _, .max3 rfl hx hy hz, hv⟩
        · exact hv.elim
      · exact hv.elim
    · exact hv.elim
  · unfold onInt at hv
    split at hv
    · rename_i hx
      split at hv
      · rename_i hy
        obtain ⟨rfl, hv⟩ := hv
        exact ⟨_, _, .min2 (t := 0) rfl hx hy rfl, hv⟩
      · exact hv.elim
    · exact hv.elim
  · unfold onApp at hv
    split at hv
    · rename_i hs hx
      obtain ⟨sb, hsb⟩ := Option.isSome_iff_exists.1 hv.1
      have h3 := hv.2.2
      rw [hs] at h3
      exact ⟨_, _, .append0 rfl hs hx hsb hv.2.1, h3⟩
    · rename_i hs hx
      unfold onSome at hv
      split at hv
      · rename_i sb ht
        split at hv
        · rename_i hk
          obtain ⟨rfl, h1, h2, h3, h4, h5, h6⟩ := hv
          exact ⟨_, _, .appendNil (sz := sb.1) (by8 := sb.2) rfl hs hx ht h1 trivial hk h2 h3 h4 h5, h6⟩
        · exact hv.elim
      · exact hv.elim
    · rename_i hs hx
      unfold onSome at hv
      split at hv
      · rename_i sb ht
        split at hv
        · rename_i hk
          split at hv
          · rename_i hk2
            obtain ⟨rfl, h1, h2, h3, h4, h5, h6, h7, h8, h9, h10, h11⟩ := hv
            exact ⟨_, _, .append (sz := sb.1) (by8 := sb.2) rfl hs hx ht h1 trivial h2 hk h3 h4 h5 trivial hk2 h6 h7 h8 h9 h10, h11⟩
          · exact hv.elim
        · exact hv.elim
      · exact hv.elim
    · exact hv.elim
  · exact hv.elim

theorem onSome.elim {α : Type} {o : Option α} {K : α → Prop} {b : Hold K} (hv : onSome o b) : ∃ a, o = some a ∧ K a := by
  unfold onSome at hv
  split at hv
  · exact ⟨_, rfl, hv⟩
  · exact hv.elim
theorem onPtr.elim {v : Value} {K : Nat → Nat → Prop} {b : Hold K} (hv : onPtr v b) : ∃ id off, v = .pointer (some ⟨id, off, none⟩) ∧ K id off := by
  unfold onPtr at hv
  split at hv
  · exact ⟨_, _, rfl, hv⟩
  · exact hv.elim
theorem onInt.elim {v : Value} {K : IntKind → Int → Prop} {b : Hold K} (hv : onInt v b) : ∃ k n, v = .int k n ∧ K k n := by
  unfold onInt at hv
  split at hv
  · exact ⟨_, _, rfl, hv⟩
  · exact hv.elim
theorem onBool.elim {v : Value} {K : Bool → Prop} {b : Hold K} (hv : onBool v b) : ∃ b, v = .bool b ∧ K b := by
  unfold onBool at hv
  split at hv
  · exact ⟨_, rfl, hv⟩
  · exact hv.elim
theorem onTuple.elim {v : Value} {K : Array Value → Prop} {b : Hold K} (hv : onTuple v b) : ∃ b, v = .tuple b ∧ K b := by
  unfold onTuple at hv
  split at hv
  · exact ⟨_, rfl, hv⟩
  · exact hv.elim
theorem onFunc.elim {v : Value} {K : FuncId → Array Value → Array Value → Prop} {b : Hold K} (hv : onFunc v b) : ∃ f a b, v = .func (.func f) a b ∧ K f a b := by
  unfold onFunc at hv
  split at hv
  · exact ⟨_, _, _, rfl, hv⟩
  · exact hv.elim

theorem vOp_sound (hv : vOp G P M o.op e h K) : ∃ v h', HStep G P o allT M e h v h' ∧ K v h' := by
  obtain ⟨dst, op, ty, pos, after, guard⟩ := o
  simp only at hv
  unfold vOp at hv
  split at hv
  · exact ⟨_, _, .move rfl, hv⟩
  · exact ⟨_, _, .assign rfl, hv⟩
  · obtain ⟨b, hc, hv⟩ := hv.elim
    exact ⟨_, _, .pick rfl hc, hv⟩
  · obtain ⟨z, hz, hv⟩ := hv.elim
    obtain ⟨hz, hzp⟩ := tz_spec hz
    exact ⟨_, _, .alloc rfl hz hzp, hv⟩
  · exact ⟨_, _, .box rfl, hv⟩
  · obtain ⟨id, off, hx, hv⟩ := hv.elim
    obtain ⟨k, hk, hd, hv⟩ := hv.elim
    obtain ⟨tl, ht, hv⟩ := hv.elim
    unfold onLoad at hv
    split at hv
    · obtain ⟨v, hvv, hv⟩ := hv.elim
      exact ⟨_, _, .load1 rfl hx ht hk hd hvv trivial, hv⟩
    · exact ⟨_, _, .loadN rfl hx ht hk hd hv.1 trivial, hv.2⟩
  · obtain ⟨id, off, hx, hv⟩ := hv.elim
    obtain ⟨k, hk, hv⟩ := hv.elim
    obtain ⟨h1, h2, h3, h4, h5, h6⟩ := hv
    exact ⟨_, _, .store rfl hx hk h1 h3 h4 h5 trivial h2, h6⟩
  · obtain ⟨id, off, hx, hv⟩ := hv.elim
    obtain ⟨d, hf, hv⟩ := hv.elim
    exact ⟨_, _, .fieldAddr (d := d.1) (ft := d.2) rfl hx hf, hv⟩
  · unfold onSeq at hv
    split at hv
    · rename_i hx
      obtain ⟨k, n, hy, hv⟩ := hv.elim
      obtain ⟨te, ht, hv⟩ := hv.elim
      exact ⟨_, _, .indexAddr (sz := te.1) (el := te.2) rfl hx hy ht hv.1 hv.2.1, hv.2.2⟩
    · rename_i hx
      obtain ⟨k, n, hy, hv⟩ := hv.elim
      obtain ⟨te, ht, hv⟩ := hv.elim
      exact ⟨_, _, .indexAddrArr (len := te.1) (sz := te.2.1) (el := te.2.2) rfl hx hy ht hv.1 hv.2.1, hv.2.2⟩
    · exact hv.elim
    · exact hv.elim
  · obtain ⟨id, off, hx, hv⟩ := hv.elim
    exact ⟨_, _, .nilCheck rfl hx, hv⟩
  · unfold onTwo at hv
    split at hv
    · rename_i hx hy
      exact ⟨_, _, .boolEq rfl hx hy hv.1, hv.2⟩
    · obtain ⟨r, hr, hv⟩ := hv.elim
      exact ⟨_, _, .hEql rfl hr, hv⟩
  · unfold onTwo at hv
    split at hv
    · rename_i hx hy
      exact ⟨_, _, .boolNe rfl hx hy hv.1, hv.2⟩
    · obtain ⟨r, hr, hv⟩ := hv.elim
      exact ⟨_, _, .hNeq rfl hr, hv⟩
  · unfold onTwo at hv
    split at hv
    · exact hv.elim
    · obtain ⟨r, hr, hv⟩ := hv.elim
      exact ⟨_, _, .bin rfl hr, hv⟩
  · unfold bindV at hv
    obtain ⟨r, hr, hv⟩ := hv.elim
    exact ⟨_, _, .un rfl hr, hv⟩
  · obtain ⟨vs, hx, hv⟩ := hv.elim
    obtain ⟨v, hr, hv⟩ := hv.elim
    exact ⟨_, _, .extract rfl hx hr, hv⟩
  · unfold onPlaces at hv
    split at hv
    · rename_i pl hpl
      obtain ⟨z, hz, hv⟩ := hv.elim
      obtain ⟨hz, hzp⟩ := tz_spec hz
      obtain ⟨out, hf, hv⟩ := hv.elim
      exact ⟨_, _, .build rfl hpl hz hzp (by simpa using hf), hv⟩
    · obtain ⟨te, hta, hv⟩ := hv.elim
      obtain ⟨z, hz, hv⟩ := hv.elim
      obtain ⟨hz, hzp⟩ := tz_spec hz
      obtain ⟨out, hf, hv⟩ := hv.elim
      exact ⟨_, _, .buildArr (len := te.1) (sz := te.2.1) (el := te.2.2) rfl hta hz hzp (by simpa using hf), hv⟩
  · obtain ⟨te, ht, hv⟩ := hv.elim
    obtain ⟨z, hz, h2, h3, hv⟩ := hv.elim
    obtain ⟨hz, hzp⟩ := tz_spec hz
    obtain ⟨out, hf, hv⟩ := hv.elim
    exact ⟨_, _, .buildSlice (sz := te.1) (el := te.2) rfl ht hz hzp h2 h3 (by simpa using hf) hv.1, hv.2⟩
  · exact ⟨_, _, .makeFunc rfl, hv⟩
  · obtain ⟨k, n, hx, hv⟩ := hv.elim
    obtain ⟨te, ht, hv⟩ := hv.elim
    obtain ⟨z, hz, hv⟩ := hv.elim
    obtain ⟨hz, hzp⟩ := tz_spec hz
    obtain ⟨bt, hb, hv⟩ := hv.elim
    obtain ⟨rfl, h2, h3, h4, h5, h6, h7⟩ := hv
    exact ⟨_, _, .makeSlice (sz := te.1) (el := te.2) rfl hx ht hz hzp h2 h3 hb h4 h5 h6, h7⟩
  · unfold onArr at hv
    split at hv
    · rename_i hx
      obtain ⟨k, n, hy, hv⟩ := hv.elim
      obtain ⟨te, ht, hv⟩ := hv.elim
      obtain ⟨h1, h2, h3, h4, hv⟩ := hv
      obtain ⟨len, sz, el⟩ := te
      simp only at h1 h2 h4
      subst h1
      obtain ⟨v, hv1, hv⟩ := hv.elim
      exact ⟨_, _, .indexArr rfl hx hy ht h2 h3 h4 hv1, hv⟩
    · unfold onSeq at hv
      split at hv
      · exact hv.elim
      · exact hv.elim
      · rename_i hx
        obtain ⟨k, n, hy, hv⟩ := hv.elim
        obtain ⟨h1, h2, hv⟩ := hv
        obtain ⟨b, hb, hv⟩ := hv.elim
        exact ⟨_, _, .indexString rfl hx hy h1 h2 hb, hv⟩
      · exact hv.elim
  · unfold onCv at hv
    split at hv
    · rename_i hx
      obtain ⟨h1, hv⟩ := hv
      obtain ⟨td, ht, hv⟩ := hv.elim
      unfold onKind at hv
      split at hv
      · exact ⟨_, _, .convInt rfl hx h1 ht, hv⟩
      · exact hv.elim
    · rename_i hx
      obtain ⟨_, hs, hv⟩ := hv
      obtain ⟨te, ht, he, hv⟩ := hv.elim
      exact ⟨_, _, .convSB rfl hx hs ht he, hv⟩
    · rename_i hx
      obtain ⟨_, hd, hv⟩ := hv
      obtain ⟨te, ht, he, hv⟩ := hv.elim
      exact ⟨_, _, .convBS0 rfl hx ht he hd, hv⟩
    · rename_i hx
      obtain ⟨_, hd, hv⟩ := hv
      obtain ⟨te, ht, he, hv⟩ := hv.elim
      obtain ⟨k, hk, h1, h2, hv⟩ := hv.elim
      obtain ⟨str, hs, hv⟩ := hv.elim
      exact ⟨_, _, .convBS rfl hx ht he hd (Nat.succ_pos _) trivial hk h1 h2 hs, hv⟩
    · exact hv.elim
  · unfold onSl at hv
    split at hv
    · rename_i hx
      obtain ⟨te, ht⟩ := Option.isSome_iff_exists.1 hv.1
      obtain ⟨m, hh, hv⟩ := hv.2.elim
      obtain ⟨l, hl, hv⟩ := hv.elim
      obtain ⟨rfl, rfl, hv⟩ := hv
      exact ⟨_, _, .sliceNone (sz := te.1) (el := te.2) rfl hx ht hh hl, hv⟩
    · rename_i hx
      obtain ⟨te, ht, hv⟩ := hv.elim
      obtain ⟨k, hk, hv⟩ := hv.elim
      obtain ⟨m, hh, hv⟩ := hv.elim
      obtain ⟨l, hl, hv⟩ := hv.elim
      exact ⟨_, _, .sliceSlice (sz := te.1) (el := te.2) rfl hx ht hk hv.1 hh hl hv.2.1 hv.2.2.1, hv.2.2.2⟩
    · rename_i hx
      obtain ⟨m, hh, hv⟩ := hv.elim
      obtain ⟨l, hl, hv⟩ := hv.elim
      exact ⟨_, _, .sliceString rfl hx hv.1 hh hl hv.2.1 hv.2.2.1, hv.2.2.2⟩
    · exact hv.elim
  · rename_i c
    obtain ⟨callee, args, ats⟩ := c
    simp only at hv
    split at hv
    · obtain ⟨fid, first, captured, hfv, hc, r, h', hr, hk⟩ := hv.elim
      exact ⟨r, h', .call rfl hfv hc (by simpa using hr), hk⟩
    · exact vBuiltin_sound hv
    · exact hv.elim
  · exact hv.elim


/-- An operation that looks at registers only is the same over every heap. -/
theorem vOp_reg (hr : reg o = true) (hv : vOp G P (fun _ => False) o.op e h K) : ∃ v, K v h ∧ ∀ (M : Nat → Prop) (h2 : Heap), HStep G P o allT M e h2 v h2 := by
  obtain ⟨dst, op, ty, pos, after, guard⟩ := o
  unfold reg regOp at hr
  simp only at hv hr
  unfold vOp at hv
  split at hv
  · exact ⟨_, hv, fun _ _ => .move rfl⟩
  · exact ⟨_, hv, fun _ _ => .assign rfl⟩
  · obtain ⟨b, hc, hv⟩ := hv.elim
    exact ⟨_, hv, fun _ _ => .pick rfl hc⟩
  · cases hr
  · cases hr
  · cases hr
  · cases hr
  · obtain ⟨id, off, hx, hv⟩ := hv.elim
    obtain ⟨d, hf, hv⟩ := hv.elim
    exact ⟨_, hv, fun _ _ => .fieldAddr (d := d.1) (ft := d.2) rfl hx hf⟩
  · unfold onSeq at hv
    split at hv
    · rename_i hx
      obtain ⟨k, n, hy, hv⟩ := hv.elim
      obtain ⟨te, ht, hv⟩ := hv.elim
      exact ⟨_, hv.2.2, fun _ _ => .indexAddr (sz := te.1) (el := te.2) rfl hx hy ht hv.1 hv.2.1⟩
    · rename_i hx
      obtain ⟨k, n, hy, hv⟩ := hv.elim
      obtain ⟨te, ht, hv⟩ := hv.elim
      exact ⟨_, hv.2.2, fun _ _ => .indexAddrArr (len := te.1) (sz := te.2.1) (el := te.2.2) rfl hx hy ht hv.1 hv.2.1⟩
    · exact hv.elim
    · exact hv.elim
  · obtain ⟨id, off, hx, hv⟩ := hv.elim
    exact ⟨_, hv, fun _ _ => .nilCheck rfl hx⟩
  · unfold onTwo at hv
    split at hv
    · rename_i hx hy
      exact ⟨_, hv.2, fun _ _ => .boolEq rfl hx hy hv.1⟩
    · obtain ⟨r, hr, hv⟩ := hv.elim
      exact ⟨_, hv, fun _ _ => .hEql rfl hr⟩
  · unfold onTwo at hv
    split at hv
    · rename_i hx hy
      exact ⟨_, hv.2, fun _ _ => .boolNe rfl hx hy hv.1⟩
    · obtain ⟨r, hr, hv⟩ := hv.elim
      exact ⟨_, hv, fun _ _ => .hNeq rfl hr⟩
  · unfold onTwo at hv
    split at hv
    · exact hv.elim
    · obtain ⟨r, hr, hv⟩ := hv.elim
      exact ⟨_, hv, fun _ _ => .bin rfl hr⟩
  · unfold bindV at hv
    obtain ⟨r, hr, hv⟩ := hv.elim
    exact ⟨_, hv, fun _ _ => .un rfl hr⟩
  · obtain ⟨vs, hx, hv⟩ := hv.elim
    obtain ⟨v, hr, hv⟩ := hv.elim
    exact ⟨_, hv, fun _ _ => .extract rfl hx hr⟩
  · unfold onPlaces at hv
    split at hv
    · rename_i pl hpl
      obtain ⟨z, hz, hv⟩ := hv.elim
      obtain ⟨hz, hzp⟩ := tz_spec hz
      obtain ⟨out, hf, hv⟩ := hv.elim
      exact ⟨_, hv, fun _ _ => .build rfl hpl hz hzp (by simpa using hf)⟩
    · obtain ⟨te, hta, hv⟩ := hv.elim
      obtain ⟨z, hz, hv⟩ := hv.elim
      obtain ⟨hz, hzp⟩ := tz_spec hz
      obtain ⟨out, hf, hv⟩ := hv.elim
      exact ⟨_, hv, fun _ _ => .buildArr (len := te.1) (sz := te.2.1) (el := te.2.2) rfl hta hz hzp (by simpa using hf)⟩
  · cases hr
  · exact ⟨_, hv, fun _ _ => .makeFunc rfl⟩
  · cases hr
  · unfold onArr at hv
    split at hv
    · rename_i hx
      obtain ⟨k, n, hy, hv⟩ := hv.elim
      obtain ⟨te, ht, hv⟩ := hv.elim
      obtain ⟨h1, h2, h3, h4, hv⟩ := hv
      obtain ⟨len, sz, el⟩ := te
      simp only at h1 h2 h4
      subst h1
      obtain ⟨v, hv1, hv⟩ := hv.elim
      exact ⟨_, hv, fun _ _ => .indexArr rfl hx hy ht h2 h3 h4 hv1⟩
    · unfold onSeq at hv
      split at hv
      · exact hv.elim
      · exact hv.elim
      · rename_i hx
        obtain ⟨k, n, hy, hv⟩ := hv.elim
        obtain ⟨h1, h2, hv⟩ := hv
        obtain ⟨b, hb, hv⟩ := hv.elim
        exact ⟨_, hv, fun _ _ => .indexString rfl hx hy h1 h2 hb⟩
      · exact hv.elim
  · unfold onCv at hv
    split at hv
    · rename_i hx
      obtain ⟨h1, hv⟩ := hv
      obtain ⟨td, ht, hv⟩ := hv.elim
      unfold onKind at hv
      split at hv
      · exact ⟨_, hv, fun _ _ => .convInt rfl hx h1 ht⟩
      · exact hv.elim
    · exact hv.1.elim
    · exact hv.1.elim
    · exact hv.1.elim
    · exact hv.elim
  · cases hr
  · rename_i c
    obtain ⟨callee, args, ats⟩ := c
    simp only at hv hr
    unfold lenC at hr
    split at hr
    · obtain ⟨args⟩ := args
      obtain ⟨ats⟩ := ats
      simp only at hv
      unfold vBuiltin at hv
      split at hv
      · unfold onLen at hv
        split at hv
        · rename_i hx; exact ⟨_, hv.2, fun _ _ => .lenSlice rfl hx hv.1⟩
        · rename_i hx; exact ⟨_, hv.2, fun _ _ => .lenString rfl hx hv.1⟩
        · exact hv.elim
      all_goals first | exact hv.elim | contradiction
    · cases hr
  · exact hv.elim

end
end Go.HH

namespace Go.HH

/-! The same for rows of operations and for code. -/

def vIf (b : Bool) {x y : Prop} (_ : Hold x) (_ : Hold y) : Prop := (b = true → x) ∧ (b = false → y)
theorem vIf.intro {b : Bool} {x y : Prop} {p : Hold x} {q : Hold y} (hx : b = true → x) (hy : b = false → y) : vIf b p q := ⟨hx, hy⟩
theorem vIf.elim {b : Bool} {x y : Prop} {p : Hold x} {q : Hold y} (h : vIf b p q) : if b then x else y := by cases b <;> simp_all [vIf]

def vOps (G : List (Nat × Nat)) (P : Program) (M : Nat → Prop) (x : Bool) (sl : List (Option Tmp)) : List Oper → Env → Heap → (Env → Heap → Prop) → Prop
  | [], e, h, K => K e h
  | o :: os, e, h, K => match o.guard with
    | none => vOp G P M o.op e h (fun v h' => (x = true → h <+: h') ∧ vOps G P M x (sl ++ [o.dst]) os (put e o.dst v) h' K)
    | some (g, want) => match sl[g]? with
      | some (some t) => match e t with
        | .bool b => vIf (b == want) (hold (vOp G P M o.op e h (fun v h' => (x = true → h <+: h') ∧ vOps G P M x (sl ++ [o.dst]) os (put e o.dst v) h' K))) (hold (vOps G P M x (sl ++ [o.dst]) os (put e o.dst undef) h K))
        | _ => vOps G P M x (sl ++ [o.dst]) os (put e o.dst undef) h K
      | _ => False

section
variable {G : List (Nat × Nat)} {P : Program} {n : Nat} {M : Nat → Prop} {ops : Array Oper}

theorem vOps_sound : ∀ (l : List Oper) (k : Nat) (sl : List (Option Tmp)) (e : Env) (h : Heap) (K : Env → Heap → Prop), (∀ j, l[j]? = ops[k + j]?) → sl.length = k → (∀ g, g < k → sl[g]? = (ops[g]?).map (·.dst)) →
    vOps G P M false sl l e h K → HOps G P n M ops l e h K
  | [], _, _, _, _, _, _, _, _, hv => hv
  | o :: os, k, sl, e, h, K, hl, hk, hs, hv => by
    have h0 : ops[k]? = some o := by simpa using (hl 0).symm
    have hl' : ∀ j, os[j]? = ops[k + 1 + j]? := fun j => by have := hl (j + 1); simpa [Nat.add_assoc, Nat.add_comm 1 j] using this
    have hk' : (sl ++ [o.dst]).length = k + 1 := by simp [hk]
    have hs' : ∀ g, g < k + 1 → (sl ++ [o.dst])[g]? = (ops[g]?).map (·.dst) := fun g hg => by
      rcases Nat.lt_or_ge g k with h1 | h1
      · rw [List.getElem?_append_left (by omega)]; exact hs g h1
      · have : g = k := by omega
        subst this
        rw [List.getElem?_append_right (by omega), hk, Nat.sub_self, h0]
        rfl
    have no : ∀ (_ : vOps G P M false (sl ++ [o.dst]) os (put e o.dst undef) h K), HOps G P n M ops os (put e o.dst undef) h K := vOps_sound os (k + 1) _ _ _ K hl' hk' hs'
    have go : ∀ (_ : vOp G P M o.op e h (fun v h' => (false = true → h <+: h') ∧ vOps G P M false (sl ++ [o.dst]) os (put e o.dst v) h' K)), ∃ v h', HStep G P o allT M e h v h' ∧ HOps G P n M ops os (put e o.dst v) h' K := fun hv => by
      obtain ⟨v, h', h1, _, h2⟩ := vOp_sound hv
      exact ⟨v, h', h1, vOps_sound os (k + 1) _ _ _ K hl' hk' hs' h2⟩
    unfold vOps at hv
    unfold HOps
    cases hg : o.guard with
    | none =>
      rw [hg] at hv
      have hw : wantedH ops o e = true := by unfold wantedH; rw [hg]
      rw [if_pos hw]
      exact go hv
    | some gw =>
      obtain ⟨g, want⟩ := gw
      rw [hg] at hv
      simp only at hv
      split at hv
      · rename_i t ht
        have hgk : g < k := by
          have := (List.getElem?_eq_some_iff.1 ht).1
          omega
        have hd : (ops[g]?).bind (·.dst) = some t := by
          have := hs g hgk
          rw [ht] at this
          cases hx : ops[g]? with
          | none => rw [hx] at this; cases this
          | some og => rw [hx] at this; simpa using this.symm
        have hw : wantedH ops o e = (match e t with | .bool b => b == want | _ => false) := by unfold wantedH; rw [hg]; simp only [hd]; cases e t <;> rfl
        split at hv
        · rename_i b hb
          have := hv.elim
          rw [hb] at hw
          simp only at hw
          rw [hw]
          split at this
          · rename_i hc; rw [if_pos hc]; exact go this
          · rename_i hc; rw [if_neg hc]; exact no this
        · rename_i hb
          have h2 : (match e t with | .bool b => b == want | _ => false) = false := by
            split
            · rename_i b hb'; exact absurd hb' (hb b)
            · rfl
          rw [hw, h2]
          simp only [Bool.false_eq_true, if_false]
          exact no hv
      · exact hv.elim

theorem vOpsX_sound : ∀ (l : List Oper) (k : Nat) (sl : List (Option Tmp)) (e : Env) (h : Heap) (K : Env → Heap → Prop), (∀ j, l[j]? = ops[k + j]?) → sl.length = k → (∀ g, g < k → sl[g]? = (ops[g]?).map (·.dst)) →
    vOps G P (fun _ => False) true sl l e h K → HOpsX G P ops l e h K
  | [], _, _, _, _, _, _, _, _, hv => hv
  | o :: os, k, sl, e, h, K, hl, hk, hs, hv => by
    have h0 : ops[k]? = some o := by simpa using (hl 0).symm
    have hl' : ∀ j, os[j]? = ops[k + 1 + j]? := fun j => by have := hl (j + 1); simpa [Nat.add_assoc, Nat.add_comm 1 j] using this
    have hk' : (sl ++ [o.dst]).length = k + 1 := by simp [hk]
    have hs' : ∀ g, g < k + 1 → (sl ++ [o.dst])[g]? = (ops[g]?).map (·.dst) := fun g hg => by
      rcases Nat.lt_or_ge g k with h1 | h1
      · rw [List.getElem?_append_left (by omega)]; exact hs g h1
      · have : g = k := by omega
        subst this
        rw [List.getElem?_append_right (by omega), hk, Nat.sub_self, h0]
        rfl
    have no : ∀ (_ : vOps G P (fun _ => False) true (sl ++ [o.dst]) os (put e o.dst undef) h K), HOpsX G P ops os (put e o.dst undef) h K := vOpsX_sound os (k + 1) _ _ _ K hl' hk' hs'
    have go : ∀ (_ : vOp G P (fun _ => False) o.op e h (fun v h' => (true = true → h <+: h') ∧ vOps G P (fun _ => False) true (sl ++ [o.dst]) os (put e o.dst v) h' K)), ∃ v h', HStep G P o allT (fun _ => False) e h v h' ∧ h <+: h' ∧ HOpsX G P ops os (put e o.dst v) h' K := fun hv => by
      obtain ⟨v, h', h1, h3, h2⟩ := vOp_sound hv
      exact ⟨v, h', h1, h3 rfl, vOpsX_sound os (k + 1) _ _ _ K hl' hk' hs' h2⟩
    unfold vOps at hv
    unfold HOpsX
    cases hg : o.guard with
    | none =>
      rw [hg] at hv
      have hw : wantedH ops o e = true := by unfold wantedH; rw [hg]
      rw [if_pos hw]
      exact go hv
    | some gw =>
      obtain ⟨g, want⟩ := gw
      rw [hg] at hv
      simp only at hv
      split at hv
      · rename_i t ht
        have hgk : g < k := by
          have := (List.getElem?_eq_some_iff.1 ht).1
          omega
        have hd : (ops[g]?).bind (·.dst) = some t := by
          have := hs g hgk
          rw [ht] at this
          cases hx : ops[g]? with
          | none => rw [hx] at this; cases this
          | some og => rw [hx] at this; simpa using this.symm
        have hw : wantedH ops o e = (match e t with | .bool b => b == want | _ => false) := by unfold wantedH; rw [hg]; simp only [hd]; cases e t <;> rfl
        split at hv
        · rename_i b hb
          have := hv.elim
          rw [hb] at hw
          simp only at hw
          rw [hw]
          split at this
          · rename_i hc; rw [if_pos hc]; exact go this
          · rename_i hc; rw [if_neg hc]; exact no this
        · rename_i hb
          have h2 : (match e t with | .bool b => b == want | _ => false) = false := by
            split
            · rename_i b hb'; exact absurd hb' (hb b)
            · rfl
          rw [hw, h2]
          simp only [Bool.false_eq_true, if_false]
          exact no hv
      · exact hv.elim

/-! Regions that draw: a head of quiet operations, then the others, one after the other. -/

def quiet (o : Oper) : Bool := quietOp o.op

def vOpsD (G : List (Nat × Nat)) (P : Program) (M : Nat → Prop) (sl : List (Option Tmp)) : List Oper → Env → Heap → (Env → Heap → Prop) → Prop
  | [], e, h, K => K e h
  | o :: os, e, h, K => if quietOp o.op = true then
      (match o.guard with
      | none => vOp G P (fun _ => False) o.op e h (fun v h' => h <+: h' ∧ vOpsD G P M (sl ++ [o.dst]) os (put e o.dst v) h' K)
      | some (g, want) => match sl[g]? with
        | some (some t) => match e t with
          | .bool b => vIf (b == want) (hold (vOp G P (fun _ => False) o.op e h (fun v h' => h <+: h' ∧ vOpsD G P M (sl ++ [o.dst]) os (put e o.dst v) h' K))) (hold (vOpsD G P M (sl ++ [o.dst]) os (put e o.dst undef) h K))
          | _ => vOpsD G P M (sl ++ [o.dst]) os (put e o.dst undef) h K
        | _ => False)
    else (match o.guard with
      | none => vOp G P M o.op e h (fun v h' => vOpsD G P M (sl ++ [o.dst]) os (put e o.dst v) h' K)
      | some (g, want) => match sl[g]? with
        | some (some t) => match e t with
          | .bool b => vIf (b == want) (hold (vOp G P M o.op e h (fun v h' => vOpsD G P M (sl ++ [o.dst]) os (put e o.dst v) h' K))) (hold (vOpsD G P M (sl ++ [o.dst]) os (put e o.dst undef) h K))
          | _ => vOpsD G P M (sl ++ [o.dst]) os (put e o.dst undef) h K
        | _ => False)

theorem HStep.more {o : Oper} {T : Nat → Prop} {e : Env} {h h' : Heap} {v : Value} (hs : HStep G P o T (fun _ => False) e h v h') : HStep G P o T M e h v h' :=
  fun p a w hr ho next Q hn => hs p a w hr ho next Q fun q v' w' h1 h2 h3 => hn q v' w' h1 h2 (h3.weaken (fun id t e => (hr.dom id t e).1) (fun _ _ f => f.elim))

theorem vOp_kill {op : Op} {e : Env} {h : Heap} {K : Value → Heap → Prop} (hk : killOp op = true) (hv : vOp G P M op e h K) : vOp G P M op e h (fun v h' => Sub h h' ∧ K v h') := by
  unfold killOp at hk
  split at hk
  · rename_i c
    split at hk
    · rename_i hc
      unfold vOp at hv ⊢
      simp only [hc] at hv ⊢
      unfold vBuiltin at hv ⊢
      split at hv
      · contradiction
      · contradiction
      · contradiction
      · contradiction
      · unfold onApp at hv ⊢
        split at hv
        · exact ⟨hv.1, hv.2.1, Sub.refl _, hv.2.2⟩
        · unfold onSome at hv ⊢
          split at hv
          · split at hv
            · obtain ⟨h1, h2, h3, h4, h5, h6, h7⟩ := hv
              exact ⟨h1, h2, h3, h4, h5, h6, Sub.pre (List.prefix_append _ _), h7⟩
            · exact hv.elim
          · exact hv.elim
        · unfold onSome at hv ⊢
          split at hv
          · split at hv
            · rename_i hk1
              split at hv
              · obtain ⟨h1, h2, h3, h4, h5, h6, h7, h8, h9, h10, h11, h12⟩ := hv
                exact ⟨h1, h2, h3, h4, h5, h6, h7, h8, h9, h10, h11, Sub.kill hk1, h12⟩
              · exact hv.elim
            · exact hv.elim
          · exact hv.elim
        · exact hv.elim
      · exact hv.elim
    · cases hk
  · cases hk

/-- One operation of such a row. -/
theorem vOpsD_step {o : Oper} {os : List Oper} {sl : List (Option Tmp)} {e : Env} {h : Heap} {K : Env → Heap → Prop} {k : Nat} (h0 : ops[k]? = some o) (hk : sl.length = k) (hs : ∀ g, g < k → sl[g]? = (ops[g]?).map (·.dst))
    (hv : vOpsD G P M sl (o :: os) e h K) : (wantedH ops o e = false ∧ vOpsD G P M (sl ++ [o.dst]) os (put e o.dst undef) h K) ∨
      (wantedH ops o e = true ∧ ((quietOp o.op = true ∧ vOp G P (fun _ => False) o.op e h (fun v h' => h <+: h' ∧ vOpsD G P M (sl ++ [o.dst]) os (put e o.dst v) h' K)) ∨
        (quietOp o.op = false ∧ vOp G P M o.op e h (fun v h' => vOpsD G P M (sl ++ [o.dst]) os (put e o.dst v) h' K)))) := by
  unfold vOpsD at hv
  by_cases hq : quietOp o.op = true
  · rw [if_pos hq] at hv
    cases hg : o.guard with
    | none =>
      rw [hg] at hv
      exact .inr ⟨by unfold wantedH; rw [hg], .inl ⟨hq, hv⟩⟩
    | some gw =>
      obtain ⟨g, want⟩ := gw
      rw [hg] at hv
      simp only at hv
      split at hv
      · rename_i t ht
        have hgk : g < k := by
          have := (List.getElem?_eq_some_iff.1 ht).1
          omega
        have hd : (ops[g]?).bind (·.dst) = some t := by
          have := hs g hgk
          rw [ht] at this
          cases hx : ops[g]? with
          | none => rw [hx] at this; cases this
          | some og => rw [hx] at this; simpa using this.symm
        have hw : wantedH ops o e = (match e t with | .bool b => b == want | _ => false) := by unfold wantedH; rw [hg]; simp only [hd]; cases e t <;> rfl
        split at hv
        · rename_i b hb
          have := hv.elim
          rw [hb] at hw
          simp only at hw
          split at this
          · rename_i hc; exact .inr ⟨hw.trans hc, .inl ⟨hq, this⟩⟩
          · rename_i hc; exact .inl ⟨by rw [hw]; simpa using hc, this⟩
        · rename_i hb
          have h2 : (match e t with | .bool b => b == want | _ => false) = false := by
            split
            · rename_i b hb'; exact absurd hb' (hb b)
            · rfl
          exact .inl ⟨hw.trans h2, hv⟩
      · exact hv.elim
  · have hq' : quietOp o.op = false := by simpa using hq
    rw [if_neg hq] at hv
    cases hg : o.guard with
    | none =>
      rw [hg] at hv
      exact .inr ⟨by unfold wantedH; rw [hg], .inr ⟨hq', hv⟩⟩
    | some gw =>
      obtain ⟨g, want⟩ := gw
      rw [hg] at hv
      simp only at hv
      split at hv
      · rename_i t ht
        have hgk : g < k := by
          have := (List.getElem?_eq_some_iff.1 ht).1
          omega
        have hd : (ops[g]?).bind (·.dst) = some t := by
          have := hs g hgk
          rw [ht] at this
          cases hx : ops[g]? with
          | none => rw [hx] at this; cases this
          | some og => rw [hx] at this; simpa using this.symm
        have hw : wantedH ops o e = (match e t with | .bool b => b == want | _ => false) := by unfold wantedH; rw [hg]; simp only [hd]; cases e t <;> rfl
        split at hv
        · rename_i b hb
          have := hv.elim
          rw [hb] at hw
          simp only at hw
          split at this
          · rename_i hc; exact .inr ⟨hw.trans hc, .inr ⟨hq', this⟩⟩
          · rename_i hc; exact .inl ⟨by rw [hw]; simpa using hc, this⟩
        · rename_i hb
          have h2 : (match e t with | .bool b => b == want | _ => false) = false := by
            split
            · rename_i b hb'; exact absurd hb' (hb b)
            · rfl
          exact .inl ⟨hw.trans h2, hv⟩
      · exact hv.elim

theorem vOpsD_hops : ∀ (l : List Oper) (k : Nat) (sl : List (Option Tmp)) (e : Env) (h : Heap) (K : Env → Heap → Prop), (∀ j, l[j]? = ops[k + j]?) → sl.length = k → (∀ g, g < k → sl[g]? = (ops[g]?).map (·.dst)) →
    vOpsD G P M sl l e h K → HOps G P n M ops l e h K
  | [], _, _, _, _, _, _, _, _, hv => hv
  | o :: os, k, sl, e, h, K, hl, hk, hs, hv => by
    have h0 : ops[k]? = some o := by simpa using (hl 0).symm
    have hl' : ∀ j, os[j]? = ops[k + 1 + j]? := fun j => by have := hl (j + 1); simpa [Nat.add_assoc, Nat.add_comm 1 j] using this
    have hk' : (sl ++ [o.dst]).length = k + 1 := by simp [hk]
    have hs' : ∀ g, g < k + 1 → (sl ++ [o.dst])[g]? = (ops[g]?).map (·.dst) := fun g hg => by
      rcases Nat.lt_or_ge g k with h1 | h1
      · rw [List.getElem?_append_left (by omega)]; exact hs g h1
      · have : g = k := by omega
        subst this
        rw [List.getElem?_append_right (by omega), hk, Nat.sub_self, h0]
        rfl
    unfold HOps
    rcases vOpsD_step h0 hk hs hv with ⟨hw, hv⟩ | ⟨hw, ⟨_, hv⟩ | ⟨_, hv⟩⟩
    · rw [if_neg (by simp [hw])]
      exact vOpsD_hops os (k + 1) _ _ _ K hl' hk' hs' hv
    · rw [if_pos hw]
      obtain ⟨v, h', h1, _, h2⟩ := vOp_sound hv
      exact ⟨v, h', h1.more, vOpsD_hops os (k + 1) _ _ _ K hl' hk' hs' h2⟩
    · rw [if_pos hw]
      obtain ⟨v, h', h1, h2⟩ := vOp_sound hv
      exact ⟨v, h', h1, vOpsD_hops os (k + 1) _ _ _ K hl' hk' hs' h2⟩

theorem vOpsD_sound : ∀ (l : List Oper) (k : Nat) (sl : List (Option Tmp)) (e : Env) (h : Heap) (K : Env → Heap → Prop), (∀ j, l[j]? = ops[k + j]?) → sl.length = k → (∀ g, g < k → sl[g]? = (ops[g]?).map (·.dst)) →
    vOpsD G P M sl l e h K → HOpsX G P ops (l.takeWhile quiet) e h (fun e1 h1 => HOps G P n M ops (l.dropWhile quiet) e1 h1 K)
  | [], _, _, _, _, _, _, _, _, hv => hv
  | o :: os, k, sl, e, h, K, hl, hk, hs, hv => by
    have h0 : ops[k]? = some o := by simpa using (hl 0).symm
    have hl' : ∀ j, os[j]? = ops[k + 1 + j]? := fun j => by have := hl (j + 1); simpa [Nat.add_assoc, Nat.add_comm 1 j] using this
    have hk' : (sl ++ [o.dst]).length = k + 1 := by simp [hk]
    have hs' : ∀ g, g < k + 1 → (sl ++ [o.dst])[g]? = (ops[g]?).map (·.dst) := fun g hg => by
      rcases Nat.lt_or_ge g k with h1 | h1
      · rw [List.getElem?_append_left (by omega)]; exact hs g h1
      · have : g = k := by omega
        subst this
        rw [List.getElem?_append_right (by omega), hk, Nat.sub_self, h0]
        rfl
    by_cases hq : quietOp o.op = true
    · rw [List.takeWhile_cons_of_pos (show quiet o = true from hq), List.dropWhile_cons_of_pos (show quiet o = true from hq)]
      unfold HOpsX
      rcases vOpsD_step h0 hk hs hv with ⟨hw, hv⟩ | ⟨hw, ⟨_, hv⟩ | ⟨hq', _⟩⟩
      · rw [if_neg (by simp [hw])]
        exact vOpsD_sound os (k + 1) _ _ _ K hl' hk' hs' hv
      · rw [if_pos hw]
        obtain ⟨v, h', h1, h3, h2⟩ := vOp_sound hv
        exact ⟨v, h', h1, h3, vOpsD_sound os (k + 1) _ _ _ K hl' hk' hs' h2⟩
      · rw [hq] at hq'; cases hq'
    · rw [List.takeWhile_cons_of_neg (show ¬ quiet o = true from hq), List.dropWhile_cons_of_neg (show ¬ quiet o = true from hq)]
      exact vOpsD_hops (o :: os) k sl e h K hl hk hs hv

theorem kill_quiet {o : Oper} (h : quiet o = true) : kill o = false := by
  cases hk : kill o with
  | false => rfl
  | true =>
    unfold kill killOp at hk
    split at hk
    · rename_i c hop
      split at hk
      · rename_i hc
        unfold quiet quietOp at h
        rw [hop] at h
        simp only [hc] at h
        cases h
      · cases hk
    · cases hk

theorem vOpsD_kill : ∀ (l : List Oper) (k : Nat) (sl : List (Option Tmp)) (e : Env) (h : Heap) (K : Env → Heap → Prop), (∀ j, l[j]? = ops[k + j]?) → sl.length = k → (∀ g, g < k → sl[g]? = (ops[g]?).map (·.dst)) →
    (∀ o ∈ l, quiet o = true ∨ kill o = true) → vOpsD G P M sl l e h K → HOpsK G P M ops l e h K
  | [], _, _, _, _, _, _, _, _, _, hv => hv
  | o :: os, k, sl, e, h, K, hl, hk, hs, hall, hv => by
    have h0 : ops[k]? = some o := by simpa using (hl 0).symm
    have hl' : ∀ j, os[j]? = ops[k + 1 + j]? := fun j => by have := hl (j + 1); simpa [Nat.add_assoc, Nat.add_comm 1 j] using this
    have hk' : (sl ++ [o.dst]).length = k + 1 := by simp [hk]
    have hs' : ∀ g, g < k + 1 → (sl ++ [o.dst])[g]? = (ops[g]?).map (·.dst) := fun g hg => by
      rcases Nat.lt_or_ge g k with h1 | h1
      · rw [List.getElem?_append_left (by omega)]; exact hs g h1
      · have : g = k := by omega
        subst this
        rw [List.getElem?_append_right (by omega), hk, Nat.sub_self, h0]
        rfl
    have hall' : ∀ o ∈ os, quiet o = true ∨ kill o = true := fun o ho => hall o (by simp [ho])
    unfold HOpsK
    rcases vOpsD_step h0 hk hs hv with ⟨hw, hv⟩ | ⟨hw, ⟨hq, hv⟩ | ⟨hq, hv⟩⟩
    · rw [if_neg (by simp [hw])]
      exact vOpsD_kill os (k + 1) _ _ _ K hl' hk' hs' hall' hv
    · rw [if_pos hw]
      obtain ⟨v, h', h1, h3, h2⟩ := vOp_sound hv
      exact ⟨v, h', Sub.pre h3, .inl ⟨kill_quiet hq, h1, h3⟩, vOpsD_kill os (k + 1) _ _ _ K hl' hk' hs' hall' h2⟩
    · rw [if_pos hw]
      have hk2 : kill o = true := by
        rcases hall o (by simp) with h1 | h1
        · rw [show quiet o = false from hq] at h1; cases h1
        · exact h1
      obtain ⟨v, h', h1, h3, h2⟩ := vOp_sound (vOp_kill hk2 hv)
      exact ⟨v, h', h3, .inr ⟨hk2, h1⟩, vOpsD_kill os (k + 1) _ _ _ K hl' hk' hs' hall' h2⟩

theorem quiet_reg {o : Oper} (hr : reg o = true) : quietOp o.op = true := by
  unfold reg regOp at hr
  unfold quietOp
  revert hr
  cases o.op with
  | call c =>
    obtain ⟨callee, x, y⟩ := c
    cases callee with
    | builtin b => cases b <;> simp [lenC]
    | _ => simp [lenC]
  | _ => simp

theorem vOpsD_mix {m : Nat} (hqk : ∀ i o, i < m → ops[i]? = some o → quiet o = true ∨ kill o = true) : ∀ (l : List Oper) (k : Nat) (sl : List (Option Tmp)) (e : Env) (h : Heap) (K : Env → Heap → Prop), (∀ j, l[j]? = ops[k + j]?) → sl.length = k → (∀ g, g < k → sl[g]? = (ops[g]?).map (·.dst)) →
    vOpsD G P M sl l e h K → HOpsP (Rmix G P M ops m) k l e h K
  | [], _, _, _, _, _, _, _, _, hv => hv
  | o :: os, k, sl, e, h, K, hl, hk, hs, hv => by
    have h0 : ops[k]? = some o := by simpa using (hl 0).symm
    have hl' : ∀ j, os[j]? = ops[k + 1 + j]? := fun j => by have := hl (j + 1); simpa [Nat.add_assoc, Nat.add_comm 1 j] using this
    have hk' : (sl ++ [o.dst]).length = k + 1 := by simp [hk]
    have hs' : ∀ g, g < k + 1 → (sl ++ [o.dst])[g]? = (ops[g]?).map (·.dst) := fun g hg => by
      rcases Nat.lt_or_ge g k with h1 | h1
      · rw [List.getElem?_append_left (by omega)]; exact hs g h1
      · have : g = k := by omega
        subst this
        rw [List.getElem?_append_right (by omega), hk, Nat.sub_self, h0]
        rfl
    unfold HOpsP
    rcases vOpsD_step h0 hk hs hv with ⟨hw, hv⟩ | ⟨hw, ⟨hq, hv⟩ | ⟨hq, hv⟩⟩
    · exact ⟨undef, h, ⟨fun _ => .inr ⟨hw, rfl, rfl⟩, fun _ => .inr ⟨hw, rfl, rfl⟩⟩, vOpsD_mix hqk os (k + 1) _ _ _ K hl' hk' hs' hv⟩
    · by_cases hr : reg o = true
      · obtain ⟨v, ⟨h3, h2⟩, h1⟩ := vOp_reg hr hv
        exact ⟨v, h, ⟨fun _ => .inl ⟨hw, Sub.refl _, .inl ⟨kill_quiet hq, h1 _ _, h3⟩⟩, fun _ => .inl ⟨hw, .inl ⟨hr, rfl, fun h2 => h1 _ h2⟩⟩⟩, vOpsD_mix hqk os (k + 1) _ _ _ K hl' hk' hs' h2⟩
      · obtain ⟨v, h', h1, h3, h2⟩ := vOp_sound hv
        exact ⟨v, h', ⟨fun _ => .inl ⟨hw, Sub.pre h3, .inl ⟨kill_quiet hq, h1, h3⟩⟩, fun _ => .inl ⟨hw, .inr ⟨by simpa using hr, h1.more⟩⟩⟩, vOpsD_mix hqk os (k + 1) _ _ _ K hl' hk' hs' h2⟩
    · by_cases hkm : k < m
      · have hk2 : kill o = true := by
          rcases hqk k o hkm h0 with h1 | h1
          · rw [show quiet o = false from hq] at h1; cases h1
          · exact h1
        obtain ⟨v, h', h1, h3, h2⟩ := vOp_sound (vOp_kill hk2 hv)
        exact ⟨v, h', ⟨fun _ => .inl ⟨hw, h3, .inr ⟨hk2, h1⟩⟩, fun hh => absurd hkm (by omega)⟩, vOpsD_mix hqk os (k + 1) _ _ _ K hl' hk' hs' h2⟩
      · obtain ⟨v, h', h1, h2⟩ := vOp_sound hv
        have hr : reg o = false := by
          cases hr : reg o with
          | false => rfl
          | true => rw [quiet_reg hr] at hq; cases hq
        exact ⟨v, h', ⟨fun hh => absurd hh hkm, fun _ => .inl ⟨hw, .inr ⟨hr, h1⟩⟩⟩, vOpsD_mix hqk os (k + 1) _ _ _ K hl' hk' hs' h2⟩

/-! Regions whose loads and fresh variables are free. -/

def idOf : Value → Nat
  | .pointer (some a) => a.block
  | _ => 0

/-- The block of a fresh variable or of a row of numbers. -/
def freshO (P : Program) : Op → Option Blk
  | .alloc t => (tz P t).map fun z => ⟨z, P.cellsOf t, .rw⟩
  | .buildSlice t len ps => (telem P t).bind fun te => (tz P te.2).bind fun z => if z.length = te.1 ∧ len * te.1 ≤ 2 ^ 24 then
      (hFill (fun i => some (i * te.1, te.1)) ((List.range (len * te.1)).map fun i => z.getD (i % z.length) undef) (ps.toList.map fun x => (x.1, (constX x.2).getD undef))).bind fun out =>
        if out.length = len * te.1 then some ⟨out, te.1, .rw⟩ else none else none
  | _ => none
def freshV (op : Op) (r : Nat) : Value := match op with
  | .alloc _ => .pointer (some ⟨r, 0, none⟩)
  | .buildSlice _ len _ => .slice (some ⟨r, 0, none⟩) len 0
  | _ => undef

theorem constL_ev {ps : Array (Nat × Operand)} (hc : constL ps.toList = true) {ev : Operand → Value} (he : ∀ c, ev (.const c) = c) : (ps.map fun (i, x) => (i, ev x)).toList = ps.toList.map fun x => (x.1, (constX x.2).getD undef) := by
  simp only [Array.toList_map]
  refine List.map_congr_left fun x hx => ?_
  have := List.all_eq_true.1 hc x hx
  obtain ⟨i, o⟩ := x
  cases o with
  | const v => cases v <;> simp [constX] at this ⊢; exact he _
  | _ => simp [constX] at this

theorem freshAt {o : Oper} {b : Blk} (r : Nat) (ha : allocOp o.op = true) (hb : freshO P o.op = some b) : b.st = .rw ∧ FreshAt P o b.cells b.esz r (freshV o.op r) := by
  unfold allocOp at ha
  split at ha
  · rename_i t hop
    rw [hop] at hb
    simp only [freshO, Option.map_eq_some_iff] at hb
    obtain ⟨z, hz0, rfl⟩ := hb
    refine ⟨rfl, fun ev he w => ?_⟩
    obtain ⟨hz, hzp⟩ := tz_spec hz0
    unfold tzero at hz
    cases hinf : P.info? t with
    | none => rw [hinf] at hz; simp at hz
    | some inf =>
      rw [hinf] at hz
      simp only [Option.bind_some, Option.map_eq_some_iff] at hz
      obtain ⟨zv, hz1, rfl⟩ := hz
      refine ⟨.pointer (some ⟨w.heap.size, 0, none⟩), zv.cells, t, ?_, fun p => ⟨rfl, fun j u hu => ⟨u, hu, (plainB_spec (hzp u (List.mem_of_getElem? hu))).rel⟩⟩, fun q hq => ?_⟩
      · unfold execOp
        rw [hop]
        simp [Instr.alloc, zeroValue, typeInfo, hinf, hz1, newVar, newRow, newObj, Sem.run]
      · rw [hop]
        exact VRel.ptr (t := ⟨w.heap.size, 0, _, _⟩) hq
  · rename_i t len ps hop
    rw [hop] at hb
    simp only [freshO, Option.bind_eq_some_iff] at hb
    obtain ⟨te, ht, z, hz0, hb⟩ := hb
    split at hb
    · rename_i hcond
      obtain ⟨hzs, hlen⟩ := hcond
      rw [Option.bind_eq_some_iff] at hb
      obtain ⟨out, hf, hb⟩ := hb
      split at hb
      · rename_i hol
        cases hb
        refine ⟨rfl, fun ev he w => ?_⟩
        obtain ⟨hz, hzp⟩ := tz_spec hz0
        obtain ⟨sz, el⟩ := te
        simp only [Bool.and_eq_true] at ha
        simp only at hzs hlen hf hol hz ⊢
        unfold telem at ht
        split at ht
        · rename_i el2 hu
          rw [Option.map_eq_some_iff] at ht
          obtain ⟨i, hi, hs⟩ := ht
          simp only [Prod.mk.injEq] at hs
          obtain ⟨rfl, rfl⟩ := hs
          unfold tzero at hz
          rw [hi] at hz
          simp only [Option.bind_some, Option.map_eq_some_iff] at hz
          obtain ⟨zv, hz1, rfl⟩ := hz
          have hfill : ∀ p : Phi, ∃ out' : Array Value, Instr.fill (fun j => some (j * i.size, i.size)) ((Array.range (len * i.size)).map (zv.cells[· % zv.cells.size]!)) ((ps.map fun (i, x) => (i, ev x)).toList) = some out' ∧ LRel p out out'.toList := fun p => by
            rw [constL_ev ha.2 he]
            refine fill_rel (p := p) (fun j => some (j * i.size, i.size)) _ _ _ ((Array.range (len * i.size)).map (zv.cells[· % zv.cells.size]!)) out (zeros_rel (k := i.size) hzp (by simpa using hzs) (fun m hm => by rcases Nat.eq_zero_or_pos i.size with z | z; (rw [z] at hm; simp at hm); exact z)) rfl (fun k x hx => ⟨x, hx, rfl, ?_⟩) hf
            obtain ⟨y, hy, rfl⟩ := List.mem_map.1 (List.mem_of_getElem? hx)
            have := List.all_eq_true.1 ha.2 y hy
            obtain ⟨q, o⟩ := y
            cases o with
            | const v => cases v <;> simp [constX] at this ⊢; exact VRel.int _ _
            | _ => simp [constX] at this
          obtain ⟨out', f1, f2⟩ := hfill (fun _ => none)
          refine ⟨.slice (some ⟨w.heap.size, 0, none⟩) len len, out', el2, ?_, fun p => ?_, fun q hq => ?_⟩
          · unfold execOp
            rw [hop]
            by_cases h0 : len * i.size = 0
            · have e0 : (Array.range (len * i.size)).map (zv.cells[· % zv.cells.size]!) = #[] := by rw [h0]; simp
              rw [e0] at f1
              simp only [Instr.buildSlice, Sem.run_bind, run_underlying hu, Result.andThen_ok, sizeOf, typeInfo, program, Sem.run, hi, Sem.run_pure, h0, gt_iff_lt]
              simp at f1
              simp [Array.range_zero', f1, newRow, newObj, Sem.run]
            · have hn : ¬ (2 ^ 24 < len * i.size) := by omega
              simp only [Instr.buildSlice, Sem.run_bind, run_underlying hu, Result.andThen_ok, sizeOf, typeInfo, program, Sem.run, hi, Sem.run_pure, h0, gt_iff_lt, hn, if_false, zeroValue, hz1]
              simp at f1
              simp [f1, newRow, newObj, Sem.run]
          · obtain ⟨out2, g1, g2⟩ := hfill p
            rw [f1] at g1
            cases g1
            exact g2
          · rw [hop]
            refine VRel.slice (t := ⟨w.heap.size, 0, i.size, out'.size⟩) hq (Nat.le_refl _) ?_
            have := f2.1
            simp only [Array.length_toList] at this
            simp
            omega
        · cases ht
      · cases hb
    · cases hb
  · cases ha

def vOpR (G : List (Nat × Nat)) (P : Program) (M : Nat → Prop) (lo rs rd : List Nat) (k : Nat) (op : Op) (e : Env) (h : Heap) (K : List Nat → List Nat → Value → Heap → Prop) : Prop :=
  if allocOp op = true then match rs with
    | r :: rs' => K rs' (if lo.contains k = true then r :: rd else rd) (freshV op r) h
    | [] => False
  else match op with
    | .load t x => vOp G P (fun _ => False) (.load t x) e h (fun v h' => K rs (if lo.contains k = true then idOf (Opd.val e x) :: rd else rd) v h')
    | op => if qt lo k op = true then vOp G P (fun _ => False) op e h (fun v h' => h <+: h' ∧ K rs rd v h') else if quietOp op = true then vOp G P M op e h (fun v h' => keep (rs ++ rdk lo rd k) h h' ∧ h.length ≤ h'.length ∧ K rs rd v h') else vOp G P M op e h (fun v h' => keep (rs ++ rdk lo rd k) h h' ∧ K rs rd v h')

def vOpsR (G : List (Nat × Nat)) (P : Program) (M : Nat → Prop) (lo : List Nat) (K : Env → Heap → Prop) : List Nat → List Nat → Nat → List (Option Tmp) → List Oper → Env → Heap → Prop
  | _, _, _, _, [], e, h => K e h
  | rs, rd, k, sl, o :: os, e, h => match o.guard with
    | none => vOpR G P M lo rs rd k o.op e h (fun rs' rd' v h' => vOpsR G P M lo K rs' rd' (k + 1) (sl ++ [o.dst]) os (put e o.dst v) h')
    | some (g, want) => match sl[g]? with
      | some (some t) => match e t with
        | .bool b => vIf (b == want) (hold (vOpR G P M lo rs rd k o.op e h (fun rs' rd' v h' => vOpsR G P M lo K rs' rd' (k + 1) (sl ++ [o.dst]) os (put e o.dst v) h'))) (hold (vOpsR G P M lo K rs rd (k + 1) (sl ++ [o.dst]) os (put e o.dst undef) h))
        | _ => vOpsR G P M lo K rs rd (k + 1) (sl ++ [o.dst]) os (put e o.dst undef) h
      | _ => False

def freshB (P : Program) : List Oper → Option (List Blk)
  | [] => some []
  | o :: os => if allocOp o.op = true then (freshO P o.op).bind fun b => (freshB P os).map fun l => b :: l else freshB P os

def ids (n : Nat) : List Blk → List Nat
  | [] => []
  | _ :: l => n :: ids (n + 1) l

def vReg (G : List (Nat × Nat)) (P : Program) (M : Nat → Prop) (lo : List Nat) (ops : List Oper) (e : Env) (h : Heap) (K : Env → Heap → Prop) : Prop :=
  onSome (freshB P ops) (hold fun bs => vOpsR G P M lo K (ids h.length bs) [] 0 [] ops e (h ++ bs))

/-- What is kept for the fresh variables still to come. -/
def Fresh (P : Program) (h : Heap) : List Nat → List Oper → Prop
  | rs, [] => rs = []
  | rs, o :: os => if allocOp o.op = true then ∃ r rs' b, rs = r :: rs' ∧ freshO P o.op = some b ∧ h[r]? = some b ∧ Fresh P h rs' os else Fresh P h rs os

theorem Fresh.lt {h : Heap} : ∀ {l : List Oper} {rs : List Nat}, Fresh P h rs l → ∀ x ∈ rs, x < h.length
  | [], rs, hf, x, hx => by
    unfold Fresh at hf
    subst hf; cases hx
  | o :: os, rs, hf, x, hx => by
    unfold Fresh at hf
    split at hf
    · obtain ⟨r, rs', z, rfl, _, h1, h2⟩ := hf
      rcases List.mem_cons.1 hx with rfl | hx
      · exact (List.getElem?_eq_some_iff.1 h1).1
      · exact Fresh.lt h2 x hx
    · exact Fresh.lt hf x hx

theorem Fresh.mono {h h' : Heap} : ∀ {l : List Oper} {rs : List Nat}, Fresh P h rs l → (∀ x ∈ rs, h'[x]? = h[x]?) → Fresh P h' rs l
  | [], rs, hf, _ => hf
  | o :: os, rs, hf, hk => by
    unfold Fresh at hf ⊢
    split
    · rename_i hop
      rw [if_pos hop] at hf
      obtain ⟨r, rs', z, rfl, h0, h1, h2⟩ := hf
      exact ⟨r, rs', z, rfl, h0, (hk r (by simp)).trans h1, Fresh.mono h2 fun x hx => hk x (by simp [hx])⟩
    · rename_i hop
      rw [if_neg hop] at hf
      exact Fresh.mono hf hk

theorem Fresh.start {h : Heap} : ∀ {l : List Oper} {bs : List Blk} (b0 : List Blk), freshB P l = some bs → Fresh P (h ++ (b0 ++ bs)) (ids (h.length + b0.length) bs) l
  | [], bs, b0, hf => by
    unfold freshB at hf
    cases hf
    rfl
  | o :: os, bs, b0, hf => by
    unfold freshB at hf
    unfold Fresh
    split
    · rename_i hop
      rw [if_pos hop] at hf
      simp only [Option.bind_eq_some_iff, Option.map_eq_some_iff] at hf
      obtain ⟨z, h1, l, h2, rfl⟩ := hf
      refine ⟨_, _, z, rfl, h1, ?_, ?_⟩
      · rw [List.getElem?_append_right (by omega), List.getElem?_append_right (by omega)]
        simp
      · have := Fresh.start (h := h) (b0 ++ [z]) h2
        simpa [Nat.add_assoc] using this
    · rename_i hop
      rw [if_neg hop] at hf
      exact Fresh.start b0 hf

theorem ids_spec : ∀ (bs : List Blk) (n : Nat), (ids n bs).Nodup ∧ ∀ x ∈ ids n bs, n ≤ x ∧ x < n + bs.length
  | [], n => ⟨List.nodup_nil, fun x hx => by cases hx⟩
  | _ :: l, n => by
    obtain ⟨h1, h2⟩ := ids_spec l (n + 1)
    unfold ids
    refine ⟨List.nodup_cons.2 ⟨fun hx => by have := (h2 _ hx).1; omega, h1⟩, fun x hx => ?_⟩
    rcases List.mem_cons.1 hx with rfl | hx
    · simp
    · have := h2 x hx
      simp
      omega

theorem vOp_loadW {t : TypeId} {x : Operand} {e : Env} {h : Heap} {o : Oper} {K : Value → Heap → Prop} {N : Nat → Prop} (hop : o.op = .load t x) (hv : vOp G P N (.load t x) e h K) :
    ∃ v id off, K v h ∧ Opd.val e x = .pointer (some ⟨id, off, none⟩) ∧ id < h.length ∧ ∀ h2 : Heap, h2[id]? = h[id]? → HStep G P o allT M e h2 v h2 := by
  unfold vOp at hv
  obtain ⟨id, off, hx, hv⟩ := hv.elim
  obtain ⟨k, hk, hd, hv⟩ := hv.elim
  obtain ⟨tl, ht, hv⟩ := hv.elim
  have hk : h[id]? = some k := hk
  have hlt : id < h.length := (List.getElem?_eq_some_iff.1 hk).1
  unfold onLoad at hv
  split at hv
  · obtain ⟨v, hvv, hv⟩ := hv.elim
    exact ⟨v, id, off, hv, hx, hlt, fun h2 e2 => .load1 hop hx ht (e2.trans hk) hd hvv trivial⟩
  · exact ⟨_, id, off, hv.2, hx, hlt, fun h2 e2 => .loadN hop hx ht (e2.trans hk) hd hv.1 trivial⟩

theorem vOp_len {o : Oper} {e : Env} {h : Heap} {K : Value → Heap → Prop} (hq : quietOp o.op = false) (hv : vOp G P M o.op e h K) : ∃ v h', HStep G P o allT M e h v h' ∧ h.length ≤ h'.length ∧ K v h' := by
  by_cases hk : killOp o.op = true
  · obtain ⟨v, h', h1, h2, h3⟩ := vOp_sound (vOp_kill hk hv)
    exact ⟨v, h', h1, h2.1, h3⟩
  · obtain ⟨dst, op, ty, pos, after, guard⟩ := o
    simp only at hv hq hk
    unfold quietOp at hq
    split at hq
    · unfold vOp at hv
      obtain ⟨id, off, hx, hv⟩ := hv.elim
      obtain ⟨k, hk, hv⟩ := hv.elim
      obtain ⟨h1, h2, h3, h4, h5, h6⟩ := hv
      exact ⟨_, _, .store rfl hx hk h1 h3 h4 h5 trivial h2, by simp, h6⟩
    · rename_i c
      split at hq
      · rename_i hc
        exfalso
        apply hk
        simp [killOp, hc]
      · cases hq
    · cases hq

/-- One operation of such a row, for what comes after. -/
theorem vOpR_step {lo rs rd : List Nat} {k : Nat} {o : Oper} {os : List Oper} {e : Env} {h : Heap} {KR : List Nat → List Nat → Value → Heap → Prop} (hw : wantedH ops o e = true) (hf : Fresh P h rs (o :: os))
    (hv : vOpR G P M lo rs rd k o.op e h KR) :
    ∃ v h' r rs' rd', Rfree (qt lo k o.op) G P M ops o r e h v h' ∧ h.length ≤ h'.length ∧ (allocOp o.op = true → rs = r :: rs') ∧ (allocOp o.op = false → rs' = rs) ∧ (∀ x ∈ rd, x ∈ rd') ∧ (k ∈ lo → allocOp o.op = true → r ∈ rd') ∧
      (k ∈ lo → wantedH ops o e = true → ∀ t x id off, o.op = .load t x → Opd.val e x = .pointer (some ⟨id, off, none⟩) → id ∈ rd') ∧
      (qt lo k o.op = false → wantedH ops o e = true → keep (rs ++ rdk lo rd k) h h') ∧ Fresh P h' rs' os ∧ KR rs' rd' v h' := by
  unfold vOpR at hv
  unfold Fresh at hf
  split at hv
  · rename_i ha
    rw [if_pos ha] at hf
    obtain ⟨r, rs', b, rfl, h0, h1, h2⟩ := hf
    obtain ⟨hrw, hF⟩ := freshAt r ha h0
    obtain ⟨z, esz, st⟩ := b
    simp only at hrw hF
    subst hrw
    refine ⟨_, h, r, rs', _, .inr ⟨hw, .inr (.inr (.inl ⟨z, esz, ha, rfl, hF, h1⟩))⟩, Nat.le_refl _, fun _ => rfl, fun hb => ?_, fun x hx => ?_, fun hk _ => ?_, fun _ _ t x id off hop2 => ?_, fun hq => ?_, h2, hv⟩
    · rw [ha] at hb; cases hb
    · split
      · exact List.mem_cons_of_mem _ hx
      · exact hx
    · rw [if_pos (by simpa using hk)]; simp
    · rw [hop2] at ha; cases ha
    · exfalso
      unfold allocOp at ha
      unfold qt quietOp callOp at hq
      split at ha
      · rename_i hop; rw [hop] at hq; simp at hq
      · rename_i hop; rw [hop] at hq; simp at hq
      · cases ha
  · rename_i hna
    rw [if_neg hna] at hf
    have ha : allocOp o.op = false := by simpa using hna
    split at hv
    · rename_i t x hop
      obtain ⟨v, id, off, h1, h2, h3, h4⟩ := vOp_loadW (M := M) hop hv
      refine ⟨v, h, 0, rs, _, .inr ⟨hw, .inr (.inl ⟨by rw [hop]; rfl, rfl, t, x, id, off, hop, h2, h3, h4⟩)⟩, Nat.le_refl _, fun hb => ?_, fun _ => rfl, fun y hy => ?_, fun _ hb => (by rw [ha] at hb; cases hb), fun hk _ t' x' id' off' hop2 hx2 => ?_, fun hq => ?_, hf, h1⟩
      · rw [ha] at hb; cases hb
      · split
        · exact List.mem_cons_of_mem _ hy
        · exact hy
      · rw [hop] at hop2
        cases hop2
        rw [h2] at hx2
        cases hx2
        rw [if_pos (by simpa using hk), h2]
        simp [idOf]
      · rw [hop] at hq
        unfold qt quietOp callOp at hq
        simp at hq
    · rename_i hnl
      have hl : loadOp o.op = false := by
        unfold loadOp
        split
        · rename_i t x h1; exact absurd h1 (hnl t x)
        · rfl
      split at hv
      · rename_i hq
        by_cases hr : reg o = true
        · obtain ⟨v, ⟨h3, h2⟩, h1⟩ := vOp_reg hr hv
          exact ⟨v, h, 0, rs, rd, .inr ⟨hw, .inl ⟨hr, rfl, fun h2 => h1 _ h2⟩⟩, Nat.le_refl _, fun hh => (by rw [ha] at hh; cases hh), fun _ => rfl, fun x hx => hx, fun _ hh => (by rw [ha] at hh; cases hh), fun _ _ t x id off hop2 => (by rw [hop2] at hl; cases hl), fun hq2 => (by rw [hq] at hq2; cases hq2), hf, h2⟩
        · obtain ⟨v, h', h1, h3, h2⟩ := vOp_sound hv
          refine ⟨v, h', 0, rs, rd, .inr ⟨hw, .inr (.inr (.inr ⟨?_, h1.more, fun _ => h3⟩))⟩, h3.length_le, fun hh => (by rw [ha] at hh; cases hh), fun _ => rfl, fun x hx => hx, fun _ hh => (by rw [ha] at hh; cases hh), fun _ _ t x id off hop2 => (by rw [hop2] at hl; cases hl), fun hq2 => (by rw [hq] at hq2; cases hq2), hf.mono fun x hx => ?_, h2⟩
          · unfold hardR; simp [hl, ha]; simpa using hr
          · obtain ⟨t, rfl⟩ := h3
            exact List.getElem?_append_left (hf.lt x hx)
      · rename_i hq
        have hq : qt lo k o.op = false := by simpa using hq
        have hv : ∃ v h', HStep G P o allT M e h v h' ∧ keep (rs ++ rdk lo rd k) h h' ∧ h.length ≤ h'.length ∧ KR rs rd v h' := by
          split at hv
          · obtain ⟨v, h', h1, h2⟩ := vOp_sound hv
            exact ⟨v, h', h1, h2⟩
          · rename_i hq2
            obtain ⟨v, h', h1, h2, h3, h4⟩ := vOp_len (by simpa using hq2) hv
            exact ⟨v, h', h1, h3, h2, h4⟩
        obtain ⟨v, h', h1, h3, hl2, h2⟩ := hv
        refine ⟨v, h', 0, rs, rd, .inr ⟨hw, .inr (.inr (.inr ⟨hard_of_write hq, h1, fun hq2 => (by rw [hq] at hq2; cases hq2)⟩))⟩, hl2, fun hh => (by rw [ha] at hh; cases hh), fun _ => rfl, fun x hx => hx, fun _ hh => (by rw [ha] at hh; cases hh), fun _ _ t x id off hop2 => (by rw [hop2] at hl; cases hl), fun _ _ => h3, hf.mono fun x hx => ?_, h2⟩
        exact keep_mem h3 (List.mem_append_left _ hx)

theorem Rfree.idle {q : Bool} {o : Oper} {e : Env} {h : Heap} (hw : wantedH ops o e = false) (r : Nat) : Rfree q G P M ops o r e h undef h := .inl ⟨hw, rfl, rfl⟩

theorem vOpsR_sound {lo : List Nat} {K : Env → Heap → Prop} (hag : ∀ o ∈ ops.toList, allocOp o.op = true → o.guard = none) : ∀ (l : List Oper) (k : Nat) (rs rd : List Nat) (sl : List (Option Tmp)) (e : Env) (h : Heap), (∀ j, l[j]? = ops[k + j]?) → sl.length = k → (∀ g, g < k → sl[g]? = (ops[g]?).map (·.dst)) →
    Fresh P h rs l → vOpsR G P M lo K rs rd k sl l e h → FOps G P M ops lo k rs rd l e h K
  | [], _, _, _, _, _, _, _, _, _, _, hv => hv
  | o :: os, k, rs, rd, sl, e, h, hl, hk, hs, hf, hv => by
    have h0 : ops[k]? = some o := by simpa using (hl 0).symm
    have hl' : ∀ j, os[j]? = ops[k + 1 + j]? := fun j => by have := hl (j + 1); simpa [Nat.add_assoc, Nat.add_comm 1 j] using this
    have hk' : (sl ++ [o.dst]).length = k + 1 := by simp [hk]
    have hs' : ∀ g, g < k + 1 → (sl ++ [o.dst])[g]? = (ops[g]?).map (·.dst) := fun g hg => by
      rcases Nat.lt_or_ge g k with h1 | h1
      · rw [List.getElem?_append_left (by omega)]; exact hs g h1
      · have : g = k := by omega
        subst this
        rw [List.getElem?_append_right (by omega), hk, Nat.sub_self, h0]
        rfl
    have hmem : o ∈ ops.toList := by have := Array.mem_of_getElem? h0; simpa using this
    have go : wantedH ops o e = true → vOpR G P M lo rs rd k o.op e h (fun rs' rd' v h' => vOpsR G P M lo K rs' rd' (k + 1) (sl ++ [o.dst]) os (put e o.dst v) h') → FOps G P M ops lo k rs rd (o :: os) e h K := fun hw hv => by
      obtain ⟨v, h', r, rs', rd', s1, s2, s3, s4, s5, s9, s6, s7, s8, hv⟩ := vOpR_step (ops := ops) hw hf hv
      exact ⟨v, h', r, rs', rd', s1, s2, s3, s4, s5, s9, s6, s7, vOpsR_sound hag os (k + 1) rs' rd' _ _ h' hl' hk' hs' s8 hv⟩
    have no : wantedH ops o e = false → o.guard ≠ none → vOpsR G P M lo K rs rd (k + 1) (sl ++ [o.dst]) os (put e o.dst undef) h → FOps G P M ops lo k rs rd (o :: os) e h K := fun hw hg hv => by
      have ha : allocOp o.op = false := by
        cases ha : allocOp o.op with
        | false => rfl
        | true => exact absurd (hag o hmem ha) hg
      have hf' : Fresh P h rs os := by
        unfold Fresh at hf
        split at hf
        · rename_i t h1; rw [h1] at ha; cases ha
        · exact hf
      exact ⟨undef, h, 0, rs, rd, .idle hw 0, Nat.le_refl _, fun hh => (by rw [ha] at hh; cases hh), fun _ => rfl, fun x hx => hx, fun _ hh => (by rw [ha] at hh; cases hh), fun _ hh => (by rw [hw] at hh; cases hh), fun _ hh => (by rw [hw] at hh; cases hh), vOpsR_sound hag os (k + 1) rs rd _ _ h hl' hk' hs' hf' hv⟩
    unfold vOpsR at hv
    cases hg : o.guard with
    | none =>
      rw [hg] at hv
      exact go (by unfold wantedH; rw [hg]) hv
    | some gw =>
      obtain ⟨g, want⟩ := gw
      rw [hg] at hv
      simp only at hv
      split at hv
      · rename_i t ht
        have hgk : g < k := by
          have := (List.getElem?_eq_some_iff.1 ht).1
          omega
        have hd : (ops[g]?).bind (·.dst) = some t := by
          have := hs g hgk
          rw [ht] at this
          cases hx : ops[g]? with
          | none => rw [hx] at this; cases this
          | some og => rw [hx] at this; simpa using this.symm
        have hw : wantedH ops o e = (match e t with | .bool b => b == want | _ => false) := by unfold wantedH; rw [hg]; simp only [hd]; cases e t <;> rfl
        split at hv
        · rename_i b hb
          have := hv.elim
          rw [hb] at hw
          simp only at hw
          split at this
          · rename_i hc; exact go (hw.trans hc) this
          · rename_i hc; exact no (by rw [hw]; simpa using hc) (by simp [hg]) this
        · rename_i hb
          have h2 : (match e t with | .bool b => b == want | _ => false) = false := by
            split
            · rename_i b hb'; exact absurd hb' (hb b)
            · rfl
          exact no (hw.trans h2) (by simp [hg]) hv
      · exact hv.elim

theorem vReg_sound {lo : List Nat} {id : Nat} {Q : Exit → Env → Heap → Prop} {e : Env} {h : Heap} (hm : P.follows .mixedOrders = true) (hok : freeT ops lo = true) (hB : ops.toList.all (operB G n) = true)
    (hv : vReg G P M lo ops.toList e h (Q .normal)) : HWp G P n M (.region id ops true) Q e h := by
  obtain ⟨bs, hb, hv⟩ := hv.elim
  have hs := ids_spec bs h.length
  refine HWp.region_free hm hok hB ⟨hs.1, fun x hx => by have := hs.2 x hx; simp; omega⟩ (vOpsR_sound (fun o ho ha => ?_) ops.toList 0 _ [] [] e _ (by simp) rfl (fun g hg => by omega) ?_ hv)
  · obtain ⟨i, hi, rfl⟩ := List.getElem_of_mem ho
    exact (freeT_spec hok (t := i) (ot := ops.toList[i]) (by simp)).2.1 ha
  · have := Fresh.start (P := P) (h := h) [] hb
    simpa using this

def noAlloc (ops : Array Oper) : Bool := ops.toList.all fun o => !(allocOp o.op)

theorem vOpsD_free (hna : noAlloc ops = true) : ∀ (l : List Oper) (k : Nat) (sl : List (Option Tmp)) (e : Env) (h : Heap) (K : Env → Heap → Prop), (∀ j, l[j]? = ops[k + j]?) → sl.length = k → (∀ g, g < k → sl[g]? = (ops[g]?).map (·.dst)) →
    vOpsD G P M sl l e h K → FOps G P M ops [] k [] [] l e h K
  | [], _, _, _, _, _, _, _, _, hv => hv
  | o :: os, k, sl, e, h, K, hl, hk, hs, hv => by
    have h0 : ops[k]? = some o := by simpa using (hl 0).symm
    have hl' : ∀ j, os[j]? = ops[k + 1 + j]? := fun j => by have := hl (j + 1); simpa [Nat.add_assoc, Nat.add_comm 1 j] using this
    have hk' : (sl ++ [o.dst]).length = k + 1 := by simp [hk]
    have hs' : ∀ g, g < k + 1 → (sl ++ [o.dst])[g]? = (ops[g]?).map (·.dst) := fun g hg => by
      rcases Nat.lt_or_ge g k with h1 | h1
      · rw [List.getElem?_append_left (by omega)]; exact hs g h1
      · have : g = k := by omega
        subst this
        rw [List.getElem?_append_right (by omega), hk, Nat.sub_self, h0]
        rfl
    have ha : allocOp o.op = false := by
      have := List.all_eq_true.1 hna o (by have := Array.mem_of_getElem? h0; simpa using this)
      simpa using this
    have qe : qt [] k o.op = quietOp o.op := by simp [qt]
    have fin : ∀ v h', Rfree (qt [] k o.op) G P M ops o 0 e h v h' → h.length ≤ h'.length → vOpsD G P M (sl ++ [o.dst]) os (put e o.dst v) h' K → FOps G P M ops [] k [] [] (o :: os) e h K := fun v h' h1 h2 h3 =>
      ⟨v, h', 0, [], [], h1, h2, fun hh => (by rw [ha] at hh; cases hh), fun _ => rfl, fun x hx => hx, fun _ hh => (by rw [ha] at hh; cases hh), fun hh => (by cases hh), fun _ _ => trivial, vOpsD_free hna os (k + 1) _ _ _ K hl' hk' hs' h3⟩
    rcases vOpsD_step h0 hk hs hv with ⟨hw, hv⟩ | ⟨hw, ⟨hq, hv⟩ | ⟨hq, hv⟩⟩
    · exact fin undef h (.idle hw 0) (Nat.le_refl _) hv
    · by_cases hr : reg o = true
      · obtain ⟨v, ⟨_, h2⟩, h1⟩ := vOp_reg hr hv
        exact fin v h (.inr ⟨hw, .inl ⟨hr, rfl, fun h2 => h1 _ h2⟩⟩) (Nat.le_refl _) h2
      · by_cases hld : loadOp o.op = true
        · obtain ⟨t, x, hop⟩ : ∃ t x, o.op = .load t x := by
            unfold loadOp at hld
            split at hld
            · rename_i t x hop; exact ⟨t, x, hop⟩
            · cases hld
          obtain ⟨v, id, off, ⟨_, h1⟩, h2, h3, h4⟩ := vOp_loadW (M := M) hop (hop ▸ hv)
          exact fin v h (.inr ⟨hw, .inr (.inl ⟨hld, rfl, t, x, id, off, hop, h2, h3, h4⟩)⟩) (Nat.le_refl _) h1
        · obtain ⟨v, h', h1, h3, h2⟩ := vOp_sound hv
          exact fin v h' (.inr ⟨hw, .inr (.inr (.inr ⟨by unfold hardR; simp [ha, hr, hld], h1.more, fun _ => h3⟩))⟩) h3.length_le h2
    · obtain ⟨v, h', h1, h3, h2⟩ := vOp_len hq hv
      exact fin v h' (.inr ⟨hw, .inr (.inr (.inr ⟨hard_of_write (lo := []) (i := k) (qe.trans hq), h1, fun hq2 => (by rw [qe, hq] at hq2; cases hq2)⟩))⟩) h3 h2

/-! Code. -/

def mixAt (ops : Array Oper) (m : Nat) : Bool := mixOK ops m && (ops.toList.take m).all fun o => quiet o || kill o
/-- What is asked of a region that draws. -/
def drawOK (ops : Array Oper) : Bool := if (ops.toList.dropWhile quiet).isEmpty then lexOK ops else ((tailOK ops (ops.toList.takeWhile quiet).length || (killOK ops && ops.toList.all fun o => quiet o || kill o) || (List.range ops.size).any (mixAt ops)) || (noAlloc ops && freeT ops []))

/-- What is asked of the text of a body: each region's operands, and the order of each region that draws. -/
def codeOK (G : List (Nat × Nat)) (n : Nat) : Code → Bool
  | .region _ ops draw => ops.toList.all (operB G n) && (!draw || drawOK ops)
  | .seq a b => codeOK G n a && codeOK G n b
  | .cond _ a b => codeOK G n a && codeOK G n b
  | .block _ a => codeOK G n a
  | .loop a => codeOK G n a
  | _ => true

def vLoop (G : List (Nat × Nat)) (P : Program) (n : Nat) (M : Nat → Prop) (c : Code) (Q : Exit → Env → Heap → Prop) (e : Env) (h : Heap) : Prop := codeOK G n c = true → HWp G P n M (.loop c) Q e h

def thenQ (Q : Exit → Env → Heap → Prop) (K : Env → Heap → Prop) : Exit → Env → Heap → Prop
  | .normal, e, h => K e h
  | x, e, h => Q x e h

def blockQ (i : Nat) (Q : Exit → Env → Heap → Prop) : Exit → Env → Heap → Prop
  | .exit j, e, h => if j = i then Q .normal e h else Q (.exit j) e h
  | x, e, h => Q x e h

def vCode (G : List (Nat × Nat)) (P : Program) (n : Nat) (M : Nat → Prop) : Code → (Exit → Env → Heap → Prop) → Env → Heap → Prop
  | .skip, Q, e, h => Q .normal e h
  | .label _, Q, e, h => Q .normal e h
  | .exit i, Q, e, h => Q (.exit i) e h
  | .ret, Q, e, h => Q .ret e h
  | .region _ ops false, Q, e, h => vOps G P M false [] ops.toList e h (Q .normal)
  | .region _ ops true, Q, e, h => vOpsD G P M [] ops.toList e h (Q .normal)
  | .seq a b, Q, e, h => vCode G P n M a (thenQ Q (vCode G P n M b Q)) e h
  | .cond c a b, Q, e, h => match c with
    | .tmp t => match e t with
      | .bool v => vIf v (hold (vCode G P n M a Q e h)) (hold (vCode G P n M b Q e h))
      | _ => False
    | .const (.bool v) => vIf v (hold (vCode G P n M a Q e h)) (hold (vCode G P n M b Q e h))
    | _ => False
  | .block i a, Q, e, h => vCode G P n M a (blockQ i Q) e h
  | .loop a, Q, e, h => vLoop G P n M a Q e h
  | _, _, _, _ => False

theorem HWp.of_exec {c : Code} {Q : Exit → Env → Heap → Prop} {e e' : Env} {h h' : Heap} {x : Exit} (hx : HExec G P n M c e h x e' h') (hq : Q x e' h') : HWp G P n M c Q e h := ⟨x, e', h', hx, hq⟩

theorem vCode_sound (hm : P.follows .mixedOrders = true) : ∀ (c : Code) (Q : Exit → Env → Heap → Prop) (e : Env) (h : Heap), codeOK G n c = true → vCode G P n M c Q e h → HWp G P n M c Q e h
  | .skip, Q, e, h, _, hv => .of_exec .skip hv
  | .label _, Q, e, h, _, hv => .of_exec .label hv
  | .exit i, Q, e, h, _, hv => .of_exec .exit hv
  | .ret, Q, e, h, _, hv => .of_exec .ret hv
  | .region id ops false, Q, e, h, hok, hv => by
    simp only [codeOK, Bool.and_eq_true] at hok
    exact HWp.region hok.1 (vOps_sound ops.toList 0 [] e h _ (by simp) rfl (fun g hg => by omega) hv)
  | .region id ops true, Q, e, h, hok, hv => by
    simp only [codeOK, Bool.and_eq_true, Bool.not_true, Bool.false_or] at hok
    have happ : ops.toList.takeWhile quiet ++ ops.toList.dropWhile quiet = ops.toList := List.takeWhile_append_dropWhile
    unfold drawOK at hok
    by_cases hd : (ops.toList.dropWhile quiet).isEmpty = true
    · have hx := vOpsD_sound (n := n) (ops := ops) ops.toList 0 [] e h _ (by simp) rfl (fun g hg => by omega) hv
      rw [if_pos hd] at hok
      rw [List.isEmpty_iff.1 hd] at hx happ
      rw [List.append_nil] at happ
      rw [happ] at hx
      exact HWp.region_draw hm hok.2 hok.1 hx
    · rw [if_neg hd, Bool.or_eq_true, Bool.or_eq_true, Bool.or_eq_true, Bool.and_eq_true, Bool.and_eq_true] at hok
      rcases hok.2 with ((hok2 | hok2) | hok2) | hok2
      · have hx := vOpsD_sound (n := n) (ops := ops) ops.toList 0 [] e h _ (by simp) rfl (fun g hg => by omega) hv
        refine HWp.region_tail hm hok2 hok.1 ?_
        have e1 : ops.toList.take (ops.toList.takeWhile quiet).length = ops.toList.takeWhile quiet := (List.prefix_iff_eq_take.1 (List.takeWhile_prefix quiet)).symm
        have e2 : ops.toList.drop (ops.toList.takeWhile quiet).length = ops.toList.dropWhile quiet := by
          have := List.drop_left' (l₂ := ops.toList.dropWhile quiet) (rfl : (ops.toList.takeWhile quiet).length = (ops.toList.takeWhile quiet).length)
          rwa [happ] at this
        rw [e1, e2]
        exact hx
      · refine HWp.region_kill hm hok2.1 hok.1 (vOpsD_kill ops.toList 0 [] e h _ (by simp) rfl (fun g hg => by omega) (fun o ho => ?_) hv)
        have := List.all_eq_true.1 hok2.2 o ho
        simpa using this
      · obtain ⟨m, _, hm2⟩ := List.any_eq_true.1 hok2
        unfold mixAt at hm2
        rw [Bool.and_eq_true] at hm2
        refine HWp.region_mix hm hm2.1 hok.1 (vOpsD_mix (fun i o him ho => ?_) ops.toList 0 [] e h _ (by simp) rfl (fun g hg => by omega) hv)
        have := List.all_eq_true.1 hm2.2 o (List.mem_of_getElem? (i := i) (by rw [List.getElem?_take_of_lt him]; simpa using ho))
        simpa using this
      · have := vOpsD_free (ops := ops) hok2.1 ops.toList 0 [] e h _ (by simp) rfl (fun g hg => by omega) hv
        refine HWp.region_free (bs := []) (rs := []) hm hok2.2 hok.1 ⟨List.nodup_nil, fun x hx => by cases hx⟩ ?_
        rw [List.append_nil]
        exact this
  | .seq a b, Q, e, h, hok, hv => by
    simp only [codeOK, Bool.and_eq_true] at hok
    refine HWp.seq ((vCode_sound hm a _ e h hok.1 hv).mono ?_)
    intro z e' h' hz
    cases z with
    | normal => exact .inl ⟨rfl, vCode_sound hm b Q e' h' hok.2 hz⟩
    | _ => exact .inr ⟨by simp, hz⟩
  | .cond c a b, Q, e, h, hok, hv => by
    simp only [codeOK, Bool.and_eq_true] at hok
    unfold vCode at hv
    split at hv
    · rename_i t
      split at hv
      · rename_i v hv1
        have hv := hv.elim
        refine HWp.cond (b := v) hv1 (by intro x hx; cases hx) ?_
        cases v
        · exact vCode_sound hm b Q e h hok.2 hv
        · exact vCode_sound hm a Q e h hok.1 hv
      · exact hv.elim
    · rename_i v
      have hv := hv.elim
      refine HWp.condConst ?_
      cases v
      · exact vCode_sound hm b Q e h hok.2 hv
      · exact vCode_sound hm a Q e h hok.1 hv
    · exact hv.elim
  | .block i a, Q, e, h, hok, hv => by
    refine HWp.block ((vCode_sound hm a _ e h hok hv).mono ?_)
    intro z e' h' hz
    cases z with
    | exit j =>
      simp only [blockQ] at hz
      simp only
      split
      · rename_i hj; rw [if_pos hj] at hz; exact hz
      · rename_i hj; rw [if_neg hj] at hz; exact hz
    | _ => exact hz
  | .loop a, Q, e, h, hok, hv => hv hok
  | .goto _, _, _, _, _, hv => hv.elim
  | .rangeFunc .., _, _, _, _, hv => hv.elim
  | .scope _, _, _, _, _, hv => hv.elim
  | .refuse _, _, _, _, _, hv => hv.elim

theorem vLoop.intro {c : Code} {Q : Exit → Env → Heap → Prop} {e : Env} {h : Heap} (hm : P.follows .mixedOrders = true) (I : Env → Heap → Prop) (mu : Env → Heap → Nat) (h0 : I e h)
    (round : ∀ e h, I e h → vCode G P n M c (thenQ Q (fun e' h' => I e' h' ∧ mu e' h' < mu e h)) e h) : vLoop G P n M c Q e h := fun hok =>
  HWp.loop I mu h0 fun e h hI => (vCode_sound hm c _ e h hok (round e h hI)).mono fun z e' h' hz => by
    cases z with
    | normal => exact .inl ⟨rfl, hz.1, hz.2⟩
    | _ => exact .inr ⟨by simp, hz⟩

theorem vLoop.mono {c : Code} {Q Q' : Exit → Env → Heap → Prop} {e : Env} {h : Heap} (hv : vLoop G P n M c Q e h) (hq : ∀ x e h, Q x e h → Q' x e h) : vLoop G P n M c Q' e h := fun hok => (hv hok).mono hq

theorem vCode.weaken (hm : P.follows .mixedOrders = true) {c : Code} (hok : codeOK G n c = true) {Q : Exit → Env → Heap → Prop} {e : Env} {h : Heap} (hv : vCode G P n M c Q e h) : HWp G P n M c Q e h := vCode_sound hm c Q e h hok hv

/-- A function by its body. -/
theorem runs_of {f : FuncId} {fn : Func} {c : Code} {args : List Value} {h : Heap} {R : Value → Heap → Prop} (hm : P.follows .mixedOrders = true) (hf : P.funcs[f]? = some fn) (hb : fn.body = some c) (hok : codeOK G fn.ntmps c = true) (hn : args.length ≤ fn.ntmps)
    (hv : vCode G P fn.ntmps (own h.length M) c (fun x e' h' => (x = .ret ∨ x = .normal) ∧ ∃ r, resAll P e' h' fn.results.toList = some r ∧ R r h') (env0 args) h) :
    vCall G P M f args h R := HRuns.of_body hf hb hn (vCode_sound hm c _ _ _ hok hv)

theorem HRuns.weaken {f : FuncId} {args : List Value} {h h' : Heap} {M N : Nat → Prop} {r : Value} (hr : HRuns G P f args h M r h') (hm : ∀ id, M id → N id) : HRuns G P f args h N r h' := fun p w vs a b =>
  (hr p w vs a b).mono fun _ _ ⟨v, q, h1, h2, h3, h4⟩ => ⟨v, q, h1, h2, h3, h4.weaken (fun id t e => (a.dom id t e).1) (fun id _ m => hm id m)⟩

/-! The same, with the regions that 'L' lists taken with their loads and fresh variables free; to each its loads that a writer doesn't wait for. -/

def lk : List (Nat × List Nat) → Nat → Option (List Nat)
  | [], _ => none
  | (a, l) :: L, i => if a = i then some l else lk L i

def codeOKR (L : List (Nat × List Nat)) (G : List (Nat × Nat)) (n : Nat) : Code → Bool
  | .region i ops draw => ops.toList.all (operB G n) && (!draw || match lk L i with
    | some lo => freeT ops lo
    | none => drawOK ops)
  | .seq a b => codeOKR L G n a && codeOKR L G n b
  | .cond _ a b => codeOKR L G n a && codeOKR L G n b
  | .block _ a => codeOKR L G n a
  | .loop a => codeOKR L G n a
  | _ => true

def vLoopR (L : List (Nat × List Nat)) (G : List (Nat × Nat)) (P : Program) (n : Nat) (M : Nat → Prop) (c : Code) (Q : Exit → Env → Heap → Prop) (e : Env) (h : Heap) : Prop := codeOKR L G n c = true → HWp G P n M (.loop c) Q e h

def onLk (o : Option (List Nat)) {K : List Nat → Prop} {A : Prop} (_ : Hold K) (_ : Hold A) : Prop := match o with
  | some lo => K lo
  | none => A

def vCodeR (L : List (Nat × List Nat)) (G : List (Nat × Nat)) (P : Program) (n : Nat) (M : Nat → Prop) : Code → (Exit → Env → Heap → Prop) → Env → Heap → Prop
  | .skip, Q, e, h => Q .normal e h
  | .label _, Q, e, h => Q .normal e h
  | .exit i, Q, e, h => Q (.exit i) e h
  | .ret, Q, e, h => Q .ret e h
  | .region _ ops false, Q, e, h => vOps G P M false [] ops.toList e h (Q .normal)
  | .region i ops true, Q, e, h => onLk (lk L i) (hold fun lo => vReg G P M lo ops.toList e h (Q .normal)) (hold (vOpsD G P M [] ops.toList e h (Q .normal)))
  | .seq a b, Q, e, h => vCodeR L G P n M a (thenQ Q (vCodeR L G P n M b Q)) e h
  | .cond c a b, Q, e, h => match c with
    | .tmp t => match e t with
      | .bool v => vIf v (hold (vCodeR L G P n M a Q e h)) (hold (vCodeR L G P n M b Q e h))
      | _ => False
    | .const (.bool v) => vIf v (hold (vCodeR L G P n M a Q e h)) (hold (vCodeR L G P n M b Q e h))
    | _ => False
  | .block i a, Q, e, h => vCodeR L G P n M a (blockQ i Q) e h
  | .loop a, Q, e, h => vLoopR L G P n M a Q e h
  | _, _, _, _ => False

theorem vCodeR_sound {L : List (Nat × List Nat)} (hm : P.follows .mixedOrders = true) : ∀ (c : Code) (Q : Exit → Env → Heap → Prop) (e : Env) (h : Heap), codeOKR L G n c = true → vCodeR L G P n M c Q e h → HWp G P n M c Q e h
  | .skip, Q, e, h, _, hv => .of_exec .skip hv
  | .label _, Q, e, h, _, hv => .of_exec .label hv
  | .exit i, Q, e, h, _, hv => .of_exec .exit hv
  | .ret, Q, e, h, _, hv => .of_exec .ret hv
  | .region id ops false, Q, e, h, hok, hv => by
    simp only [codeOKR, Bool.and_eq_true] at hok
    exact HWp.region hok.1 (vOps_sound ops.toList 0 [] e h _ (by simp) rfl (fun g hg => by omega) hv)
  | .region id ops true, Q, e, h, hok, hv => by
    simp only [codeOKR, Bool.and_eq_true, Bool.not_true, Bool.false_or] at hok
    unfold vCodeR onLk at hv
    split at hv
    · rename_i lo hlo
      rw [hlo] at hok
      exact vReg_sound hm hok.2 hok.1 hv
    · rename_i hlo
      rw [hlo] at hok
      exact vCode_sound hm (.region id ops true) Q e h (by simp [codeOK, hok.2]; simpa using hok.1) hv
  | .seq a b, Q, e, h, hok, hv => by
    simp only [codeOKR, Bool.and_eq_true] at hok
    refine HWp.seq ((vCodeR_sound hm a _ e h hok.1 hv).mono ?_)
    intro z e' h' hz
    cases z with
    | normal => exact .inl ⟨rfl, vCodeR_sound hm b Q e' h' hok.2 hz⟩
    | _ => exact .inr ⟨by simp, hz⟩
  | .cond c a b, Q, e, h, hok, hv => by
    simp only [codeOKR, Bool.and_eq_true] at hok
    unfold vCodeR at hv
    split at hv
    · rename_i t
      split at hv
      · rename_i v hv1
        have hv := hv.elim
        refine HWp.cond (b := v) hv1 (by intro x hx; cases hx) ?_
        cases v
        · exact vCodeR_sound hm b Q e h hok.2 hv
        · exact vCodeR_sound hm a Q e h hok.1 hv
      · exact hv.elim
    · rename_i v
      have hv := hv.elim
      refine HWp.condConst ?_
      cases v
      · exact vCodeR_sound hm b Q e h hok.2 hv
      · exact vCodeR_sound hm a Q e h hok.1 hv
    · exact hv.elim
  | .block i a, Q, e, h, hok, hv => by
    refine HWp.block ((vCodeR_sound hm a _ e h hok hv).mono ?_)
    intro z e' h' hz
    cases z with
    | exit j =>
      simp only [blockQ] at hz
      simp only
      split
      · rename_i hj; rw [if_pos hj] at hz; exact hz
      · rename_i hj; rw [if_neg hj] at hz; exact hz
    | _ => exact hz
  | .loop a, Q, e, h, hok, hv => hv hok
  | .goto _, _, _, _, _, hv => hv.elim
  | .rangeFunc .., _, _, _, _, hv => hv.elim
  | .scope _, _, _, _, _, hv => hv.elim
  | .refuse _, _, _, _, _, hv => hv.elim

theorem vLoopR.intro {L : List (Nat × List Nat)} {c : Code} {Q : Exit → Env → Heap → Prop} {e : Env} {h : Heap} (hm : P.follows .mixedOrders = true) (I : Env → Heap → Prop) (mu : Env → Heap → Nat) (h0 : I e h)
    (round : ∀ e h, I e h → vCodeR L G P n M c (thenQ Q (fun e' h' => I e' h' ∧ mu e' h' < mu e h)) e h) : vLoopR L G P n M c Q e h := fun hok =>
  HWp.loop I mu h0 fun e h hI => (vCodeR_sound hm c _ e h hok (round e h hI)).mono fun z e' h' hz => by
    cases z with
    | normal => exact .inl ⟨rfl, hz.1, hz.2⟩
    | _ => exact .inr ⟨by simp, hz⟩

theorem runs_ofR {f : FuncId} {fn : Func} {c : Code} {args : List Value} {h : Heap} {R : Value → Heap → Prop} (L : List (Nat × List Nat)) (hm : P.follows .mixedOrders = true) (hf : P.funcs[f]? = some fn) (hb : fn.body = some c) (hok : codeOKR L G fn.ntmps c = true) (hn : args.length ≤ fn.ntmps)
    (hv : vCodeR L G P fn.ntmps (own h.length M) c (fun x e' h' => (x = .ret ∨ x = .normal) ∧ ∃ r, resAll P e' h' fn.results.toList = some r ∧ R r h') (env0 args) h) :
    vCall G P M f args h R := HRuns.of_body hf hb hn (vCodeR_sound hm c _ _ _ hok hv)

/-- A contract at a call. -/
theorem vCall.use {f : FuncId} {args : List Value} {h : Heap} {M N : Nat → Prop} {R K : Value → Heap → Prop} (hc : vCall G P N f args h R) (hm : ∀ id, N id → M id) (hk : ∀ r h', R r h' → K r h') : vCall G P M f args h K :=
  let ⟨r, h', h1, h2⟩ := hc
  ⟨r, h', h1.weaken hm, hk r h' h2⟩

end
end Go.HH

namespace Go.HH

/-! The reckoning's rules, for simp. -/

section
variable {G : List (Nat × Nat)} {P : Program} {n : Nat} {M : Nat → Prop} {e : Env} {h : Heap}

@[go_sem ↓] theorem val_tmp {t : Tmp} : Opd.val e (.tmp t) = e t := (rfl)
@[go_sem ↓] theorem val_const {v : Value} : Opd.val e (.const v) = v := (rfl)
@[go_sem ↓] theorem val_func {f : FuncId} : Opd.val e (.func f) = .func (.func f) #[] #[] := (rfl)
@[go_sem ↓] theorem val_global {g : Nat} : Opd.val e (.global g) = .pointer (some ⟨g, 0, none⟩) := (rfl)

@[go_sem ↓] theorem upd_same {i : Nat} {v : Value} : upd e i v i = v := by simp [upd]
@[go_sem ↓] theorem upd_ne {i j : Nat} {v : Value} (hij : (j == i) = false) : upd e i v j = e j := by
  unfold upd
  rw [if_neg]
  simpa using hij
@[go_sem ↓] theorem put_some {d : Tmp} {v : Value} : put e (some d) v = upd e d v := (rfl)
@[go_sem ↓] theorem put_none {v : Value} : put e none v = e := (rfl)

@[go_sem ↓] theorem env0_zero {a : Value} {l : List Value} : env0 (a :: l) 0 = a := (rfl)
@[go_sem ↓] theorem env0_succ {a : Value} {l : List Value} {i : Nat} : env0 (a :: l) (i + 1) = env0 l i := (rfl)

/-! Code. -/

@[go_sem ↓] theorem vCode_seq {a b : Code} {Q : Exit → Env → Heap → Prop} : vCode G P n M (.seq a b) Q e h = vCode G P n M a (thenQ Q (vCode G P n M b Q)) e h := (rfl)
@[go_sem ↓] theorem vCode_region {i : Nat} {ops : List Oper} {Q : Exit → Env → Heap → Prop} : vCode G P n M (.region i ops.toArray false) Q e h = vOps G P M false [] ops e h (Q .normal) := (rfl)
@[go_sem ↓] theorem vCode_regionX {i : Nat} {ops : List Oper} {Q : Exit → Env → Heap → Prop} : vCode G P n M (.region i ops.toArray true) Q e h = vOpsD G P M [] ops e h (Q .normal) := (rfl)
@[go_sem ↓] theorem vCode_skip {Q : Exit → Env → Heap → Prop} : vCode G P n M .skip Q e h = Q .normal e h := (rfl)
@[go_sem ↓] theorem vCode_ret {Q : Exit → Env → Heap → Prop} : vCode G P n M .ret Q e h = Q .ret e h := (rfl)
@[go_sem ↓] theorem vCode_exit {i : Nat} {Q : Exit → Env → Heap → Prop} : vCode G P n M (.exit i) Q e h = Q (.exit i) e h := (rfl)
@[go_sem ↓] theorem vCode_label {i : Nat} {Q : Exit → Env → Heap → Prop} : vCode G P n M (.label i) Q e h = Q .normal e h := (rfl)
@[go_sem ↓] theorem vCode_block {i : Nat} {a : Code} {Q : Exit → Env → Heap → Prop} : vCode G P n M (.block i a) Q e h = vCode G P n M a (blockQ i Q) e h := (rfl)
@[go_sem ↓] theorem vCode_loop {a : Code} {Q : Exit → Env → Heap → Prop} : vCode G P n M (.loop a) Q e h = vLoop G P n M a Q e h := (rfl)
@[go_sem ↓] theorem vCode_cond {t : Tmp} {a b : Code} {Q : Exit → Env → Heap → Prop} : vCode G P n M (.cond (.tmp t) a b) Q e h = onBool (e t) (hold fun v => vIf v (hold (vCode G P n M a Q e h)) (hold (vCode G P n M b Q e h))) := by
  simp only [vCode, onBool]
  try (cases e t <;> rfl)

@[go_sem ↓] theorem vCode_condc {v : Bool} {a b : Code} {Q : Exit → Env → Heap → Prop} : vCode G P n M (.cond (.const (.bool v)) a b) Q e h = vIf v (hold (vCode G P n M a Q e h)) (hold (vCode G P n M b Q e h)) := (rfl)
@[go_sem ↓] theorem thenQ_normal {Q : Exit → Env → Heap → Prop} {K : Env → Heap → Prop} : thenQ Q K .normal e h = K e h := (rfl)
@[go_sem ↓] theorem thenQ_ret {Q : Exit → Env → Heap → Prop} {K : Env → Heap → Prop} : thenQ Q K .ret e h = Q .ret e h := (rfl)
@[go_sem ↓] theorem thenQ_exit {Q : Exit → Env → Heap → Prop} {K : Env → Heap → Prop} {i : Nat} : thenQ Q K (.exit i) e h = Q (.exit i) e h := (rfl)
theorem thenQ_normal' {Q : Exit → Env → Heap → Prop} {K : Env → Heap → Prop} : thenQ Q K .normal = K := rfl
@[go_sem ↓] theorem blockQ_normal {i : Nat} {Q : Exit → Env → Heap → Prop} : blockQ i Q .normal e h = Q .normal e h := (rfl)
@[go_sem ↓] theorem blockQ_ret {i : Nat} {Q : Exit → Env → Heap → Prop} : blockQ i Q .ret e h = Q .ret e h := (rfl)
@[go_sem ↓] theorem blockQ_same {i : Nat} {Q : Exit → Env → Heap → Prop} : blockQ i Q (.exit i) e h = Q .normal e h := by simp [blockQ]
@[go_sem ↓] theorem blockQ_other {i j : Nat} {Q : Exit → Env → Heap → Prop} (hij : (j == i) = false) : blockQ i Q (.exit j) e h = Q (.exit j) e h := by
  simp only [blockQ]
  rw [if_neg]
  simpa using hij

/-! Tests. -/

section
variable {x y : Prop} {p : Hold x} {q : Hold y}
@[go_sem] theorem vIf_t : vIf true p q = x := by simp [vIf]
@[go_sem] theorem vIf_f : vIf false p q = y := by simp [vIf]
@[go_sem] theorem vIf_not {b : Bool} : vIf (!b) p q = vIf b q p := by
  cases b <;> simp [vIf]
end
theorem vIf_eq {b : Bool} {x x' y y' : Prop} (hx : x = x') (hy : y = y') : vIf b (hold x) (hold y) = vIf b (hold x') (hold y') := by
  subst hx hy; rfl
@[go_sem] theorem beq_t {b : Bool} : (b == true) = b := by simp
@[go_sem] theorem beq_f {b : Bool} : (b == false) = !b := by cases b <;> rfl
@[go_sem] theorem pick_or {b c : Bool} : pickV b (.bool true) (.bool c) = .bool (b || c) := by cases b <;> rfl
@[go_sem] theorem pick_and {b c : Bool} : pickV b (.bool c) (.bool false) = .bool (b && c) := by cases b <;> rfl
@[go_sem] theorem pick_t {u v : Value} : pickV true u v = u := (rfl)
@[go_sem] theorem pick_f {u v : Value} : pickV false u v = v := (rfl)
attribute [go_sem ↓] List.getElem?_toArray
attribute [go_sem] bne_self_eq_false beq_self_eq_true
attribute [go_sem] Bool.not_true Bool.not_false Bool.not_not Bool.true_and Bool.false_and Bool.and_true Bool.and_false Bool.true_or Bool.false_or Bool.or_true Bool.or_false Bool.true_eq_false Bool.false_eq_true List.nil_append List.cons_append List.getElem?_cons_succ List.getElem?_cons_zero List.map_cons List.map_nil List.append_nil List.length_cons List.length_nil

/-! Rows of operations. -/


@[go_sem ↓] theorem vOps_nil {x : Bool} {sl : List (Option Tmp)} {K : Env → Heap → Prop} : vOps G P M x sl [] e h K = K e h := (rfl)
@[go_sem ↓] theorem vOps_cons {sl : List (Option Tmp)} {d : Option Tmp} {op : Op} {t : TypeId} {s : String} {a : Array Edge} {os : List Oper} {K : Env → Heap → Prop} :
    vOps G P M false sl ({ dst := d, op := op, type := t, pos := s, after := a, guard := none } :: os) e h K = vOp G P M op e h (fun v h' => vOps G P M false (sl ++ [d]) os (put e d v) h' K) := by
  simp [vOps]
@[go_sem ↓] theorem vOps_consX {sl : List (Option Tmp)} {d : Option Tmp} {op : Op} {t : TypeId} {s : String} {a : Array Edge} {os : List Oper} {K : Env → Heap → Prop} :
    vOps G P M true sl ({ dst := d, op := op, type := t, pos := s, after := a, guard := none } :: os) e h K = vOp G P M op e h (fun v h' => h <+: h' ∧ vOps G P M true (sl ++ [d]) os (put e d v) h' K) := by
  simp [vOps]

def onGuard (v : Value) (want : Bool) {A B : Prop} (p : Hold A) (q : Hold B) : Prop := match v with
  | .bool b => vIf (b == want) p q
  | _ => B
@[go_sem] theorem onGuard_bool {b want : Bool} {A B : Prop} {p : Hold A} {q : Hold B} : onGuard (.bool b) want p q = vIf (b == want) p q := (rfl)
@[go_sem] theorem onGuard_undef {want : Bool} {A B : Prop} {p : Hold A} {q : Hold B} : onGuard undef want p q = B := (rfl)
def onSlot (o : Option (Option Tmp)) {K : Tmp → Prop} (_ : Hold K) : Prop := match o with
  | some (some t) => K t
  | _ => False
@[go_sem] theorem onSlot_some {t : Tmp} {K : Tmp → Prop} {p : Hold K} : onSlot (some (some t)) p = K t := (rfl)

@[go_sem ↓] theorem vOps_guard {sl : List (Option Tmp)} {d : Option Tmp} {op : Op} {t : TypeId} {s : String} {a : Array Edge} {g : Nat} {want : Bool} {os : List Oper} {K : Env → Heap → Prop} :
    vOps G P M false sl ({ dst := d, op := op, type := t, pos := s, after := a, guard := some (g, want) } :: os) e h K =
      onSlot (sl[g]?) (hold fun t => onGuard (e t) want (hold (vOp G P M op e h (fun v h' => vOps G P M false (sl ++ [d]) os (put e d v) h' K))) (hold (vOps G P M false (sl ++ [d]) os (put e d undef) h K))) := by
  have e1 : (fun (v : Value) (h' : Heap) => (false = true → h <+: h') ∧ vOps G P M false (sl ++ [d]) os (put e d v) h' K) = fun v h' => vOps G P M false (sl ++ [d]) os (put e d v) h' K := by funext v h'; simp
  simp only [vOps, onSlot, onGuard]
  cases sl[g]? with
  | none => rfl
  | some o => cases o with
    | none => rfl
    | some t => simp only; cases e t <;> first | rfl | exact vIf_eq (by rw [e1]) rfl
@[go_sem ↓] theorem vOps_guardX {sl : List (Option Tmp)} {d : Option Tmp} {op : Op} {t : TypeId} {s : String} {a : Array Edge} {g : Nat} {want : Bool} {os : List Oper} {K : Env → Heap → Prop} :
    vOps G P M true sl ({ dst := d, op := op, type := t, pos := s, after := a, guard := some (g, want) } :: os) e h K =
      onSlot (sl[g]?) (hold fun t => onGuard (e t) want (hold (vOp G P M op e h (fun v h' => h <+: h' ∧ vOps G P M true (sl ++ [d]) os (put e d v) h' K))) (hold (vOps G P M true (sl ++ [d]) os (put e d undef) h K))) := by
  have e1 : (fun (v : Value) (h' : Heap) => (true = true → h <+: h') ∧ vOps G P M true (sl ++ [d]) os (put e d v) h' K) = fun v h' => h <+: h' ∧ vOps G P M true (sl ++ [d]) os (put e d v) h' K := by funext v h'; simp
  simp only [vOps, onSlot, onGuard]
  cases sl[g]? with
  | none => rfl
  | some o => cases o with
    | none => rfl
    | some t => simp only; cases e t <;> first | rfl | exact vIf_eq (by rw [e1]) rfl

/-! Regions that draw. -/

section
variable {x y z u : Operand} {t t' : TypeId} {i : Nat}
@[go_sem] theorem quiet_move : quietOp (.move x) = true := (rfl)
@[go_sem] theorem quiet_assign : quietOp (.assign x) = true := (rfl)
@[go_sem] theorem quiet_pick : quietOp (.pick x y z) = true := (rfl)
@[go_sem] theorem quiet_alloc : quietOp (.alloc t) = true := (rfl)
@[go_sem] theorem quiet_box : quietOp (.box t x) = true := (rfl)
@[go_sem] theorem quiet_load : quietOp (.load t x) = true := (rfl)
@[go_sem] theorem quiet_store : quietOp (.store t x y) = false := (rfl)
@[go_sem] theorem quiet_fieldAddr : quietOp (.fieldAddr t x i) = true := (rfl)
@[go_sem] theorem quiet_indexAddr : quietOp (.indexAddr t x y) = true := (rfl)
@[go_sem] theorem quiet_nilCheck : quietOp (.nilCheck x) = true := (rfl)
@[go_sem] theorem quiet_binOp {op : BinOp} : quietOp (.binOp op t x y t') = true := (rfl)
@[go_sem] theorem quiet_unOp {op : UnOp} : quietOp (.unOp op t x) = true := (rfl)
@[go_sem] theorem quiet_extract : quietOp (.extract x i) = true := (rfl)
@[go_sem] theorem quiet_build {ps : Array (Nat × Operand)} : quietOp (.build t ps) = true := (rfl)
@[go_sem] theorem quiet_buildSlice {ps : Array (Nat × Operand)} : quietOp (.buildSlice t i ps) = true := (rfl)
@[go_sem] theorem quiet_makeFunc {fn : Fn} {a b : Array Operand} : quietOp (.makeFunc fn a b) = true := (rfl)
@[go_sem] theorem quiet_makeSlice : quietOp (.makeSlice t x y) = true := (rfl)
@[go_sem] theorem quiet_index : quietOp (.index t x y) = true := (rfl)
@[go_sem] theorem quiet_convert : quietOp (.convert t t' x) = true := (rfl)
@[go_sem] theorem quiet_slice {a b c : Option Operand} : quietOp (.slice t x a b c) = true := (rfl)
@[go_sem] theorem quiet_call {args : Array Operand} {ats : Array TypeId} : quietOp (.call { callee := .value x, args := args, argTypes := ats }) = true := (rfl)
@[go_sem] theorem quiet_len {args : Array Operand} {ats : Array TypeId} : quietOp (.call { callee := .builtin .len, args := args, argTypes := ats }) = true := (rfl)
@[go_sem] theorem quiet_max {args : Array Operand} {ats : Array TypeId} : quietOp (.call { callee := .builtin .max, args := args, argTypes := ats }) = true := (rfl)
@[go_sem] theorem quiet_min {args : Array Operand} {ats : Array TypeId} : quietOp (.call { callee := .builtin .min, args := args, argTypes := ats }) = true := (rfl)
@[go_sem] theorem quiet_append {args : Array Operand} {ats : Array TypeId} : quietOp (.call { callee := .builtin .append, args := args, argTypes := ats }) = false := (rfl)
end

@[go_sem ↓] theorem vOpsD_nil {sl : List (Option Tmp)} {K : Env → Heap → Prop} : vOpsD G P M sl [] e h K = K e h := (rfl)
@[go_sem ↓] theorem vOpsD_cons {sl : List (Option Tmp)} {d : Option Tmp} {op : Op} {t : TypeId} {s : String} {a : Array Edge} {os : List Oper} {K : Env → Heap → Prop} (hq : quietOp op = true) :
    vOpsD G P M sl ({ dst := d, op := op, type := t, pos := s, after := a, guard := none } :: os) e h K = vOp G P (fun _ => False) op e h (fun v h' => h <+: h' ∧ vOpsD G P M (sl ++ [d]) os (put e d v) h' K) := by
  simp [vOpsD, hq]
@[go_sem ↓] theorem vOpsD_tail {sl : List (Option Tmp)} {d : Option Tmp} {op : Op} {t : TypeId} {s : String} {a : Array Edge} {os : List Oper} {K : Env → Heap → Prop} (hq : quietOp op = false) :
    vOpsD G P M sl ({ dst := d, op := op, type := t, pos := s, after := a, guard := none } :: os) e h K = vOp G P M op e h (fun v h' => vOpsD G P M (sl ++ [d]) os (put e d v) h' K) := by
  simp [vOpsD, hq]
@[go_sem ↓] theorem vOpsD_guard {sl : List (Option Tmp)} {d : Option Tmp} {op : Op} {t : TypeId} {s : String} {a : Array Edge} {g : Nat} {want : Bool} {os : List Oper} {K : Env → Heap → Prop} (hq : quietOp op = true) :
    vOpsD G P M sl ({ dst := d, op := op, type := t, pos := s, after := a, guard := some (g, want) } :: os) e h K =
      onSlot (sl[g]?) (hold fun t => onGuard (e t) want (hold (vOp G P (fun _ => False) op e h (fun v h' => h <+: h' ∧ vOpsD G P M (sl ++ [d]) os (put e d v) h' K))) (hold (vOpsD G P M (sl ++ [d]) os (put e d undef) h K))) := by
  simp only [vOpsD, onSlot, onGuard, hq, if_true]
  all_goals
    cases sl[g]? with
    | none => rfl
    | some o => cases o with
      | none => rfl
      | some t => simp only; cases e t <;> first | rfl | exact vIf_eq rfl rfl

/-! Regions whose loads and fresh variables are free. -/

def kindOp (op : Op) : Nat := match op with
  | .alloc _ => 1
  | .load .. => 2
  | .buildSlice .. => 5
  | .call { callee := .value _, .. } => 4
  | _ => if quietOp op = true then 0 else 3

section
variable {x y z u : Operand} {t t' : TypeId} {i : Nat}
@[go_sem] theorem kind_move : kindOp (.move x) = 0 := (rfl)
@[go_sem] theorem kind_assign : kindOp (.assign x) = 0 := (rfl)
@[go_sem] theorem kind_pick : kindOp (.pick x y z) = 0 := (rfl)
@[go_sem] theorem kind_alloc : kindOp (.alloc t) = 1 := (rfl)
@[go_sem] theorem kind_box : kindOp (.box t x) = 0 := (rfl)
@[go_sem] theorem kind_load : kindOp (.load t x) = 2 := (rfl)
@[go_sem] theorem kind_store : kindOp (.store t x y) = 3 := (rfl)
@[go_sem] theorem kind_fieldAddr : kindOp (.fieldAddr t x i) = 0 := (rfl)
@[go_sem] theorem kind_indexAddr : kindOp (.indexAddr t x y) = 0 := (rfl)
@[go_sem] theorem kind_nilCheck : kindOp (.nilCheck x) = 0 := (rfl)
@[go_sem] theorem kind_binOp {op : BinOp} : kindOp (.binOp op t x y t') = 0 := (rfl)
@[go_sem] theorem kind_unOp {op : UnOp} : kindOp (.unOp op t x) = 0 := (rfl)
@[go_sem] theorem kind_extract : kindOp (.extract x i) = 0 := (rfl)
@[go_sem] theorem kind_build {ps : Array (Nat × Operand)} : kindOp (.build t ps) = 0 := (rfl)
@[go_sem] theorem kind_makeFunc {fn : Fn} {a b : Array Operand} : kindOp (.makeFunc fn a b) = 0 := (rfl)
@[go_sem] theorem kind_makeSlice : kindOp (.makeSlice t x y) = 0 := (rfl)
@[go_sem] theorem kind_index : kindOp (.index t x y) = 0 := (rfl)
@[go_sem] theorem kind_convert : kindOp (.convert t t' x) = 0 := (rfl)
@[go_sem] theorem kind_slice {a b c : Option Operand} : kindOp (.slice t x a b c) = 0 := (rfl)
@[go_sem] theorem kind_call {args : Array Operand} {ats : Array TypeId} : kindOp (.call { callee := .value x, args := args, argTypes := ats }) = 4 := (rfl)
@[go_sem] theorem kind_len {args : Array Operand} {ats : Array TypeId} : kindOp (.call { callee := .builtin .len, args := args, argTypes := ats }) = 0 := (rfl)
@[go_sem] theorem kind_max {args : Array Operand} {ats : Array TypeId} : kindOp (.call { callee := .builtin .max, args := args, argTypes := ats }) = 0 := (rfl)
@[go_sem] theorem kind_min {args : Array Operand} {ats : Array TypeId} : kindOp (.call { callee := .builtin .min, args := args, argTypes := ats }) = 0 := (rfl)
@[go_sem] theorem kind_append {args : Array Operand} {ats : Array TypeId} : kindOp (.call { callee := .builtin .append, args := args, argTypes := ats }) = 3 := (rfl)
end

def constB (ps : List (Nat × Operand)) : Bool := !(ps.isEmpty) && constL ps
def valB (P : Program) (t : TypeId) (len : Nat) (ps : List (Nat × Operand)) : Option Blk := freshO P (.buildSlice t len ps.toArray)
section
variable {x : Operand} {ps : List (Nat × Operand)} {i : Nat} {k : IntKind} {n : Int}
@[go_sem] theorem constB_nil : constB [] = false := (rfl)
@[go_sem] theorem constB_cons {p : Nat × Operand} : constB (p :: ps) = constL (p :: ps) := (rfl)
@[go_sem] theorem constL_nil : constL [] = true := (rfl)
@[go_sem] theorem constL_int : constL ((i, .const (.int k n)) :: ps) = constL ps := (rfl)
@[go_sem] theorem constX_int : constX (.const (.int k n)) = some (.int k n) := (rfl)
@[go_sem] theorem constL_tmp {t : Tmp} : constL ((i, .tmp t) :: ps) = false := (rfl)
end
theorem alloc_bs {t : TypeId} {len : Nat} {ps : List (Nat × Operand)} : allocOp (.buildSlice t len ps.toArray) = constB ps := (rfl)
theorem kind_alloc_not {op : Op} (h : kindOp op = 0 ∨ kindOp op = 2 ∨ kindOp op = 3 ∨ kindOp op = 4) : allocOp op = false := by
  unfold allocOp
  split
  · simp [kindOp] at h
  · simp [kindOp] at h
  · rfl
theorem kind_load_not {op : Op} (h : kindOp op = 0 ∨ kindOp op = 3 ∨ kindOp op = 4) : loadOp op = false := by
  unfold loadOp
  split
  · simp [kindOp] at h
  · rfl
theorem kind_quiet {op : Op} (h : kindOp op = 0) : quietOp op = true := by
  cases hq : quietOp op with
  | true => rfl
  | false =>
    unfold kindOp at h
    split at h <;> simp_all
theorem kind_write {op : Op} (h : kindOp op = 3) : quietOp op = false := by
  cases hq : quietOp op with
  | false => rfl
  | true =>
    unfold kindOp at h
    split at h <;> simp_all
theorem kind_call4 {op : Op} (h : kindOp op = 4) : quietOp op = true ∧ callOp op = true := by
  unfold kindOp at h
  split at h <;> first | exact ⟨rfl, rfl⟩ | (simp at h; done) | (split at h <;> simp at h)
theorem kind_call0 {op : Op} (h : kindOp op = 0) {lo : List Nat} {k : Nat} (hlo : lo.contains k = false ∨ callOp op = false) : qt lo k op = true := by
  unfold qt
  rw [kind_quiet h]
  rcases hlo with h | h <;> rw [h] <;> simp

section
variable {lo rs rd : List Nat} {k : Nat} {sl : List (Option Tmp)} {d : Option Tmp} {op : Op} {t : TypeId} {s : String} {a : Array Edge} {gd : Option (Nat × Bool)} {os : List Oper} {K : Env → Heap → Prop}

def catB (o : Option Blk) (l : Option (List Blk)) : Option (List Blk) := o.bind fun b => l.map fun l => b :: l
@[go_sem] theorem catB_some {b : Blk} {l : List Blk} : catB (some b) (some l) = some (b :: l) := (rfl)
@[go_sem] theorem fresh_nil : freshB P [] = some [] := (rfl)
theorem fresh_take (h : allocOp op = true) : freshB P ({ dst := d, op := op, type := t, pos := s, after := a, guard := gd } :: os) = catB (freshO P op) (freshB P os) := by
  rw [freshB, if_pos h]; rfl
theorem fresh_skip (h : allocOp op = false) : freshB P ({ dst := d, op := op, type := t, pos := s, after := a, guard := gd } :: os) = freshB P os := by
  rw [freshB, if_neg (by simp [h])]
@[go_sem] theorem fresh_alloc {t' : TypeId} : freshB P ({ dst := d, op := .alloc t, type := t', pos := s, after := a, guard := gd } :: os) = catB ((tz P t).map fun z => ⟨z, P.cellsOf t, .rw⟩) (freshB P os) := fresh_take rfl
@[go_sem] theorem fresh_bs {t' : TypeId} {len : Nat} {ps : List (Nat × Operand)} (h : constB ps = true) : freshB P ({ dst := d, op := .buildSlice t len ps.toArray, type := t', pos := s, after := a, guard := gd } :: os) = catB (valB P t len ps) (freshB P os) := fresh_take h
@[go_sem] theorem fresh_bt {t' : TypeId} {len : Nat} {ps : List (Nat × Operand)} (h : constB ps = false) : freshB P ({ dst := d, op := .buildSlice t len ps.toArray, type := t', pos := s, after := a, guard := gd } :: os) = freshB P os := fresh_skip h
@[go_sem] theorem fresh_k0 (h : kindOp op = 0) : freshB P ({ dst := d, op := op, type := t, pos := s, after := a, guard := gd } :: os) = freshB P os := fresh_skip (kind_alloc_not (.inl h))
@[go_sem] theorem fresh_k2 (h : kindOp op = 2) : freshB P ({ dst := d, op := op, type := t, pos := s, after := a, guard := gd } :: os) = freshB P os := fresh_skip (kind_alloc_not (.inr (.inl h)))
@[go_sem] theorem fresh_k3 (h : kindOp op = 3) : freshB P ({ dst := d, op := op, type := t, pos := s, after := a, guard := gd } :: os) = freshB P os := fresh_skip (kind_alloc_not (.inr (.inr (.inl h))))
@[go_sem] theorem fresh_k4 (h : kindOp op = 4) : freshB P ({ dst := d, op := op, type := t, pos := s, after := a, guard := gd } :: os) = freshB P os := fresh_skip (kind_alloc_not (.inr (.inr (.inr h))))
@[go_sem] theorem ids_nil {i : Nat} : ids i [] = [] := (rfl)
@[go_sem] theorem ids_cons {i : Nat} {b : Blk} {l : List Blk} : ids i (b :: l) = i :: ids (i + 1) l := (rfl)
@[go_sem] theorem keep_nil {h h' : Heap} : keep [] h h' = True := (rfl)
@[go_sem] theorem keep_cons {i : Nat} {l : List Nat} {h h' : Heap} : keep (i :: l) h h' = (hget h' i = hget h i ∧ keep l h h') := (rfl)
@[go_sem] theorem idOf_ptr {id off : Nat} : idOf (.pointer (some ⟨id, off, none⟩)) = id := (rfl)

@[go_sem ↓] theorem vOpsR_nil : vOpsR G P M lo K rs rd k sl [] e h = K e h := (rfl)
@[go_sem ↓] theorem vOpsR_cons : vOpsR G P M lo K rs rd k sl ({ dst := d, op := op, type := t, pos := s, after := a, guard := none } :: os) e h =
    vOpR G P M lo rs rd k op e h (fun rs' rd' v h' => vOpsR G P M lo K rs' rd' (k + 1) (sl ++ [d]) os (put e d v) h') := (rfl)
@[go_sem ↓] theorem vOpsR_guard {g : Nat} {want : Bool} : vOpsR G P M lo K rs rd k sl ({ dst := d, op := op, type := t, pos := s, after := a, guard := some (g, want) } :: os) e h =
    onSlot (sl[g]?) (hold fun t => onGuard (e t) want (hold (vOpR G P M lo rs rd k op e h (fun rs' rd' v h' => vOpsR G P M lo K rs' rd' (k + 1) (sl ++ [d]) os (put e d v) h'))) (hold (vOpsR G P M lo K rs rd (k + 1) (sl ++ [d]) os (put e d undef) h))) := by
  simp only [vOpsR, onSlot, onGuard]
  all_goals
    cases sl[g]? with
    | none => rfl
    | some o => cases o with
      | none => rfl
      | some t => simp only; cases e t <;> first | rfl | exact vIf_eq rfl rfl
variable {KR : List Nat → List Nat → Value → Heap → Prop}
@[go_sem ↓] theorem vOpR_alloc {r : Nat} (hlo : lo.contains k = false) : vOpR G P M lo (r :: rs) rd k (.alloc t) e h KR = KR rs rd (.pointer (some ⟨r, 0, none⟩)) h := by
  unfold vOpR
  rw [if_pos (show allocOp (.alloc t) = true from rfl), hlo]; rfl
@[go_sem ↓] theorem vOpR_allocX {r : Nat} (hlo : lo.contains k = true) : vOpR G P M lo (r :: rs) rd k (.alloc t) e h KR = KR rs (r :: rd) (.pointer (some ⟨r, 0, none⟩)) h := by
  unfold vOpR
  rw [if_pos (show allocOp (.alloc t) = true from rfl), hlo]; rfl
@[go_sem ↓] theorem vOpR_bs {r len : Nat} {ps : List (Nat × Operand)} (hc : constB ps = true) (hlo : lo.contains k = false) : vOpR G P M lo (r :: rs) rd k (.buildSlice t len ps.toArray) e h KR = KR rs rd (.slice (some ⟨r, 0, none⟩) len 0) h := by
  unfold vOpR
  rw [if_pos (alloc_bs.trans hc), hlo]
  rfl
@[go_sem ↓] theorem vOpR_bsX {r len : Nat} {ps : List (Nat × Operand)} (hc : constB ps = true) (hlo : lo.contains k = true) : vOpR G P M lo (r :: rs) rd k (.buildSlice t len ps.toArray) e h KR = KR rs (r :: rd) (.slice (some ⟨r, 0, none⟩) len 0) h := by
  unfold vOpR
  rw [if_pos (alloc_bs.trans hc), hlo]
  rfl
@[go_sem ↓] theorem vOpR_bt {len : Nat} {ps : List (Nat × Operand)} (hc : constB ps = false) : vOpR G P M lo rs rd k (.buildSlice t len ps.toArray) e h KR = vOp G P (fun _ => False) (.buildSlice t len ps.toArray) e h (fun v h' => h <+: h' ∧ KR rs rd v h') := by
  unfold vOpR
  rw [if_neg (by rw [alloc_bs, hc]; decide)]
  rfl
@[go_sem ↓] theorem vOpR_load {x : Operand} (hlo : lo.contains k = false) : vOpR G P M lo rs rd k (.load t x) e h KR = vOp G P (fun _ => False) (.load t x) e h (fun v h' => KR rs rd v h') := by
  unfold vOpR
  rw [if_neg (by simp [allocOp]), hlo]
  rfl
@[go_sem ↓] theorem vOpR_loadX {x : Operand} (hlo : lo.contains k = true) : vOpR G P M lo rs rd k (.load t x) e h KR = vOp G P (fun _ => False) (.load t x) e h (fun v h' => KR rs (idOf (Opd.val e x) :: rd) v h') := by
  unfold vOpR
  rw [if_neg (by simp [allocOp]), hlo]
  rfl
theorem vOpR_other (h1 : allocOp op = false) (h2 : loadOp op = false) : vOpR G P M lo rs rd k op e h KR = if qt lo k op = true then vOp G P (fun _ => False) op e h (fun v h' => h <+: h' ∧ KR rs rd v h')
    else if quietOp op = true then vOp G P M op e h (fun v h' => keep (rs ++ rdk lo rd k) h h' ∧ h.length ≤ h'.length ∧ KR rs rd v h') else vOp G P M op e h (fun v h' => keep (rs ++ rdk lo rd k) h h' ∧ KR rs rd v h') := by
  unfold vOpR
  rw [if_neg (by simp [h1])]
  split
  · cases h2
  · rfl
@[go_sem ↓] theorem vOpR_call {x : Operand} {args : Array Operand} {ats : Array TypeId} (hlo : lo.contains k = false) : vOpR G P M lo rs rd k (.call { callee := .value x, args := args, argTypes := ats }) e h KR = vOp G P (fun _ => False) (.call { callee := .value x, args := args, argTypes := ats }) e h (fun v h' => h <+: h' ∧ KR rs rd v h') := by
  rw [vOpR_other rfl rfl, if_pos (by unfold qt; rw [hlo]; rfl)]
@[go_sem ↓] theorem vOpR_callX {x : Operand} {args : Array Operand} {ats : Array TypeId} (hlo : lo.contains k = true) : vOpR G P M lo rs rd k (.call { callee := .value x, args := args, argTypes := ats }) e h KR = vOp G P M (.call { callee := .value x, args := args, argTypes := ats }) e h (fun v h' => keep (rs ++ rdk lo rd k) h h' ∧ h.length ≤ h'.length ∧ KR rs rd v h') := by
  have e1 : qt lo k (.call { callee := .value x, args := args, argTypes := ats }) = false := by unfold qt; rw [hlo]; rfl
  have e2 : quietOp (.call { callee := .value x, args := args, argTypes := ats }) = true := rfl
  rw [vOpR_other rfl rfl, e1, if_neg (by simp), if_pos e2]
@[go_sem ↓] theorem vOpR_quiet (hk : kindOp op = 0) (hlo : lo.contains k = false) : vOpR G P M lo rs rd k op e h KR = vOp G P (fun _ => False) op e h (fun v h' => h <+: h' ∧ KR rs rd v h') := by
  rw [vOpR_other (kind_alloc_not (.inl hk)) (kind_load_not (.inl hk)), if_pos (kind_call0 hk (.inl hlo))]
@[go_sem ↓] theorem vOpR_write (hk : kindOp op = 3) : vOpR G P M lo rs rd k op e h KR = vOp G P M op e h (fun v h' => keep (rs ++ rdk lo rd k) h h' ∧ KR rs rd v h') := by
  rw [vOpR_other (kind_alloc_not (.inr (.inr (.inl hk)))) (kind_load_not (.inr (.inl hk))), if_neg (by unfold qt; rw [kind_write hk]; simp), if_neg (by rw [kind_write hk]; simp)]
@[go_sem ↓] theorem rdk_no (hlo : lo.contains (k + 1000) = false) : rdk lo rd k = rd := by unfold rdk; rw [hlo]; rfl
@[go_sem ↓] theorem rdk_yes (hlo : lo.contains (k + 1000) = true) : rdk lo rd k = [] := by unfold rdk; rw [hlo]; rfl
attribute [go_sem] List.append_nil List.nil_append
@[go_sem ↓] theorem lo_nil : ([] : List Nat).contains k = false := (rfl)
@[go_sem ↓] theorem lo_same {l : List Nat} : (k :: l).contains k = true := by simp
@[go_sem ↓] theorem lo_other {b : Nat} {l : List Nat} (hij : (k == b) = false) : (b :: l).contains k = l.contains k := by simp only [List.contains_cons, hij, Bool.false_or]
@[go_sem ↓] theorem lk_nil : lk [] k = none := (rfl)
@[go_sem ↓] theorem lk_same {l : List Nat} {L : List (Nat × List Nat)} : lk ((k, l) :: L) k = some l := by simp [lk]
@[go_sem ↓] theorem lk_other {b : Nat} {l : List Nat} {L : List (Nat × List Nat)} (hij : (k == b) = false) : lk ((b, l) :: L) k = lk L k := by
  have hh : ¬ (b = k) := fun hh => by rw [hh] at hij; simp at hij
  simp only [lk, if_neg hh]
@[go_sem ↓] theorem onLk_some {l : List Nat} {K : List Nat → Prop} {A : Prop} {p : Hold K} {q : Hold A} : onLk (some l) p q = K l := (rfl)
@[go_sem ↓] theorem onLk_none {K : List Nat → Prop} {A : Prop} {p : Hold K} {q : Hold A} : onLk none p q = A := (rfl)
attribute [go_sem] Option.bind_some Option.map_some Nat.zero_add
variable {L : List (Nat × List Nat)} {Q : Exit → Env → Heap → Prop} {c b : Code} {i : Nat}
@[go_sem ↓] theorem vReg_eq : vReg G P M lo os e h K = onSome (freshB P os) (hold fun bs => vOpsR G P M lo K (ids h.length bs) [] 0 [] os e (h ++ bs)) := (rfl)
@[go_sem ↓] theorem vCodeR_seq : vCodeR L G P n M (.seq c b) Q e h = vCodeR L G P n M c (thenQ Q (vCodeR L G P n M b Q)) e h := (rfl)
@[go_sem ↓] theorem vCodeR_region : vCodeR L G P n M (.region i os.toArray false) Q e h = vOps G P M false [] os e h (Q .normal) := (rfl)
@[go_sem ↓] theorem vCodeR_regionX : vCodeR L G P n M (.region i os.toArray true) Q e h = onLk (lk L i) (hold fun lo => vReg G P M lo os e h (Q .normal)) (hold (vOpsD G P M [] os e h (Q .normal))) := (rfl)
@[go_sem ↓] theorem vCodeR_skip : vCodeR L G P n M .skip Q e h = Q .normal e h := (rfl)
@[go_sem ↓] theorem vCodeR_ret : vCodeR L G P n M .ret Q e h = Q .ret e h := (rfl)
@[go_sem ↓] theorem vCodeR_exit : vCodeR L G P n M (.exit i) Q e h = Q (.exit i) e h := (rfl)
@[go_sem ↓] theorem vCodeR_label : vCodeR L G P n M (.label i) Q e h = Q .normal e h := (rfl)
@[go_sem ↓] theorem vCodeR_block : vCodeR L G P n M (.block i c) Q e h = vCodeR L G P n M c (blockQ i Q) e h := (rfl)
@[go_sem ↓] theorem vCodeR_loop : vCodeR L G P n M (.loop c) Q e h = vLoopR L G P n M c Q e h := (rfl)
@[go_sem ↓] theorem vCodeR_cond {t : Tmp} : vCodeR L G P n M (.cond (.tmp t) c b) Q e h = onBool (e t) (hold fun v => vIf v (hold (vCodeR L G P n M c Q e h)) (hold (vCodeR L G P n M b Q e h))) := by
  simp only [vCodeR, onBool]
  try (cases e t <;> rfl)
@[go_sem ↓] theorem vCodeR_condc {v : Bool} : vCodeR L G P n M (.cond (.const (.bool v)) c b) Q e h = vIf v (hold (vCodeR L G P n M c Q e h)) (hold (vCodeR L G P n M b Q e h)) := (rfl)
end

/-! Taking apart. -/

@[go_sem] theorem bindV_lit {v : Value} {K : Value → Prop} {p : Hold K} : bindV v p = K v := (rfl)
@[go_sem] theorem onPtr_lit {id off : Nat} {K : Nat → Nat → Prop} {p : Hold K} : onPtr (.pointer (some ⟨id, off, none⟩)) p = K id off := (rfl)
@[go_sem] theorem onInt_lit {k : IntKind} {m : Int} {K : IntKind → Int → Prop} {p : Hold K} : onInt (.int k m) p = K k m := (rfl)
@[go_sem] theorem onBool_lit {b : Bool} {K : Bool → Prop} {p : Hold K} : onBool (.bool b) p = K b := (rfl)
@[go_sem] theorem onSome_lit {α : Type} {a : α} {K : α → Prop} {p : Hold K} : onSome (some a) p = K a := (rfl)
@[go_sem] theorem onTuple_lit {vs : Array Value} {K : Array Value → Prop} {p : Hold K} : onTuple (.tuple vs) p = K vs := (rfl)
@[go_sem] theorem onFunc_lit {f : FuncId} {a b : Array Value} {K : FuncId → Array Value → Array Value → Prop} {p : Hold K} : onFunc (.func (.func f) a b) p = K f a b := (rfl)
section
variable {K : Nat → Nat → Nat → Prop} {L : Nat → Nat → Prop} {S : ByteArray → Prop} {p : Hold K} {q : Hold L} {r : Hold S}
@[go_sem] theorem onSeq_slice {id off len : Nat} : onSeq (.slice (some ⟨id, off, none⟩) len 0) p q r = K id off len := (rfl)
@[go_sem] theorem onSeq_ptr {id off : Nat} : onSeq (.pointer (some ⟨id, off, none⟩)) p q r = L id off := (rfl)
@[go_sem] theorem onPlaces_some {pl : List (Nat × Nat)} {A : List (Nat × Nat) → Prop} {B : Prop} {p : Hold A} {q : Hold B} : onPlaces (some pl) p q = A pl := (rfl)
@[go_sem] theorem onPlaces_none {A : List (Nat × Nat) → Prop} {B : Prop} {p : Hold A} {q : Hold B} : onPlaces none p q = B := (rfl)
@[go_sem] theorem onArr_agg {cs : Array Value} {A : Array Value → Prop} {B : Prop} {p : Hold A} {q : Hold B} : onArr (.agg cs) p q = A cs := (rfl)
@[go_sem] theorem onArr_str {s : ByteArray} {A : Array Value → Prop} {B : Prop} {p : Hold A} {q : Hold B} : onArr (.string s) p q = B := (rfl)
@[go_sem] theorem onSeq_str {s : ByteArray} : onSeq (.string s) p q r = S s := (rfl)
end
section
variable {E : Option Addr → Prop} {K : Nat → Nat → Nat → Prop} {S : ByteArray → Prop} {p : Hold E} {q : Hold K} {r : Hold S}
@[go_sem] theorem onSl_zero {oa : Option Addr} : onSl (.slice oa 0 0) p q r = E oa := (rfl)
@[go_sem] theorem onSl_succ {id off n : Nat} : onSl (.slice (some ⟨id, off, none⟩) (n + 1) 0) p q r = K id off (n + 1) := (rfl)
theorem onSl_more {id off n : Nat} (hn : 0 < n) : onSl (.slice (some ⟨id, off, none⟩) n 0) p q r = K id off n := by
  cases n with
  | zero => omega
  | succ n => rfl
@[go_sem] theorem onSl_str {s : ByteArray} : onSl (.string s) p q r = S s := (rfl)
end
@[go_sem] theorem onLen_slice {a : Option Addr} {len c : Nat} {K : Nat → Prop} {S : ByteArray → Prop} {p : Hold K} {q : Hold S} : onLen (.slice a len c) p q = K len := (rfl)
@[go_sem] theorem onLen_str {s : ByteArray} {K : Nat → Prop} {S : ByteArray → Prop} {p : Hold K} {q : Hold S} : onLen (.string s) p q = S s := (rfl)
section
variable {B : Bool → Bool → Prop} {K : Value → Value → Prop} {p : Hold B} {q : Hold K}
@[go_sem] theorem onTwo_bool {b c : Bool} : onTwo (.bool b) (.bool c) p q = B b c := (rfl)
@[go_sem] theorem onTwo_int {k k' : IntKind} {m m' : Int} : onTwo (.int k m) (.int k' m') p q = K (.int k m) (.int k' m') := (rfl)
@[go_sem] theorem onTwo_agg {xs ys : Array Value} : onTwo (.agg xs) (.agg ys) p q = K (.agg xs) (.agg ys) := (rfl)
@[go_sem] theorem onTwo_str {s s' : ByteArray} : onTwo (.string s) (.string s') p q = K (.string s) (.string s') := (rfl)
end
section
variable {K : IntKind → Int → Prop} {S : ByteArray → Prop} {E : Prop} {L : Nat → Nat → Nat → Prop} {p : Hold K} {q : Hold S} {r : Hold E} {s : Hold L}
@[go_sem] theorem onCv_int {k : IntKind} {m : Int} : onCv (.int k m) p q r s = K k m := (rfl)
@[go_sem] theorem onCv_str {t : ByteArray} : onCv (.string t) p q r s = S t := (rfl)
@[go_sem] theorem onCv_zero {oa : Option Addr} : onCv (.slice oa 0 0) p q r s = E := (rfl)
@[go_sem] theorem onCv_succ {id off n : Nat} : onCv (.slice (some ⟨id, off, none⟩) (n + 1) 0) p q r s = L id off (n + 1) := (rfl)
theorem onCv_more {id off n : Nat} (hn : 0 < n) : onCv (.slice (some ⟨id, off, none⟩) n 0) p q r s = L id off n := by
  cases n with
  | zero => omega
  | succ n => rfl
end
@[go_sem] theorem hEql_int {P : Program} {t : TypeId} {k : IntKind} {a b : Int} : hEql P t (.int k a) (.int k b) = some (.bool (a == b)) := by simp [hEql, hBin]
@[go_sem] theorem hNeq_int {P : Program} {t : TypeId} {k : IntKind} {a b : Int} : hNeq P t (.int k a) (.int k b) = some (.bool (a != b)) := by simp [hNeq, hBin]
@[go_sem] theorem hEql_str {P : Program} {t : TypeId} {a b : ByteArray} : hEql P t (.string a) (.string b) = some (.bool (a.toList == b.toList)) := (rfl)
@[go_sem] theorem hNeq_str {P : Program} {t : TypeId} {a b : ByteArray} : hNeq P t (.string a) (.string b) = some (.bool (!(a.toList == b.toList))) := (rfl)
@[go_sem] theorem hEql_agg {P : Program} {t : TypeId} {xs ys : List Value} : hEql P t (.agg xs.toArray) (.agg ys.toArray) = (flatK P t).bind fun ks => (eqK ks xs ys).map Value.bool := (rfl)
@[go_sem] theorem hNeq_agg {P : Program} {t : TypeId} {xs ys : List Value} : hNeq P t (.agg xs.toArray) (.agg ys.toArray) = (flatK P t).bind fun ks => (eqK ks xs ys).map fun b => .bool (!b) := (rfl)
@[go_sem] theorem eqK_nil : eqK [] [] [] = some true := (rfl)
@[go_sem] theorem eqK_int {ks : List Nat} {xs ys : List Value} {k : IntKind} {a b : Int} : eqK (0 :: ks) (.int k a :: xs) (.int k b :: ys) = (eqK ks xs ys).map fun r => (a == b) && r := by
  simp only [eqK, eqOne, if_true]
  cases eqK ks xs ys <;> rfl
@[go_sem] theorem eqK_str {ks : List Nat} {xs ys : List Value} {a b : ByteArray} : eqK (1 :: ks) (.string a :: xs) (.string b :: ys) = (eqK ks xs ys).map fun r => (a.toList == b.toList) && r := by
  simp only [eqK, eqOne]
  cases eqK ks xs ys <;> rfl
@[go_sem] theorem eqK_bool {ks : List Nat} {xs ys : List Value} {a b : Bool} : eqK (2 :: ks) (.bool a :: xs) (.bool b :: ys) = (eqK ks xs ys).map fun r => (a == b) && r := by
  simp only [eqK, eqOne]
  cases eqK ks xs ys <;> rfl
attribute [go_sem] Option.map_some
@[go_sem] theorem onLoad_one {A : Prop} {B : Nat → Prop} {p : Hold A} {q : Hold B} : onLoad none p q = A := (rfl)
@[go_sem] theorem onLoad_agg {m : Nat} {A : Prop} {B : Nat → Prop} {p : Hold A} {q : Hold B} : onLoad (some m) p q = B m := (rfl)
@[go_sem] theorem onKind_int {k : IntKind} {K : IntKind → Prop} {p : Hold K} : onKind (.int k) p = K k := (rfl)
section
variable {Z : Prop} {N : Nat → Nat → Nat → Prop} {K : Nat → Nat → Nat → Nat → Nat → Nat → Prop} {p : Hold Z} {q : Hold N} {r : Hold K}
@[go_sem] theorem onApp_nothing {so a2 : Option Addr} {len hc hc2 : Nat} : onApp (.slice so len hc) (.slice a2 0 hc2) p q r = Z := (rfl)
theorem onApp_nil {id2 off2 n : Nat} (hn : 0 < n) : onApp (.slice none 0 0) (.slice (some ⟨id2, off2, none⟩) n 0) p q r = N id2 off2 n := by
  cases n with
  | zero => omega
  | succ n => rfl
theorem onApp_more {id off len id2 off2 n : Nat} (hn : 0 < n) : onApp (.slice (some ⟨id, off, none⟩) len 0) (.slice (some ⟨id2, off2, none⟩) n 0) p q r = K id off len id2 off2 n := by
  cases n with
  | zero => omega
  | succ n => rfl
@[go_sem] theorem onApp_nil1 {id2 off2 : Nat} : onApp (.slice none 0 0) (.slice (some ⟨id2, off2, none⟩) 1 0) p q r = N id2 off2 1 := (rfl)
@[go_sem] theorem onApp_more1 {id off len id2 off2 : Nat} : onApp (.slice (some ⟨id, off, none⟩) len 0) (.slice (some ⟨id2, off2, none⟩) 1 0) p q r = K id off len id2 off2 1 := (rfl)
end

section
variable {k : IntKind} {a b : Int}
@[go_sem] theorem hBin_add : hBin .add (.int k a) (.int k b) = some (.int k (k.wrap (a + b))) := by simp [hBin]
@[go_sem] theorem hBin_sub : hBin .sub (.int k a) (.int k b) = some (.int k (k.wrap (a - b))) := by simp [hBin]
@[go_sem] theorem hBin_mul : hBin .mul (.int k a) (.int k b) = some (.int k (k.wrap (a * b))) := by simp [hBin]
@[go_sem] theorem hBin_eql : hBin .eql (.int k a) (.int k b) = some (.bool (a == b)) := by simp [hBin]
@[go_sem] theorem hBin_neq : hBin .neq (.int k a) (.int k b) = some (.bool (a != b)) := by simp [hBin]
@[go_sem] theorem hBin_lss : hBin .lss (.int k a) (.int k b) = some (.bool (decide (a < b))) := by simp [hBin]
@[go_sem] theorem hBin_leq : hBin .leq (.int k a) (.int k b) = some (.bool (decide (a ≤ b))) := by simp [hBin]
@[go_sem] theorem hBin_gtr : hBin .gtr (.int k a) (.int k b) = some (.bool (decide (b < a))) := by simp [hBin]
@[go_sem] theorem hBin_geq : hBin .geq (.int k a) (.int k b) = some (.bool (decide (b ≤ a))) := by simp [hBin]
theorem hBin_quo (hb : b ≠ 0) : hBin .quo (.int k a) (.int k b) = some (.int k (k.wrap (a.tdiv b))) := by simp [hBin, hb]
theorem hBin_rem (hb : b ≠ 0) : hBin .rem (.int k a) (.int k b) = some (.int k (a.tmod b)) := by simp [hBin, hb]
theorem hBin_shl {k' : IntKind} (hb : 0 ≤ b) : hBin .shl (.int k a) (.int k' b) = some (.int k (k.wrap (a * 2 ^ (min b.toNat k.bits)))) := by simp [hBin]; omega
theorem hBin_shr {k' : IntKind} (hb : 0 ≤ b) : hBin .shr (.int k a) (.int k' b) = some (.int k (a.fdiv (2 ^ (min b.toNat k.bits)))) := by simp [hBin]; omega
@[go_sem] theorem hUn_not {b : Bool} : hUn .not (.bool b) = some (.bool (!b)) := (rfl)
@[go_sem] theorem hUn_neg {n : Int} : hUn .neg (.int k n) = some (.int k (k.wrap (0 - n))) := (rfl)
@[go_sem] theorem hBin_seql {s s' : ByteArray} : hBin .eql (.string s) (.string s') = some (.bool (s.toList == s'.toList)) := (rfl)
@[go_sem] theorem hBin_sneq {s s' : ByteArray} : hBin .neq (.string s) (.string s') = some (.bool (!(s.toList == s'.toList))) := (rfl)
theorem hBin_sadd {s s' : ByteArray} (hs : s.size + s'.size ≤ 9223372036854775807) : hBin .add (.string s) (.string s') = some (.string (s ++ s')) := by simp [hBin, hs]
end

/-! Operations. -/

section
variable {K : Value → Heap → Prop}
@[go_sem ↓] theorem vOp_move {x : Operand} : vOp G P M (.move x) e h K = (bindV (Opd.val e x) (hold fun v => K v h)) := (rfl)
@[go_sem ↓] theorem vOp_assign {x : Operand} : vOp G P M (.assign x) e h K = (bindV (Opd.val e x) (hold fun v => K v h)) := (rfl)
@[go_sem ↓] theorem vOp_pick {c x y : Operand} : vOp G P M (.pick c x y) e h K = (onBool (Opd.val e c) (hold fun b => bindV (pickV b (Opd.val e x) (Opd.val e y)) (hold fun v => K v h))) := (rfl)
@[go_sem ↓] theorem vOp_alloc {t : TypeId} : vOp G P M (.alloc t) e h K = (onSome (tz P t) (hold fun z => K (.pointer (some ⟨h.length, 0, none⟩)) (h ++ [⟨z, P.cellsOf t, .rw⟩]))) := (rfl)
@[go_sem ↓] theorem vOp_box {t : TypeId} {x : Operand} : vOp G P M (.box t x) e h K = (bindV (Opd.val e x) (hold fun v => K (.pointer (some ⟨h.length, 0, none⟩)) (h ++ [⟨v.cells.toList, P.cellsOf t, .rw⟩]))) := (rfl)
@[go_sem ↓] theorem vOp_load {t : TypeId} {x : Operand} : vOp G P M (.load t x) e h K = (onPtr (Opd.val e x) (hold fun (id off : Nat) => onSome (hget h id) (hold fun k => k.st ≠ .dead ∧ onSome (tload P t) (hold fun tl => onLoad tl (hold (onSome (k.cells[off]?) (hold fun v => K v h))) (hold fun n => off + n ≤ k.cells.length ∧ bindV (.agg ((k.cells.drop off).take n).toArray) (hold fun v => K v h)))))) := (rfl)
@[go_sem ↓] theorem vOp_store {t : TypeId} {x y : Operand} : vOp G P M (.store t x y) e h K = (onPtr (Opd.val e x) (hold fun (id off : Nat) => onSome (hget h id) (hold fun k => bindV (Opd.val e y) (hold fun v => k.st = .rw ∧ M id ∧ tsize P t = some v.cells.size ∧ off + v.cells.size ≤ k.cells.length ∧ v.cells.toList.all oneC = true ∧
          K undef (h.set id ⟨setRange k.cells off v.cells.toList, k.esz, .rw⟩))))) := rfl
@[go_sem ↓] theorem vOp_fieldAddr {s : TypeId} {x : Operand} {f : Nat} : vOp G P M (.fieldAddr s x f) e h K = (onPtr (Opd.val e x) (hold fun (id off : Nat) => onSome (tfield P s f) (hold fun d => bindV (.pointer (some ⟨id, off + d.1, none⟩)) (hold fun v => K v h)))) := (rfl)
@[go_sem ↓] theorem vOp_indexAddr {t : TypeId} {x y : Operand} : vOp G P M (.indexAddr t x y) e h K = (onSeq (Opd.val e x)
      (hold fun (id off len : Nat) => onInt (Opd.val e y) (hold fun (_ : IntKind) (n : Int) => onSome (telem P t) (hold fun te => 0 ≤ n ∧ n < len ∧ bindV (.pointer (some ⟨id, off + n.toNat * te.1, none⟩)) (hold fun v => K v h))))
      (hold fun (id off : Nat) => onInt (Opd.val e y) (hold fun (_ : IntKind) (n : Int) => onSome (tarr P t) (hold fun te => 0 ≤ n ∧ n < te.1 ∧ bindV (.pointer (some ⟨id, off + n.toNat * te.2.1, none⟩)) (hold fun v => K v h))))
      (hold fun _ => False)) := rfl
@[go_sem ↓] theorem vOp_nilCheck {x : Operand} : vOp G P M (.nilCheck x) e h K = (onPtr (Opd.val e x) (hold fun (id off : Nat) => K (.pointer (some ⟨id, off, none⟩)) h)) := (rfl)
@[go_sem ↓] theorem vOp_beql {t t' : TypeId} {x y : Operand} : vOp G P M (.binOp .eql t x y t') e h K = (onTwo (Opd.val e x) (Opd.val e y) (hold fun b c => P.underlying t = some .bool ∧ K (.bool (b == c)) h) (hold fun u v => onSome (hEql P t u v) (hold fun r => K r h))) := (rfl)
@[go_sem ↓] theorem vOp_bneq {t t' : TypeId} {x y : Operand} : vOp G P M (.binOp .neq t x y t') e h K = (onTwo (Opd.val e x) (Opd.val e y) (hold fun b c => P.underlying t = some .bool ∧ K (.bool (b != c)) h) (hold fun u v => onSome (hNeq P t u v) (hold fun r => K r h))) := (rfl)
@[go_sem ↓] theorem vOp_badd {t t' : TypeId} {x y : Operand} : vOp G P M (.binOp .add t x y t') e h K = (onTwo (Opd.val e x) (Opd.val e y) (hold fun _ _ => False) (hold fun u v => onSome (hBin .add u v) (hold fun r => K r h))) := (rfl)
@[go_sem ↓] theorem vOp_bsub {t t' : TypeId} {x y : Operand} : vOp G P M (.binOp .sub t x y t') e h K = (onTwo (Opd.val e x) (Opd.val e y) (hold fun _ _ => False) (hold fun u v => onSome (hBin .sub u v) (hold fun r => K r h))) := (rfl)
@[go_sem ↓] theorem vOp_bmul {t t' : TypeId} {x y : Operand} : vOp G P M (.binOp .mul t x y t') e h K = (onTwo (Opd.val e x) (Opd.val e y) (hold fun _ _ => False) (hold fun u v => onSome (hBin .mul u v) (hold fun r => K r h))) := (rfl)
@[go_sem ↓] theorem vOp_bquo {t t' : TypeId} {x y : Operand} : vOp G P M (.binOp .quo t x y t') e h K = (onTwo (Opd.val e x) (Opd.val e y) (hold fun _ _ => False) (hold fun u v => onSome (hBin .quo u v) (hold fun r => K r h))) := (rfl)
@[go_sem ↓] theorem vOp_brem {t t' : TypeId} {x y : Operand} : vOp G P M (.binOp .rem t x y t') e h K = (onTwo (Opd.val e x) (Opd.val e y) (hold fun _ _ => False) (hold fun u v => onSome (hBin .rem u v) (hold fun r => K r h))) := (rfl)
@[go_sem ↓] theorem vOp_band {t t' : TypeId} {x y : Operand} : vOp G P M (.binOp .and t x y t') e h K = (onTwo (Opd.val e x) (Opd.val e y) (hold fun _ _ => False) (hold fun u v => onSome (hBin .and u v) (hold fun r => K r h))) := (rfl)
@[go_sem ↓] theorem vOp_bshl {t t' : TypeId} {x y : Operand} : vOp G P M (.binOp .shl t x y t') e h K = (onTwo (Opd.val e x) (Opd.val e y) (hold fun _ _ => False) (hold fun u v => onSome (hBin .shl u v) (hold fun r => K r h))) := (rfl)
@[go_sem ↓] theorem vOp_bshr {t t' : TypeId} {x y : Operand} : vOp G P M (.binOp .shr t x y t') e h K = (onTwo (Opd.val e x) (Opd.val e y) (hold fun _ _ => False) (hold fun u v => onSome (hBin .shr u v) (hold fun r => K r h))) := (rfl)
@[go_sem ↓] theorem vOp_blss {t t' : TypeId} {x y : Operand} : vOp G P M (.binOp .lss t x y t') e h K = (onTwo (Opd.val e x) (Opd.val e y) (hold fun _ _ => False) (hold fun u v => onSome (hBin .lss u v) (hold fun r => K r h))) := (rfl)
@[go_sem ↓] theorem vOp_bleq {t t' : TypeId} {x y : Operand} : vOp G P M (.binOp .leq t x y t') e h K = (onTwo (Opd.val e x) (Opd.val e y) (hold fun _ _ => False) (hold fun u v => onSome (hBin .leq u v) (hold fun r => K r h))) := (rfl)
@[go_sem ↓] theorem vOp_bgtr {t t' : TypeId} {x y : Operand} : vOp G P M (.binOp .gtr t x y t') e h K = (onTwo (Opd.val e x) (Opd.val e y) (hold fun _ _ => False) (hold fun u v => onSome (hBin .gtr u v) (hold fun r => K r h))) := (rfl)
@[go_sem ↓] theorem vOp_bgeq {t t' : TypeId} {x y : Operand} : vOp G P M (.binOp .geq t x y t') e h K = (onTwo (Opd.val e x) (Opd.val e y) (hold fun _ _ => False) (hold fun u v => onSome (hBin .geq u v) (hold fun r => K r h))) := (rfl)
@[go_sem ↓] theorem vOp_unOp {op : UnOp} {t : TypeId} {x : Operand} : vOp G P M (.unOp op t x) e h K = (bindV (Opd.val e x) (hold fun v => onSome (hUn op v) (hold fun r => K r h))) := (rfl)
@[go_sem ↓] theorem vOp_extract {x : Operand} {i : Nat} : vOp G P M (.extract x i) e h K = (onTuple (Opd.val e x) (hold fun vs => onSome (vs[i]?) (hold fun v => K v h))) := (rfl)
@[go_sem ↓] theorem vOp_build {t : TypeId} {ps : List (Nat × Operand)} : vOp G P M (.build t ps.toArray) e h K = (onPlaces (tplaces P t) (hold fun pl => onSome (tz P t) (hold fun z => onSome (hFill (pl[·]?) z (ps.map fun (i, x) => (i, Opd.val e x))) (hold fun out => bindV (.agg out.toArray) (hold fun v => K v h))))
      (hold (onSome (tarr P t) (hold fun te => onSome (tz P t) (hold fun z => onSome (hFill (fun i => some (i * te.2.1, te.2.1)) z (ps.map fun (i, x) => (i, Opd.val e x))) (hold fun out => bindV (.agg out.toArray) (hold fun v => K v h))))))) := (rfl)
theorem vOp_buildSlice {t : TypeId} {len : Nat} {ps : List (Nat × Operand)} : vOp G P M (.buildSlice t len ps.toArray) e h K = (onSome (telem P t) (hold fun te => onSome (tz P te.2) (hold fun z => z.length = te.1 ∧ len * te.1 ≤ 2 ^ 24 ∧
      onSome (hFill (fun i => some (i * te.1, te.1)) ((List.range (len * te.1)).map fun i => z.getD (i % z.length) undef) (ps.map fun (i, x) => (i, Opd.val e x))) (hold fun out =>
        out.length = len * te.1 ∧ K (.slice (some ⟨h.length, 0, none⟩) len 0) (h ++ [⟨out, te.1, .rw⟩]))))) := rfl
@[go_sem ↓] theorem vOp_makeFunc {fn : Fn} {first captured : Array Operand} : vOp G P M (.makeFunc fn first captured) e h K = (bindV (.func fn (first.map (Opd.val e)) (captured.map (Opd.val e))) (hold fun v => K v h)) := (rfl)
theorem vOp_makeSlice {t : TypeId} {x y : Operand} : vOp G P M (.makeSlice t x y) e h K = (onInt (Opd.val e x) (hold fun (_ : IntKind) (n : Int) => onSome (telem P t) (hold fun te => onSome (tz P te.2) (hold fun z => onSome (tbytes P te.2) (hold fun (bt : Nat) => y = x ∧ z.length = te.1 ∧ 0 < te.1 ∧ 0 ≤ n ∧ n ≤ 9223372036854775807 ∧ (bt : Int) * n ≤ 281474976710656 ∧
            K (.slice (some ⟨h.length, 0, none⟩) n.toNat 0) (h ++ [⟨(List.range (n.toNat * te.1)).map fun i => z.getD (i % z.length) undef, te.1, .rw⟩])))))) := rfl
@[go_sem ↓] theorem vOp_index {t : TypeId} {x y : Operand} : vOp G P M (.index t x y) e h K = (onArr (Opd.val e x) (hold fun cs => onInt (Opd.val e y) (hold fun (_ : IntKind) (n : Int) => onSome (tarr P t) (hold fun te => te.2.1 = 1 ∧ tload P te.2.2 = some none ∧ 0 ≤ n ∧ n < te.1 ∧ onSome (cs[n.toNat]?) (hold fun v => K v h)))) (hold (onSeq (Opd.val e x) (hold fun _ _ _ => False) (hold fun _ _ => False) (hold fun (s : ByteArray) => onInt (Opd.val e y) (hold fun (_ : IntKind) (n : Int) => P.underlying t = some .string ∧ 0 ≤ n ∧ onSome (s[n.toNat]?) (hold fun b => bindV (.int .u8 b.toNat) (hold fun v => K v h))))))) := (rfl)
@[go_sem ↓] theorem vOp_convert {s d : TypeId} {x : Operand} : vOp G P M (.convert s d x) e h K = (onCv (Opd.val e x) (hold fun (_ : IntKind) (n : Int) => (P.underlying s).isSome = true ∧ onSome (P.underlying d) (hold fun td => onKind td (hold fun k' => K (.int k' (k'.wrap n)) h)))
      (hold fun str => M h.length ∧ P.underlying s = some .string ∧ onSome (telem P d) (hold fun te => P.underlying te.2 = some (.int .u8) ∧ K (.slice (some ⟨h.length, 0, none⟩) str.size 0) (h ++ [⟨bytesV str, 1, .rw⟩])))
      (hold (M h.length ∧ P.underlying d = some .string ∧ onSome (telem P s) (hold fun te => P.underlying te.2 = some (.int .u8) ∧ K (.string ⟨#[]⟩) h)))
      (hold fun (id off len : Nat) => M h.length ∧ P.underlying d = some .string ∧ onSome (telem P s) (hold fun te => P.underlying te.2 = some (.int .u8) ∧ onSome (hget h id) (hold fun k => k.st ≠ .dead ∧ off + len ≤ k.cells.length ∧ onSome (strOfV ((k.cells.drop off).take len)) (hold fun str => K (.string str) h))))) := (rfl)
@[go_sem ↓] theorem vOp_slice {t : TypeId} {x : Operand} {lo hi : Option Operand} : vOp G P M (.slice t x lo hi none) e h K = (onSl (Opd.val e x)
      (hold fun (oa : Option Addr) => (telem P t).isSome = true ∧ onSome (bnd e hi 0) (hold fun m => onSome (bnd e lo 0) (hold fun l => m = 0 ∧ l = 0 ∧ bindV (.slice oa 0 0) (hold fun v => K v h))))
      (hold fun (id off len : Nat) => onSome (telem P t) (hold fun te => onSome (hget h id) (hold fun k => onSome (bnd e hi len) (hold fun m => onSome (bnd e lo 0) (hold fun l => k.esz = te.1 ∧ m ≤ len ∧ l ≤ m ∧ bindV (.slice (some ⟨id, off + l * te.1, none⟩) (m - l) 0) (hold fun v => K v h))))))
      (hold fun (s : ByteArray) => onSome (bnd e hi s.size) (hold fun m => onSome (bnd e lo 0) (hold fun l => P.underlying t = some .string ∧ m ≤ s.size ∧ l ≤ m ∧ bindV (.string (s.extract l m)) (hold fun v => K v h))))) := (rfl)
@[go_sem ↓] theorem vOp_call {f : Operand} {args : List Operand} {ats : Array TypeId} : vOp G P M (.call { callee := .value f, args := args.toArray, argTypes := ats }) e h K = (onFunc (Opd.val e f) (hold fun fid first captured => callable P fid = true ∧ vCall G P M fid (first.toList ++ (args.map (Opd.val e)) ++ captured.toList) h K)) := (rfl)
@[go_sem ↓] theorem vOp_builtin {b : Builtin} {args : List Operand} {ats : List TypeId} : vOp G P M (.call { callee := .builtin b, args := args.toArray, argTypes := ats.toArray }) e h K = vBuiltin P M b args ats e h K := (rfl)
@[go_sem ↓] theorem vBuiltin_len {x : Operand} {t : TypeId} : vBuiltin P M .len [x] [t] e h K = (onLen (Opd.val e x) (hold fun (len : Nat) => (telem P t).isSome = true ∧ K (.int .i64 len) h) (hold fun (s : ByteArray) => P.underlying t = some .string ∧ K (.int .i64 s.size) h)) := (rfl)
@[go_sem ↓] theorem vBuiltin_max {x y : Operand} {ats : List TypeId} : vBuiltin P M .max [x, y] ats e h K = (onInt (Opd.val e x) (hold fun (k : IntKind) (m : Int) => onInt (Opd.val e y) (hold fun (k' : IntKind) (n : Int) => k = k' ∧ K (.int k (if n > m then n else m)) h))) := (rfl)
@[go_sem ↓] theorem vBuiltin_min {x y : Operand} {ats : List TypeId} : vBuiltin P M .min [x, y] ats e h K = (onInt (Opd.val e x) (hold fun (k : IntKind) (m : Int) => onInt (Opd.val e y) (hold fun (k' : IntKind) (n : Int) => k = k' ∧ K (.int k (if n < m then n else m)) h))) := (rfl)
@[go_sem ↓] theorem vBuiltin_max3 {x y z : Operand} {ats : List TypeId} : vBuiltin P M .max [x, y, z] ats e h K = (onInt (Opd.val e x) (hold fun (k : IntKind) (m : Int) => onInt (Opd.val e y) (hold fun (k' : IntKind) (n : Int) => onInt (Opd.val e z) (hold fun (k2 : IntKind) (c : Int) => k = k' ∧ k = k2 ∧ K (.int k (if c > (if n > m then n else m) then c else (if n > m then n else m))) h)))) := (rfl)
@[go_sem ↓] theorem vBuiltin_append {s x : Operand} {t t2 : TypeId} : vBuiltin P M .append [s, x] [t, t2] e h K = (onApp (Opd.val e s) (Opd.val e x)
      (hold ((tapp P t).isSome = true ∧ (telem P t2).isSome = true ∧ bindV (Opd.val e s) (hold fun v => K v h)))
      (hold fun (id2 off2 n : Nat) => onSome (tapp P t) (hold fun sb => onSome (hget h id2) (hold fun k2 => t2 = t ∧ 0 < n ∧ k2.st ≠ .dead ∧ off2 + n * sb.1 ≤ k2.cells.length ∧ n ≤ 9223372036854775807 ∧ n * sb.2 ≤ 140737488355328 ∧
          K (.slice (some ⟨h.length, 0, none⟩) n 0) (h ++ [⟨(k2.cells.drop off2).take (n * sb.1), sb.1, .rw⟩]))))
      (hold fun (id off len id2 off2 n : Nat) => onSome (tapp P t) (hold fun sb => onSome (hget h id) (hold fun k => onSome (hget h id2) (hold fun k2 => t2 = t ∧ 0 < n ∧ M id ∧ k.st = .rw ∧ off + len * sb.1 = k.cells.length ∧ k.esz = sb.1 ∧ k2.st ≠ .dead ∧ off2 + n * sb.1 ≤ k2.cells.length ∧ ((k2.cells.drop off2).take (n * sb.1)).all oneC = true ∧
          len + n ≤ 9223372036854775807 ∧ (len + n) * sb.2 ≤ 140737488355328 ∧
          K (.slice (some ⟨h.length, 0, none⟩) (len + n) 0) (h.set id ⟨k.cells, k.esz, .dead⟩ ++ [⟨k.cells.drop off ++ (k2.cells.drop off2).take (n * sb.1), sb.1, .rw⟩])))))) := rfl
end

/-! Values in cells. -/

@[go_sem] theorem cells_int {k : IntKind} {m : Int} : (Value.int k m).cells = #[.int k m] := (rfl)
@[go_sem] theorem cells_bool {b : Bool} : (Value.bool b).cells = #[.bool b] := (rfl)
@[go_sem] theorem cells_string {s : ByteArray} : (Value.string s).cells = #[.string s] := (rfl)
@[go_sem] theorem cells_slice {a : Option Addr} {m c : Nat} : (Value.slice a m c).cells = #[.slice a m c] := (rfl)
@[go_sem] theorem cells_pointer {a : Option Addr} : (Value.pointer a).cells = #[.pointer a] := (rfl)
@[go_sem] theorem cells_func {f : Fn} {a b : Array Value} : (Value.func f a b).cells = #[.func f a b] := (rfl)
@[go_sem] theorem cells_agg {c : Array Value} : (Value.agg c).cells = c := (rfl)
@[go_sem] theorem oneC_int {k : IntKind} {m : Int} : oneC (.int k m) = true := (rfl)
@[go_sem] theorem oneC_bool {b : Bool} : oneC (.bool b) = true := (rfl)
@[go_sem] theorem oneC_string {s : ByteArray} : oneC (.string s) = true := (rfl)
@[go_sem] theorem oneC_slice {a : Option Addr} {m c : Nat} : oneC (.slice a m c) = true := (rfl)
@[go_sem] theorem oneC_pointer {a : Option Addr} : oneC (.pointer a) = true := (rfl)
@[go_sem] theorem oneC_func {f : Fn} {a b : Array Value} : oneC (.func f a b) = true := (rfl)
@[go_sem] theorem setR_nil {l : List Value} : setRange l 0 [] = l := by simp [setRange]
@[go_sem] theorem setR_here {x v : Value} {l vs : List Value} : setRange (x :: l) 0 (v :: vs) = v :: setRange l 0 vs := by simp [setRange]
@[go_sem] theorem setR_there {x : Value} {l vs : List Value} {i : Nat} : setRange (x :: l) (i + 1) vs = x :: setRange l i vs := by
  simp [setRange, Nat.add_right_comm]
@[go_sem] theorem hFill_nil {place : Nat → Option (Nat × Nat)} {cells : List Value} : hFill place cells [] = some cells := (rfl)
def hFillAt (o : Option (Nat × Nat)) (place : Nat → Option (Nat × Nat)) (cells : List Value) (v : Value) (rest : List (Nat × Value)) : Option (List Value) := match o with
  | none => none
  | some os => if v.cells.size ≠ os.2 ∨ cells.length < os.1 + v.cells.size then none else hFill place (setRange cells os.1 v.cells.toList) rest
@[go_sem] theorem hFill_cons {place : Nat → Option (Nat × Nat)} {cells : List Value} {i : Nat} {v : Value} {rest : List (Nat × Value)} : hFill place cells ((i, v) :: rest) = hFillAt (place i) place cells v rest := by
  unfold hFillAt
  simp only [hFill]
  cases place i <;> rfl
@[go_sem] theorem hFillAt_some {os : Nat × Nat} {place : Nat → Option (Nat × Nat)} {cells : List Value} {v : Value} {rest : List (Nat × Value)} :
    hFillAt (some os) place cells v rest = if v.cells.size ≠ os.2 ∨ cells.length < os.1 + v.cells.size then none else hFill place (setRange cells os.1 v.cells.toList) rest := (rfl)
attribute [go_sem] List.all_cons List.all_nil List.size_toArray List.toList_toArray List.drop_succ_cons List.drop_zero List.take_succ_cons List.take_zero List.take_nil List.drop_nil List.map_toArray ne_eq not_true_eq_false not_false_eq_true false_or or_false if_true if_false

/-! Heaps. -/

@[go_sem] theorem hget_new {b : Blk} : hget (h ++ [b]) h.length = some b := by simp [hget]
theorem hget_old {b : Blk} {i : Nat} (hi : i < h.length) : hget (h ++ [b]) i = hget h i := by simp [hget, List.getElem?_append_left hi]
theorem hget_set_same {b : Blk} {i : Nat} (hi : i < h.length) : hget (List.set h i b) i = some b := by simp [hget, hi]
theorem hget_set_ne {b : Blk} {i j : Nat} (hi : i ≠ j) : hget (List.set h i b) j = hget h j := by simp [hget, List.getElem?_set, hi]
theorem hget_lt {b : Blk} {i : Nat} (hi : hget h i = some b) : i < h.length := (List.getElem?_eq_some_iff.1 hi).1
theorem hget_prefix {h' : Heap} (hp : h <+: h') {i : Nat} (hi : i < h.length) : hget h' i = hget h i := by
  obtain ⟨t, rfl⟩ := hp
  simp [hget, List.getElem?_append_left hi]

/-! What is handed back. -/

def retVal : List Value → Value
  | [v] => v
  | vs => .tuple vs.toArray
@[go_sem] theorem retVal_one {v : Value} : retVal [v] = v := (rfl)
@[go_sem] theorem retVal_none : retVal [] = .tuple #[] := (rfl)
@[go_sem] theorem retVal_more {u v : Value} {vs : List Value} : retVal (u :: v :: vs) = .tuple (u :: v :: vs).toArray := (rfl)

def vRes (P : Program) : List ResultVar → List Value → (Value → Heap → Prop) → Env → Heap → Prop
  | [], acc, R, _, h => bindV (retVal acc) (hold fun r => R r h)
  | .tmp t :: rs, acc, R, e, h => bindV (e t) (hold fun v => vRes P rs (acc ++ [v]) R e h)
  | .cell a t :: rs, acc, R, e, h => onPtr (e a) (hold fun id off => onSome (hget h id) (hold fun k => k.st ≠ .dead ∧ onSome (tload P t) (hold fun tl => onLoad tl (hold (onSome (k.cells[off]?) (hold fun v => vRes P rs (acc ++ [v]) R e h))) (hold fun n => off + n ≤ k.cells.length ∧ bindV (.agg ((k.cells.drop off).take n).toArray) (hold fun v => vRes P rs (acc ++ [v]) R e h)))))

@[go_sem ↓] theorem vRes_nil {acc : List Value} {R : Value → Heap → Prop} : vRes P [] acc R e h = bindV (retVal acc) (hold fun r => R r h) := (rfl)
@[go_sem ↓] theorem vRes_tmp {t : Tmp} {rs : List ResultVar} {acc : List Value} {R : Value → Heap → Prop} : vRes P (.tmp t :: rs) acc R e h = bindV (e t) (hold fun v => vRes P rs (acc ++ [v]) R e h) := (rfl)
@[go_sem ↓] theorem vRes_cell {a : Tmp} {t : TypeId} {rs : List ResultVar} {acc : List Value} {R : Value → Heap → Prop} : vRes P (.cell a t :: rs) acc R e h = onPtr (e a) (hold fun id off => onSome (hget h id) (hold fun k => k.st ≠ .dead ∧ onSome (tload P t) (hold fun tl => onLoad tl (hold (onSome (k.cells[off]?) (hold fun v => vRes P rs (acc ++ [v]) R e h))) (hold fun n => off + n ≤ k.cells.length ∧ bindV (.agg ((k.cells.drop off).take n).toArray) (hold fun v => vRes P rs (acc ++ [v]) R e h))))) := (rfl)

theorem vRes_sound : ∀ (rs : List ResultVar) (acc : List Value) (R : Value → Heap → Prop), vRes P rs acc R e h → ∃ vs, rs.mapM (resOne P e h) = some vs ∧ R (retVal (acc ++ vs)) h
  | [], acc, R, hv => ⟨[], rfl, by have h0 : R (retVal acc) h := hv; simpa using h0⟩
  | .tmp t :: rs, acc, R, hv => by
    obtain ⟨vs, h1, h2⟩ := vRes_sound rs _ R (show vRes P rs (acc ++ [e t]) R e h from hv)
    exact ⟨e t :: vs, by simp [List.mapM_cons, resOne, h1], by simpa using h2⟩
  | .cell a t :: rs, acc, R, hv => by
    obtain ⟨id, off, hx, hv⟩ := onPtr.elim (show onPtr _ _ from hv)
    obtain ⟨k, hk, hd, hv⟩ := hv.elim
    obtain ⟨tl, ht, hv⟩ := hv.elim
    unfold onLoad at hv
    have hk' : h[id]? = some k := hk
    split at hv
    · obtain ⟨v, hvv, hv⟩ := hv.elim
      obtain ⟨vs, h1, h2⟩ := vRes_sound rs _ R hv
      refine ⟨v :: vs, ?_, by simpa using h2⟩
      have : resOne P e h (.cell a t) = some v := by
        unfold resOne
        simp only [hx, hk', ht]
        cases hst : k.st
        · simpa [hst] using hvv
        · simpa [hst] using hvv
        · exact absurd hst hd
      simp [List.mapM_cons, this, h1]
    · obtain ⟨hn, hv⟩ := hv
      obtain ⟨vs, h1, h2⟩ := vRes_sound rs _ R hv
      refine ⟨_ :: vs, ?_, by simpa using h2⟩
      rename_i n
      have : resOne P e h (.cell a t) = some (.agg ((k.cells.drop off).take n).toArray) := by
        unfold resOne
        simp only [hx, hk', ht]
        cases hst : k.st
        · simp [hn]
        · simp [hn]
        · exact absurd hst hd
      simp [List.mapM_cons, this, h1]

theorem resAll_eq {rs : List ResultVar} {vs : List Value} (hv : rs.mapM (resOne P e h) = some vs) : resAll P e h rs = some (retVal vs) := by
  unfold resAll
  rw [hv]
  match vs with
  | [] => rfl
  | [_] => rfl
  | _ :: _ :: _ => rfl

def retQ (P : Program) (rs : List ResultVar) (R : Value → Heap → Prop) : Exit → Env → Heap → Prop
  | .ret, e, h => vRes P rs [] R e h
  | .normal, e, h => vRes P rs [] R e h
  | _, _, _ => False
@[go_sem ↓] theorem retQ_ret {rs : List ResultVar} {R : Value → Heap → Prop} : retQ P rs R .ret e h = vRes P rs [] R e h := (rfl)
@[go_sem ↓] theorem retQ_normal {rs : List ResultVar} {R : Value → Heap → Prop} : retQ P rs R .normal e h = vRes P rs [] R e h := (rfl)

/-- A function by its body. -/
theorem body_of {f : FuncId} {fn : Func} {c : Code} {args : List Value} {rs : List ResultVar} {R : Value → Heap → Prop} (hm : P.follows .mixedOrders = true) (hf : P.funcs[f]? = some fn) (hb : fn.body = some c) (hok : codeOK G fn.ntmps c = true) (hn : args.length ≤ fn.ntmps) (hrs : fn.results = rs.toArray)
    (hv : vCode G P fn.ntmps (own h.length M) c (retQ P rs R) (env0 args) h) : vCall G P M f args h R := by
  have key : HWp G P fn.ntmps (own h.length M) c (retQ P rs R) (env0 args) h := vCode_sound hm c _ _ _ hok hv
  refine HRuns.of_body hf hb hn (key.mono ?_)
  intro z e' h' hz
  have fin : ∀ (_ : vRes P rs [] R e' h'), ∃ r, resAll P e' h' fn.results.toList = some r ∧ R r h' := fun hz => by
    obtain ⟨vs, h1, h2⟩ := vRes_sound rs [] R hz
    refine ⟨retVal vs, ?_, by simpa using h2⟩
    rw [hrs]
    exact resAll_eq h1
  cases z with
  | ret => exact ⟨.inl rfl, fin hz⟩
  | normal => exact ⟨.inr rfl, fin hz⟩
  | exit _ => exact hz.elim
  | goto _ => exact hz.elim
  | panic _ => exact hz.elim
  | outgrown => exact hz.elim


/-- The same, with free loads and fresh variables in the regions listed. -/
theorem body_ofR {f : FuncId} {fn : Func} {c : Code} {args : List Value} {rs : List ResultVar} {R : Value → Heap → Prop} (L : List (Nat × List Nat)) (hm : P.follows .mixedOrders = true) (hf : P.funcs[f]? = some fn) (hb : fn.body = some c) (hok : codeOKR L G fn.ntmps c = true) (hn : args.length ≤ fn.ntmps) (hrs : fn.results = rs.toArray)
    (hv : vCodeR L G P fn.ntmps (own h.length M) c (retQ P rs R) (env0 args) h) : vCall G P M f args h R := by
  have key : HWp G P fn.ntmps (own h.length M) c (retQ P rs R) (env0 args) h := vCodeR_sound hm c _ _ _ hok hv
  refine HRuns.of_body hf hb hn (key.mono ?_)
  intro z e' h' hz
  have fin : ∀ (_ : vRes P rs [] R e' h'), ∃ r, resAll P e' h' fn.results.toList = some r ∧ R r h' := fun hz => by
    obtain ⟨vs, h1, h2⟩ := vRes_sound rs [] R hz
    refine ⟨retVal vs, ?_, by simpa using h2⟩
    rw [hrs]
    exact resAll_eq h1
  cases z with
  | ret => exact ⟨.inl rfl, fin hz⟩
  | normal => exact ⟨.inr rfl, fin hz⟩
  | exit _ => exact hz.elim
  | goto _ => exact hz.elim
  | panic _ => exact hz.elim
  | outgrown => exact hz.elim

end
end Go.HH

namespace Go.HH
open Go.RowKit Go.ChangeShapes

/-! From an abstract call to the kit's words. -/

section
variable {G : List (Nat × Nat)} {P : Program}

theorem Ext.below {p q : Phi} {h h' : Heap} {w w' : World} (x : Ext (fun _ => False) p q h h' w w') : Below w.heap.size w w' :=
  ⟨x.os, x.tape, x.output, x.size, fun k hk => x.frame k hk (fun _ _ _ f => f.elim)⟩

theorem law_calls {f : FuncId} {hargs : List Value} {h : Heap} {p : Phi} {W : World} {args : Array Value} (hv : vCall G P (fun _ => False) f hargs h (fun r _ => r = .bool true)) (hr : HRel G p h W) (ha : ARel p hargs.toArray args) :
    Calls P f args W fun e W' => e = .returned (.bool true) ∧ Below W.heap.size W W' := by
  obtain ⟨r, h', h1, rfl⟩ := hv
  refine (h1 p W args hr ha).mono ?_
  rintro e W' ⟨v, q, rfl, hv, _, ex⟩
  rw [(Plain.bool true).eq hv]
  exact ⟨rfl, ex.below⟩

theorem HRel.empty (W : World) : HRel [] (fun _ => none) [] W :=
  ⟨fun g hg => by simp at hg, fun id t e => by simp at e, fun id t k _ e => by simp at e, fun id t k e => by simp at e, fun id id' t t' k k' e => by simp at e⟩

theorem ARel.plain {p : Phi} {l : List Value} (hl : ∀ v ∈ l, Plain v) : ARel p l.toArray l.toArray :=
  ⟨rfl, fun i h _ => (hl _ (by simp)).rel⟩

theorem trodAll_below {H : Type} {enc : TypeId × Value → H} (hl : laidOutB P = true) {W W' : World} (hb : Below W.heap.size W W') : ∀ {ts : List TypeId} {vs : List Value} {ds : List (DataW H)} {ps : List MemPlace},
    (∀ t ∈ ts, P.readableRec t = true ∧ t < P.types.size) → DataW.TrodAll enc P W 0 (fun _ => true) true ts vs ds ps → DataW.TrodAll enc P W' 0 (fun b => decide (b < W.heap.size)) true ts vs ds ps
  | [], vs, ds, ps, _, h => by
    obtain ⟨rfl, rfl, rfl⟩ := trodAll_nil h
    exact trodAll_mk0
  | t :: ts, vs, ds, ps, ht, h => by
    obtain ⟨v, vs', d, ds', p, ps', rfl, rfl, rfl, h1, h2⟩ := trodAll_cons h
    have hlt : ∀ x ∈ p, x.block < W.heap.size := by obtain ⟨m, hm⟩ := h1; exact DataW.trod_lt m _ _ _ hm
    exact trodAll_cons_mk (Below.trod hl (ht t (by simp)).1 (ht t (by simp)).2 h1 hb hlt) (trodAll_below hl hb (fun x hx => ht x (by simp [hx])) h2)

end
end Go.HH

namespace Go.HH

theorem cast_zero_int : ((0 : Nat) : Int) = 0 := rfl
theorem cast_one_int : ((1 : Nat) : Int) = 1 := rfl

/-! Fresh slices. -/

def zeros (n : Nat) (z : List Value) : List Value := (List.replicate n z).flatten
@[go_sem] theorem zeros_zero {z : List Value} : zeros 0 z = [] := (rfl)
@[go_sem] theorem zeros_succ {n : Nat} {z : List Value} : zeros (n + 1) z = z ++ zeros n z := by simp [zeros, List.replicate_succ]
theorem zeros_one {n : Nat} {v : Value} : zeros n [v] = List.replicate n v := by
  induction n with
  | zero => rfl
  | succ n ih => rw [zeros_succ, ih, List.replicate_succ]; rfl
theorem zeros_length {n : Nat} {z : List Value} : (zeros n z).length = n * z.length := by
  induction n with
  | zero => simp [zeros]
  | succ n ih => rw [zeros_succ, List.length_append, ih, Nat.succ_mul]; omega

theorem zeros_map {n sz : Nat} {z : List Value} (hz : z.length = sz) : ((List.range (n * sz)).map fun i => z.getD (i % z.length) undef) = zeros n z := by
  induction n with
  | zero => simp [zeros]
  | succ n ih =>
    have e1 : zeros (n + 1) z = zeros n z ++ z := by simp [zeros, List.replicate_succ', List.flatten_append]
    rw [e1, ← ih, Nat.succ_mul, List.range_add, List.map_append, List.map_map]
    congr 1
    refine List.ext_getElem (by simp [hz]) fun i h1 h2 => ?_
    have h3 : i < sz := by simpa using h1
    simp [hz, Nat.mod_eq_of_lt h3, h3]

section
variable {G : List (Nat × Nat)} {P : Program} {M : Nat → Prop} {e : Env} {h : Heap} {K : Value → Heap → Prop}
@[go_sem ↓] theorem vOp_buildSlice' {t : TypeId} {len : Nat} {ps : List (Nat × Operand)} : vOp G P M (.buildSlice t len ps.toArray) e h K = (onSome (telem P t) (hold fun te => onSome (tz P te.2) (hold fun z => z.length = te.1 ∧ len * te.1 ≤ 2 ^ 24 ∧
      onSome (hFill (fun i => some (i * te.1, te.1)) (zeros len z) (ps.map fun (i, x) => (i, Opd.val e x))) (hold fun out =>
        out.length = len * te.1 ∧ K (.slice (some ⟨h.length, 0, none⟩) len 0) (h ++ [⟨out, te.1, .rw⟩]))))) := by
  rw [vOp_buildSlice]
  unfold onSome
  cases telem P t with
  | none => rfl
  | some te =>
    simp only
    cases tz P te.2 with
    | none => rfl
    | some z =>
      simp only
      refine propext ⟨fun ⟨h1, h2, h3⟩ => ⟨h1, h2, ?_⟩, fun ⟨h1, h2, h3⟩ => ⟨h1, h2, ?_⟩⟩
      · rwa [zeros_map h1] at h3
      · rwa [zeros_map h1]
@[go_sem] theorem valB_eq {t : TypeId} {len : Nat} {ps : List (Nat × Operand)} : valB P t len ps = (telem P t).bind fun te => (tz P te.2).bind fun z => if z.length = te.1 ∧ len * te.1 ≤ 2 ^ 24 then
    (hFill (fun i => some (i * te.1, te.1)) (zeros len z) (ps.map fun x => (x.1, (constX x.2).getD undef))).bind fun out => if out.length = len * te.1 then some ⟨out, te.1, .rw⟩ else none else none := by
  have e : valB P t len ps = (telem P t).bind fun te => (tz P te.2).bind fun z => if z.length = te.1 ∧ len * te.1 ≤ 2 ^ 24 then
    (hFill (fun i => some (i * te.1, te.1)) ((List.range (len * te.1)).map fun i => z.getD (i % z.length) undef) (ps.map fun x => (x.1, (constX x.2).getD undef))).bind fun out => if out.length = len * te.1 then some ⟨out, te.1, .rw⟩ else none else none := rfl
  rw [e]
  congr 1
  funext te
  congr 1
  funext z
  split
  · rename_i h1
    rw [zeros_map h1.1]
  · rfl
attribute [go_sem] Option.getD_some
@[go_sem ↓] theorem vOp_makeSlice' {t : TypeId} {x y : Operand} : vOp G P M (.makeSlice t x y) e h K = (onInt (Opd.val e x) (hold fun (_ : IntKind) (n : Int) => onSome (telem P t) (hold fun te => onSome (tz P te.2) (hold fun z => onSome (tbytes P te.2) (hold fun (bt : Nat) => y = x ∧ z.length = te.1 ∧ 0 < te.1 ∧ 0 ≤ n ∧ n ≤ 9223372036854775807 ∧ (bt : Int) * n ≤ 281474976710656 ∧
            K (.slice (some ⟨h.length, 0, none⟩) n.toNat 0) (h ++ [⟨zeros n.toNat z, te.1, .rw⟩])))))) := by
  rw [vOp_makeSlice]
  unfold onInt onSome
  cases Opd.val e x with
  | int k n =>
    simp only
    cases telem P t with
    | none => rfl
    | some te =>
      simp only
      cases tz P te.2 with
      | none => rfl
      | some z =>
        simp only
        cases tbytes P te.2 with
        | none => rfl
        | some bt =>
          simp only
          refine propext ⟨fun ⟨h0, h1, h2⟩ => ⟨h0, h1, ?_⟩, fun ⟨h0, h1, h2⟩ => ⟨h0, h1, ?_⟩⟩
          · rwa [zeros_map h1] at h2
          · rwa [zeros_map h1]
  | _ => rfl
end
attribute [go_sem] List.length_cons List.length_nil

/-! Heaps written out: the entry's heap, then what was made since. -/

section
variable {h l : Heap} {b : Blk} {i : Nat}
@[go_sem] theorem hget_app : hget (h ++ l) (h.length + i) = l[i]? := by simp [hget, List.getElem?_append_right]
@[go_sem] theorem hget_app0 : hget (h ++ l) h.length = l[0]? := by simp [hget, List.getElem?_append_right]
theorem hset_app : List.set (h ++ l) (h.length + i) b = h ++ List.set l i b := by rw [List.set_append_right _ _ (by omega)]; simp
theorem hset_app0 : List.set (h ++ l) h.length b = h ++ List.set l 0 b := by rw [List.set_append_right _ _ (by omega)]; simp
@[go_sem] theorem at_app : (h ++ l)[h.length + i]? = l[i]? := by simp [List.getElem?_append_right]
@[go_sem] theorem at_app0 : (h ++ l)[h.length]? = l[0]? := by simp [List.getElem?_append_right]
@[go_sem] theorem own_app {M : Nat → Prop} : own h.length M (h.length + i) = True := by simp [own]
@[go_sem] theorem own_app0 {M : Nat → Prop} : own h.length M h.length = True := by simp [own]
end
attribute [go_sem] hset_app hset_app0 List.append_assoc List.length_append List.set_cons_zero List.set_cons_succ List.getElem?_cons_zero List.getElem?_cons_succ
end Go.HH

namespace Go.HH
open Go.RowKit Go.ChangeShapes Go.WideShapes

/-! What a law is handed: plain data, read from memory into abstract blocks that are only read. -/

inductive Ty where
  | int (k : IntKind) | bool | str | unit | pair (a b : Ty) | struct (b : Ty) | slice (e : Ty)

def Ty.size : Ty → Nat
  | .unit => 0
  | .pair a b => a.size + b.size
  | .struct b => b.size
  | _ => 1

def Fits (h : Heap) : Ty → List Value → Prop
  | .int k, cs => ∃ n, cs = [.int k n] ∧ (Lit.int k n).wf = true
  | .bool, cs => ∃ b, cs = [.bool b]
  | .str, cs => ∃ s : ByteArray, cs = [.string s] ∧ s.size ≤ maxLen
  | .unit, cs => cs = []
  | .pair a b, cs => ∃ c1 c2, cs = c1 ++ c2 ∧ Fits h a c1 ∧ Fits h b c2
  | .struct b, cs => Fits h b cs
  | .slice e, cs => cs = [.slice none 0 0] ∨ ∃ (id : Nat) (rows : List (List Value)), cs = [.slice (some ⟨id, 0, none⟩) rows.length 0] ∧ hget h id = some ⟨rows.flatten, e.size, .ro⟩ ∧
      rows.length ≤ maxLen ∧ ∀ r ∈ rows, Fits h e r

theorem Fits.mono {h h' : Heap} (hp : h <+: h') : ∀ {ty : Ty} {cs : List Value}, Fits h ty cs → Fits h' ty cs
  | .int _, _, f => f
  | .bool, _, f => f
  | .str, _, f => f
  | .unit, _, f => f
  | .pair _ _, _, ⟨c1, c2, e, f1, f2⟩ => ⟨c1, c2, e, f1.mono hp, f2.mono hp⟩
  | .struct b, _, f => Fits.mono (ty := b) hp f
  | .slice _, _, .inl e => .inl e
  | .slice _, _, .inr ⟨id, rows, e, hg, hl, hf⟩ => .inr ⟨id, rows, e, by rw [hget_prefix hp (hget_lt hg)]; exact hg, hl, fun r hr => (hf r hr).mono hp⟩

theorem Fits.length {h : Heap} : ∀ {ty : Ty} {cs : List Value}, Fits h ty cs → cs.length = ty.size
  | .int _, _, ⟨_, e, _⟩ => by subst e; rfl
  | .bool, _, ⟨_, e⟩ => by subst e; rfl
  | .str, _, ⟨_, e, _⟩ => by subst e; rfl
  | .unit, _, e => by cases e; rfl
  | .pair _ _, _, ⟨c1, c2, e, f1, f2⟩ => by subst e; rw [List.length_append, f1.length, f2.length]; rfl
  | .struct b, _, f => Fits.length (ty := b) f
  | .slice _, _, .inl e => by subst e; rfl
  | .slice _, _, .inr ⟨_, _, e, _⟩ => by subst e; rfl

def chk (P : Program) : Ty → TypeId ⊕ (List Field × Nat) → Bool
  | .int k, .inl t => match P.underlying t with
    | some (.int k') => decide (k' = k)
    | _ => false
  | .bool, .inl t => match P.underlying t with
    | some .bool => true
    | _ => false
  | .str, .inl t => match P.underlying t with
    | some .string => true
    | _ => false
  | .struct b, .inl t => match P.underlying t with
    | some (.struct fs) => decide (P.cellsOf t = b.size) && chk P b (.inr (fs.toList, 0))
    | _ => false
  | .slice e, .inl t => match P.underlying t with
    | some (.slice el) => decide (P.cellsOf el = e.size) && decide (0 < e.size) && chk P e (.inl el)
    | _ => false
  | .unit, .inr ([], _) => true
  | .pair a b, .inr (f :: fs, off) => decide (f.offset = off) && decide (P.cellsOf f.type = a.size) && chk P a (.inl f.type) && chk P b (.inr (fs, off + a.size))
  | _, _ => false

def CRel (p : Phi) (l l' : List Value) : Prop := l.length = l'.length ∧ ∀ (i : Nat) (v : Value), l[i]? = some v → ∃ v', l'[i]? = some v' ∧ VRel p v v'

theorem CRel.mono {p q : Phi} (hp : p.le q) {l l' : List Value} (r : CRel p l l') : CRel q l l' :=
  ⟨r.1, fun i v e => let ⟨v', e', h⟩ := r.2 i v e; ⟨v', e', h.mono hp⟩⟩
theorem CRel.nil {p : Phi} : CRel p [] [] := ⟨rfl, fun i v e => by simp at e⟩
theorem CRel.one {p : Phi} {v v' : Value} (h : VRel p v v') : CRel p [v] [v'] := ⟨rfl, fun i u e => by
  cases i with
  | zero => simp at e; subst e; exact ⟨v', rfl, h⟩
  | succ i => simp at e⟩
theorem CRel.append {p : Phi} {a a' b b' : List Value} (h1 : CRel p a a') (h2 : CRel p b b') : CRel p (a ++ b) (a' ++ b') := by
  refine ⟨by simp [h1.1, h2.1], fun i v e => ?_⟩
  rw [List.getElem?_append] at e ⊢
  rw [← h1.1]
  split at e
  · rename_i hi; rw [if_pos hi]; exact h1.2 i v e
  · rename_i hi; rw [if_neg hi]; exact h2.2 _ v e

def allRo (h : Heap) : Prop := ∀ (id : Nat) (k : Blk), h[id]? = some k → k.st = .ro

structure Good (W : World) (ty : Ty) (p : Phi) (h : Heap) (cs : List Value) (p' : Phi) (h' : Heap) (hcs : List Value) : Prop where
  rel : HRel [] p' h' W
  le : p.le p'
  pre : h <+: h'
  ro : allRo h'
  cells : CRel p' hcs cs
  fits : Fits h' ty hcs

theorem HRel.pushRo {p : Phi} {h : Heap} {W : World} (hr : HRel [] p h W) (ro : allRo h) {k : Blk} (hk : k.st = .ro) :
    HRel [] p (h ++ [k]) W ∧ allRo (h ++ [k]) := by
  refine ⟨⟨fun g hg => by simp at hg, fun id t e => ?_, fun id t k' ht e ek hd => ?_, fun id t k' e ek => ?_, fun id id' t t' k1 k2 e e' ek ek' hrw => ?_⟩, ?_⟩
  · have := hr.dom id t e
    exact ⟨by simp; omega, this.2⟩
  · have := hr.dom id t e
    rw [List.getElem?_append_left this.1] at ek
    exact hr.blk id t k' ht e ek hd
  · have := hr.dom id t e
    rw [List.getElem?_append_left this.1] at ek
    exact hr.esz id t k' e ek
  · have := hr.dom id t e
    rw [List.getElem?_append_left this.1] at ek
    rw [ro id k1 ek] at hrw; cases hrw
  · intro id k' e
    rw [List.getElem?_append] at e
    split at e
    · exact ro id k' e
    · have : id - h.length = 0 := by
        rcases Nat.eq_zero_or_pos (id - h.length) with h0 | h0
        · exact h0
        · rw [List.getElem?_eq_none (by simp; omega)] at e; cases e
      rw [this] at e
      simp at e
      subst e; exact hk

theorem HRel.pushAt {p : Phi} {h : Heap} {W : World} (hr : HRel [] p h W) (ro : allRo h) {k : Blk} (hk : k.st = .ro) {t : Tgt} (hb : BRel p k t W) (hp : p h.length = none) :
    ∃ q, HRel [] q (h ++ [k]) W ∧ p.le q ∧ q h.length = some t := by
  obtain ⟨hr', ro'⟩ := hr.pushRo ro hk
  have hle : p.le (fun id => if id = h.length then some t else p id) := fun id t' e => by
    by_cases hi : id = h.length
    · subst hi; rw [hp] at e; cases e
    · simp [hi, e]
  have hwb : t.b < W.heap.size := by
    obtain ⟨c, el, fr, e, _⟩ := hb.row
    exact (Array.getElem?_eq_some_iff.1 e).1
  have hb' : BRel (fun id => if id = h.length then some t else p id) k t W := by
    obtain ⟨c, el, fr, e1, e2, e3, e4, e5⟩ := hb.row
    exact ⟨hb.esz, c, el, fr, e1, e2, e3, fun i v ei => let ⟨v', a, b⟩ := e4 i v ei; ⟨v', a, b.mono hle⟩, e5⟩
  refine ⟨fun id => if id = h.length then some t else p id, ⟨fun g hg => by simp at hg, fun id t' e => ?_, fun id t' k' ht e ek hd => ?_, fun id t' k' e ek => ?_, fun id id' t t' k1 k2 e e' ek ek' hrw => ?_⟩, hle, by simp⟩
  · by_cases hi : id = h.length
    · subst hi; simp at e; subst e; exact ⟨by simp, hwb⟩
    · simp [hi] at e; exact hr'.dom id t' e
  · by_cases hi : id = h.length
    · subst hi; simp at e ek; subst e ek; exact hb'
    · simp [hi] at e
      obtain ⟨e0, c, el, fr, e1, e2, e3, e4, e5⟩ := hr'.blk id t' k' ht e ek hd
      exact ⟨e0, c, el, fr, e1, e2, e3, fun i v ei => let ⟨v', a, b⟩ := e4 i v ei; ⟨v', a, b.mono hle⟩, e5⟩
  · by_cases hi : id = h.length
    · subst hi; simp at e ek; subst e ek; exact hb.esz
    · simp [hi] at e; exact hr'.esz id t' k' e ek
  · rw [ro' id k1 ek] at hrw; cases hrw

theorem HRel.fresh {p : Phi} {h : Heap} {W : World} (hr : HRel [] p h W) : p h.length = none := by
  cases e : p h.length with
  | none => rfl
  | some t => exact absurd (hr.dom _ _ e).1 (Nat.lt_irrefl _)

theorem cells_some {W : World} {base n : Nat} {a : Addr} {l : List Value} (h : W.cells? base a n = some l) : l.length = n ∧ ∀ i, i < n → W.cell? (a.add i) = l[i]? := by
  unfold World.cells? at h
  split at h
  · refine ⟨by simpa using mapM_some_length h, fun i hi => mapM_some_get h i i (by simp [hi])⟩
  · cases h

theorem cell_some {W : World} {a : Addr} {v : Value} (h : W.cell? a = some v) : ∃ c el fr, W.heap[a.block]? = some (.cells c el fr) ∧ a.spot = none ∧ c[a.off]? = some v := by
  unfold World.cell? at h
  split at h
  · rename_i c el fr e
    split at h
    · cases h
    · rename_i hs
      exact ⟨c, el, fr, e, by simpa using hs, h⟩
  · cases h

theorem add_add (a : Addr) (x y : Nat) : (a.add x).add y = a.add (x + y) := by
  unfold Addr.add
  by_cases hx : x = 0
  · subst hx; simp
  · by_cases hy : y = 0
    · subst hy; simp [hx]
    · rw [if_neg hx, if_neg hy, if_neg (by omega)]
      simp [Nat.add_assoc]

theorem add_plain {a : Addr} (hs : a.spot = none) (i : Nat) : a.add i = ⟨a.block, a.off + i, none⟩ := by
  unfold Addr.add
  split
  · rename_i h0; subst h0; cases a; simp at hs ⊢; exact hs
  · rfl

theorem cell_of {W : World} {a : Addr} {c : Array Value} {el : TypeId} {fr : Nat × Nat} (h : W.heap[a.block]? = some (.cells c el fr)) (hs : a.spot = none) (i : Nat) : W.cell? (a.add i) = c[a.off + i]? := by
  rw [add_plain hs]
  unfold World.cell?
  simp [h]

section
variable {H : Type} {enc : TypeId × Value → H} {P : Program} {W : World} {base : Nat} {held : Bool}

theorem open_rows {e : Ty} {el : TypeId} {n : Nat} {a : Addr} (hsz : 0 < e.size) {elems : List (DataW H × List MemPlace)}
    (ih : ∀ (cs : List Value) (x : DataW H × List MemPlace), DataW.trod enc P W base (fun _ => true) held n el cs = some x → ∀ p h, HRel [] p h W → allRo h → ∃ p' h' hcs, Good W e p h cs p' h' hcs) :
    ∀ (len : Nat), (∀ i, i < len → (W.cells? base (a.add (i * e.size)) e.size).bind (DataW.trod enc P W base (fun _ => true) held n el) = elems[i]?) → len ≤ elems.length →
    ∀ p h, HRel [] p h W → allRo h → ∃ (p' : Phi) (h' : Heap) (rows : List (List Value)), HRel [] p' h' W ∧ p.le p' ∧ h <+: h' ∧ allRo h' ∧ rows.length = len ∧ (∀ r ∈ rows, Fits h' e r) ∧
      ∀ (j : Nat) v, rows.flatten[j]? = some v → ∃ v', W.cell? (a.add j) = some v' ∧ VRel p' v v'
  | 0, _, _, p, h, hr, ro => ⟨p, h, [], hr, Phi.le_refl p, List.prefix_rfl, ro, rfl, fun r hr => by simp at hr, fun j v e => by simp at e⟩
  | len + 1, hel, hle, p, h, hr, ro => by
    obtain ⟨p1, h1, rows, r1, l1, pre1, ro1, n1, f1, c1⟩ := open_rows hsz ih len (fun i hi => hel i (by omega)) (by omega) p h hr ro
    have h0 := hel len (by omega)
    have h00 : elems[len]? = some elems[len] := by simp
    rw [h00] at h0
    obtain ⟨cs, e1, e2⟩ := Option.bind_eq_some_iff.1 h0
    obtain ⟨p2, h2, hcs, g⟩ := ih cs _ e2 p1 h1 r1 ro1
    obtain ⟨k1, k2⟩ := cells_some e1
    have hfl : rows.flatten.length = len * e.size := by
      have : ∀ (rs : List (List Value)), (∀ r ∈ rs, r.length = e.size) → rs.flatten.length = rs.length * e.size := by
        intro rs
        induction rs with
        | nil => intro _; simp
        | cons r rs ih => intro hh; rw [List.flatten_cons, List.length_append, hh r (by simp), ih (fun r hr => hh r (by simp [hr])), List.length_cons, Nat.succ_mul]; omega
      rw [this rows (fun r hr => (f1 r hr).length), n1]
    refine ⟨p2, h2, rows ++ [hcs], g.rel, Phi.le_trans l1 g.le, pre1.trans g.pre, g.ro, by simp [n1], fun r hr => ?_, fun j v ej => ?_⟩
    · rcases List.mem_append.1 hr with hr | hr
      · exact (f1 r hr).mono g.pre
      · rw [List.mem_singleton.1 hr]; exact g.fits
    · rw [List.flatten_append, List.flatten_singleton, List.getElem?_append] at ej
      split at ej
      · obtain ⟨v', a1, a2⟩ := c1 j v ej
        exact ⟨v', a1, a2.mono g.le⟩
      · rename_i hj
        obtain ⟨v', a1, a2⟩ := g.cells.2 _ v ej
        have hlt : j - rows.flatten.length < e.size := by
          have := (List.getElem?_eq_some_iff.1 ej).1
          rw [g.fits.length] at this; exact this
        refine ⟨v', ?_, a2⟩
        rw [← k2 _ hlt] at a1
        rw [hfl] at a1 hj
        have e3 : (a.add (len * e.size)).add (j - len * e.size) = a.add j := by
          rw [add_add]; congr 1; omega
        rw [e3] at a1
        exact a1

theorem open_ty : ∀ (ty : Ty),
    (∀ t, chk P ty (.inl t) = true → ∀ (n : Nat) (cs : List Value) (x : DataW H × List MemPlace), DataW.trod enc P W base (fun _ => true) held n t cs = some x → ∀ p h, HRel [] p h W → allRo h →
      ∃ p' h' hcs, Good W ty p h cs p' h' hcs) ∧
    (∀ fs off, chk P ty (.inr (fs, off)) = true → ∀ (n : Nat) (cs : List Value), (∀ f ∈ fs, ∃ y, DataW.trod enc P W base (fun _ => true) held n f.type ((cs.drop f.offset).take (P.cellsOf f.type)) = some y) → cs.length = off + ty.size →
      ∀ p h, HRel [] p h W → allRo h → ∃ p' h' hcs, Good W ty p h (cs.drop off) p' h' hcs)
  | .int k => by
    refine ⟨fun t hc n cs x hx p h hr ro => ?_, fun fs off hc => by simp [chk] at hc⟩
    unfold chk at hc
    split at hc
    · rename_i k' hu
      have := of_decide_eq_true hc
      subst this
      obtain ⟨m, rfl, _, hw⟩ := DataW.trod_int hu hx
      exact ⟨p, h, _, hr, Phi.le_refl p, List.prefix_rfl, ro, .one (.int _ _), ⟨m, rfl, hw⟩⟩
    · cases hc
  | .bool => by
    refine ⟨fun t hc n cs x hx p h hr ro => ?_, fun fs off hc => by simp [chk] at hc⟩
    unfold chk at hc
    split at hc
    · rename_i hu
      obtain ⟨m, rfl, _⟩ := DataW.trod_bool hu hx
      exact ⟨p, h, _, hr, Phi.le_refl p, List.prefix_rfl, ro, .one (.bool _), ⟨m, rfl⟩⟩
    · cases hc
  | .str => by
    refine ⟨fun t hc n cs x hx p h hr ro => ?_, fun fs off hc => by simp [chk] at hc⟩
    unfold chk at hc
    split at hc
    · rename_i hu
      obtain ⟨m, rfl, _, hw⟩ := DataW.trod_string hu hx
      exact ⟨p, h, _, hr, Phi.le_refl p, List.prefix_rfl, ro, .one (.string _), ⟨m, rfl, hw⟩⟩
    · cases hc
  | .unit => by
    refine ⟨fun t hc => by simp [chk] at hc, fun fs off hc n cs hf hl p h hr ro => ?_⟩
    have : cs.drop off = [] := List.drop_eq_nil_of_le (by simp [Ty.size] at hl; omega)
    rw [this]
    exact ⟨p, h, [], hr, Phi.le_refl p, List.prefix_rfl, ro, .nil, rfl⟩
  | .pair a b => by
    refine ⟨fun t hc => by simp [chk] at hc, fun fs off hc n cs hf hl p h hr ro => ?_⟩
    cases fs with
    | nil => simp [chk] at hc
    | cons f fs =>
      simp only [chk, Bool.and_eq_true, decide_eq_true_eq] at hc
      obtain ⟨⟨⟨hc1, hc2⟩, hc3⟩, hc4⟩ := hc
      obtain ⟨y, hy⟩ := hf f (by simp)
      rw [hc1, hc2] at hy
      obtain ⟨p1, h1, c1, g1⟩ := (open_ty a).1 f.type hc3 n _ y hy p h hr ro
      obtain ⟨p2, h2, c2, g2⟩ := (open_ty b).2 fs (off + a.size) hc4 n cs (fun f' hf' => hf f' (by simp [hf'])) (by simp [Ty.size] at hl; omega) p1 h1 g1.rel g1.ro
      have e : cs.drop off = (cs.drop off).take a.size ++ cs.drop (off + a.size) := by
        rw [← List.drop_drop, List.take_append_drop]
      refine ⟨p2, h2, c1 ++ c2, g2.rel, Phi.le_trans g1.le g2.le, g1.pre.trans g2.pre, g2.ro, ?_, c1, c2, rfl, g1.fits.mono g2.pre, g2.fits⟩
      rw [e]
      exact (g1.cells.mono g2.le).append g2.cells
  | .struct b => by
    refine ⟨fun t hc n cs x hx p h hr ro => ?_, fun fs off hc => by simp [chk] at hc⟩
    unfold chk at hc
    split at hc
    · rename_i fs hu
      simp only [Bool.and_eq_true, decide_eq_true_eq] at hc
      obtain ⟨xs, m, _, _, hl, hlen, hf⟩ := DataW.trod_struct hu hx
      obtain ⟨p1, h1, c1, g1⟩ := (open_ty b).2 fs.toList 0 hc.2 m cs (fun f hmem => by
        obtain ⟨i, hi⟩ := List.mem_iff_getElem?.1 hmem
        have hi' : fs[i]? = some f := by simpa using hi
        have hlt : i < fs.size := (Array.getElem?_eq_some_iff.1 hi').1
        exact ⟨xs[i], by rw [hf i f hi']; simp⟩) (by rw [hl, hc.1]; simp) p h hr ro
      exact ⟨p1, h1, c1, g1.rel, g1.le, g1.pre, g1.ro, by simpa using g1.cells, g1.fits⟩
    · cases hc
  | .slice e => by
    refine ⟨fun t hc n cs x hx p h hr ro => ?_, fun fs off hc => by simp [chk] at hc⟩
    unfold chk at hc
    split at hc
    · rename_i el hu
      simp only [Bool.and_eq_true, decide_eq_true_eq] at hc
      obtain ⟨⟨hc1, hc2⟩, hc3⟩ := hc
      rcases DataW.trod_slice hu hx with ⟨rfl, _⟩ | ⟨a, len, cap, elems, rest, m, _, rfl, _, _, hlc, hcm, hle, hel, hsp, _⟩
      · exact ⟨p, h, _, hr, Phi.le_refl p, List.prefix_rfl, ro, .one .sliceNil, .inl rfl⟩
      · rw [hc1] at hel hsp
        obtain ⟨p1, h1, rows, r1, l1, pre1, ro1, n1, f1, c1⟩ := open_rows (enc := enc) (base := base) (held := held) (a := a) hc2 (fun cs x hx => (open_ty e).1 el hc3 m cs x hx) len hel (by omega) p h hr ro
        have hfl : rows.flatten.length = len * e.size := by
          have : ∀ (rs : List (List Value)), (∀ r ∈ rs, r.length = e.size) → rs.flatten.length = rs.length * e.size := by
            intro rs
            induction rs with
            | nil => intro _; simp
            | cons r rs ih => intro hh; rw [List.flatten_cons, List.length_append, hh r (by simp), ih (fun r hr => hh r (by simp [hr])), List.length_cons, Nat.succ_mul]; omega
          rw [this rows (fun r hr => (f1 r hr).length), n1]
        subst n1
        rcases Nat.eq_zero_or_pos cap with h0 | h0
        · subst h0
          have : rows = [] := by cases rows with
            | nil => rfl
            | cons r rs => simp at hlc
          subst this
          obtain ⟨r2, ro2⟩ := r1.pushRo ro1 (k := ⟨[], e.size, .ro⟩) rfl
          exact ⟨p1, h1 ++ [⟨[], e.size, .ro⟩], [.slice (some ⟨h1.length, 0, none⟩) 0 0], r2, l1, pre1.trans (List.prefix_append _ _), ro2, .one .sliceEmpty,
            .inr ⟨h1.length, [], rfl, by simp [hget], by simp, fun r hr => by simp at hr⟩⟩
        · have all : ∀ i, i < cap → ∃ cs', W.cells? base (a.add (i * e.size)) e.size = some cs' := fun i hi => by
            by_cases hcl : i < rows.length
            · have h2 := hel i hcl
              rw [List.getElem?_eq_getElem (by omega)] at h2
              obtain ⟨cs', e1, _⟩ := Option.bind_eq_some_iff.1 h2
              exact ⟨cs', e1⟩
            · obtain ⟨s1, s2⟩ := hsp rfl
              have h2 := s2 (i - rows.length) (by omega)
              rw [List.getElem?_eq_getElem (by omega)] at h2
              obtain ⟨cs', e1, _⟩ := Option.bind_eq_some_iff.1 h2
              rw [show rows.length + (i - rows.length) = i by omega] at e1
              exact ⟨cs', e1⟩
          have cell : ∀ i k, i < cap → k < e.size → ∃ v, W.cell? (a.add (i * e.size + k)) = some v := fun i k hi hk => by
            obtain ⟨cs', e1⟩ := all i hi
            obtain ⟨k1, k2⟩ := cells_some e1
            have k3 := k2 k hk
            rw [List.getElem?_eq_getElem (by omega), add_add] at k3
            exact ⟨_, k3⟩
          obtain ⟨v0, hv0⟩ := cell 0 0 h0 hc2
          rw [show a.add (0 * e.size + 0) = a by simp [Addr.add]] at hv0
          obtain ⟨c, elt, fr, w1', w2', w3⟩ := cell_some hv0
          obtain ⟨v, hv⟩ := cell (cap - 1) (e.size - 1) (by omega) (by omega)
          have hlast : (cap - 1) * e.size + (e.size - 1) = cap * e.size - 1 := by
            rw [Nat.sub_mul, Nat.one_mul]
            have : e.size ≤ cap * e.size := Nat.le_mul_of_pos_left _ h0
            omega
          rw [hlast, cell_of w1' w2'] at hv
          have w4 : a.off + (cap * e.size - 1) < c.size := (Array.getElem?_eq_some_iff.1 hv).1
          have w5 : 0 < cap * e.size := Nat.mul_pos h0 hc2
          have w6 : rows.length * e.size ≤ cap * e.size := Nat.mul_le_mul_right _ hlc
          have hb : BRel p1 ⟨rows.flatten, e.size, .ro⟩ ⟨a.block, a.off, e.size, c.size⟩ W := by
            refine ⟨rfl, c, elt, fr, w1', rfl, ?_, fun i v ei => ?_, fun hh => by cases hh⟩
            · show rows.flatten.length + a.off ≤ c.size
              omega
            · obtain ⟨v', a1, a2⟩ := c1 i v ei
              rw [cell_of w1' w2'] at a1
              exact ⟨v', by rw [Nat.add_comm]; exact a1, a2⟩
          obtain ⟨q, r2, l2, hq⟩ := r1.pushAt ro1 (k := ⟨rows.flatten, e.size, .ro⟩) rfl hb r1.fresh
          have ea : a = ⟨a.block, 0 + a.off, none⟩ := by
            cases a; simp at w2' ⊢; exact w2'
          refine ⟨q, h1 ++ [⟨rows.flatten, e.size, .ro⟩], [.slice (some ⟨h1.length, 0, none⟩) rows.length 0], r2, Phi.le_trans l1 l2, pre1.trans (List.prefix_append _ _), (r1.pushRo ro1 rfl).2, ?_, .inr ⟨h1.length, rows, rfl, by simp [hget], by omega, fun r hr => (f1 r hr).mono (List.prefix_append _ _)⟩⟩
          refine .one ?_
          rw [ea]
          exact .slice (t := ⟨a.block, a.off, e.size, c.size⟩) hq hlc (by show 0 + a.off + cap * e.size ≤ c.size; omega)
    · cases hc
end

def FitV (h : Heap) : Ty → Value → Prop
  | .struct b, v => ∃ cs, v = .agg cs.toArray ∧ Fits h b cs
  | ty, v => Fits h ty [v]

def FitsAll (h : Heap) : List Ty → List Value → Prop
  | [], [] => True
  | ty :: tys, v :: vs => FitV h ty v ∧ FitsAll h tys vs
  | _, _ => False

theorem FitsAll.cons {h : Heap} {ty : Ty} {tys : List Ty} {a : List Value} (f : FitsAll h (ty :: tys) a) : ∃ v vs, a = v :: vs ∧ FitV h ty v ∧ FitsAll h tys vs := by
  cases a with
  | nil => exact f.elim
  | cons v vs => exact ⟨v, vs, rfl, f.1, f.2⟩
theorem FitsAll.nil {h : Heap} {a : List Value} (f : FitsAll h [] a) : a = [] := by
  cases a with
  | nil => rfl
  | cons v vs => exact f.elim
theorem FitV.int {h : Heap} {k : IntKind} {v : Value} (f : FitV h (.int k) v) : ∃ n, v = .int k n ∧ (Lit.int k n).wf = true := by
  obtain ⟨n, e, w⟩ := f
  exact ⟨n, by simpa using e, w⟩
theorem FitV.bool {h : Heap} {v : Value} (f : FitV h .bool v) : ∃ b, v = .bool b := by
  obtain ⟨b, e⟩ := f
  exact ⟨b, by simpa using e⟩
theorem FitV.str {h : Heap} {v : Value} (f : FitV h .str v) : ∃ s, v = .string s ∧ s.size ≤ maxLen := by
  obtain ⟨s, e, w⟩ := f
  exact ⟨s, by simpa using e, w⟩
theorem FitV.slice {h : Heap} {e : Ty} {v : Value} (f : FitV h (.slice e) v) : v = .slice none 0 0 ∨ ∃ (id : Nat) (rows : List (List Value)), v = .slice (some ⟨id, 0, none⟩) rows.length 0 ∧
    hget h id = some ⟨rows.flatten, e.size, .ro⟩ ∧ rows.length ≤ maxLen ∧ ∀ r ∈ rows, Fits h e r := by
  rcases f with e0 | ⟨id, rows, e0, g⟩
  · exact .inl (by simpa using e0)
  · exact .inr ⟨id, rows, by simpa using e0, g⟩
theorem FitV.struct {h : Heap} {b : Ty} {v : Value} (f : FitV h (.struct b) v) : ∃ cs, v = .agg cs.toArray ∧ Fits h b cs := f
theorem Fits.pair {h : Heap} {a b : Ty} {cs : List Value} (f : Fits h (.pair a b) cs) : ∃ c1 c2, cs = c1 ++ c2 ∧ Fits h a c1 ∧ Fits h b c2 := f
theorem Fits.unit {h : Heap} {cs : List Value} (f : Fits h .unit cs) : cs = [] := f
theorem Fits.int {h : Heap} {k : IntKind} {cs : List Value} (f : Fits h (.int k) cs) : ∃ n, cs = [.int k n] ∧ (Lit.int k n).wf = true := f

theorem FitV.mono {h h' : Heap} (hp : h <+: h') {ty : Ty} {v : Value} (f : FitV h ty v) : FitV h' ty v := by
  cases ty with
  | struct b => obtain ⟨cs, e, f⟩ := f; exact ⟨cs, e, f.mono hp⟩
  | int k => exact Fits.mono (ty := .int k) hp f
  | bool => exact Fits.mono (ty := .bool) hp f
  | str => exact Fits.mono (ty := .str) hp f
  | unit => exact Fits.mono (ty := .unit) hp f
  | pair a b => exact Fits.mono (ty := .pair a b) hp f
  | slice e => exact Fits.mono (ty := .slice e) hp f

theorem FitsAll.mono {h h' : Heap} (hp : h <+: h') : ∀ {tys : List Ty} {vs : List Value}, FitsAll h tys vs → FitsAll h' tys vs
  | [], [], _ => trivial
  | _ :: _, _ :: _, ⟨f, g⟩ => ⟨f.mono hp, g.mono hp⟩
  | [], _ :: _, f => f.elim
  | _ :: _, [], f => f.elim

def chkAll (P : Program) : List Ty → List TypeId → Bool
  | [], [] => true
  | ty :: tys, t :: ts => chk P ty (.inl t) && chkAll P tys ts
  | _, _ => false

theorem agg_rel {p : Phi} {l l' : List Value} (r : CRel p l l') : VRel p (.agg l.toArray) (.agg l'.toArray) := by
  refine .agg (by simp [r.1]) fun i h h' => ?_
  obtain ⟨v', e, hv⟩ := r.2 i (l[i]'(by simpa using h)) (by simp)
  have : l'[i]'(by simpa using h') = v' := by
    have := List.getElem?_eq_getElem (l := l') (i := i) (by simpa using h')
    rw [this] at e; simpa using e
  simpa [this] using hv

theorem cells_one {v : Value} (h : ∀ c, v ≠ .agg c) : v.cells.toList = [v] := by
  cases v <;> first | rfl | exact absurd rfl (h _)

section
variable {H : Type} {enc : TypeId × Value → H} {P : Program} {W : World} {held : Bool}

theorem open_arg {ty : Ty} {t : TypeId} (hc : chk P ty (.inl t) = true) {b0 : Nat} {v : Value} {d : DataW H} {ps : List MemPlace} (hval : Value.okWide P W .any b0 t v)
    (hd : DataW.Trod enc P W 0 (fun _ => true) held t v d ps) {p : Phi} {h : Heap} (hr : HRel [] p h W) (ro : allRo h) :
    ∃ p' h' u, HRel [] p' h' W ∧ p.le p' ∧ h <+: h' ∧ allRo h' ∧ VRel p' u v ∧ FitV h' ty u := by
  obtain ⟨n, hx⟩ := hd
  obtain ⟨p', h', hcs, g⟩ := (open_ty ty).1 t hc n _ _ hx p h hr ro
  have one : (∀ c, v ≠ .agg c) → (∀ b, ty ≠ .struct b) → ∃ p' h' u, HRel [] p' h' W ∧ p.le p' ∧ h <+: h' ∧ allRo h' ∧ VRel p' u v ∧ FitV h' ty u := fun hv hty => by
    have gc := g.cells
    rw [cells_one hv] at gc
    obtain ⟨u, rfl⟩ : ∃ u, hcs = [u] := by
      have := gc.1
      match hcs, this with
      | [u], _ => exact ⟨u, rfl⟩
    obtain ⟨v', e, r⟩ := gc.2 0 u rfl
    simp at e; subst e
    refine ⟨p', h', u, g.rel, g.le, g.pre, g.ro, r, ?_⟩
    have := g.fits
    cases ty with
    | struct b => exact absurd rfl (hty b)
    | _ => exact this
  cases ty with
  | int k =>
    unfold chk at hc
    split at hc
    · rename_i k' hu
      obtain ⟨m, rfl⟩ := okWide_int hu hval
      exact one (fun c => by simp) (fun b => by simp)
    · cases hc
  | bool =>
    unfold chk at hc
    split at hc
    · rename_i hu
      obtain ⟨m, rfl⟩ := okWide_bool hu hval
      exact one (fun c => by simp) (fun b => by simp)
    · cases hc
  | str =>
    unfold chk at hc
    split at hc
    · rename_i hu
      obtain ⟨m, rfl⟩ := okWide_string hu hval
      exact one (fun c => by simp) (fun b => by simp)
    · cases hc
  | unit => simp [chk] at hc
  | pair a b => simp [chk] at hc
  | slice e =>
    unfold chk at hc
    split at hc
    · rename_i el hu
      obtain ⟨a, l, c, rfl⟩ := okWide_slice hu hval
      exact one (fun c => by simp) (fun b => by simp)
    · cases hc
  | struct b =>
    unfold chk at hc
    split at hc
    · rename_i fs hu
      obtain ⟨cs, rfl, _⟩ := okWide_struct hu hval
      have gc := g.cells
      refine ⟨p', h', .agg hcs.toArray, g.rel, g.le, g.pre, g.ro, ?_, hcs, rfl, g.fits⟩
      have := agg_rel gc
      simpa [Value.cells] using this
    · cases hc

theorem open_args : ∀ {tys : List Ty} {ts : List TypeId}, chkAll P tys ts = true → ∀ {b0 : Nat} {vs : List Value} {ds : List (DataW H)} {ps : List MemPlace},
    (∀ (j : Nat) t v, ts[j]? = some t → vs[j]? = some v → Value.okWide P W .any b0 t v) → DataW.TrodAll enc P W 0 (fun _ => true) held ts vs ds ps → ∀ {p : Phi} {h : Heap}, HRel [] p h W → allRo h →
    ∃ p' h' us, HRel [] p' h' W ∧ p.le p' ∧ h <+: h' ∧ allRo h' ∧ CRel p' us vs ∧ FitsAll h' tys us
  | [], [], _, b0, vs, ds, ps, _, hA, p, h, hr, ro => by
    match vs, ds, hA with
    | [], [], _ => exact ⟨p, h, [], hr, Phi.le_refl p, List.prefix_rfl, ro, .nil, trivial⟩
  | ty :: tys, t :: ts, hc, b0, vs, ds, ps, hval, hA, p, h, hr, ro => by
    simp only [chkAll, Bool.and_eq_true] at hc
    match vs, ds, hA with
    | v :: vs, d :: ds, hA =>
      obtain ⟨p0, q0, h1, h2, _⟩ := hA
      obtain ⟨p1, k1, u, r1, l1, pre1, ro1, v1, f1⟩ := open_arg hc.1 (hval 0 t v rfl rfl) h1 hr ro
      obtain ⟨p2, k2, us, r2, l2, pre2, ro2, c2, f2⟩ := open_args hc.2 (fun j t' v' a b => hval (j + 1) t' v' (by simpa using a) (by simpa using b)) h2 r1 ro1
      exact ⟨p2, k2, u :: us, r2, Phi.le_trans l1 l2, pre1.trans pre2, ro2, (CRel.one (v1.mono l2)).append c2, f1.mono pre2, f2⟩
  | [], _ :: _, hc, _, _, _, _, _, _, _, _, _, _ => by simp [chkAll] at hc
  | _ :: _, [], hc, _, _, _, _, _, _, _, _, _, _ => by simp [chkAll] at hc

theorem law_frame {f : FuncId} {tys : List Ty} {ts : List TypeId} (hc : chkAll P tys ts = true) {b0 : Nat} {args : Array Value} {ds : List (DataW H)} {ps : List MemPlace}
    (hval : ∀ (j : Nat) t v, ts[j]? = some t → args[j]? = some v → Value.okWide P W .any b0 t v) (hA : DataW.TrodAll enc P W 0 (fun _ => true) held ts args.toList ds ps)
    (hl : ∀ h a, FitsAll h tys a → vCall [] P (fun _ => False) f a h (fun r _ => r = .bool true)) :
    Calls P f args W fun e W' => e = .returned (.bool true) ∧ Below W.heap.size W W' := by
  obtain ⟨p, h, us, r, _, _, _, c, ft⟩ := open_args hc (fun j t v a b => hval j t v a (by simpa using b)) hA (HRel.empty W) (fun id k e => by simp at e)
  refine law_calls (hl h us ft) r ⟨by simp [c.1], fun i h1 h2 => ?_⟩
  obtain ⟨v', e, hv⟩ := c.2 i (us[i]'(by simpa using h1)) (by simp)
  have : args[i]'h2 = v' := by
    rw [Array.getElem?_toList] at e
    rw [Array.getElem?_eq_getElem h2] at e; simpa using e
  simpa [this] using hv
end
end Go.HH

namespace Go.HH

/-! Slices that show rows of cells. -/

theorem flatten_len {sz : Nat} : ∀ {rows : List (List Value)}, (∀ r ∈ rows, r.length = sz) → rows.flatten.length = rows.length * sz
  | [], _ => by simp
  | r :: rs, h => by
    rw [List.flatten_cons, List.length_append, h r (by simp), flatten_len (fun r hr => h r (by simp [hr])), List.length_cons, Nat.succ_mul]; omega

theorem flatten_row {sz : Nat} : ∀ {rows : List (List Value)}, (∀ r ∈ rows, r.length = sz) → ∀ {i : Nat} (hi : i < rows.length), (rows.flatten.drop (i * sz)).take sz = rows[i]
  | r :: rs, h, 0, hi => by simp [h r (by simp)]
  | r :: rs, h, i + 1, hi => by
    have e : (i + 1) * sz = r.length + i * sz := by rw [h r (by simp), Nat.succ_mul]; omega
    rw [List.flatten_cons, e, ← List.drop_drop, List.drop_left' rfl]
    simpa using flatten_row (rows := rs) (fun r hr => h r (by simp [hr])) (by simpa using hi)

/-- The slice 'v' shows the rows 'rows', each of 'sz' cells. -/
def Sl (h : Heap) (sz : Nat) (v : Value) (rows : List (List Value)) : Prop :=
  ∃ a, v = .slice a rows.length 0 ∧ (∀ r ∈ rows, r.length = sz) ∧ (rows ≠ [] → ∃ id off k, a = some ⟨id, off, none⟩ ∧ hget h id = some k ∧ k.st ≠ .dead ∧ off + rows.length * sz ≤ k.cells.length ∧
    (k.cells.drop off).take (rows.length * sz) = rows.flatten)

theorem Sl.mono {h h' : Heap} (hp : h <+: h') {sz : Nat} {v : Value} {rows : List (List Value)} (s : Sl h sz v rows) : Sl h' sz v rows := by
  obtain ⟨a, e, hl, f⟩ := s
  refine ⟨a, e, hl, fun hn => ?_⟩
  obtain ⟨id, off, k, e1, e2, r⟩ := f hn
  exact ⟨id, off, k, e1, by rw [hget_prefix hp (hget_lt e2)]; exact e2, r⟩

theorem Sl.nil {h : Heap} {sz : Nat} : Sl h sz (.slice none 0 0) [] := ⟨none, rfl, fun r hr => by simp at hr, fun hn => absurd rfl hn⟩

theorem Sl.whole {h : Heap} {sz id esz : Nat} {rows : List (List Value)} {st : St} (hst : st ≠ .dead) (hl : ∀ r ∈ rows, r.length = sz) (hg : hget h id = some ⟨rows.flatten, esz, st⟩) :
    Sl h sz (.slice (some ⟨id, 0, none⟩) rows.length 0) rows :=
  ⟨_, rfl, hl, fun _ => ⟨id, 0, _, rfl, hg, hst, by simp [flatten_len hl], by rw [List.drop_zero, ← flatten_len hl, List.take_length]⟩⟩

theorem Sl.rowLen {h : Heap} {sz : Nat} {v : Value} {rows : List (List Value)} (s : Sl h sz v rows) : ∀ r ∈ rows, r.length = sz := by
  obtain ⟨_, _, hl, _⟩ := s; exact hl

/-- What a place of the slice holds. -/
theorem Sl.at {h : Heap} {sz : Nat} {v : Value} {rows : List (List Value)} (s : Sl h sz v rows) {i : Nat} (hi : i < rows.length) :
    ∃ id off k, v = .slice (some ⟨id, off, none⟩) rows.length 0 ∧ (∀ t, hget (h ++ t) id = some k) ∧ hget h id = some k ∧ k.st ≠ .dead ∧ off + i * sz + sz ≤ k.cells.length ∧ (k.cells.drop (off + i * sz)).take sz = rows[i] ∧
      ∀ f, f < sz → k.cells[off + i * sz + f]? = rows[i][f]? := by
  obtain ⟨a, e, hl, f⟩ := s
  obtain ⟨id, off, k, e1, e2, e3, e4, e5⟩ := f (by intro h0; subst h0; simp at hi)
  subst e1
  have hm : i * sz + sz ≤ rows.length * sz := by
    rw [← Nat.succ_mul]; exact Nat.mul_le_mul_right _ hi
  have hrow : (k.cells.drop (off + i * sz)).take sz = rows[i] := by
    rw [← flatten_row hl hi, ← e5, List.drop_take, List.drop_drop, List.take_take]
    congr 1
    omega
  refine ⟨id, off, k, e, fun t => by rw [hget_prefix (List.prefix_append _ _) (hget_lt e2)]; exact e2, e2, e3, by omega, hrow, fun f hf => ?_⟩
  rw [← hrow, List.getElem?_take_of_lt hf, List.getElem?_drop]

/-- What all places of the slice hold. -/
theorem Sl.all {h : Heap} {sz : Nat} {v : Value} {rows : List (List Value)} (s : Sl h sz v rows) (hn : 0 < rows.length) :
    ∃ id off k, v = .slice (some ⟨id, off, none⟩) rows.length 0 ∧ (∀ t, hget (h ++ t) id = some k) ∧ hget h id = some k ∧ k.st ≠ .dead ∧
      ∀ (i : Nat) (hi : i < rows.length), off + i * sz + sz ≤ k.cells.length ∧ (k.cells.drop (off + i * sz)).take sz = rows[i] ∧ ∀ f, f < sz → k.cells[off + i * sz + f]? = rows[i][f]? := by
  obtain ⟨id, off, k, e, e1, e2, e3, _⟩ := s.at hn
  refine ⟨id, off, k, e, e1, e2, e3, fun i hi => ?_⟩
  obtain ⟨id', off', k', e', e1', e2', e3', e4', e5', e6'⟩ := s.at hi
  rw [e] at e'
  simp only [Value.slice.injEq, Option.some.injEq, Addr.mk.injEq, and_true, true_and] at e'
  obtain ⟨rfl, rfl⟩ := e'
  rw [e2] at e2'
  cases e2'
  exact ⟨e4', e5', e6'⟩

theorem Fits.sl {h : Heap} {e : Ty} {v : Value} (f : FitV h (.slice e) v) : ∃ rows, Sl h e.size v rows ∧ rows.length ≤ maxLen ∧ ∀ r ∈ rows, Fits h e r := by
  rcases f.slice with rfl | ⟨id, rows, rfl, hg, hl, hf⟩
  · exact ⟨[], .nil, by simp, fun r hr => by simp at hr⟩
  · exact ⟨rows, .whole (by simp) (fun r hr => (hf r hr).length) hg, hl, hf⟩

/-- Filling a fresh slice row by row. -/
theorem set_row {sz : Nat} {rows : List (List Value)} {z : List Value} (hz : z.length = sz) (hl : ∀ r ∈ rows, r.length = sz) {i n : Nat} (hi : i < rows.length) (hn : i < n) :
    setRange ((rows.take i).flatten ++ zeros (n - i) z) (i * sz) rows[i] = (rows.take (i + 1)).flatten ++ zeros (n - (i + 1)) z := by
  have e1 : (rows.take i).flatten.length = i * sz := by
    rw [flatten_len (sz := sz) (fun r hr => hl r (List.mem_of_mem_take hr)), List.length_take, Nat.min_eq_left (by omega)]
  have e2 : n - i = (n - (i + 1)) + 1 := by omega
  have e3 : rows[i].length = z.length := by rw [hz]; exact hl _ (List.getElem_mem hi)
  rw [e2, zeros_succ]
  unfold setRange
  rw [← e1, List.take_left' rfl, List.take_add_one, List.flatten_append]
  rw [List.getElem?_eq_getElem hi, e3]
  simp [List.drop_append]
theorem row_room {sz : Nat} {rows : List (List Value)} {z : List Value} (hz : z.length = sz) (hl : ∀ r ∈ rows, r.length = sz) {i n : Nat} (hi : i < rows.length) (hn : i < n) :
    i * sz + sz ≤ (rows.take i).flatten.length + (zeros (n - i) z).length := by
  have e1 : (rows.take i).flatten.length = i * sz := by
    rw [flatten_len (sz := sz) (fun r hr => hl r (List.mem_of_mem_take hr)), List.length_take, Nat.min_eq_left (by omega)]
  have e2 : n - i = (n - (i + 1)) + 1 := by omega
  rw [e1, zeros_length, hz, e2, Nat.succ_mul]
  omega

theorem Sl.full {sz : Nat} {rows : List (List Value)} {z : List Value} (hl : ∀ r ∈ rows, r.length = sz) {h t : Heap} {i n : Nat} (hi : i = rows.length) (hn : n = rows.length) :
    Sl (h ++ ⟨(rows.take i).flatten ++ zeros (n - i) z, sz, .rw⟩ :: t) sz (.slice (some ⟨h.length, 0, none⟩) n 0) rows := by
  subst hi hn
  have e1 : (rows.take rows.length).flatten ++ zeros (rows.length - rows.length) z = rows.flatten := by simp [zeros_zero]
  rw [e1]
  exact .whole (st := .rw) (esz := sz) (by simp) hl (by simp [hget])

theorem rows_map {α : Type} {f : α → List Value} : ∀ {rows : List (List Value)}, (∀ r ∈ rows, ∃ x, r = f x) → ∃ l : List α, rows = l.map f
  | [], _ => ⟨[], rfl⟩
  | r :: rs, h => by
    obtain ⟨x, rfl⟩ := h r (by simp)
    obtain ⟨l, rfl⟩ := rows_map (rows := rs) (fun r hr => h r (by simp [hr]))
    exact ⟨x :: l, rfl⟩

/-! A loop that counts. -/

open Classical in
noncomputable def top (p : Nat → Prop) : Nat → Nat
  | 0 => 0
  | n + 1 => if p (n + 1) then n + 1 else top p n
theorem top_le {p : Nat → Prop} : ∀ n, top p n ≤ n
  | 0 => Nat.le_refl _
  | n + 1 => by unfold top; split; exact Nat.le_refl _; exact Nat.le_succ_of_le (top_le n)
theorem top_spec {p : Nat → Prop} : ∀ {n i : Nat}, i ≤ n → p i → i ≤ top p n ∧ p (top p n)
  | 0, i, hi, hp => by have : i = 0 := by omega
                       subst this; exact ⟨Nat.le_refl _, hp⟩
  | n + 1, i, hi, hp => by
    unfold top
    split
    · rename_i h; exact ⟨hi, h⟩
    · rename_i h
      have : i ≠ n + 1 := by intro e; subst e; exact h hp
      exact top_spec (by omega) hp

section
variable {G : List (Nat × Nat)} {P : Program} {n : Nat} {M : Nat → Prop}
theorem vLoop.count {c : Code} {Q : Exit → Env → Heap → Prop} {e : Env} {h : Heap} (hm : P.follows .mixedOrders = true) (N : Nat) (I : Nat → Env → Heap → Prop) (h0 : I 0 e h)
    (round : ∀ i e h, i ≤ N → I i e h → vCode G P n M c (thenQ Q (fun e' h' => i < N ∧ I (i + 1) e' h')) e h) : vLoop G P n M c Q e h :=
  fun hok => HWp.loop (fun e h => ∃ i, i ≤ N ∧ I i e h) (fun e h => N - top (fun i => I i e h) N) ⟨0, Nat.zero_le _, h0⟩ fun e h ⟨i, hi, hI⟩ => by
    obtain ⟨_, ht⟩ := top_spec (p := fun i => I i e h) hi hI
    refine (vCode_sound hm c _ e h hok (round _ e h (top_le N) ht)).mono fun z e' h' hz => ?_
    cases z with
    | normal =>
      obtain ⟨h1, h2⟩ := hz
      obtain ⟨h3, _⟩ := top_spec (p := fun i => I i e' h') (Nat.succ_le_of_lt h1) h2
      exact .inl ⟨rfl, ⟨_, Nat.succ_le_of_lt h1, h2⟩, by omega⟩
    | _ => exact .inr ⟨by simp, hz⟩
theorem vLoopR.count {L : List (Nat × List Nat)} {c : Code} {Q : Exit → Env → Heap → Prop} {e : Env} {h : Heap} (hm : P.follows .mixedOrders = true) (N : Nat) (I : Nat → Env → Heap → Prop) (h0 : I 0 e h)
    (round : ∀ i e h, i ≤ N → I i e h → vCodeR L G P n M c (thenQ Q (fun e' h' => i < N ∧ I (i + 1) e' h')) e h) : vLoopR L G P n M c Q e h :=
  fun hok => HWp.loop (fun e h => ∃ i, i ≤ N ∧ I i e h) (fun e h => N - top (fun i => I i e h) N) ⟨0, Nat.zero_le _, h0⟩ fun e h ⟨i, hi, hI⟩ => by
    obtain ⟨_, ht⟩ := top_spec (p := fun i => I i e h) hi hI
    refine (vCodeR_sound hm c _ e h hok (round _ e h (top_le N) ht)).mono fun z e' h' hz => ?_
    cases z with
    | normal =>
      obtain ⟨h1, h2⟩ := hz
      obtain ⟨h3, _⟩ := top_spec (p := fun i => I i e' h') (Nat.succ_le_of_lt h1) h2
      exact .inl ⟨rfl, ⟨_, Nat.succ_le_of_lt h1, h2⟩, by omega⟩
    | _ => exact .inr ⟨by simp, hz⟩
end

theorem setRange_one {cells : List Value} {i : Nat} {v : Value} (hi : i < cells.length) : cells.set i v = setRange cells i [v] := by
  rw [setRange, List.set_eq_take_append_cons_drop, if_pos hi]
  simp

/-- A loop with a rank that falls. -/
theorem HWp.rank {G : List (Nat × Nat)} {P : Program} {n : Nat} {M : Nat → Prop} {Q : Exit → Env → Heap → Prop} {e : Env} {h : Heap} {c : Code} (I : Nat → Env → Heap → Prop) (m0 : Nat) (h0 : I m0 e h)
    (round : ∀ m e h, I m e h → HWp G P n M c (fun z e' h' => (z = .normal ∧ ∃ m', m' < m ∧ I m' e' h') ∨ (z ≠ .normal ∧ Q z e' h')) e h) : HWp G P n M (.loop c) Q e h := by
  have key : ∀ m e h, I m e h → ∃ k z e' h', LoopRun G P n M c k e h z e' h' ∧ Q z e' h' := by
    intro m
    induction m using Nat.strongRecOn with
    | _ m ih =>
      intro e h hI
      obtain ⟨z, e1, h1, hx, hq⟩ := round m e h hI
      rcases hq with ⟨rfl, m', hlt, hI1⟩ | ⟨hz, hq⟩
      · obtain ⟨k, z2, e2, h2, t, q⟩ := ih m' hlt e1 h1 hI1
        exact ⟨k + 1, z2, e2, h2, .step hx t, q⟩
      · exact ⟨0, z, e1, h1, .out hx hz, hq⟩
  obtain ⟨k, z, e', h', t, q⟩ := key m0 e h h0
  exact ⟨z, e', h', HExec.loop t, q⟩

theorem vLoop.rank {G : List (Nat × Nat)} {P : Program} {n : Nat} {M : Nat → Prop} {c : Code} {Q : Exit → Env → Heap → Prop} {e : Env} {h : Heap} (hm : P.follows .mixedOrders = true) (m0 : Nat) (I : Nat → Env → Heap → Prop) (h0 : I m0 e h)
    (round : ∀ m e h, I m e h → vCode G P n M c (thenQ Q (fun e' h' => ∃ m', m' < m ∧ I m' e' h')) e h) : vLoop G P n M c Q e h := fun hok =>
  HWp.rank I m0 h0 fun m e h hI => (vCode_sound hm c _ e h hok (round m e h hI)).mono fun z e' h' hz => by
    cases z with
    | normal => exact .inl ⟨rfl, hz⟩
    | _ => exact .inr ⟨by simp, hz⟩

theorem new_at {u : Heap} {K b : Blk} {j n : Nat} (hn : n = u.length) : (u.set j b ++ [K])[n]? = some K := by
  subst hn
  rw [List.getElem?_append_right (by simp)]
  simp
theorem new_at0 {u w : Heap} {K : Blk} {n : Nat} (hn : n = u.length) : (u ++ K :: w)[n]? = some K := by
  subst hn
  rw [List.getElem?_append_right (by simp)]
  simp

@[go_sem] theorem pre_self {l : Heap} : (l <+: l) = True := by simp
@[go_sem] theorem pre_app {l m : Heap} : (l <+: l ++ m) = True := by simp
@[go_sem] theorem pre_app2 {l m m' : Heap} : (l ++ m <+: l ++ m') = (m <+: m') := by simp
@[go_sem] theorem pre_cons {b : Blk} {m m' : Heap} : (b :: m <+: b :: m') = (m <+: m') := by simp
@[go_sem] theorem pre_nil {m : Heap} : ([] <+: m) = True := by simp
@[go_sem] theorem nat_nn {i : Nat} : (0 ≤ (i : Int)) = True := by simp
def bndV (v : Value) : Option Nat := match v with
  | .int _ n => if 0 ≤ n then some n.toNat else none
  | _ => none
@[go_sem] theorem bnd_none {e : Env} {d : Nat} : bnd e none d = some d := (rfl)
@[go_sem] theorem bnd_some {e : Env} {x : Operand} {d : Nat} : bnd e (some x) d = bndV (Opd.val e x) := by
  unfold bnd bndV; rfl
@[go_sem] theorem bndV_int {k : IntKind} {n : Int} : bndV (.int k n) = if 0 ≤ n then some n.toNat else none := (rfl)
@[go_sem] theorem hBin_and {k : IntKind} {a b : Int} : hBin .and (.int k a) (.int k b) = some (.int k (k.wrap (BitVec.ofInt k.bits a &&& BitVec.ofInt k.bits b).toNat)) := by simp [hBin]
theorem and_bound {x : Int} {y : Nat} (hy : y ≤ 9223372036854775807) : ∃ m : Int, IntKind.u64.wrap (BitVec.ofInt IntKind.u64.bits x &&& BitVec.ofInt IntKind.u64.bits y).toNat = m ∧ 0 ≤ m ∧ m ≤ y := by
  refine ⟨_, rfl, ?_⟩
  have h1 : (BitVec.ofInt IntKind.u64.bits x &&& BitVec.ofInt IntKind.u64.bits (y : Int)).toNat ≤ y := by
    rw [BitVec.toNat_and]
    refine Nat.le_trans Nat.and_le_right ?_
    have h0 : (BitVec.ofInt 64 (y : Int)).toNat ≤ y := by
      rw [BitVec.ofInt_natCast, BitVec.toNat_ofNat]
      exact Nat.mod_le _ _
    exact h0
  have h2 : IntKind.u64.wrap ((BitVec.ofInt IntKind.u64.bits x &&& BitVec.ofInt IntKind.u64.bits (y : Int)).toNat : Int) = ((BitVec.ofInt IntKind.u64.bits x &&& BitVec.ofInt IntKind.u64.bits (y : Int)).toNat : Int) := by
    generalize (BitVec.ofInt IntKind.u64.bits x &&& BitVec.ofInt IntKind.u64.bits (y : Int)).toNat = z at h1
    have : (z : Int) ≤ 9223372036854775807 := by omega
    exact IntWalk.u64_in _ (by omega)
  rw [h2]
  omega

attribute [go_sem] Option.isSome_some Int.toNat_natCast
end Go.HH

namespace Go.HH

/-! Heaps that agree outside a range of blocks, and slices of numbers. -/

/-- All blocks stay, but for those from 'lo' to 'hi'. -/
def Agr (lo hi : Nat) (h h' : Heap) : Prop := h.length ≤ h'.length ∧ ∀ i, i < h.length → (i < lo ∨ hi ≤ i) → hget h' i = hget h i

theorem Agr.pre {lo hi : Nat} {h h' : Heap} (hp : h <+: h') : Agr lo hi h h' :=
  ⟨hp.length_le, fun i hi _ => hget_prefix hp hi⟩
theorem Agr.app {lo hi : Nat} {h t : Heap} : Agr lo hi h (h ++ t) := Agr.pre (List.prefix_append _ _)
theorem Agr.trans {lo hi : Nat} {h h' h'' : Heap} (a : Agr lo hi h h') (b : Agr lo hi h' h'') : Agr lo hi h h'' :=
  ⟨Nat.le_trans a.1 b.1, fun i hi ho => by rw [b.2 i (Nat.lt_of_lt_of_le hi a.1) ho, a.2 i hi ho]⟩
theorem Agr.wide {lo hi lo' hi' : Nat} {h h' : Heap} (a : Agr lo hi h h') (h1 : lo' ≤ lo) (h2 : hi ≤ hi') : Agr lo' hi' h h' :=
  ⟨a.1, fun i hi ho => a.2 i hi (by omega)⟩
theorem Agr.set {lo hi id : Nat} {h : Heap} {b : Blk} (h1 : lo ≤ id) (h2 : id < hi) : Agr lo hi h (h.set id b) :=
  ⟨by simp, fun i _ ho => hget_set_ne (by omega)⟩
theorem Agr.refl {lo hi : Nat} {h : Heap} : Agr lo hi h h := Agr.pre List.prefix_rfl

theorem flat_one {α : Type} {f : α → Value} : ∀ {l : List α}, (l.map fun x => [f x]).flatten = l.map f
  | [] => rfl
  | x :: l => by rw [List.map_cons, List.flatten_cons, flat_one]; rfl

/-- The number as a value. -/
def iv (n : Int) : Value := .int .i64 n

/-- 'v' shows the numbers 'l', in a block below 'n'. -/
def AI (n : Nat) (h : Heap) (v : Value) (l : List Int) : Prop :=
  ∃ a, v = .slice a l.length 0 ∧ (0 < l.length → ∃ id off k, a = some ⟨id, off, none⟩ ∧ id < n ∧ hget h id = some k ∧ k.st ≠ .dead ∧ k.esz = 1 ∧ off + l.length ≤ k.cells.length ∧ (k.cells.drop off).take l.length = l.map iv)

/-- 'v' is a slice of its own that holds the numbers 'l', in a block from 'lo' to 'hi'. -/
def FI (lo hi : Nat) (h : Heap) (v : Value) (l : List Int) : Prop :=
  ∃ a, v = .slice a l.length 0 ∧ (0 < l.length → ∃ id, a = some ⟨id, 0, none⟩ ∧ lo ≤ id ∧ id < hi ∧ hget h id = some ⟨l.map iv, 1, .rw⟩)

theorem AI.agr {n lo hi : Nat} {h h' : Heap} {v : Value} {l : List Int} (s : AI n h v l) (a : Agr lo hi h h') (hn : n ≤ lo) : AI n h' v l := by
  obtain ⟨p, e, f⟩ := s
  refine ⟨p, e, fun h0 => ?_⟩
  obtain ⟨id, off, k, e1, e2, e3, r⟩ := f h0
  exact ⟨id, off, k, e1, e2, by rw [a.2 id (hget_lt e3) (by omega)]; exact e3, r⟩
theorem AI.mono {n : Nat} {h h' : Heap} {v : Value} {l : List Int} (s : AI n h v l) (hp : h <+: h') : AI n h' v l := by
  obtain ⟨p, e, f⟩ := s
  refine ⟨p, e, fun h0 => ?_⟩
  obtain ⟨id, off, k, e1, e2, e3, r⟩ := f h0
  exact ⟨id, off, k, e1, e2, by rw [hget_prefix hp (hget_lt e3)]; exact e3, r⟩
theorem AI.le {n m : Nat} {h : Heap} {v : Value} {l : List Int} (s : AI n h v l) (hn : n ≤ m) : AI m h v l := by
  obtain ⟨p, e, f⟩ := s
  refine ⟨p, e, fun h0 => ?_⟩
  obtain ⟨id, off, k, e1, e2, r⟩ := f h0
  exact ⟨id, off, k, e1, by omega, r⟩
theorem FI.agr {n m lo hi : Nat} {h h' : Heap} {v : Value} {l : List Int} (s : FI n m h v l) (a : Agr lo hi h h') (hn : m ≤ lo ∨ hi ≤ n) : FI n m h' v l := by
  obtain ⟨p, e, f⟩ := s
  refine ⟨p, e, fun h0 => ?_⟩
  obtain ⟨id, e1, e2, e3, e4⟩ := f h0
  exact ⟨id, e1, e2, e3, by rw [a.2 id (hget_lt e4) (by omega)]; exact e4⟩
theorem FI.mono {n m : Nat} {h h' : Heap} {v : Value} {l : List Int} (s : FI n m h v l) (hp : h <+: h') : FI n m h' v l := by
  obtain ⟨p, e, f⟩ := s
  refine ⟨p, e, fun h0 => ?_⟩
  obtain ⟨id, e1, e2, e3, e4⟩ := f h0
  exact ⟨id, e1, e2, e3, by rw [hget_prefix hp (hget_lt e4)]; exact e4⟩
theorem FI.wide {n m n' m' : Nat} {h : Heap} {v : Value} {l : List Int} (s : FI n m h v l) (h1 : n' ≤ n) (h2 : m ≤ m') : FI n' m' h v l := by
  obtain ⟨p, e, f⟩ := s
  refine ⟨p, e, fun h0 => ?_⟩
  obtain ⟨id, e1, e2, e3, e4⟩ := f h0
  exact ⟨id, e1, by omega, by omega, e4⟩
theorem FI.ai {n m : Nat} {h : Heap} {v : Value} {l : List Int} (s : FI n m h v l) : AI m h v l := by
  obtain ⟨p, e, f⟩ := s
  refine ⟨p, e, fun h0 => ?_⟩
  obtain ⟨id, e1, e2, e3, e4⟩ := f h0
  exact ⟨id, 0, _, e1, e3, e4, by simp, rfl, by simp, by simp [← List.map_take]⟩
theorem FI.nil {n m : Nat} {h : Heap} {a : Option Addr} : FI n m h (.slice a 0 0) [] := ⟨a, rfl, fun h0 => by simp at h0⟩
theorem FI.at {n m : Nat} {h : Heap} {l : List Int} {id : Nat} (h1 : n ≤ id) (h2 : id < m) (hg : hget h id = some ⟨l.map iv, 1, .rw⟩) : FI n m h (.slice (some ⟨id, 0, none⟩) l.length 0) l :=
  ⟨_, rfl, fun _ => ⟨id, rfl, h1, h2, hg⟩⟩

theorem FI.swap {h x y t : Heap} {m m' : Nat} {v : Value} {l : List Int} (s : FI (h ++ x).length m (h ++ x ++ t) v l) (e : y.length = x.length) (hm : m ≤ m') : FI h.length m' (h ++ (y ++ t)) v l := by
  obtain ⟨p, e0, f⟩ := s
  refine ⟨p, e0, fun h0 => ?_⟩
  obtain ⟨id, e1, e2, e3, e4⟩ := f h0
  rw [List.length_append] at e2
  refine ⟨id, e1, by omega, by omega, ?_⟩
  rw [← e4]
  unfold hget
  rw [List.append_assoc, List.getElem?_append_right (by omega), List.getElem?_append_right (by omega), List.getElem?_append_right (by omega), List.getElem?_append_right (by omega), e]

theorem FI.at' {n m : Nat} {h : Heap} {l : List Int} {id k : Nat} (hk : k = l.length) (h1 : n ≤ id) (h2 : id < m) (hg : hget h id = some ⟨l.map iv, 1, .rw⟩) : FI n m h (.slice (some ⟨id, 0, none⟩) k 0) l := by
  subst hk; exact .at h1 h2 hg

/-- What the places of the slice hold. -/
theorem AI.at {n : Nat} {h : Heap} {v : Value} {l : List Int} (s : AI n h v l) (h0 : 0 < l.length) :
    ∃ id off k, v = .slice (some ⟨id, off, none⟩) l.length 0 ∧ id < n ∧ (∀ t, hget (h ++ t) id = some k) ∧ hget h id = some k ∧ k.st ≠ .dead ∧ k.esz = 1 ∧ off + l.length ≤ k.cells.length ∧ (k.cells.drop off).take l.length = l.map iv ∧
      ∀ (i : Nat) (hi : i < l.length), k.cells[off + i]? = some (.int .i64 l[i]) := by
  obtain ⟨a, e, f⟩ := s
  obtain ⟨id, off, k, rfl, e2, e3, e4, e5, e6, e7⟩ := f h0
  refine ⟨id, off, k, e, e2, fun t => by rw [hget_prefix (List.prefix_append _ _) (hget_lt e3)]; exact e3, e3, e4, e5, e6, e7, fun i hi => ?_⟩
  have : (l.map iv)[i]? = some (.int .i64 l[i]) := by rw [List.getElem?_map, List.getElem?_eq_getElem hi]; rfl
  rw [← this, ← e7, List.getElem?_take_of_lt hi, List.getElem?_drop]

theorem AI.len {n : Nat} {h : Heap} {v : Value} {l : List Int} (s : AI n h v l) : ∃ a, v = .slice a l.length 0 := by
  obtain ⟨a, e, _⟩ := s; exact ⟨a, e⟩

theorem Fits.oneSlice {h : Heap} {e : Ty} {cs : List Value} (f : Fits h (.slice e) cs) : ∃ v, cs = [v] ∧ FitV h (.slice e) v := by
  rcases id f with rfl | ⟨_, _, rfl, _⟩
  · exact ⟨_, rfl, f⟩
  · exact ⟨_, rfl, f⟩
theorem Fits.ai {h : Heap} {v : Value} (f : FitV h (.slice (.int .i64)) v) : ∃ l, AI h.length h v l ∧ l.length ≤ 9223372036854775807 := by
  rcases f.slice with rfl | ⟨id, rows, rfl, hg, hl, hf⟩
  · exact ⟨[], ⟨none, rfl, fun h0 => by simp at h0⟩, by simp⟩
  · obtain ⟨l, rfl⟩ := rows_map (f := fun x : Int => [iv x]) (rows := rows) (fun r hr => by
      obtain ⟨n, rfl, _⟩ := hf r hr
      exact ⟨n, rfl⟩)
    rw [List.length_map] at hl
    rw [flat_one] at hg
    exact ⟨l, ⟨_, by rw [List.length_map], fun _ => ⟨id, 0, _, rfl, hget_lt hg, hg, by simp, rfl, by simp, by simp [← List.map_take]⟩⟩, hl⟩

/-- What a mark leaves. -/
def marks (k : Int) (n : Nat) : List Int := (List.range n).map fun i : Nat => k + (i : Int)
theorem marks_len {k : Int} {n : Nat} : (marks k n).length = n := by simp [marks]
theorem marks_at {k : Int} {n i : Nat} (hi : i < (marks k n).length) : (marks k n)[i] = k + (i : Int) := by simp [marks]
theorem marks_succ {k : Int} {i : Nat} : marks k (i + 1) = marks k i ++ [k + (i : Int)] := by simp [marks, List.range_succ]
theorem mark_step {k : Int} {l : List Int} {i : Nat} (hi : i < l.length) : setRange ((marks k i ++ l.drop i).map iv) i [.int .i64 (k + (i : Int))] = (marks k (i + 1) ++ l.drop (i + 1)).map iv := by
  have e1 : l.drop i = l[i] :: l.drop (i + 1) := List.drop_eq_getElem_cons hi
  rw [marks_succ, e1, List.map_append, setRange]
  have e2 : ((marks k i).map iv).length = i := by rw [List.length_map, marks_len]
  rw [List.take_left' e2, List.length_singleton, List.drop_append, e2]
  rw [List.drop_of_length_le (by omega)]
  simp [iv]

/-- A slice in a struct's cell that is appended to. -/
theorem app_cell {u : Heap} {j c : Nat} {C C' K b x : Blk} (hu : u[c]? = some C) : (((u ++ [x]).set j b ++ [K]).set c C')[c]? = some C' := by
  have := (List.getElem?_eq_some_iff.1 hu).1
  rw [List.getElem?_set_self (by simp; omega)]
theorem app_new {u : Heap} {j c : Nat} {C C' K b x : Blk} (hu : u[c]? = some C) : (((u ++ [x]).set j b ++ [K]).set c C')[u.length + 1]? = some K := by
  have := (List.getElem?_eq_some_iff.1 hu).1
  rw [List.getElem?_set_ne (by omega), List.getElem?_append_right (by simp), List.length_set, List.length_append, List.length_singleton, Nat.sub_self]
  rfl
theorem app_keep {u : Heap} {j c : Nat} {C b : Blk} (hu : u[c]? = some C) (hj : j ≠ c) (x y : Heap) : ((u ++ x).set j b ++ y)[c]? = some C := by
  have := (List.getElem?_eq_some_iff.1 hu).1
  rw [List.getElem?_append_left (by simp; omega), List.getElem?_set_ne hj, List.getElem?_append_left this]; exact hu
theorem app_old {u : Heap} {j : Nat} {K : Blk} (hj : u[j]? = some K) (x : Heap) : (u ++ x)[j]? = some K := by
  rw [List.getElem?_append_left (List.getElem?_eq_some_iff.1 hj).1]; exact hj
theorem app_ne {u : Heap} {c : Nat} {C : Blk} (hu : u[c]? = some C) : u.length + 1 ≠ c := by
  have := (List.getElem?_eq_some_iff.1 hu).1; omega
theorem app_cell0 {u : Heap} {c : Nat} {C C' K x : Blk} (hu : u[c]? = some C) : ((u ++ [x, K]).set c C')[c]? = some C' := by
  have := (List.getElem?_eq_some_iff.1 hu).1
  rw [List.getElem?_set_self (by simp; omega)]
theorem app_new0 {u : Heap} {c : Nat} {C C' K x : Blk} (hu : u[c]? = some C) : ((u ++ [x, K]).set c C')[u.length + 1]? = some K := by
  have := (List.getElem?_eq_some_iff.1 hu).1
  rw [List.getElem?_set_ne (by omega), List.getElem?_append_right (by omega)]
  simp
theorem Agr.get {lo hi : Nat} {h h' : Heap} (a : Agr lo hi h h') (t : Heap) (i : Nat) (h1 : i < h.length) (h2 : i < lo ∨ hi ≤ i) : hget (h' ++ t) i = hget h i := by
  rw [hget_prefix (List.prefix_append _ _) (Nat.lt_of_lt_of_le h1 a.1), a.2 i h1 h2]

/-! Slices of rows. -/

/-- 'v' shows the rows, in a block below 'n'. -/
def SB (n sz : Nat) (h : Heap) (v : Value) (rows : List (List Value)) : Prop := Sl h sz v rows ∧ ∀ id off len, v = .slice (some ⟨id, off, none⟩) len 0 → rows ≠ [] → id < n
/-- 'v' is a slice of its own that holds the rows. -/
def FR (lo hi sz : Nat) (h : Heap) (v : Value) (rows : List (List Value)) : Prop :=
  ∃ id, v = .slice (some ⟨id, 0, none⟩) rows.length 0 ∧ lo ≤ id ∧ id < hi ∧ hget h id = some ⟨rows.flatten, sz, .rw⟩ ∧ ∀ r ∈ rows, r.length = sz

theorem SB.mono {n sz : Nat} {h h' : Heap} {v : Value} {rows : List (List Value)} (s : SB n sz h v rows) (hp : h <+: h') : SB n sz h' v rows := ⟨s.1.mono hp, s.2⟩
theorem SB.agr {n sz lo hi : Nat} {h h' : Heap} {v : Value} {rows : List (List Value)} (s : SB n sz h v rows) (a : Agr lo hi h h') (hn : n ≤ lo) : SB n sz h' v rows := by
  refine ⟨?_, s.2⟩
  obtain ⟨p, e, hl, f⟩ := s.1
  refine ⟨p, e, hl, fun h0 => ?_⟩
  obtain ⟨id, off, k, rfl, e2, r⟩ := f h0
  exact ⟨id, off, k, rfl, by rw [a.2 id (hget_lt e2) (.inl (Nat.lt_of_lt_of_le (s.2 _ _ _ e h0) hn))]; exact e2, r⟩
theorem FR.mono {lo hi sz : Nat} {h h' : Heap} {v : Value} {rows : List (List Value)} (s : FR lo hi sz h v rows) (hp : h <+: h') : FR lo hi sz h' v rows := by
  obtain ⟨id, e, e1, e2, e3, e4⟩ := s
  exact ⟨id, e, e1, e2, by rw [hget_prefix hp (hget_lt e3)]; exact e3, e4⟩
theorem FR.sb {lo hi sz : Nat} {h : Heap} {v : Value} {rows : List (List Value)} (s : FR lo hi sz h v rows) : SB hi sz h v rows := by
  obtain ⟨id, rfl, e1, e2, e3, e4⟩ := s
  refine ⟨.whole (by simp) e4 e3, fun id' off len e _ => ?_⟩
  simp only [Value.slice.injEq, Option.some.injEq, Addr.mk.injEq] at e
  omega
theorem FR.sl {lo hi sz : Nat} {h : Heap} {v : Value} {rows : List (List Value)} (s : FR lo hi sz h v rows) : Sl h sz v rows := s.sb.1
theorem Fits.sb {h : Heap} {e : Ty} {v : Value} (f : FitV h (.slice e) v) : ∃ rows, SB h.length e.size h v rows ∧ rows.length ≤ maxLen ∧ ∀ r ∈ rows, Fits h e r := by
  rcases f.slice with rfl | ⟨id, rows, rfl, hg, hl, hf⟩
  · exact ⟨[], ⟨.nil, fun _ _ _ _ h0 => absurd rfl h0⟩, by simp, fun r hr => by simp at hr⟩
  · refine ⟨rows, ⟨.whole (by simp) (fun r hr => (hf r hr).length) hg, fun id' off len e _ => ?_⟩, hl, hf⟩
    simp only [Value.slice.injEq, Option.some.injEq, Addr.mk.injEq] at e
    have := hget_lt hg
    omega
end Go.HH

namespace Go.HH

/-! Words for what a loop keeps, into which simp does not look. -/

/-- What some registers hold. -/
def Regs (e : Env) : List (Nat × Value) → Prop
  | [] => True
  | (i, v) :: l => e i = v ∧ Regs e l
/-- What the heap is. -/
def HeapIs (h h' : Heap) : Prop := h = h'
theorem HeapIs.rfl {h : Heap} : HeapIs h h := Eq.refl h

theorem wsucc {i N : Nat} (h : i < N) (hN : N ≤ 9223372036854775807) : IntKind.i64.wrap ((i : Int) + 1) = ((i + 1 : Nat) : Int) := by
  rw [IntWalk.i64_in _ (by omega)]; rfl

/-- An own slice of numbers: in the block 'n + (j + k)', whose list of blocks 't' begins at 'n + k'. -/
def OI (n k : Nat) (t : Heap) (v : Value) (l : List Int) : Prop :=
  ∃ j off cs, v = .slice (some ⟨n + (j + k), off, none⟩) l.length 0 ∧ t[j]? = some ⟨cs, 1, .rw⟩ ∧ off + l.length = cs.length ∧ cs.drop off = l.map iv

theorem OI.mono {n k : Nat} {t : Heap} {v : Value} {l : List Int} (o : OI n k t v l) (u : Heap) : OI n k (t ++ u) v l := by
  obtain ⟨j, off, cs, e, hj, r⟩ := o
  exact ⟨j, off, cs, e, app_old hj u, r⟩
theorem OI.mk' {n k id len : Nat} {t : Heap} {l : List Int} (j : Nat) (hid : id = n + (j + k)) (hl : len = l.length) (hj : t[j]? = some ⟨l.map iv, 1, .rw⟩) : OI n k t (.slice (some ⟨id, 0, none⟩) len 0) l := by
  subst hid hl
  exact ⟨j, 0, _, rfl, hj, by simp, rfl⟩
theorem OI.tail {n k id off len : Nat} {t : Heap} {l : List Int} {cs : List Value} (j : Nat) (hid : id = n + (j + k)) (hl : len = l.length) (hj : t[j]? = some ⟨cs, 1, .rw⟩) (h1 : off + l.length = cs.length) (h2 : cs.drop off = l.map iv) :
    OI n k t (.slice (some ⟨id, off, none⟩) len 0) l := by
  subst hid hl
  exact ⟨j, off, cs, rfl, hj, h1, h2⟩
/-- An own slice of numbers that fills its block. -/
def OF (n k : Nat) (t : Heap) (v : Value) (l : List Int) : Prop := ∃ j, v = .slice (some ⟨n + (j + k), 0, none⟩) l.length 0 ∧ t[j]? = some ⟨l.map iv, 1, .rw⟩
theorem OF.mono {n k : Nat} {t : Heap} {v : Value} {l : List Int} (o : OF n k t v l) (u : Heap) : OF n k (t ++ u) v l := by
  obtain ⟨j, e, hj⟩ := o
  exact ⟨j, e, app_old hj u⟩
theorem OF.mk' {n k id len : Nat} {t : Heap} {l : List Int} (j : Nat) (hid : id = n + (j + k)) (hl : len = l.length) (hj : t[j]? = some ⟨l.map iv, 1, .rw⟩) : OF n k t (.slice (some ⟨id, 0, none⟩) len 0) l := by
  subst hid hl
  exact ⟨j, rfl, hj⟩
theorem OF.fi {n k m : Nat} {h x t : Heap} {v : Value} {l : List Int} (o : OF n k t v l) (hn : n = h.length) (hx : x.length = k) (hm : m ≤ h.length + k) : FI m (h ++ (x ++ t)).length (h ++ (x ++ t)) v l := by
  obtain ⟨j, rfl, hj⟩ := o
  subst hn
  have hjl := (List.getElem?_eq_some_iff.1 hj).1
  refine FI.at (by omega) (by simp; omega) ?_
  rw [hget_app, List.getElem?_append_right (by omega), hx, show j + k - k = j by omega]; exact hj
theorem OF.fix {k lo hi : Nat} {h t : Heap} {v : Value} {l : List Int} (x : Heap) (o : OF h.length k t v l) (hx : x.length = k) (hlo : lo ≤ h.length + k) (hhi : hi = h.length + (t.length + k)) : FI lo hi (h ++ (x ++ t)) v l := by
  obtain ⟨j, rfl, hj⟩ := o
  subst hhi
  have hjl := (List.getElem?_eq_some_iff.1 hj).1
  refine FI.at (by omega) (by omega) ?_
  rw [hget_app, List.getElem?_append_right (by omega), hx, show j + k - k = j by omega]; exact hj
theorem OF.fi0 {m : Nat} {h t : Heap} {v : Value} {l : List Int} (o : OF h.length 0 t v l) (hm : m ≤ h.length) : FI m (h ++ t).length (h ++ t) v l := o.fi (x := []) rfl rfl hm
theorem OF.of {h x t t2 : Heap} {v : Value} {l : List Int} {j k : Nat} (hx : x.length = k) (e : v = .slice (some ⟨(h ++ (x ++ t)).length + j, 0, none⟩) l.length 0) (hj : t2[j]? = some ⟨l.map iv, 1, .rw⟩) : OF h.length k (t ++ t2) v l :=
  ⟨t.length + j, by subst hx; rw [e]; simp only [List.length_append]; congr 3; omega, by rw [List.getElem?_append_right (by omega), Nat.add_sub_cancel_left]; exact hj⟩
theorem OF.sl {n k : Nat} {t : Heap} {v : Value} {l : List Int} (o : OF n k t v l) : ∃ a, v = .slice a l.length 0 := let ⟨_, e, _⟩ := o; ⟨_, e⟩
theorem OF.ai {k : Nat} {h t : Heap} {v : Value} {l : List Int} (x : Heap) (o : OF h.length k t v l) (hx : x.length = k) : AI (h ++ (x ++ t)).length (h ++ (x ++ t)) v l := by
  have f := OF.fix (lo := 0) (hi := h.length + (t.length + k)) x o hx (by omega) rfl
  have : h.length + (t.length + k) = (h ++ (x ++ t)).length := by simp; omega
  rw [this] at f
  exact f.ai
theorem drop_get {cs : List Value} {off : Nat} {l : List Int} (h2 : cs.drop off = l.map iv) {i : Nat} (hi : i < l.length) : cs[off + i]? = some (.int .i64 l[i]) := by
  have : (cs.drop off)[i]? = some (.int .i64 l[i]) := by rw [h2, List.getElem?_map, List.getElem?_eq_getElem hi]; rfl
  rwa [List.getElem?_drop] at this
theorem drop_head {cs : List Value} {off : Nat} {q : Int} {l : List Int} (h2 : cs.drop off = (q :: l).map iv) : cs[off]? = some (.int .i64 q) := by
  have := drop_get h2 (i := 0) (by simp)
  simpa using this
theorem drop_tail {cs : List Value} {off : Nat} {q : Int} {l : List Int} (h2 : cs.drop off = (q :: l).map iv) : cs.drop (off + 1) = l.map iv := by
  rw [← List.drop_drop, h2]; rfl
/-- What an own slice that begins at its block shows to others. -/
theorem OI.ai {n k : Nat} {h t x : Heap} {v : Value} {l : List Int} (o : OI n k t v l) (hn : n = h.length) (hx : x.length = k) : AI (h ++ (x ++ t)).length (h ++ (x ++ t)) v l := by
  obtain ⟨j, off, cs, e, hj, h1, h2⟩ := o
  subst hn
  have hjl := (List.getElem?_eq_some_iff.1 hj).1
  refine ⟨_, e, fun _ => ⟨_, off, ⟨cs, 1, .rw⟩, rfl, by simp; omega, ?_, by simp, rfl, by simp; omega, ?_⟩⟩
  · rw [hget_app, List.getElem?_append_right (by omega), hx, show j + k - k = j by omega]; exact hj
  · rw [h2]; simp [← List.map_take]
/-- What a slice shows in a heap. -/
def SI (h : Heap) (v : Value) (l : List Int) : Prop := AI h.length h v l
theorem SI.mono {h h' : Heap} {v : Value} {l : List Int} (s : SI h v l) (hp : h <+: h') : SI h' v l := (AI.mono s hp).le hp.length_le
theorem SI.of {n : Nat} {h : Heap} {v : Value} {l : List Int} (s : AI n h v l) (hn : n ≤ h.length) : SI h v l := s.le hn
theorem FI.si {lo hi : Nat} {h : Heap} {v : Value} {l : List Int} (s : FI lo hi h v l) (hn : hi ≤ h.length) : SI h v l := s.ai.le hn
theorem pre_get {h h1 : Heap} (hp : h <+: h1) {i : Nat} {b : Blk} (hg : hget h i = some b) (t : Heap) : hget (h1 ++ t) i = some b := by
  rw [hget_prefix (hp.trans (List.prefix_append _ _)) (hget_lt hg)]; exact hg
theorem self_get {h : Heap} {i : Nat} {b : Blk} (hg : hget h i = some b) (t : Heap) : hget (h ++ t) i = some b := pre_get List.prefix_rfl hg t
theorem keep_get {h h' : Heap} {i : Nat} {b : Blk} (hg : hget h i = some b) (hp : h <+: h') : hget h' i = some b := by rw [hget_prefix hp (hget_lt hg)]; exact hg
theorem agr_get {lo hi : Nat} {h h' : Heap} (a : Agr lo hi h h') {i : Nat} {b : Blk} (hg : hget h i = some b) (ho : i < lo ∨ hi ≤ i) : hget h' i = some b := (a.2 i (hget_lt hg) ho).trans hg
theorem hget_lit0 {h : Heap} {a b : Blk} : hget (h ++ [a, b]) h.length = some a := by simp [hget]
theorem hget_lit1 {h : Heap} {a b : Blk} : hget (h ++ [a, b]) (h.length + 1) = some b := by simp [hget]
theorem FR.agr {n m lo hi sz : Nat} {h h' : Heap} {v : Value} {rows : List (List Value)} (s : FR n m sz h v rows) (a : Agr lo hi h h') (hn : m ≤ lo ∨ hi ≤ n) : FR n m sz h' v rows := by
  obtain ⟨id, e, e1, e2, e3, e4⟩ := s
  exact ⟨id, e, e1, e2, (a.2 id (hget_lt e3) (by omega)).trans e3, e4⟩
/-- All that a slice shows. -/
theorem Sl.copy {h : Heap} {sz : Nat} {v : Value} {rows : List (List Value)} (s : Sl h sz v rows) (h0 : rows ≠ []) :
    ∃ id off k, v = .slice (some ⟨id, off, none⟩) rows.length 0 ∧ (∀ t, hget (h ++ t) id = some k) ∧ k.st ≠ .dead ∧ off + rows.length * sz ≤ k.cells.length ∧ (k.cells.drop off).take (rows.length * sz) = rows.flatten := by
  obtain ⟨a, e, hl, f⟩ := s
  obtain ⟨id, off, k, rfl, hg, hd, hb, hf⟩ := f h0
  exact ⟨id, off, k, e, self_get hg, hd, hb, hf⟩
theorem rows_one {rows : List (List Value)} (h : ∀ r ∈ rows, r.all oneC = true) : rows.flatten.all oneC = true := by
  rw [List.all_flatten, List.all_eq_true]; exact h
/-- A heap that has grown becomes the new beginning. -/
theorem own_base {m : Nat} {h1 : Heap} {M : Nat → Prop} (hp : m ≤ h1.length) (i : Nat) : own m M (h1.length + i) = True := by simp [own]; omega
theorem own_base0 {m : Nat} {h1 : Heap} {M : Nat → Prop} (hp : m ≤ h1.length) : own m M h1.length = True := by simp [own]; omega

/-! Calls of the library, whose contracts are told in the model's words. -/
theorem vCall_plain {G : List (Nat × Nat)} {P : Program} {M : Nat → Prop} {f : FuncId} {args : List Value} {h : Heap} {r : Value} (ha : args.all plainB = true) (hr : plainB r = true)
    (hc : ∀ w, Calls P f args.toArray w fun e w' => e = .returned r ∧ w' = w) : vCall G P M f args h (fun r' h' => r' = r ∧ h = h') := by
  refine ⟨r, h, fun p w vs hh hv => ?_, rfl, rfl⟩
  have : vs = args.toArray := by
    refine Array.ext hv.1.symm (fun i h1 h2 => ?_)
    have h3 : i < args.length := by simpa using h2
    have := (plainB_spec (List.all_eq_true.1 ha _ (List.getElem_mem h3))).eq (by simpa using hv.2 i h2 h1)
    simpa using this
  subst this
  refine (hc w).mono ?_
  rintro e w' ⟨rfl, rfl⟩
  exact ⟨r, p, rfl, (plainB_spec hr).rel, hh, Ext.refl ..⟩

/-- A string's bytes. -/
def bl (s : ByteArray) : List UInt8 := s.data.toList
theorem bl_len (s : ByteArray) : (bl s).length = s.size := by simp [bl]
theorem bl_get {s : ByteArray} {i : Nat} (h : i < s.size) : s[i]? = some ((bl s)[i]'(by rw [bl_len]; exact h)) := by
  rw [getElem?_pos s i h]
  rfl
theorem bl_ext {s t : ByteArray} (h : bl s = bl t) : s = t := by
  cases s; cases t; simpa [bl, Array.toList_inj] using h
theorem take_all {α : Type} {p : α → Bool} {l : List α} {i : Nat} (h : i < l.length) (h1 : (l.take i).all p = true) (h2 : p l[i] = true) : (l.take (i + 1)).all p = true := by
  rw [List.take_add_one, List.getElem?_eq_getElem h, List.all_append, h1]
  simp [h2]
theorem not_all {α : Type} {p : α → Bool} {l : List α} {i : Nat} (h : i < l.length) (h2 : p l[i] = false) : l.all p = false := by
  rw [Bool.eq_false_iff]; intro hh
  have := List.all_eq_true.1 hh _ (List.getElem_mem h)
  rw [h2] at this; cases this
end Go.HH

namespace Go.HH
open Go.RowKit Go.ChangeShapes Go.WideShapes

/-! Package-level variables as blocks that are only read; the library's contracts over the model's world. -/

theorem HRuns.addG {G : List (Nat × Nat)} {P : Program} {f : FuncId} {args : List Value} {h : Heap} {M : Nat → Prop} {r : Value} {h' : Heap} (hh : HRuns [] P f args h M r h') : HRuns G P f args h M r h' := by
  intro p w vs hr ha
  refine (hh p w vs ⟨fun g hg => by simp at hg, hr.dom, hr.blk, hr.esz, hr.inj⟩ ha).mono ?_
  rintro e w' ⟨v, q, rfl, hv, hq, ex⟩
  exact ⟨v, q, rfl, hv, ⟨fun g hg => by obtain ⟨t, a, b, c⟩ := hr.glob g hg; exact ⟨t, ex.le _ _ a, b, c⟩, hq.dom, hq.blk, hq.esz, hq.inj⟩, ex⟩
theorem vCall.addG {G : List (Nat × Nat)} {P : Program} {M : Nat → Prop} {f : FuncId} {args : List Value} {h : Heap} {K : Value → Heap → Prop} (hh : vCall [] P M f args h K) : vCall G P M f args h K :=
  let ⟨r, h', a, k⟩ := hh
  ⟨r, h', a.addG, k⟩

theorem below_grow {w : World} {k : Nat} {os : Array Obj} : Below w.heap.size w (Sort.grow (w.drewN k) os) :=
  ⟨rfl, rfl, rfl, by simp [Sort.grow, World.drewN], fun b hb => by simp [Sort.grow, World.drewN, Array.getElem?_append_left hb]⟩

theorem Ext.of_below {M : Nat → Prop} {p : Phi} {h : Heap} {w w' : World} (b : Below w.heap.size w w') : Ext M p p h h w w' :=
  ⟨Phi.le_refl p, fun id t e e' => (by rw [e] at e'; cases e'), Nat.le_refl _, fun k hk _ => b.block k hk, b.size, b.os, b.tape, b.output⟩

/-- A contract of the library's whose call leaves all blocks as they were. -/
theorem vCall_below {G : List (Nat × Nat)} {P : Program} {M : Nat → Prop} {f : FuncId} {args : List Value} {h : Heap} {r : Value} (ha : args.all plainB = true) (hr : plainB r = true)
    (hc : ∀ p w, HRel G p h w → Calls P f args.toArray w fun e w' => e = .returned r ∧ Below w.heap.size w w') : vCall G P M f args h (fun r' h' => r' = r ∧ h = h') := by
  refine ⟨r, h, fun p w vs hh hv => ?_, rfl, rfl⟩
  have : vs = args.toArray := by
    refine Array.ext hv.1.symm (fun i h1 h2 => ?_)
    have h3 : i < args.length := by simpa using h2
    have := (plainB_spec (List.all_eq_true.1 ha _ (List.getElem_mem h3))).eq (by simpa using hv.2 i h2 h1)
    simpa using this
  subst this
  refine (hc p w hh).mono ?_
  rintro e w' ⟨rfl, b⟩
  exact ⟨r, p, rfl, (plainB_spec hr).rel, hh.kept b.size (fun k hk => b.block k hk), Ext.of_below b⟩

/-- A package-level variable that lies in the heap as told. -/
theorem var_of {G : List (Nat × Nat)} {P : Program} {p : Phi} {h : Heap} {w : World} (hr : HRel G p h w) {g : Nat} {l : List Value} (hg : (g, l.length) ∈ G) (hp : ∀ v ∈ l, Plain v) {b : Blk} (hb : hget h g = some b) (hd : b.st ≠ .dead) (hl : b.cells = l)
    {name : String} (hname : P.globalNamed name = some g) : w.var? P name = some l.toArray := by
  obtain ⟨t, e, e1, e2, hn'⟩ := hr.glob _ hg
  obtain ⟨_, c, el, fr, h1, h2, h3, h4, _⟩ := hr.blk g t b trivial e hb hd
  simp only at e e1 hn'
  subst hl
  rw [e1] at h1
  simp only [World.var?, hname, Option.bind_some, h1, Option.some.injEq]
  refine Array.ext (by simp; omega) fun i a1 a2 => ?_
  have hi : i < b.cells.length := by simpa using a2
  obtain ⟨v', b1, b2⟩ := h4 i b.cells[i] (List.getElem?_eq_getElem hi)
  rw [e2, Nat.add_zero, Array.getElem?_eq_getElem a1] at b1
  cases b1
  have := (hp _ (List.getElem_mem hi)).eq b2
  simpa using this

/-- The variables 'L' (number, cells), the first blocks of a heap. -/
def globH (L : List (Nat × List Value)) (N : Nat) : Heap := (List.range N).map fun i => ⟨(L.lookup i).getD [], 1, .ro⟩
def globP (L : List (Nat × List Value)) (N : Nat) : Phi := fun i => if i < N then (L.lookup i).map fun l => ⟨i, 0, 1, l.length⟩ else none
def globG (L : List (Nat × List Value)) : List (Nat × Nat) := L.map fun x => (x.1, x.2.length)

theorem globH_get {L : List (Nat × List Value)} {N i : Nat} {b : Blk} (h : (globH L N)[i]? = some b) : b = ⟨(L.lookup i).getD [], 1, .ro⟩ ∧ i < N := by
  unfold globH at h
  rw [List.getElem?_map] at h
  cases e : (List.range N)[i]? with
  | none => rw [e] at h; cases h
  | some j =>
    obtain ⟨h1, h2⟩ := List.getElem?_eq_some_iff.1 e
    simp at h1 h2
    subst h2
    rw [e] at h
    simp at h
    exact ⟨h.symm, h1⟩

theorem glob_rel {L : List (Nat × List Value)} {N : Nat} {W : World} (hN : ∀ x ∈ L, x.1 < N ∧ L.lookup x.1 = some x.2) (hp : ∀ i l, L.lookup i = some l → (∀ v ∈ l, Plain v) ∧ ∃ el fr, W.heap[i]? = some (.cells l.toArray el fr)) :
    HRel (globG L) (globP L N) (globH L N) W ∧ allRo (globH L N) := by
  have at' : ∀ i t, globP L N i = some t → i < N ∧ ∃ l, L.lookup i = some l ∧ t = ⟨i, 0, 1, l.length⟩ := by
    intro i t e
    unfold globP at e
    split at e
    · rename_i hi
      cases hl : L.lookup i with
      | none => rw [hl] at e; cases e
      | some l => rw [hl] at e; cases e; exact ⟨hi, l, rfl, rfl⟩
    · cases e
  refine ⟨⟨?_, ?_, ?_, ?_, ?_⟩, ?_⟩
  · rintro g hg
    obtain ⟨x, hx, rfl⟩ := List.mem_map.1 hg
    obtain ⟨h1, h2⟩ := hN x hx
    exact ⟨⟨x.1, 0, 1, x.2.length⟩, by simp only [globP, if_pos h1, h2, Option.map_some], rfl, rfl, rfl⟩
  · intro i t e
    obtain ⟨h1, l, h2, rfl⟩ := at' i t e
    obtain ⟨_, el, fr, h3⟩ := hp i l h2
    exact ⟨by simp [globH, h1], (Array.getElem?_eq_some_iff.1 h3).1⟩
  · intro i t k _ e ek _
    obtain ⟨h1, l, h2, rfl⟩ := at' i t e
    obtain ⟨rfl, _⟩ := globH_get ek
    obtain ⟨h4, el, fr, h3⟩ := hp i l h2
    rw [h2]
    refine ⟨rfl, l.toArray, el, fr, h3, by simp, by simp, fun j v ej => ⟨v, by simpa using ej, (h4 v (List.mem_of_getElem? ej)).rel⟩, fun hh => by cases hh⟩
  · intro i t k e ek
    obtain ⟨h1, l, h2, rfl⟩ := at' i t e
    obtain ⟨rfl, _⟩ := globH_get ek
    rfl
  · intro i i' t t' k k' e e' ek ek' hrw
    obtain ⟨rfl, _⟩ := globH_get ek
    cases hrw
  · intro i k e
    obtain ⟨rfl, _⟩ := globH_get e
    rfl

theorem law_frameG {H : Type} {enc : TypeId × Value → H} {P : Program} {W : World} {held : Bool} {f : FuncId} {tys : List Ty} {ts : List TypeId} (hc : chkAll P tys ts = true) {b0 : Nat} {args : Array Value} {ds : List (DataW H)} {ps : List MemPlace}
    (hval : ∀ (j : Nat) t v, ts[j]? = some t → args[j]? = some v → Value.okWide P W .any b0 t v) (hA : DataW.TrodAll enc P W 0 (fun _ => true) held ts args.toList ds ps)
    {G : List (Nat × Nat)} {p0 : Phi} {h0 : Heap} (hr0 : HRel G p0 h0 W ∧ allRo h0)
    (hl : ∀ h a, h0 <+: h → FitsAll h tys a → vCall G P (fun _ => False) f a h (fun r _ => r = .bool true)) :
    Calls P f args W fun e W' => e = .returned (.bool true) ∧ Below W.heap.size W W' := by
  obtain ⟨hr0, ro0⟩ := hr0
  obtain ⟨p, h, us, r, le, pre, _, c, ft⟩ := open_args hc (fun j t v a b => hval j t v a (by simpa using b)) hA (p := p0) (h := h0) ⟨fun g hg => by simp at hg, hr0.dom, hr0.blk, hr0.esz, hr0.inj⟩ ro0
  refine law_calls (hl h us pre ft) (⟨fun g hg => by obtain ⟨t, a, b⟩ := hr0.glob g hg; exact ⟨t, le _ _ a, b⟩, r.dom, r.blk, r.esz, r.inj⟩ : HRel G p h W) ⟨by simp [c.1], fun i h1 h2 => ?_⟩
  obtain ⟨v', e, hv⟩ := c.2 i (us[i]'(by simpa using h1)) (by simp)
  have : args[i]'h2 = v' := by
    rw [Array.getElem?_toList] at e
    rw [Array.getElem?_eq_getElem h2] at e; simpa using e
  simpa [this] using hv

/-- A slice of strings as the model sees it. -/
theorem strs_cells {G : List (Nat × Nat)} {p : Phi} {h : Heap} {w : World} (hr : HRel G p h w) {v v' : Value} {xs : List ByteArray} (s : Sl h 1 v (xs.map fun x => [.string x])) (hv : VRel p v v') (h0 : xs ≠ []) :
    ∃ bk o c, v' = .slice (some ⟨bk, o, none⟩) xs.length c ∧ bk < w.heap.size ∧ xs.length ≤ c ∧ ∀ (j : Nat) x, xs[j]? = some x → w.cell? ⟨bk, o + j, none⟩ = some (.string x) := by
  obtain ⟨a, rfl, hl, f⟩ := s
  obtain ⟨id, off, k, rfl, hg, hd, hb, hf⟩ := f (by simpa using h0)
  have hne : 0 < xs.length := List.length_pos_iff.2 h0
  simp only [List.length_map] at hv hb hf
  generalize hx : xs.length = n at hv hb hf hne
  cases hv with
  | sliceEmpty => omega
  | @slice _ _ t _ cap ht hlc hbd =>
    refine ⟨t.b, off + t.d, cap, rfl, (hr.dom _ _ ht).2, hlc, fun j x hj => ?_⟩
    obtain ⟨_, c, el, fr, h1, h2, h3, h4, _⟩ := hr.blk id t k trivial ht hg hd
    have hjn : j < n := by rw [← hx]; exact (List.getElem?_eq_some_iff.1 hj).1
    have hcell : k.cells[off + j]? = some (.string x) := by
      have e1 : ((k.cells.drop off).take (n * 1))[j]? = some (.string x) := by
        rw [hf]
        have : (xs.map fun x => [Value.string x]).flatten = xs.map Value.string := by
          clear hf f hl h0 hx hj
          induction xs with
          | nil => rfl
          | cons y ys ih => simp [ih]
        rw [this, List.getElem?_map, hj]; rfl
      rw [List.getElem?_take, if_pos (by omega), List.getElem?_drop] at e1
      exact e1
    obtain ⟨v', b1, b2⟩ := h4 _ _ hcell
    cases b2
    unfold World.cell?
    simp only [h1]
    rw [show off + t.d + j = off + j + t.d by omega, b1]
    simp
end Go.HH

namespace Go.HH

/-! Empty slices that a region makes, and what is appended to them: no block is written. -/

section
variable {G : List (Nat × Nat)} {P : Program} {M : Nat → Prop} {e : Env} {h : Heap} {o : Oper}

theorem HStep.emptyQ {t el : TypeId} {sz X : Nat} {z : List Value} (ho : o.op = .buildSlice t 0 #[]) (ht : telem P t = some (sz, el)) (hz : tzero P el = some z) :
    HStep G P o allT (fun _ => False) e h (.slice (some ⟨X, 0, none⟩) 0 0) h :=
  .of_run fun p a w r hr => by
    unfold telem at ht
    split at ht
    · rename_i hu
      rw [Option.map_eq_some_iff] at ht
      obtain ⟨i, hi, hs⟩ := ht
      simp only [Prod.mk.injEq] at hs
      obtain ⟨rfl, rfl⟩ := hs
      unfold tzero at hz
      rw [hi] at hz
      simp only [Option.bind_some, Option.map_eq_some_iff] at hz
      obtain ⟨zv, hz1, rfl⟩ := hz
      obtain ⟨h1, h2⟩ := r.push' (M := fun _ => False) i.size (by assumption) (LRel.nil p)
      have hk := HRel.kept r h2.size (fun b hb => h2.frame b hb fun _ _ _ f => f.elim)
      refine ⟨p, .slice (some ⟨w.heap.size, 0, none⟩) 0 0, _, .inl ?_, hk.weaken (fun _ _ _ _ => trivial), .sliceEmpty, ⟨Phi.le_refl p, fun id t e e' => (by rw [e] at e'; cases e'), Nat.le_refl _, h2.frame, h2.size, h2.os, h2.tape, h2.output⟩⟩
      unfold execOp
      rw [ho]
      simp only [Instr.buildSlice, Sem.run_bind, run_underlying hu, Result.andThen_ok, sizeOf, typeInfo, program, Sem.run, hi, Sem.run_pure, gt_iff_lt]
      simp [Array.range_zero', Instr.fill, newRow, newObj, Sem.run]
    · cases ht

theorem HStep.appendQ {s x : Operand} {t : TypeId} {X off id2 off2 n sz by8 : Nat} {k2 : Blk} (ho : o.op = .call { callee := .builtin .append, args := #[s, x], argTypes := #[t, t] })
    (hs : Opd.val e s = .slice (some ⟨X, off, none⟩) 0 0) (hX : h.length ≤ X) (hx : Opd.val e x = .slice (some ⟨id2, off2, none⟩) n 0) (ht : tapp P t = some (sz, by8)) (hn : 0 < n)
    (hk : h[id2]? = some k2) (hd : k2.st ≠ .dead) (hl : off2 + n * sz ≤ k2.cells.length)
    (hmax : n ≤ 9223372036854775807) (hby : n * by8 ≤ 140737488355328) :
    HStep G P o allT M e h (.slice (some ⟨h.length, 0, none⟩) n 0) (h ++ [⟨(k2.cells.drop off2).take (n * sz), sz, .rw⟩]) :=
  .of_run fun p a w r hr => by
    have h1 := hr s (by rw [ho]; simp [Op.operands, Call.operands])
    have h2 := hr x (by rw [ho]; simp [Op.operands, Call.operands])
    rw [hs] at h1
    rw [hx] at h2
    have h1' : ∃ b, a.eval s = .slice (some b) 0 0 := by
      generalize a.eval s = u at h1
      cases h1 with
      | slice f1 _ _ => exact absurd (r.dom _ _ f1).1 (by omega)
      | @sliceEmpty _ a' => exact ⟨a', rfl⟩
    obtain ⟨b, h1'⟩ := h1'
    obtain ⟨ad, cap2, news, s1, s2, s3, s4⟩ := source r h2 hn trivial hk hd hl
    obtain ⟨el, i, z, e1, e2, e3, e4, e5, rfl, rfl⟩ := tapp_spec ht
    have hrun := run_append_grow (P := P) w t o.type el i z e1 e2 e3 b 0 0 [] (by simp) (by simp) ad n cap2 news s3 s4 (by omega) (by omega) (growslice_fits (by omega) (by simpa using hby))
    simp only [Nat.zero_add, Array.empty_append] at hrun
    have hge := grownCap_ge w n 0 el
    have hz : (Builtin.zeroCells z.cells (grownCap w n 0 el - n)).size = (grownCap w n 0 el - n) * i.size := by rw [size_zeroCells, e4]
    have hcs : (#[] ++ news.toArray ++ Builtin.zeroCells z.cells (grownCap w n 0 el - n)).size = grownCap w n 0 el * i.size := by
      rw [Array.size_append, hz, Array.empty_append, List.size_toArray, s3, ← Nat.add_mul]; congr 1; omega
    have hlen : ((k2.cells.drop off2).take (n * i.size)).length = news.length := s2.1
    obtain ⟨d1, d2⟩ := r.grow (M := M) i.size el (cells := (k2.cells.drop off2).take (n * i.size)) (c := #[] ++ news.toArray ++ Builtin.zeroCells z.cells (grownCap w n 0 el - n))
      (by rw [hlen]; simpa using s2) (by rw [hlen]; simp)
    refine ⟨_, .slice (some ⟨w.heap.size, 0, none⟩) n (grownCap w n 0 el), _, .inl ?_, d1, ?_, d2⟩
    · unfold execOp
      rw [ho]
      simp [resolve, invoke, builtin, h1', s1, hrun]
    · exact VRel.slice (t := ⟨w.heap.size, 0, i.size, _⟩) phiPush_same hge (by simp only; rw [hcs]; omega)

def onAppQ (u v : Value) {Z : Nat → Prop} {K : Nat → Nat → Nat → Nat → Prop} (_ : Hold Z) (_ : Hold K) : Prop := match u, v with
  | .slice (some ⟨X, 0, none⟩) 0 0, .slice _ 0 _ => Z X
  | .slice (some ⟨X, 0, none⟩) 0 0, .slice (some ⟨id2, off2, none⟩) (n + 1) 0 => K X id2 off2 (n + 1)
  | _, _ => False

def vOpQ (G : List (Nat × Nat)) (P : Program) (op : Op) (e : Env) (h : Heap) (K : Value → Heap → Prop) : Prop :=
  match op with
  | .buildSlice t 0 ⟨[]⟩ => onSome (telem P t) (hold fun te => (tz P te.2).isSome = true ∧ ∀ X, h.length + 1000 ≤ X → K (.slice (some ⟨X, 0, none⟩) 0 0) h)
  | .call ⟨.builtin .append, ⟨[s, x]⟩, ⟨[t, t2]⟩⟩ => onAppQ (Opd.val e s) (Opd.val e x)
      (hold fun X => (tapp P t).isSome = true ∧ (telem P t2).isSome = true ∧ K (.slice (some ⟨X, 0, none⟩) 0 0) h)
      (hold fun (X id2 off2 n : Nat) => onSome (tapp P t) (hold fun sb => onSome (hget h id2) (hold fun k2 => t2 = t ∧ h.length ≤ X ∧ k2.st ≠ .dead ∧ off2 + n * sb.1 ≤ k2.cells.length ∧ n ≤ 9223372036854775807 ∧ n * sb.2 ≤ 140737488355328 ∧
          K (.slice (some ⟨h.length, 0, none⟩) n 0) (h ++ [⟨(k2.cells.drop off2).take (n * sb.1), sb.1, .rw⟩]))))
  | op => vOp G P (fun _ => False) op e h (fun v h' => h <+: h' ∧ K v h')

theorem vOpQ_sound {K : Value → Heap → Prop} (hv : vOpQ G P o.op e h K) : ∃ v h', HStep G P o allT (fun _ => False) e h v h' ∧ h <+: h' ∧ K v h' := by
  unfold vOpQ at hv
  split at hv
  · rename_i t ho
    obtain ⟨te, h1, h2, h3⟩ := hv.elim
    obtain ⟨z, hz⟩ := Option.isSome_iff_exists.1 h2
    exact ⟨_, h, HStep.emptyQ (sz := te.1) (el := te.2) ho h1 (tz_spec hz).1, List.prefix_refl h, h3 (h.length + 1000) (Nat.le_refl _)⟩
  · rename_i s x t t2 ho
    unfold onAppQ at hv
    split at hv
    · rename_i X a2 hc2 hs hx
      obtain ⟨h1, h2, h3⟩ := hv
      obtain ⟨sb, hsb⟩ := Option.isSome_iff_exists.1 h1
      exact ⟨_, h, HStep.append0 (sb := sb) ho hs hx hsb h2, List.prefix_refl h, h3⟩
    · rename_i X id2 off2 n hs hx
      obtain ⟨sb, h1, hv⟩ := hv.elim
      obtain ⟨k2, h2, hv⟩ := hv.elim
      obtain ⟨rfl, hX, hd, hl, hmax, hby, hk⟩ := hv
      exact ⟨_, _, HStep.appendQ ho hs hX hx h1 (Nat.succ_pos n) h2 hd hl hmax hby, List.prefix_append _ _, hk⟩
    · exact hv.elim
  · obtain ⟨v, h', h1, h2⟩ := vOp_sound hv
    exact ⟨v, h', h1, h2.1, h2.2⟩

/-- The first m operations in the manner of vOpQ, the others one after the other. None is guarded. -/
def vOpsQ (G : List (Nat × Nat)) (P : Program) (M : Nat → Prop) : Nat → List Oper → Env → Heap → (Env → Heap → Prop) → Prop
  | _, [], e, h, K => K e h
  | 0, o :: os, e, h, K => o.guard = none ∧ vOp G P M o.op e h (fun v h' => vOpsQ G P M 0 os (put e o.dst v) h' K)
  | m + 1, o :: os, e, h, K => o.guard = none ∧ vOpQ G P o.op e h (fun v h' => vOpsQ G P M m os (put e o.dst v) h' K)

theorem vOpsQ_sound {ops : Array Oper} {n : Nat} : ∀ (m : Nat) (l : List Oper) (e : Env) (h : Heap) (K : Env → Heap → Prop), vOpsQ G P M m l e h K →
    HOpsX G P ops (l.take m) e h (fun e1 h1 => HOps G P n M ops (l.drop m) e1 h1 K)
  | 0, [], e, h, K, hv => by
    simp only [List.take_zero, List.drop_zero]
    unfold HOpsX HOps
    unfold vOpsQ at hv
    exact hv
  | m + 1, [], e, h, K, hv => by
    simp only [List.take_nil, List.drop_nil]
    unfold HOpsX HOps
    unfold vOpsQ at hv
    exact hv
  | 0, o :: os, e, h, K, hv => by
    unfold vOpsQ at hv
    obtain ⟨hg, hv⟩ := hv
    obtain ⟨v, h', h1, h2⟩ := vOp_sound hv
    have ih := vOpsQ_sound (ops := ops) (n := n) 0 os _ _ K h2
    simp only [List.take_zero, List.drop_zero] at ih ⊢
    show HOps G P n M ops (o :: os) e h K
    replace ih : HOps G P n M ops os (put e o.dst v) h' K := ih
    unfold HOps
    have hw : wantedH ops o e = true := by unfold wantedH; rw [hg]
    rw [if_pos hw]
    exact ⟨v, h', h1, ih⟩
  | m + 1, o :: os, e, h, K, hv => by
    unfold vOpsQ at hv
    obtain ⟨hg, hv⟩ := hv
    obtain ⟨v, h', h1, h3, h2⟩ := vOpQ_sound hv
    simp only [List.take_succ_cons, List.drop_succ_cons]
    unfold HOpsX
    have hw : wantedH ops o e = true := by unfold wantedH; rw [hg]
    rw [if_pos hw]
    exact ⟨v, h', h1, h3, vOpsQ_sound m os _ _ K h2⟩

def lkQ : List (Nat × Nat) → Nat → Option Nat
  | [], _ => none
  | (a, m) :: L, i => if a = i then some m else lkQ L i

def codeOKQ (L : List (Nat × Nat)) (G : List (Nat × Nat)) (n : Nat) : Code → Bool
  | .region i ops true => ops.toList.all (operB G n) && match lkQ L i with
    | some m => tailOK ops m
    | none => drawOK ops
  | .seq a b => codeOKQ L G n a && codeOKQ L G n b
  | .block _ a => codeOKQ L G n a
  | c => codeOK G n c

def onLkQ (o : Option Nat) {K : Nat → Prop} {A : Prop} (_ : Hold K) (_ : Hold A) : Prop := match o with
  | some m => K m
  | none => A

def vCodeQ (L : List (Nat × Nat)) (G : List (Nat × Nat)) (P : Program) (n : Nat) (M : Nat → Prop) : Code → (Exit → Env → Heap → Prop) → Env → Heap → Prop
  | .region i ops true, Q, e, h => onLkQ (lkQ L i) (hold fun m => vOpsQ G P M m ops.toList e h (Q .normal)) (hold (vOpsD G P M [] ops.toList e h (Q .normal)))
  | .seq a b, Q, e, h => vCodeQ L G P n M a (thenQ Q (vCodeQ L G P n M b Q)) e h
  | .block i a, Q, e, h => vCodeQ L G P n M a (blockQ i Q) e h
  | c, Q, e, h => vCode G P n M c Q e h

theorem vCodeQ_sound {n : Nat} {L : List (Nat × Nat)} (hm : P.follows .mixedOrders = true) (c : Code) (Q : Exit → Env → Heap → Prop) (e : Env) (h : Heap) (hok : codeOKQ L G n c = true) (hv : vCodeQ L G P n M c Q e h) : HWp G P n M c Q e h := by
  induction c generalizing Q e h with
  | region i ops draw =>
    cases draw with
    | false => exact vCode_sound hm (.region i ops false) Q e h hok hv
    | true =>
      simp only [codeOKQ, Bool.and_eq_true] at hok
      unfold vCodeQ onLkQ at hv
      split at hv
      · rename_i m hm2
        rw [hm2] at hok
        exact HWp.region_tail hm hok.2 hok.1 (vOpsQ_sound m ops.toList e h _ hv)
      · rename_i hm2
        rw [hm2] at hok
        exact vCode_sound hm (.region i ops true) Q e h (by simp [codeOK, hok.2]; simpa using hok.1) hv
  | seq a b iha ihb =>
    simp only [codeOKQ, Bool.and_eq_true] at hok
    refine HWp.seq ((iha _ e h hok.1 hv).mono ?_)
    intro z e' h' hz
    cases z with
    | normal => exact .inl ⟨rfl, ihb Q e' h' hok.2 hz⟩
    | _ => exact .inr ⟨by simp, hz⟩
  | block i a iha =>
    refine HWp.block ((iha _ e h hok hv).mono ?_)
    intro z e' h' hz
    cases z with
    | exit j =>
      simp only [blockQ] at hz
      simp only
      split
      · rename_i hj; rw [if_pos hj] at hz; exact hz
      · rename_i hj; rw [if_neg hj] at hz; exact hz
    | _ => exact hz
  | _ => exact vCode_sound hm _ Q e h hok hv

/-- A function by its body, with the regions listed taken so; to each the number of its operations ahead of the tail. -/
theorem body_ofQ {f : FuncId} {fn : Func} {c : Code} {args : List Value} {rs : List ResultVar} {R : Value → Heap → Prop} (L : List (Nat × Nat)) (hm : P.follows .mixedOrders = true) (hf : P.funcs[f]? = some fn) (hb : fn.body = some c) (hok : codeOKQ L G fn.ntmps c = true) (hn : args.length ≤ fn.ntmps) (hrs : fn.results = rs.toArray)
    (hv : vCodeQ L G P fn.ntmps (own h.length M) c (retQ P rs R) (env0 args) h) : vCall G P M f args h R := by
  have key : HWp G P fn.ntmps (own h.length M) c (retQ P rs R) (env0 args) h := vCodeQ_sound hm c _ _ _ hok hv
  refine HRuns.of_body hf hb hn (key.mono ?_)
  intro z e' h' hz
  have fin : ∀ (_ : vRes P rs [] R e' h'), ∃ r, resAll P e' h' fn.results.toList = some r ∧ R r h' := fun hz => by
    obtain ⟨vs, h1, h2⟩ := vRes_sound rs [] R hz
    refine ⟨retVal vs, ?_, by simpa using h2⟩
    rw [hrs]
    exact resAll_eq h1
  cases z with
  | ret => exact ⟨.inl rfl, fin hz⟩
  | normal => exact ⟨.inr rfl, fin hz⟩
  | exit _ => exact hz.elim
  | goto _ => exact hz.elim
  | panic _ => exact hz.elim
  | outgrown => exact hz.elim
end

section
variable {G : List (Nat × Nat)} {P : Program} {M : Nat → Prop} {e : Env} {h : Heap} {L : List (Nat × Nat)} {n : Nat} {Q : Exit → Env → Heap → Prop} {c b : Code} {i m : Nat}
@[go_sem ↓] theorem lkQ_nil : lkQ [] i = none := (rfl)
@[go_sem ↓] theorem lkQ_same : lkQ ((i, m) :: L) i = some m := by simp [lkQ]
@[go_sem ↓] theorem lkQ_other {b : Nat} (hij : (i == b) = false) : lkQ ((b, m) :: L) i = lkQ L i := by
  have hh : ¬ (b = i) := fun hh => by rw [hh] at hij; simp at hij
  simp only [lkQ, if_neg hh]
@[go_sem ↓] theorem onLkQ_some {K : Nat → Prop} {A : Prop} {p : Hold K} {q : Hold A} : onLkQ (some m) p q = K m := (rfl)
@[go_sem ↓] theorem onLkQ_none {K : Nat → Prop} {A : Prop} {p : Hold K} {q : Hold A} : onLkQ none p q = A := (rfl)
@[go_sem ↓] theorem vCodeQ_seq : vCodeQ L G P n M (.seq c b) Q e h = vCodeQ L G P n M c (thenQ Q (vCodeQ L G P n M b Q)) e h := (rfl)
@[go_sem ↓] theorem vCodeQ_region {os : List Oper} : vCodeQ L G P n M (.region i os.toArray false) Q e h = vOps G P M false [] os e h (Q .normal) := (rfl)
@[go_sem ↓] theorem vCodeQ_regionX {os : List Oper} : vCodeQ L G P n M (.region i os.toArray true) Q e h = onLkQ (lkQ L i) (hold fun m => vOpsQ G P M m os e h (Q .normal)) (hold (vOpsD G P M [] os e h (Q .normal))) := (rfl)
@[go_sem ↓] theorem vCodeQ_skip : vCodeQ L G P n M .skip Q e h = Q .normal e h := (rfl)
@[go_sem ↓] theorem vCodeQ_ret : vCodeQ L G P n M .ret Q e h = Q .ret e h := (rfl)
@[go_sem ↓] theorem vCodeQ_exit : vCodeQ L G P n M (.exit i) Q e h = Q (.exit i) e h := (rfl)
@[go_sem ↓] theorem vCodeQ_label : vCodeQ L G P n M (.label i) Q e h = Q .normal e h := (rfl)
@[go_sem ↓] theorem vCodeQ_block : vCodeQ L G P n M (.block i c) Q e h = vCodeQ L G P n M c (blockQ i Q) e h := (rfl)
@[go_sem ↓] theorem vCodeQ_loop : vCodeQ L G P n M (.loop c) Q e h = vLoop G P n M c Q e h := (rfl)
@[go_sem ↓] theorem vOpsQ_nil {K : Env → Heap → Prop} : vOpsQ G P M m [] e h K = K e h := by cases m <;> rfl
@[go_sem ↓] theorem vOpsQ_zero {d : Option Tmp} {op : Op} {t : TypeId} {s : String} {a : Array Edge} {os : List Oper} {K : Env → Heap → Prop} :
    vOpsQ G P M 0 (⟨d, op, t, s, a, none⟩ :: os) e h K = vOp G P M op e h (fun v h' => vOpsQ G P M 0 os (put e d v) h' K) := by
  simp only [vOpsQ, true_and]
@[go_sem ↓] theorem vOpsQ_more {d : Option Tmp} {op : Op} {t : TypeId} {s : String} {a : Array Edge} {os : List Oper} {K : Env → Heap → Prop} (hm : (m == 0) = false) :
    vOpsQ G P M m (⟨d, op, t, s, a, none⟩ :: os) e h K = vOpQ G P op e h (fun v h' => vOpsQ G P M (m - 1) os (put e d v) h' K) := by
  cases m with
  | zero => cases hm
  | succ m => simp only [vOpsQ, true_and, Nat.add_sub_cancel]
attribute [go_sem] Nat.reduceSub
variable {K : Value → Heap → Prop}
@[go_sem ↓] theorem vOpQ_empty {t : TypeId} : vOpQ G P (.buildSlice t 0 #[]) e h K = onSome (telem P t) (hold fun te => (tz P te.2).isSome = true ∧ ∀ X, h.length + 1000 ≤ X → K (.slice (some ⟨X, 0, none⟩) 0 0) h) := (rfl)
@[go_sem ↓] theorem vOpQ_append {s x : Operand} {t t2 : TypeId} : vOpQ G P (.call { callee := .builtin .append, args := #[s, x], argTypes := #[t, t2] }) e h K = onAppQ (Opd.val e s) (Opd.val e x)
      (hold fun X => (tapp P t).isSome = true ∧ (telem P t2).isSome = true ∧ K (.slice (some ⟨X, 0, none⟩) 0 0) h)
      (hold fun (X id2 off2 n : Nat) => onSome (tapp P t) (hold fun sb => onSome (hget h id2) (hold fun k2 => t2 = t ∧ h.length ≤ X ∧ k2.st ≠ .dead ∧ off2 + n * sb.1 ≤ k2.cells.length ∧ n ≤ 9223372036854775807 ∧ n * sb.2 ≤ 140737488355328 ∧
          K (.slice (some ⟨h.length, 0, none⟩) n 0) (h ++ [⟨(k2.cells.drop off2).take (n * sb.1), sb.1, .rw⟩])))) := (rfl)
@[go_sem ↓] theorem vOpQ_fieldAddr {s : TypeId} {x : Operand} {f : Nat} : vOpQ G P (.fieldAddr s x f) e h K = vOp G P (fun _ => False) (.fieldAddr s x f) e h (fun v h' => h <+: h' ∧ K v h') := (rfl)
@[go_sem ↓] theorem vOpQ_alloc {s : TypeId} : vOpQ G P (.alloc s) e h K = vOp G P (fun _ => False) (.alloc s) e h (fun v h' => h <+: h' ∧ K v h') := (rfl)
@[go_sem ↓] theorem vOpQ_load {s : TypeId} {x : Operand} : vOpQ G P (.load s x) e h K = vOp G P (fun _ => False) (.load s x) e h (fun v h' => h <+: h' ∧ K v h') := (rfl)
@[go_sem ↓] theorem vOpQ_build {s : TypeId} {ps : Array (Nat × Operand)} : vOpQ G P (.build s ps) e h K = vOp G P (fun _ => False) (.build s ps) e h (fun v h' => h <+: h' ∧ K v h') := (rfl)
variable {Z : Nat → Prop} {K4 : Nat → Nat → Nat → Nat → Prop} {p : Hold Z} {q : Hold K4}
@[go_sem] theorem onAppQ_nothing {X hc : Nat} {a2 : Option Addr} : onAppQ (.slice (some ⟨X, 0, none⟩) 0 0) (.slice a2 0 hc) p q = Z X := (rfl)
theorem onAppQ_more {X id2 off2 n : Nat} (hn : 0 < n) : onAppQ (.slice (some ⟨X, 0, none⟩) 0 0) (.slice (some ⟨id2, off2, none⟩) n 0) p q = K4 X id2 off2 n := by
  cases n with
  | zero => omega
  | succ n => rfl
end
end Go.HH
