/- Each operation of the model, told over abstract blocks. No condition. -/
import Derived.Test.YtedidddimikjhaaH1
import Derived.Laws.Cells
import Derived.Lib.FrozenHead
import Derived.Laws.AppendOwn
import Derived.ChangeKeysEq
import Derived.ArgAppend
import Derived.IntWalk
import Derived.Lib.ConvBytes
import Derived.Laws.BytesArg
import Derived.Laws.BytesString
import Derived.Laws.StructEq
set_option linter.unusedSimpArgs false
set_option linter.unusedVariables false
namespace Go.HH

/-! What an allocation, a store and a load do to the relation. -/

def LRel (p : Phi) (x y : List Value) : Prop := x.length = y.length ∧ ∀ (i : Nat) (v : Value), x[i]? = some v → ∃ v', y[i]? = some v' ∧ VRel p v v'

theorem ARel.list {p : Phi} {x y : Array Value} (r : ARel p x y) : LRel p x.toList y.toList :=
  ⟨by simpa using r.1, fun i v hv => by
    have hi : i < x.size := by
      have := (List.getElem?_eq_some_iff.1 hv).1; simpa using this
    have hi' : i < y.size := by rw [← r.1]; exact hi
    have e : x[i] = v := by simpa [hi] using hv
    exact ⟨y[i], by simp [hi'], e ▸ r.2 i hi hi'⟩⟩

theorem LRel.array {p : Phi} {x y : List Value} (r : LRel p x y) : ARel p x.toArray y.toArray :=
  ⟨by simpa using r.1, fun i h h' => by
    have hi : i < x.length := by simpa using h
    obtain ⟨v', e, k⟩ := r.2 i x[i] (List.getElem?_eq_getElem hi)
    have hi' : i < y.length := by simpa using h'
    rw [List.getElem?_eq_getElem hi'] at e
    cases e
    simpa using k⟩

theorem LRel.mono {p q : Phi} (h : p.le q) {x y : List Value} (r : LRel p x y) : LRel q x y :=
  ⟨r.1, fun i v hv => let ⟨v', a, b⟩ := r.2 i v hv; ⟨v', a, b.mono h⟩⟩

theorem LRel.nil (p : Phi) : LRel p [] [] := ⟨rfl, fun i v h => by simp at h⟩

theorem LRel.append {p : Phi} {x y x' y' : List Value} (r : LRel p x y) (r' : LRel p x' y') : LRel p (x ++ x') (y ++ y') := by
  refine ⟨by simp [r.1, r'.1], fun i v hv => ?_⟩
  rcases Nat.lt_or_ge i x.length with h | h
  · rw [List.getElem?_append_left h] at hv
    obtain ⟨v', a, b⟩ := r.2 i v hv
    exact ⟨v', by rw [List.getElem?_append_left (by rw [← r.1]; exact h)]; exact a, b⟩
  · rw [List.getElem?_append_right h] at hv
    obtain ⟨v', a, b⟩ := r'.2 _ v hv
    exact ⟨v', by rw [List.getElem?_append_right (by rw [← r.1]; exact h), ← r.1]; exact a, b⟩

theorem LRel.take {p : Phi} {x y : List Value} (r : LRel p x y) (n : Nat) : LRel p (x.take n) (y.take n) := by
  refine ⟨by simp [r.1], fun i v hv => ?_⟩
  rw [List.getElem?_take] at hv
  split at hv
  · rename_i h
    obtain ⟨v', a, b⟩ := r.2 i v hv
    exact ⟨v', by rw [List.getElem?_take, if_pos h]; exact a, b⟩
  · cases hv

theorem LRel.drop {p : Phi} {x y : List Value} (r : LRel p x y) (n : Nat) : LRel p (x.drop n) (y.drop n) := by
  refine ⟨by simp [r.1], fun i v hv => ?_⟩
  rw [List.getElem?_drop] at hv
  obtain ⟨v', a, b⟩ := r.2 _ v hv
  exact ⟨v', by rw [List.getElem?_drop]; exact a, b⟩

theorem LRel.oneC {p : Phi} {x y : List Value} (r : LRel p x y) (h : ∀ v ∈ x, HH.oneC v = true) : ∀ v ∈ y, HH.oneC v = true := by
  intro v hv
  obtain ⟨i, hi, rfl⟩ := List.getElem_of_mem hv
  have hi' : i < x.length := by rw [r.1]; exact hi
  obtain ⟨v', a, b⟩ := r.2 i x[i] (List.getElem?_eq_getElem hi')
  rw [List.getElem?_eq_getElem hi] at a
  cases a
  rw [b.oneCell]
  exact h _ (by simp)

theorem LRel.plain {p : Phi} {x y : List Value} (r : LRel p x y) (h : ∀ v ∈ x, ∀ v', VRel p v v' → v' = v) : y = x := by
  apply List.ext_getElem r.1.symm
  intro i h1 h2
  obtain ⟨v', a, b⟩ := r.2 i x[i] (List.getElem?_eq_getElem h2)
  rw [List.getElem?_eq_getElem h1] at a
  cases a
  exact h _ (by simp) _ b

section
variable {G : List (Nat × Nat)} {T M : Nat → Prop} {p : Phi} {h : Heap} {w : World}

def phiPush (p : Phi) (id : Nat) (t : Tgt) : Phi := fun j => if j = id then some t else p j

theorem HRelT.push (r : HRelT G T p h w) {cells : List Value} {c : Array Value} (esz : Nat) (elem : TypeId) (st : St) (fr : Nat × Nat) (hc : LRel p cells (c.toList.take cells.length)) (hsz : cells.length ≤ c.size) (hfr : ∀ o, o < c.size → ¬ (fr.1 ≤ o ∧ o < fr.2)) :
    HRelT G (fun id => T id ∨ h.length ≤ id) (phiPush p h.length ⟨w.heap.size, 0, esz, c.size⟩) (h ++ [⟨cells, esz, st⟩]) { w with heap := w.heap.push (.cells c elem fr) } ∧
    Ext M p (phiPush p h.length ⟨w.heap.size, 0, esz, c.size⟩) h (h ++ [⟨cells, esz, st⟩]) w { w with heap := w.heap.push (.cells c elem fr) } := by
  have hle : p.le (phiPush p h.length ⟨w.heap.size, 0, esz, c.size⟩) := fun id t e => by
    unfold phiPush
    rw [if_neg]
    · exact e
    · intro hid
      have := (r.dom id t e).1
      omega
  have hkeep : ∀ b, b < w.heap.size → (w.heap.push (Obj.cells c elem fr))[b]? = w.heap[b]? := fun b hb => by
    rw [Array.getElem?_push, if_neg (by omega)]
  have split : ∀ id t, phiPush p h.length ⟨w.heap.size, 0, esz, c.size⟩ id = some t → (p id = some t ∧ id < h.length ∧ t.b < w.heap.size) ∨ (id = h.length ∧ t = ⟨w.heap.size, 0, esz, c.size⟩) := by
    intro id t e
    unfold phiPush at e
    split at e
    · rename_i hid; exact .inr ⟨hid, (Option.some.inj e).symm⟩
    · exact .inl ⟨e, r.dom id t e⟩
  refine ⟨⟨fun g hg => ?_, fun id t e => ?_, fun id t k tt e hk hd => ?_, fun id t k e hk => ?_, fun id id' t t' k k' e e' hk hk' hrw hd hb => ?_⟩, ?_⟩
  · obtain ⟨t, a, b⟩ := r.glob g hg
    exact ⟨t, hle _ _ a, b⟩
  · rcases split id t e with ⟨_, a, b⟩ | ⟨rfl, rfl⟩
    · exact ⟨by simp; omega, by simp; omega⟩
    · exact ⟨by simp, by simp⟩
  · rcases split id t e with ⟨a, b, b'⟩ | ⟨rfl, rfl⟩
    · rw [List.getElem?_append_left b] at hk
      rcases tt with tt | tt
      · obtain ⟨x1, cc, el, f, x2, x3, x4, x5, x6⟩ := r.blk id t k tt a hk hd
        exact ⟨x1, cc, el, f, by rw [hkeep _ b']; exact x2, x3, x4, fun i v hv => let ⟨v', y1, y2⟩ := x5 i v hv; ⟨v', y1, y2.mono hle⟩, x6⟩
      · omega
    · rw [List.getElem?_append_right (Nat.le_refl _), Nat.sub_self] at hk
      simp only [List.getElem?_cons_zero, Option.some.injEq] at hk
      subst hk
      refine ⟨rfl, c, elem, fr, ?_, rfl, by simpa using hsz, fun i v hv => ?_, fun _ => hfr⟩
      · show (w.heap.push _)[w.heap.size]? = _
        rw [Array.getElem?_push, if_pos rfl]
      · obtain ⟨v', a, b⟩ := hc.2 i v hv
        rw [List.getElem?_take] at a
        split at a
        · exact ⟨v', by simpa using a, b.mono hle⟩
        · cases a
  · rcases split id t e with ⟨a, b, b'⟩ | ⟨rfl, rfl⟩
    · rw [List.getElem?_append_left b] at hk
      exact r.esz id t k a hk
    · rw [List.getElem?_append_right (Nat.le_refl _), Nat.sub_self] at hk
      simp only [List.getElem?_cons_zero, Option.some.injEq] at hk
      subst hk
      rfl
  · rcases split id t e with ⟨a, b, b'⟩ | ⟨rfl, rfl⟩ <;> rcases split id' t' e' with ⟨a', c', c''⟩ | ⟨rfl, rfl⟩
    · rw [List.getElem?_append_left b] at hk
      rw [List.getElem?_append_left c'] at hk'
      exact r.inj id id' t t' k k' a a' hk hk' hrw hd hb
    · simp at hb; omega
    · simp at hb; omega
    · rfl
  · refine ⟨hle, fun id t e en => ?_, by simp, fun b hb _ => hkeep b hb, by simp, rfl, rfl, rfl⟩
    rcases split id t e with ⟨a, _⟩ | ⟨rfl, rfl⟩
    · rw [a] at en; cases en
    · exact ⟨Nat.le_refl _, .inl (Nat.le_refl _)⟩

/-- A new block whose row is as long as its cells. -/
theorem HRelT.push' (r : HRelT G T p h w) {cells : List Value} {c : Array Value} (esz : Nat) (elem : TypeId) (hc : LRel p cells c.toList) :
    HRelT G (fun id => T id ∨ h.length ≤ id) (phiPush p h.length ⟨w.heap.size, 0, esz, c.size⟩) (h ++ [⟨cells, esz, .rw⟩]) { w with heap := w.heap.push (.cells c elem (0, 0)) } ∧
    Ext M p (phiPush p h.length ⟨w.heap.size, 0, esz, c.size⟩) h (h ++ [⟨cells, esz, .rw⟩]) w { w with heap := w.heap.push (.cells c elem (0, 0)) } := by
  have hl : cells.length = c.size := by simpa using hc.1
  refine r.push esz elem .rw (0, 0) ?_ (by omega) (fun o _ => by omega)
  rw [hl]
  have : c.toList.take c.size = c.toList := List.take_of_length_le (by simp)
  rw [this]
  exact hc

theorem phiPush_same {p : Phi} {id : Nat} {t : Tgt} : phiPush p id t id = some t := by simp [phiPush]

/-- Reading cells. -/
theorem HRelT.cells (r : HRelT G T p h w) {id off n : Nat} {t : Tgt} {k : Blk} (ht : T id) (hp : p id = some t) (hk : h[id]? = some k) (hd : k.st ≠ .dead) (hn : off + n ≤ k.cells.length) :
    ∃ cs : List Value, LRel p ((k.cells.drop off).take n) cs ∧ cs.length = n ∧ ∀ j v, cs[j]? = some v → w.cell? (Addr.add ⟨t.b, off + t.d, none⟩ j) = some v := by
  obtain ⟨_, c, el, fr, h1, h2, h3, h4, _⟩ := r.blk id t k ht hp hk hd
  refine ⟨(c.toList.drop (off + t.d)).take n, ⟨by simp; omega, fun i v hv => ?_⟩, by simp; omega, fun j v hv => ?_⟩
  · rw [List.getElem?_take] at hv ⊢
    split at hv
    · rename_i hi
      rw [if_pos hi]
      rw [List.getElem?_drop] at hv
      obtain ⟨v', a, b⟩ := h4 _ v hv
      refine ⟨v', ?_, b⟩
      rw [List.getElem?_drop]
      simpa [Nat.add_comm, Nat.add_left_comm, Nat.add_assoc] using a
    · cases hv
  · rw [List.getElem?_take] at hv
    split at hv
    · rw [List.getElem?_drop] at hv
      have e : Addr.add ⟨t.b, off + t.d, none⟩ j = ⟨t.b, off + t.d + j, none⟩ := by
        unfold Addr.add
        split
        · rename_i hj; simp [hj]
        · rfl
      rw [e]
      simp [World.cell?, h1]
      simpa using hv
    · cases hv

/-- Writing cells of one block. -/
def setRange (cells : List Value) (off : Nat) (vs : List Value) : List Value := cells.take off ++ vs ++ cells.drop (off + vs.length)

theorem setRange_length {cells : List Value} {off : Nat} {vs : List Value} (hl : off + vs.length ≤ cells.length) : (setRange cells off vs).length = cells.length := by
  unfold setRange; simp; omega

theorem LRel.setRange {x y : List Value} {off : Nat} {vs us : List Value} (r : LRel p x y) (r' : LRel p vs us) : LRel p (HH.setRange x off vs) (HH.setRange y off us) := by
  unfold HH.setRange
  rw [← r'.1]
  exact ((r.take off).append r').append (r.drop _)

theorem HRelT.setRow (r : HRelT G T p h w) {id off : Nat} {t : Tgt} {k : Blk} {vs us : List Value} (ht : T id) (hp : p id = some t) (hk : h[id]? = some k) (hd : k.st = .rw)
    (hv : LRel p vs us) (hn : off + vs.length ≤ k.cells.length) (hm : M id) :
    ∃ (c : Array Value) (el : TypeId) (fr : Nat × Nat), w.heap[t.b]? = some (.cells c el fr) ∧ off + t.d + us.length ≤ c.size ∧ (∀ o, o < c.size → ¬ (fr.1 ≤ o ∧ o < fr.2)) ∧
      ∀ w' : World, w'.os = w.os → w'.tape = w.tape → w'.output = w.output → w'.heap.size = w.heap.size → (∀ b, b ≠ t.b → w'.heap[b]? = w.heap[b]?) →
        w'.heap[t.b]? = some (.cells (HH.setRange c.toList (off + t.d) us).toArray el fr) →
        HRelT G T p (h.set id ⟨HH.setRange k.cells off vs, k.esz, .rw⟩) w' ∧ Ext M p p h (h.set id ⟨HH.setRange k.cells off vs, k.esz, .rw⟩) w w' := by
  obtain ⟨x1, c, el, fr, x2, x3, x4, x5, x6⟩ := r.blk id t k ht hp hk (by rw [hd]; decide)
  have hlen : vs.length = us.length := hv.1
  refine ⟨c, el, fr, x2, by omega, x6 hd, fun w' hos htape hout hsz hoth hrow => ?_⟩
  have hid : id < h.length := (List.getElem?_eq_some_iff.1 hk).1
  have hget : ∀ j, (h.set id ⟨HH.setRange k.cells off vs, k.esz, .rw⟩)[j]? = if id = j then some ⟨HH.setRange k.cells off vs, k.esz, .rw⟩ else h[j]? := fun j => by
    rw [List.getElem?_set]
    split
    · rename_i hj; subst hj; rfl
    · rfl
  have hst : ∀ (j : Nat) (kj : Blk), (h.set id ⟨HH.setRange k.cells off vs, k.esz, .rw⟩)[j]? = some kj → ∃ kj' : Blk, h[j]? = some kj' ∧ kj'.st = kj.st := fun j kj hj => by
    rw [hget] at hj
    split at hj
    · rename_i e; subst e; cases hj; exact ⟨k, hk, hd⟩
    · exact ⟨kj, hj, rfl⟩
  refine ⟨⟨r.glob, fun j tj e => ⟨by simpa using (r.dom j tj e).1, by rw [hsz]; exact (r.dom j tj e).2⟩, fun j tj kj tt e hj hdj => ?_, fun j tj kj e hj => ?_, fun j j' tj tj' kj kj' e e' hj hj' hrw hdd hb => ?_⟩, ?_⟩
  · rw [hget] at hj
    split at hj
    · rename_i he
      subst he
      cases hj
      have : tj = t := Option.some.inj (e.symm.trans hp)
      subst this
      have hsr : (HH.setRange c.toList (off + tj.d) us).length = c.size := by rw [setRange_length (by simp; omega)]; simp
      refine ⟨x1, _, el, fr, hrow, by simpa [hsr] using x3, ?_, fun i v hi => ?_, fun _ o ho => x6 hd o (by simpa [hsr] using ho)⟩
      · simp only [List.size_toArray, hsr]
        rw [setRange_length hn]
        exact x4
      · have hi' := (List.getElem?_eq_some_iff.1 hi).1
        rw [setRange_length hn] at hi'
        unfold HH.setRange at hi ⊢
        simp only [List.getElem?_toArray]
        rcases Nat.lt_or_ge i off with h1 | h1
        · rw [List.append_assoc, List.getElem?_append_left (by simp; omega), List.getElem?_take, if_pos h1] at hi
          obtain ⟨v', a, b⟩ := x5 i v hi
          refine ⟨v', ?_, b⟩
          rw [List.append_assoc, List.getElem?_append_left (by simp; omega), List.getElem?_take, if_pos (by omega)]
          simpa using a
        · rcases Nat.lt_or_ge i (off + vs.length) with h2 | h2
          · rw [List.append_assoc, List.getElem?_append_right (by simp; omega), List.getElem?_append_left (by simp; omega)] at hi
            obtain ⟨v', a, b⟩ := hv.2 _ v hi
            refine ⟨v', ?_, b⟩
            rw [List.append_assoc, List.getElem?_append_right (by simp; omega), List.getElem?_append_left (by simp; omega)]
            rw [← a]
            congr 1
            simp
            omega
          · rw [List.getElem?_append_right (by simp; omega), List.getElem?_drop] at hi
            obtain ⟨v', a, b⟩ := x5 _ v hi
            refine ⟨v', ?_, b⟩
            rw [List.getElem?_append_right (by simp; omega), List.getElem?_drop, Array.getElem?_toList]
            rw [← a]
            congr 1
            simp
            omega
    · rename_i he
      obtain ⟨y1, cc, el2, fr2, y2, y3, y4, y5, y6⟩ := r.blk j tj kj tt e hj hdj
      have hbne : tj.b ≠ t.b := fun hb => he (r.inj id j t tj k kj hp e hk hj hd hdj hb.symm)
      exact ⟨y1, cc, el2, fr2, by rw [hoth _ hbne]; exact y2, y3, y4, y5, y6⟩
  · rw [hget] at hj
    split at hj
    · rename_i he
      subst he
      cases hj
      exact r.esz id tj k e hk
    · exact r.esz j tj kj e hj
  · obtain ⟨k1, a1, a2⟩ := hst j kj hj
    obtain ⟨k2, b1, b2⟩ := hst j' kj' hj'
    exact r.inj j j' tj tj' k1 k2 e e' a1 b1 (a2.trans hrw) (by rw [b2]; exact hdd) hb
  · refine ⟨Phi.le_refl p, fun j tj e en => (by rw [e] at en; cases en), by simp, fun b hb hno => hoth b (fun hbt => hno id t hp hm hbt.symm), by omega, hos, htape, hout⟩

end
end Go.HH

namespace Go.HH

section
variable {G : List (Nat × Nat)} {P : Program} {T M : Nat → Prop} {e : Env} {h : Heap} {o : Oper}

/-! From a run to a step. -/

theorem HStep.of_run {v : Value} {h' : Heap}
    (hr : ∀ (p : Phi) (a : Act) (w : World), HRelT G T p h w → (∀ x ∈ o.op.operands, VRel p (Opd.val e x) (a.eval x)) →
      ∃ q v' w', ((execOp a.eval o).run P w = .ok (.value v') w' ∨ ((execOp a.eval o).run P w = .ok .skip w' ∧ v' = undef)) ∧
        HRelT G (fun id => T id ∨ h.length ≤ id) q h' w' ∧ VRel q v v' ∧ Ext M p q h h' w w') : HStep G P o T M e h v h' := by
  intro p a w r ho next Q hk
  obtain ⟨q, v', w', h1, h2, h3, h4⟩ := hr p a w r ho
  unfold Oper.wp
  rcases h1 with h1 | ⟨h1, rfl⟩
  · rw [h1]; exact hk q v' w' h2 h3 h4
  · rw [h1]; exact hk q undef w' h2 h3 h4

theorem HRelT.same {p : Phi} {w : World} (r : HRelT G T p h w) : HRelT G (fun id => T id ∨ h.length ≤ id) p h w :=
  r.weaken fun id t e ht => ht.elim (fun x => x) (fun hl => absurd (r.dom id t e).1 (by omega))

theorem HStep.of_pure {v : Value}
    (hr : ∀ p (a : Act), (∀ x ∈ o.op.operands, VRel p (Opd.val e x) (a.eval x)) → ∃ v', VRel p v v' ∧ ∀ w, (execOp a.eval o).run P w = .ok (.value v') w) : HStep G P o T M e h v h :=
  .of_run fun p a w r ho => by
    obtain ⟨v', h1, h2⟩ := hr p a ho
    exact ⟨p, v', w, .inl (h2 w), r.weaken (fun id t e ht => ht.elim (fun x => x) (fun hl => absurd (r.dom id t e).1 (by omega))), h1, Ext.refl ..⟩

theorem Plain.eq {p : Phi} {v v' : Value} (hp : Plain v) (r : VRel p v v') : v' = v := by
  induction hp generalizing v' with
  | bool b => cases r; rfl
  | int k n => cases r; rfl
  | string s => cases r; rfl
  | ptrNil => cases r; rfl
  | sliceNil => cases r; rfl
  | func fn =>
    cases r with
    | func e1 e2 _ _ =>
      have h1 : _ = #[] := Array.eq_empty_of_size_eq_zero e1.symm
      have h2 : _ = #[] := Array.eq_empty_of_size_eq_zero e2.symm
      rw [h1, h2]
  | nilFunc => cases r; rfl
  | nilIface => cases r; rfl
  | agg _ ih =>
    cases r with
    | agg e1 i1 =>
      congr 1
      exact Array.ext e1.symm fun i h1 h2 => ih i h2 (i1 i h2 h1)
  | tuple _ ih =>
    cases r with
    | tuple e1 i1 =>
      congr 1
      exact Array.ext e1.symm fun i h1 h2 => ih i h2 (i1 i h2 h1)

theorem HStep.of_plain {v : Value} (hs : ∀ cs b, o.op ≠ .select cs b) (hp : ∀ x ∈ o.op.operands, Plain (Opd.val e x)) (hv : Plain v)
    (hr : ∀ w, (execOp (Opd.val e) o).run P w = .ok (.value v) w) : HStep G P o T M e h v h :=
  .of_pure fun p a ho => ⟨v, hv.rel, fun w => by
    have : execOp a.eval o = execOp (Opd.val e) o := execOp_congr o hs fun x hx => (hp x hx).eq (ho x hx)
    rw [this]; exact hr w⟩

/-! Copies. -/

theorem HStep.move {x : Operand} (ho : o.op = .move x) : HStep G P o T M e h (Opd.val e x) h :=
  .of_pure fun p a hr => ⟨a.eval x, hr x (by rw [ho]; simp [Op.operands]), fun w => by unfold execOp; rw [ho]; rfl⟩

theorem HStep.assign {x : Operand} (ho : o.op = .assign x) : HStep G P o T M e h (Opd.val e x) h :=
  .of_pure fun p a hr => ⟨a.eval x, hr x (by rw [ho]; simp [Op.operands]), fun w => by unfold execOp; rw [ho]; rfl⟩

theorem HStep.pick {c x y : Operand} {b : Bool} (ho : o.op = .pick c x y) (hc : Opd.val e c = .bool b) : HStep G P o T M e h (if b then Opd.val e x else Opd.val e y) h :=
  .of_pure fun p a hr => by
    have h1 := hr c (by rw [ho]; simp [Op.operands])
    have h2 := hr x (by rw [ho]; simp [Op.operands])
    have h3 := hr y (by rw [ho]; simp [Op.operands])
    rw [hc] at h1
    have h1' : a.eval c = .bool b := (Plain.bool b).eq h1
    refine ⟨if b then a.eval x else a.eval y, by cases b <;> simpa, fun w => ?_⟩
    unfold execOp
    rw [ho]
    cases b <;> simp [h1', asBool] <;> rfl

/-! Memory. -/

def tzero (P : Program) (t : TypeId) : Option (List Value) := ((P.info? t).bind (·.zero)).map fun z => z.cells.toList

theorem HStep.alloc {t : TypeId} {z : List Value} (ho : o.op = .alloc t) (hz : tzero P t = some z) (hp : ∀ v ∈ z, plainB v = true) :
    HStep G P o T M e h (.pointer (some ⟨h.length, 0, none⟩)) (h ++ [⟨z, P.cellsOf t, .rw⟩]) :=
  .of_run fun p a w r _ => by
    unfold tzero at hz
    cases hi : P.info? t with
    | none => rw [hi] at hz; simp at hz
    | some i =>
      rw [hi] at hz
      simp only [Option.bind_some, Option.map_eq_some_iff] at hz
      obtain ⟨zv, hz1, rfl⟩ := hz
      have hl : LRel p zv.cells.toList zv.cells.toList := ⟨rfl, fun j u hu => ⟨u, hu, (plainB_spec (hp u (List.mem_of_getElem? hu))).rel⟩⟩
      obtain ⟨h1, h2⟩ := r.push' (M := M) (P.cellsOf t) t hl
      refine ⟨_, .pointer (some ⟨w.heap.size, 0, none⟩), _, .inl ?_, h1, ?_, h2⟩
      · unfold execOp
        rw [ho]
        simp [Instr.alloc, zeroValue, typeInfo, hi, hz1, newVar, newRow, newObj, Sem.run]
      · exact VRel.ptr (t := ⟨w.heap.size, 0, P.cellsOf t, zv.cells.size⟩) phiPush_same

theorem HStep.box {t : TypeId} {x : Operand} (ho : o.op = .box t x) :
    HStep G P o T M e h (.pointer (some ⟨h.length, 0, none⟩)) (h ++ [⟨(Opd.val e x).cells.toList, P.cellsOf t, .rw⟩]) :=
  .of_run fun p a w r hr => by
    have h0 := (hr x (by rw [ho]; simp [Op.operands])).cells.list
    obtain ⟨h1, h2⟩ := r.push' (M := M) (P.cellsOf t) t h0
    refine ⟨_, .pointer (some ⟨w.heap.size, 0, none⟩), _, .inl ?_, h1, ?_, h2⟩
    · unfold execOp
      rw [ho]
      simp [Instr.box, newVar, newRow, newObj, Sem.run]
    · exact VRel.ptr (t := ⟨w.heap.size, 0, P.cellsOf t, (a.eval x).cells.size⟩) phiPush_same

/-- How a type is loaded: as one cell, or as an aggregate of so many. -/
def tload (P : Program) (t : TypeId) : Option (Option Nat) :=
  match P.underlying t with
  | some (.struct _) => (P.info? t).map fun i => some i.size
  | some (.array _ _) => (P.info? t).map fun i => some i.size
  | some _ => some none
  | none => none

theorem VRel.ptr_inv {p : Phi} {id off : Nat} {v' : Value} (r : VRel p (.pointer (some ⟨id, off, none⟩)) v') : ∃ t, p id = some t ∧ v' = .pointer (some ⟨t.b, off + t.d, none⟩) := by
  cases r with
  | ptr e => exact ⟨_, e, rfl⟩

theorem addr_add (b off j : Nat) : Addr.add ⟨b, off, none⟩ j = ⟨b, off + j, none⟩ := by
  unfold Addr.add
  split
  · rename_i hj; simp [hj]
  · rfl

theorem HStep.load1 {t : TypeId} {x : Operand} {id off : Nat} {k : Blk} {v : Value} (ho : o.op = .load t x) (hx : Opd.val e x = .pointer (some ⟨id, off, none⟩)) (ht : tload P t = some none)
    (hk : h[id]? = some k) (hd : k.st ≠ .dead) (hv : k.cells[off]? = some v) (hT : T id) : HStep G P o T M e h v h :=
  .of_run fun p a w r hr => by
    have h0 := hr x (by rw [ho]; simp [Op.operands])
    rw [hx] at h0
    obtain ⟨tg, h1, h2⟩ := h0.ptr_inv
    have hlt := (List.getElem?_eq_some_iff.1 hv).1
    obtain ⟨cs, l1, l2, l3⟩ := r.cells (off := off) (n := 1) hT h1 hk hd (by omega)
    have l4 : ((k.cells.drop off).take 1)[0]? = some v := by rw [List.getElem?_take, if_pos (by omega), List.getElem?_drop]; simpa using hv
    obtain ⟨v', l5, l6⟩ := l1.2 0 v l4
    have l7 := l3 0 v' l5
    rw [addr_add] at l7
    simp only [Nat.add_zero] at l7
    refine ⟨p, v', w, .inl ?_, r.weaken (fun id t e ht => ht.elim (fun x => x) (fun hl => absurd (r.dom id t e).1 (by omega))), l6, Ext.refl ..⟩
    have hagg : (isAgg t).run P w = .ok false w := by
      unfold tload at ht
      cases hu : P.underlying t with
      | none => rw [hu] at ht; cases ht
      | some d => rw [hu] at ht; cases d <;> simp [isAgg, run_underlying hu] at ht ⊢ <;> cases hi : P.info? t <;> rw [hi] at ht <;> simp at ht
    unfold execOp
    rw [ho]
    simp [Instr.loadAt, Instr.sureAddr, h2, loadVar, hagg, load, Sem.run, l7]

theorem HStep.loadN {t : TypeId} {x : Operand} {id off n : Nat} {k : Blk} (ho : o.op = .load t x) (hx : Opd.val e x = .pointer (some ⟨id, off, none⟩)) (ht : tload P t = some (some n))
    (hk : h[id]? = some k) (hd : k.st ≠ .dead) (hn : off + n ≤ k.cells.length) (hT : T id) : HStep G P o T M e h (.agg ((k.cells.drop off).take n).toArray) h :=
  .of_run fun p a w r hr => by
    have h0 := hr x (by rw [ho]; simp [Op.operands])
    rw [hx] at h0
    obtain ⟨tg, h1, h2⟩ := h0.ptr_inv
    obtain ⟨cs, l1, l2, l3⟩ := r.cells (n := n) hT h1 hk hd hn
    refine ⟨p, .agg cs.toArray, w, .inl ?_, r.weaken (fun id t e ht => ht.elim (fun x => x) (fun hl => absurd (r.dom id t e).1 (by omega))), ?_, Ext.refl ..⟩
    · have hagg : (isAgg t).run P w = .ok true w ∧ ∃ i, P.info? t = some i ∧ i.size = n := by
        unfold tload at ht
        cases hu : P.underlying t with
        | none => rw [hu] at ht; cases ht
        | some d =>
          rw [hu] at ht
          cases d <;> simp at ht
          all_goals
            obtain ⟨i, hi, hs⟩ := ht
            exact ⟨by simp [isAgg, run_underlying hu], i, hi, hs⟩
      obtain ⟨hagg, i, hi, hs⟩ := hagg
      have hload := run_loadCells_list (P := P) w ⟨tg.b, off + tg.d, none⟩ cs l3
      rw [l2] at hload
      unfold execOp
      rw [ho]
      simp [Instr.loadAt, Instr.sureAddr, h2, loadVar, hagg, sizeOf, typeInfo, hi, hs, hload]
    · exact .agg l1.array.1 l1.array.2

/-- A row of stores into a block none of whose cells is frozen. -/
theorem run_storeCells_free (P : Program) (g o : Nat) (t : TypeId) (fz : Nat × Nat) : ∀ (vs : List Value) (i : Nat) (cur : Array Value) (w : World), w.heap[g]? = some (.cells cur t fz) → (∀ j, j < cur.size → ¬ (fz.1 ≤ j ∧ j < fz.2)) →
    o + i + vs.length ≤ cur.size → (∀ v ∈ vs, oneC v = true) →
    (storeCells ⟨g, o, none⟩ vs i).run P w = .ok () (w.setRow g (HH.setRange cur.toList (o + i) vs).toArray)
  | [], i, cur, w, hg, _, _, _ => by
    simp only [storeCells, HH.setRange, List.append_nil, List.length_nil, Nat.add_zero, List.take_append_drop, Array.toArray_toList]
    rw [setRow_self w g cur t fz hg]
    rfl
  | v :: rest, i, cur, w, hg, hfz, hl, h1 => by
    have hi : o + i < cur.size := by simp at hl; omega
    have hcell : w.cell? ⟨g, o + i, none⟩ = some cur[o + i] := by simp [World.cell?, hg, hi]
    have hfro : w.frozen? ⟨g, o + i, none⟩ = false := by
      have := hfz (o + i) hi
      obtain ⟨lo, hi'⟩ := fz
      simp only [World.frozen?, hg, Bool.and_eq_false_iff, decide_eq_false_iff_not]
      simp only at this
      omega
    have hv1 : v.oneCell' = true := by have := h1 v (by simp); cases v <;> simp_all [oneC, Value.oneCell']
    have hst : (store ((⟨g, o, none⟩ : Addr).add i) v).run P w = .ok () (w.setRow g (cur.setIfInBounds (o + i) v)) := by
      rw [addr_add, run_store P w _ v _ hv1, hcell]
      simp [hfro, setCell_eq_setRow w g (o + i) cur t fz v hg]
    have ih := run_storeCells_free P g o t fz rest (i + 1) (cur.setIfInBounds (o + i) v) (w.setRow g (cur.setIfInBounds (o + i) v)) (setRow_heap w g cur _ t _ hg) (by simpa using hfz) (by simp at hl ⊢; omega) (fun x hx => h1 x (by simp [hx]))
    simp only [storeCells, Sem.run_bind, hst, Result.andThen_ok, ih, setRow_setRow]
    congr 3
    have e := list_seg_step cur.toList (o + i) v rest (by simp at hl ⊢; omega)
    simpa [HH.setRange, Array.toList_setIfInBounds, Nat.add_assoc] using e

theorem HStep.store {t : TypeId} {x y : Operand} {id off : Nat} {k : Blk} (ho : o.op = .store t x y) (hx : Opd.val e x = .pointer (some ⟨id, off, none⟩))
    (hk : h[id]? = some k) (hd : k.st = .rw) (hs : (P.info? t).map (·.size) = some (Opd.val e y).cells.size) (hn : off + (Opd.val e y).cells.size ≤ k.cells.length)
    (h1c : (Opd.val e y).cells.toList.all oneC = true) (hT : T id) (hM : M id) :
    HStep G P o T M e h undef (h.set id ⟨HH.setRange k.cells off (Opd.val e y).cells.toList, k.esz, .rw⟩) :=
  .of_run fun p a w r hr => by
    have h0 := hr x (by rw [ho]; simp [Op.operands])
    rw [hx] at h0
    obtain ⟨tg, h1, h2⟩ := h0.ptr_inv
    have h3 := hr y (by rw [ho]; simp [Op.operands])
    have h4 := h3.cells.list
    obtain ⟨c, el, fr, c1, c2, c3, c4⟩ := r.setRow (M := M) hT h1 hk hd h4 (by simpa using hn) hM
    have hst := run_storeCells_free P tg.b (off + tg.d) el fr (a.eval y).cells.toList 0 c w c1 c3 (by simpa using c2) (h4.oneC (List.all_eq_true.1 h1c))
    simp only [Nat.add_zero] at hst
    have hheap : (w.setRow tg.b (HH.setRange c.toList (off + tg.d) (a.eval y).cells.toList).toArray).heap[tg.b]? = some (.cells (HH.setRange c.toList (off + tg.d) (a.eval y).cells.toList).toArray el fr) := setRow_heap w tg.b c _ el fr c1
    obtain ⟨d1, d2⟩ := c4 (w.setRow tg.b (HH.setRange c.toList (off + tg.d) (a.eval y).cells.toList).toArray) rfl rfl rfl (by simp [World.setRow]) (fun b hb => by simp [World.setRow, Array.getElem?_modify, Ne.symm hb]) hheap
    refine ⟨p, undef, _, .inr ⟨?_, rfl⟩, d1.weaken (fun id t e ht => ht.elim (fun x => x) (fun hl => absurd (r.dom id t e).1 (by omega))), VRel.undef p, d2⟩
    cases hi : P.info? t with
    | none => rw [hi] at hs; simp at hs
    | some i =>
      rw [hi] at hs
      simp only [Option.map_some, Option.some.injEq] at hs
      have hsz : (a.eval y).cells.size = i.size := by rw [hs]; exact h3.cells.1.symm
      unfold execOp
      rw [ho]
      simp [Instr.storeAt, Instr.sureAddr, h2, storeVar, sizeOf, typeInfo, hi, hsz, hst]

end
end Go.HH

namespace Go.HH

section
variable {G : List (Nat × Nat)} {P : Program} {T M : Nat → Prop} {e : Env} {h : Heap} {o : Oper}

/-! Addresses. -/

/-- A field's place in cells. -/
def tfield (P : Program) (s : TypeId) (f : Nat) : Option (Nat × TypeId) :=
  match P.underlying s with
  | some (.struct fs) => match fs[f]? with
    | some fd => match P.info? fd.type with
      | some i => if i.size = 0 then none else some (fd.offset, fd.type)
      | none => none
    | none => none
  | _ => none

theorem HStep.fieldAddr {s : TypeId} {x : Operand} {f id off d : Nat} {ft : TypeId} (ho : o.op = .fieldAddr s x f) (hx : Opd.val e x = .pointer (some ⟨id, off, none⟩)) (hf : tfield P s f = some (d, ft)) :
    HStep G P o T M e h (.pointer (some ⟨id, off + d, none⟩)) h :=
  .of_pure fun p a hr => by
    have h0 := hr x (by rw [ho]; simp [Op.operands])
    rw [hx] at h0
    obtain ⟨t, h1, h2⟩ := h0.ptr_inv
    refine ⟨.pointer (some ⟨t.b, off + d + t.d, none⟩), .ptr h1, fun w => ?_⟩
    unfold tfield at hf
    split at hf
    · rename_i fs hu
      split at hf
      · rename_i fd hfd
        split at hf
        · rename_i i hi
          split at hf
          · cases hf
          · rename_i hz
            simp only [Option.some.injEq, Prod.mk.injEq] at hf
            obtain ⟨rfl, rfl⟩ := hf
            unfold execOp
            rw [ho]
            simp [Instr.fieldAt, run_underlying hu, hfd, Instr.sureAddr, h2, fieldPlace, sizeOf, typeInfo, hi, hz, addr_add]
            omega
        · cases hf
      · cases hf
    · cases hf

def telem (P : Program) (t : TypeId) : Option (Nat × TypeId) :=
  match P.underlying t with
  | some (.slice el) => (P.info? el).map fun i => (i.size, el)
  | _ => none

theorem VRel.slice_inv {p : Phi} {id off len : Nat} {v' : Value} (r : VRel p (.slice (some ⟨id, off, none⟩) len 0) v') (hl : 0 < len) :
    ∃ t cap, p id = some t ∧ len ≤ cap ∧ off + t.d + cap * t.esz ≤ t.n ∧ v' = .slice (some ⟨t.b, off + t.d, none⟩) len cap := by
  cases r with
  | slice e a b => exact ⟨_, _, e, a, b, rfl⟩
  | sliceEmpty => omega

theorem HStep.indexAddr {t el : TypeId} {x y : Operand} {id off len sz : Nat} {n : Int} {k : IntKind} (ho : o.op = .indexAddr t x y) (hx : Opd.val e x = .slice (some ⟨id, off, none⟩) len 0) (hy : Opd.val e y = .int k n)
    (ht : telem P t = some (sz, el)) (h0 : 0 ≤ n) (hn : n < len) : HStep G P o T M e h (.pointer (some ⟨id, off + n.toNat * sz, none⟩)) h :=
  .of_pure fun p a hr => by
    have h1 := hr x (by rw [ho]; simp [Op.operands])
    have h2 := hr y (by rw [ho]; simp [Op.operands])
    rw [hx] at h1
    rw [hy] at h2
    have h2' : a.eval y = .int k n := (Plain.int k n).eq h2
    obtain ⟨tg, cap, g1, g2, g3, g4⟩ := h1.slice_inv (by omega)
    refine ⟨.pointer (some ⟨tg.b, off + n.toNat * sz + tg.d, none⟩), .ptr g1, fun w => ?_⟩
    unfold telem at ht
    split at ht
    · rename_i hu
      rw [Option.map_eq_some_iff] at ht
      obtain ⟨i, hi, hs⟩ := ht
      simp only [Prod.mk.injEq] at hs
      obtain ⟨rfl, rfl⟩ := hs
      unfold execOp
      rw [ho]
      simp [Instr.indexAt, h2', asIntOf, run_underlying hu, g4, sizeOf, typeInfo, hi, h0, hn, addr_add]
      omega
    · cases ht

/-- An array behind a pointer: its length and its element's cells. -/
def tarr (P : Program) (t : TypeId) : Option (Nat × Nat × TypeId) :=
  match P.underlying t with
  | some (.array n el) => (P.info? el).map fun i => (n, i.size, el)
  | _ => none

theorem HStep.indexAddrArr {t el : TypeId} {x y : Operand} {id off len sz : Nat} {n : Int} {k : IntKind} (ho : o.op = .indexAddr t x y) (hx : Opd.val e x = .pointer (some ⟨id, off, none⟩)) (hy : Opd.val e y = .int k n)
    (ht : tarr P t = some (len, sz, el)) (h0 : 0 ≤ n) (hn : n < len) : HStep G P o T M e h (.pointer (some ⟨id, off + n.toNat * sz, none⟩)) h :=
  .of_pure fun p a hr => by
    have h1 := hr x (by rw [ho]; simp [Op.operands])
    have h2 := hr y (by rw [ho]; simp [Op.operands])
    rw [hx] at h1
    rw [hy] at h2
    have h2' : a.eval y = .int k n := (Plain.int k n).eq h2
    obtain ⟨tg, g1, g2⟩ := h1.ptr_inv
    refine ⟨.pointer (some ⟨tg.b, off + n.toNat * sz + tg.d, none⟩), .ptr g1, fun w => ?_⟩
    unfold tarr at ht
    split at ht
    · rename_i hu
      rw [Option.map_eq_some_iff] at ht
      obtain ⟨i, hi, hs⟩ := ht
      simp only [Prod.mk.injEq] at hs
      obtain ⟨rfl, rfl, rfl⟩ := hs
      unfold execOp
      rw [ho]
      simp [Instr.indexAt, h2', asIntOf, run_underlying hu, g2, Instr.sureAddr, sizeOf, typeInfo, hi, h0, hn, addr_add]
      omega
    · cases ht

theorem HStep.nilCheck {x : Operand} {a0 : Addr} (ho : o.op = .nilCheck x) (hx : Opd.val e x = .pointer (some a0)) : HStep G P o T M e h (.pointer (some a0)) h :=
  .of_pure fun p a hr => by
    have h1 := hr x (by rw [ho]; simp [Op.operands])
    rw [hx] at h1
    refine ⟨a.eval x, h1, fun w => ?_⟩
    generalize hq : a.eval x = u at h1
    cases h1 with
    | ptr e => unfold execOp; rw [ho]; simp only [hq]; rfl

/-! Numbers, texts, truth values. -/

def hBin (op : BinOp) (x y : Value) : Option Value :=
  match x, y with
  | .int k a, .int k' b =>
    match op with
    | .shl => if b < 0 then none else some (.int k (k.wrap (a * 2 ^ (min b.toNat k.bits))))
    | .shr => if b < 0 then none else some (.int k (a.fdiv (2 ^ (min b.toNat k.bits))))
    | .add => if k = k' then some (.int k (k.wrap (a + b))) else none
    | .sub => if k = k' then some (.int k (k.wrap (a - b))) else none
    | .mul => if k = k' then some (.int k (k.wrap (a * b))) else none
    | .quo => if k = k' ∧ b ≠ 0 then some (.int k (k.wrap (a.tdiv b))) else none
    | .rem => if k = k' ∧ b ≠ 0 then some (.int k (a.tmod b)) else none
    | .and => if k = k' then some (.int k (k.wrap (BitVec.ofInt k.bits a &&& BitVec.ofInt k.bits b).toNat)) else none
    | .eql => if k = k' then some (.bool (a == b)) else none
    | .neq => if k = k' then some (.bool (a != b)) else none
    | .lss => if k = k' then some (.bool (a < b)) else none
    | .leq => if k = k' then some (.bool (a ≤ b)) else none
    | .gtr => if k = k' then some (.bool (a > b)) else none
    | .geq => if k = k' then some (.bool (a ≥ b)) else none
    | _ => none
  | .string a, .string b =>
    match op with
    | .add => if (a.size + b.size : Nat) ≤ 9223372036854775807 then some (.string (a ++ b)) else none
    | .eql => some (.bool (a.toList == b.toList))
    | .neq => some (.bool (!(a.toList == b.toList)))
    | .lss => some (.bool (Op.bytesLess a.toList b.toList))
    | _ => none
  | _, _ => none

theorem hBin_plain {op : BinOp} {x y v : Value} (hv : hBin op x y = some v) : Plain x ∧ Plain y ∧ Plain v := by
  unfold hBin at hv
  split at hv
  · rename_i k a k' b
    refine ⟨.int _ _, .int _ _, ?_⟩
    cases op <;> simp only at hv <;> (try split at hv) <;> simp only [Option.some.injEq, reduceCtorEq] at hv <;> subst hv <;> first | exact .int _ _ | exact .bool _
  · rename_i a b
    refine ⟨.string _, .string _, ?_⟩
    cases op <;> simp only at hv <;> (try split at hv) <;> simp only [Option.some.injEq, reduceCtorEq] at hv <;> subst hv <;> first | exact .string _ | exact .bool _
  · cases hv

theorem HStep.bin {op : BinOp} {t t' : TypeId} {x y : Operand} {v : Value} (ho : o.op = .binOp op t x y t') (hv : hBin op (Opd.val e x) (Opd.val e y) = some v) : HStep G P o T M e h v h := by
  obtain ⟨hx, hy, hp⟩ := hBin_plain hv
  refine .of_plain (by rw [ho]; intro cs b c; cases c) ?_ hp ?_
  · intro z hz
    rw [ho] at hz
    simp [Op.operands] at hz
    rcases hz with rfl | rfl
    · exact hx
    · exact hy
  · intro w
    unfold execOp
    rw [ho]
    unfold hBin at hv
    generalize hxe : Opd.val e x = u at *
    generalize hye : Opd.val e y = u' at *
    split at hv
    · rename_i k a k' b
      cases op <;> simp only at hv <;> (try split at hv) <;> simp only [Option.some.injEq, reduceCtorEq] at hv <;> subst hv <;> rename_i hc <;>
        first
          | (obtain ⟨rfl, hb⟩ := hc; simp [go_sem, hxe, hye, Op.intArith, Op.intDiv, Op.intBits, Op.shift, Sem.run, hb]; done)
          | (subst hc; simp [go_sem, hxe, hye, Op.intArith, Op.intDiv, Op.intBits, Op.shift, Sem.run]; done)
          | (simp [go_sem, hxe, hye, Op.intArith, Op.intDiv, Op.intBits, Op.shift, Sem.run, hc]; done)
    · rename_i a b
      cases op <;> simp only at hv <;> (try split at hv) <;> simp only [Option.some.injEq, reduceCtorEq] at hv <;> subst hv
      · rename_i hc
        have : ¬ (((a.size + b.size : Nat) : Int) > IntKind.i64.max) := by simp [IntKind.max, IntKind.signed, IntKind.bits]; omega
        simp only [execOp, hxe, hye, eqGuard_at_string, binOp, Op.stringOp, this, if_false]
        rfl
      all_goals simp [go_sem, hxe, hye, binOp, Op.stringOp, Sem.run]
    · cases hv

theorem HStep.boolEq {t t' : TypeId} {x y : Operand} {b c : Bool} (ho : o.op = .binOp .eql t x y t') (hx : Opd.val e x = .bool b) (hy : Opd.val e y = .bool c) (ht : P.underlying t = some .bool) : HStep G P o T M e h (.bool (b == c)) h := by
  refine .of_plain (by rw [ho]; intro cs b c; cases c) ?_ (.bool _) ?_
  · intro z hz
    rw [ho] at hz
    simp [Op.operands] at hz
    rcases hz with rfl | rfl
    · rw [hx]; exact .bool _
    · rw [hy]; exact .bool _
  · intro w
    unfold execOp
    rw [ho]
    have hq : (Op.equal t (.bool b) (.bool c)).run P w = .ok (b == c) w := by
      unfold Op.equal Op.maxDepth
      rw [Op.equalIn]
      simp [run_underlying ht]
    simp only [execOp, hx, hy, eqGuard_at_bool, binOp]
    simp [hq]

theorem HStep.boolNe {t t' : TypeId} {x y : Operand} {b c : Bool} (ho : o.op = .binOp .neq t x y t') (hx : Opd.val e x = .bool b) (hy : Opd.val e y = .bool c) (ht : P.underlying t = some .bool) : HStep G P o T M e h (.bool (b != c)) h := by
  refine .of_plain (by rw [ho]; intro cs b c; cases c) ?_ (.bool _) ?_
  · intro z hz
    rw [ho] at hz
    simp [Op.operands] at hz
    rcases hz with rfl | rfl
    · rw [hx]; exact .bool _
    · rw [hy]; exact .bool _
  · intro w
    unfold execOp
    rw [ho]
    have hq : (Op.equal t (.bool b) (.bool c)).run P w = .ok (b == c) w := by
      unfold Op.equal Op.maxDepth
      rw [Op.equalIn]
      simp [run_underlying ht]
    simp only [execOp, hx, hy, eqGuard_at_bool, binOp]
    simp [hq, bne]

def hUn (op : UnOp) (x : Value) : Option Value :=
  match op, x with
  | .not, .bool b => some (.bool (!b))
  | .neg, .int k n => some (.int k (k.wrap (0 - n)))
  | _, _ => none

theorem HStep.un {op : UnOp} {t : TypeId} {x : Operand} {v : Value} (ho : o.op = .unOp op t x) (hv : hUn op (Opd.val e x) = some v) : HStep G P o T M e h v h := by
  have hp : Plain (Opd.val e x) ∧ Plain v := by
    unfold hUn at hv
    split at hv
    · rename_i e1; rw [e1]; cases hv; exact ⟨.bool _, .bool _⟩
    · rename_i e1; rw [e1]; cases hv; exact ⟨.int _ _, .int _ _⟩
    · cases hv
  refine .of_plain (by rw [ho]; intro cs b c; cases c) ?_ hp.2 ?_
  · intro z hz
    rw [ho] at hz
    simp [Op.operands] at hz
    subst hz
    exact hp.1
  · intro w
    unfold execOp
    rw [ho]
    unfold hUn at hv
    split at hv
    · rename_i e1; cases hv; simp [e1, Op.unary, Sem.run]
    · rename_i e1; cases hv; simp [e1, Op.unary, Op.intArith, Sem.run]
    · cases hv

/-! Parts of values. -/

theorem HStep.extract {x : Operand} {i : Nat} {vs : Array Value} {v : Value} (ho : o.op = .extract x i) (hx : Opd.val e x = .tuple vs) (hv : vs[i]? = some v) : HStep G P o T M e h v h :=
  .of_pure fun p a hr => by
    have h1 := hr x (by rw [ho]; simp [Op.operands])
    rw [hx] at h1
    generalize hq : a.eval x = u at h1
    cases h1 with
    | @tuple _ c2 e1 i1 =>
      have hi := (Array.getElem?_eq_some_iff.1 hv)
      obtain ⟨hi, rfl⟩ := hi
      have hi' : i < c2.size := by rw [← e1]; exact hi
      refine ⟨c2[i], i1 i hi hi', fun w => ?_⟩
      unfold execOp
      rw [ho]
      simp [hq, Instr.extract, hi', Sem.run]

end
end Go.HH

namespace Go.HH

/-! Filling. -/

def hFill (place : Nat → Option (Nat × Nat)) (cells : List Value) : List (Nat × Value) → Option (List Value)
  | [] => some cells
  | (i, v) :: rest =>
    match place i with
    | none => none
    | some (off, size) => if v.cells.size ≠ size ∨ cells.length < off + v.cells.size then none else hFill place (setRange cells off v.cells.toList) rest

theorem foldl_set : ∀ (l : List Value) (off j : Nat) (cells : Array Value), off + j + l.length ≤ cells.size →
    ((l.zipIdx j).foldl (fun (cs : Array Value) (x : Value × Nat) => cs.setIfInBounds (off + x.2) x.1) cells).toList = setRange cells.toList (off + j) l
  | [], off, j, cells, _ => by simp [setRange]
  | v :: l, off, j, cells, h => by
    simp only [List.zipIdx_cons, List.foldl_cons]
    have ih := foldl_set l off (j + 1) (cells.setIfInBounds (off + j) v) (by simp at h ⊢; omega)
    rw [ih]
    have e := list_seg_step cells.toList (off + j) v l (by simp at h ⊢; omega)
    simpa [setRange, Array.toList_setIfInBounds, Nat.add_assoc] using e

theorem fill_rel {p : Phi} (place : Nat → Option (Nat × Nat)) : ∀ (l l' : List (Nat × Value)) (cells : List Value) (cells' : Array Value) (out : List Value), LRel p cells cells'.toList →
    l.length = l'.length → (∀ (i : Nat) (x : Nat × Value), l[i]? = some x → ∃ x', l'[i]? = some x' ∧ x'.1 = x.1 ∧ VRel p x.2 x'.2) → hFill place cells l = some out →
    ∃ out' : Array Value, Instr.fill place cells' l' = some out' ∧ LRel p out out'.toList
  | [], [], cells, cells', out, hr, _, _, ho => by
    simp only [hFill, Option.some.injEq] at ho
    subst ho
    exact ⟨cells', rfl, hr⟩
  | [], _ :: _, _, _, _, _, hl, _, _ => by simp at hl
  | _ :: _, [], _, _, _, _, hl, _, _ => by simp at hl
  | (i, v) :: l, (i', v') :: l', cells, cells', out, hr, hl, hx, ho => by
    obtain ⟨x', e1, e2, e3⟩ := hx 0 (i, v) rfl
    simp only [List.getElem?_cons_zero, Option.some.injEq] at e1
    subst e1
    simp only at e2 e3
    subst e2
    have hc := e3.cells
    unfold hFill at ho
    unfold Instr.fill
    split at ho
    · cases ho
    · rename_i off size hp
      rw [hp]
      simp only
      split at ho
      · cases ho
      · rename_i hn
        simp only [not_or, ne_eq, Decidable.not_not, Nat.not_lt] at hn
        have hlen : cells.length = cells'.size := by simpa using hr.1
        rw [if_neg (by rw [← hc.1]; simp; omega)]
        have hf := foldl_set v'.cells.toList off 0 cells' (by simp [← hc.1]; omega)
        simp only [Nat.add_zero] at hf
        have hf' : (v'.cells.zipIdx.foldl (fun cs (x : Value × Nat) => cs.setIfInBounds (off + x.2) x.1) cells').toList = setRange cells'.toList off v'.cells.toList := by
          rw [← hf, ← Array.foldl_toList, Array.toList_zipIdx]
        refine fill_rel place l l' _ _ out ?_ (by simpa using hl) (fun j x hj => hx (j + 1) x (by simpa using hj)) ho
        have := hr.setRange (off := off) hc.list
        rw [← hf'] at this
        exact this

section
variable {G : List (Nat × Nat)} {P : Program} {T M : Nat → Prop} {e : Env} {h : Heap} {o : Oper}

theorem parts_rel {p : Phi} {a : Act} (ps : Array (Nat × Operand)) (hr : ∀ x ∈ ps, VRel p (Opd.val e x.2) (a.eval x.2)) :
    (ps.map fun (i, x) => (i, Opd.val e x)).toList.length = (ps.map fun (i, x) => (i, a.eval x)).toList.length ∧
    ∀ (i : Nat) (x : Nat × Value), (ps.map fun (i, x) => (i, Opd.val e x)).toList[i]? = some x → ∃ x', (ps.map fun (i, x) => (i, a.eval x)).toList[i]? = some x' ∧ x'.1 = x.1 ∧ VRel p x.2 x'.2 := by
  refine ⟨by simp, fun i x hx => ?_⟩
  simp only [Array.toList_map, List.getElem?_map, Array.getElem?_toList, Option.map_eq_some_iff] at hx ⊢
  obtain ⟨y, hy, rfl⟩ := hx
  exact ⟨(y.1, a.eval y.2), ⟨y, hy, rfl⟩, rfl, hr y (Array.mem_of_getElem? hy)⟩

def tplaces (P : Program) (t : TypeId) : Option (List (Nat × Nat)) :=
  match P.underlying t with
  | some (.struct fs) => fs.toList.mapM fun f => (P.info? f.type).map fun i => (f.offset, i.size)
  | _ => none

theorem mapM_places {w : World} (fs : List Field) : ∀ (pl : List (Nat × Nat)), fs.mapM (fun f => (P.info? f.type).map fun i => (f.offset, i.size)) = some pl →
    ((fs.mapM fun f => do pure (f.offset, ← sizeOf f.type) : Sem (List (Nat × Nat)))).run P w = .ok pl w := by
  induction fs with
  | nil => intro pl hp; simp at hp; subst hp; rfl
  | cons f fs ih =>
    intro pl hp
    simp only [List.mapM_cons, Option.bind_eq_bind, Option.bind_eq_some_iff, Option.map_eq_some_iff, Option.pure_def, Option.some.injEq] at hp
    obtain ⟨x, ⟨i, hi, rfl⟩, pl', hpl, rfl⟩ := hp
    simp [List.mapM_cons, sizeOf, typeInfo, hi]
    have := ih pl' hpl
    simp [sizeOf, typeInfo] at this
    rw [this]
    simp

theorem HStep.build {t : TypeId} {ps : Array (Nat × Operand)} {pl : List (Nat × Nat)} {z out : List Value} (ho : o.op = .build t ps) (hpl : tplaces P t = some pl) (hz : tzero P t = some z) (hzp : ∀ v ∈ z, plainB v = true)
    (hf : hFill (pl[·]?) z ((ps.map fun (i, x) => (i, Opd.val e x)).toList) = some out) : HStep G P o T M e h (.agg out.toArray) h :=
  .of_pure fun p a hr => by
    have hr' : ∀ x ∈ ps, VRel p (Opd.val e x.2) (a.eval x.2) := fun x hx => hr x.2 (by rw [ho]; simp [Op.operands]; exact ⟨x.1, by simpa using hx⟩)
    obtain ⟨p1, p2⟩ := parts_rel (e := e) (a := a) ps hr'
    unfold tzero at hz
    cases hi : P.info? t with
    | none => rw [hi] at hz; simp at hz
    | some i =>
      rw [hi] at hz
      simp only [Option.bind_some, Option.map_eq_some_iff] at hz
      obtain ⟨zv, hz1, rfl⟩ := hz
      obtain ⟨out', f1, f2⟩ := fill_rel (p := p) (pl[·]?) _ _ _ zv.cells out ⟨rfl, fun j u hu => ⟨u, hu, (plainB_spec (hzp u (List.mem_of_getElem? hu))).rel⟩⟩ p1 p2 hf
      refine ⟨.agg out', ?_, fun w => ?_⟩
      · have := f2.array
        simp only [Array.toArray_toList] at this
        exact .agg this.1 this.2
      · unfold tplaces at hpl
        split at hpl
        · rename_i fs hu
          have hm := mapM_places (P := P) (w := w) fs.toList pl hpl
          unfold execOp
          rw [ho]
          have hm' : ((fs.mapM fun f => do pure (f.offset, ← sizeOf f.type) : Sem (Array (Nat × Nat)))).run P w = .ok pl.toArray w := by
            rw [Array.mapM_eq_mapM_toList]
            simp only [Sem.run_map]
            rw [hm]
            rfl
          simp only [Instr.build, zeroValue, typeInfo, Sem.run_bind, program, Sem.run, Result.andThen_ok, hi, hz1, run_underlying hu, hm', List.getElem?_toArray, f1, Sem.run_pure]
        · cases hpl

theorem HStep.buildArr {t el : TypeId} {len sz : Nat} {ps : Array (Nat × Operand)} {z out : List Value} (ho : o.op = .build t ps) (hta : tarr P t = some (len, sz, el)) (hz : tzero P t = some z) (hzp : ∀ v ∈ z, plainB v = true)
    (hf : hFill (fun i => some (i * sz, sz)) z ((ps.map fun (i, x) => (i, Opd.val e x)).toList) = some out) : HStep G P o T M e h (.agg out.toArray) h :=
  .of_pure fun p a hr => by
    have hr' : ∀ x ∈ ps, VRel p (Opd.val e x.2) (a.eval x.2) := fun x hx => hr x.2 (by rw [ho]; simp [Op.operands]; exact ⟨x.1, by simpa using hx⟩)
    obtain ⟨p1, p2⟩ := parts_rel (e := e) (a := a) ps hr'
    unfold tzero at hz
    cases hi : P.info? t with
    | none => rw [hi] at hz; simp at hz
    | some i =>
      rw [hi] at hz
      simp only [Option.bind_some, Option.map_eq_some_iff] at hz
      obtain ⟨zv, hz1, rfl⟩ := hz
      obtain ⟨out', f1, f2⟩ := fill_rel (p := p) (fun i => some (i * sz, sz)) _ _ _ zv.cells out ⟨rfl, fun j u hu => ⟨u, hu, (plainB_spec (hzp u (List.mem_of_getElem? hu))).rel⟩⟩ p1 p2 hf
      refine ⟨.agg out', ?_, fun w => ?_⟩
      · have := f2.array
        simp only [Array.toArray_toList] at this
        exact .agg this.1 this.2
      · unfold tarr at hta
        split at hta
        · rename_i hu
          rw [Option.map_eq_some_iff] at hta
          obtain ⟨i2, hi2, hs⟩ := hta
          simp only [Prod.mk.injEq] at hs
          obtain ⟨rfl, rfl, rfl⟩ := hs
          unfold execOp
          rw [ho]
          simp only [Instr.build, zeroValue, typeInfo, Sem.run_bind, program, Sem.run, Result.andThen_ok, hi, hz1, run_underlying hu, sizeOf, hi2, f1, Sem.run_pure]
        · cases hta

theorem zeros_rel {p : Phi} {zv : Value} {n k : Nat} (hzp : ∀ v ∈ zv.cells.toList, plainB v = true) (hk : zv.cells.size = k) (hn : ∀ m, m < n → 0 < k) :
    LRel p ((List.range n).map fun i => zv.cells.toList.getD (i % zv.cells.toList.length) undef) ((Array.range n).map (zv.cells[· % zv.cells.size]!)).toList := by
  refine ⟨by simp, fun j u hj => ?_⟩
  simp only [List.getElem?_map, Option.map_eq_some_iff, Array.toList_map, Array.toList_range, Array.length_toList] at hj ⊢
  obtain ⟨m, hm, rfl⟩ := hj
  refine ⟨zv.cells[m % zv.cells.size]!, ⟨m, hm, rfl⟩, ?_⟩
  have hmlt := List.mem_range.1 (List.mem_of_getElem? hm)
  have h0 := hn m hmlt
  rw [← hk] at h0
  have hlt := Nat.mod_lt m h0
  rw [getElem!_def]
  simp only [List.getD_eq_getElem?_getD, Array.getElem?_toList]
  rw [Array.getElem?_eq_getElem hlt]
  exact (plainB_spec (hzp _ (by simp))).rel

theorem HStep.buildSlice {t el : TypeId} {len sz : Nat} {ps : Array (Nat × Operand)} {z out : List Value} (ho : o.op = .buildSlice t len ps) (ht : telem P t = some (sz, el)) (hz : tzero P el = some z) (hzp : ∀ v ∈ z, plainB v = true)
    (hzs : z.length = sz) (hlen : len * sz ≤ 2 ^ 24) (hf : hFill (fun i => some (i * sz, sz)) ((List.range (len * sz)).map fun i => z.getD (i % z.length) undef) ((ps.map fun (i, x) => (i, Opd.val e x)).toList) = some out) (hol : out.length = len * sz) :
    HStep G P o T M e h (.slice (some ⟨h.length, 0, none⟩) len 0) (h ++ [⟨out, sz, .rw⟩]) :=
  .of_run fun p a w r hr => by
    have hr' : ∀ x ∈ ps, VRel p (Opd.val e x.2) (a.eval x.2) := fun x hx => hr x.2 (by rw [ho]; simp [Op.operands]; exact ⟨x.1, by simpa using hx⟩)
    obtain ⟨p1, p2⟩ := parts_rel (e := e) (a := a) ps hr'
    unfold telem at ht
    split at ht
    · rename_i hu
      rw [Option.map_eq_some_iff] at ht
      obtain ⟨i, hi, hs⟩ := ht
      simp only [Prod.mk.injEq] at hs
      obtain ⟨rfl, rfl⟩ := hs
      unfold tzero at hz
      rw [hi] at hz
      simp only [Option.bind_some, Option.map_eq_some_iff] at hz
      obtain ⟨zv, hz1, rfl⟩ := hz
      obtain ⟨out', f1, f2⟩ := fill_rel (p := p) (fun j => some (j * i.size, i.size)) _ _ _ ((Array.range (len * i.size)).map (zv.cells[· % zv.cells.size]!)) out (zeros_rel (k := i.size) hzp (by simpa using hzs) (fun m hm => by rcases Nat.eq_zero_or_pos i.size with z | z; (rw [z] at hm; simp at hm); exact z)) p1 p2 hf
      obtain ⟨h1, h2⟩ := r.push' (M := M) i.size (by assumption) f2
      · refine ⟨_, .slice (some ⟨w.heap.size, 0, none⟩) len len, _, .inl ?_, h1, ?_, h2⟩
        · unfold execOp
          rw [ho]
          by_cases h0 : len * i.size = 0
          · have e0 : (Array.range (len * i.size)).map (zv.cells[· % zv.cells.size]!) = #[] := by rw [h0]; simp
            rw [e0] at f1
            simp only [Instr.buildSlice, Sem.run_bind, run_underlying hu, Result.andThen_ok, sizeOf, typeInfo, program, Sem.run, hi, Sem.run_pure, h0, gt_iff_lt]
            simp at f1
            simp [Array.range_zero', f1, newRow, newObj, Sem.run]
          · have hn : ¬ (2 ^ 24 < len * i.size) := by omega
            simp only [Instr.buildSlice, Sem.run_bind, run_underlying hu, Result.andThen_ok, sizeOf, typeInfo, program, Sem.run, hi, Sem.run_pure, h0, gt_iff_lt, hn, if_false, zeroValue, hz1]
            simp at f1
            simp [f1, newRow, newObj, Sem.run]
        · refine VRel.slice (t := ⟨w.heap.size, 0, i.size, out'.size⟩) phiPush_same (Nat.le_refl _) ?_
          have := f2.1
          simp only [Array.length_toList] at this
          simp
          omega
    · cases ht

end
end Go.HH

namespace Go.HH

section
variable {G : List (Nat × Nat)} {P : Program} {T M : Nat → Prop} {e : Env} {h : Heap} {o : Oper}

theorem HStep.of_pureH {v : Value}
    (hr : ∀ (p : Phi) (a : Act) (w : World), HRelT G T p h w → (∀ x ∈ o.op.operands, VRel p (Opd.val e x) (a.eval x)) → ∃ v', VRel p v v' ∧ ∀ w, (execOp a.eval o).run P w = .ok (.value v') w) : HStep G P o T M e h v h :=
  .of_run fun p a w r ho => by
    obtain ⟨v', h1, h2⟩ := hr p a w r ho
    exact ⟨p, v', w, .inl (h2 w), r.weaken (fun id t e ht => ht.elim (fun x => x) (fun hl => absurd (r.dom id t e).1 (by omega))), h1, Ext.refl ..⟩

theorem VRel.slice_any {p : Phi} {a0 : Option Addr} {len hc : Nat} {v' : Value} (r : VRel p (.slice a0 len hc) v') : ∃ a1 cap, v' = .slice a1 len cap ∧ (a0 = none → a1 = none ∧ cap = 0) ∧ len ≤ cap ∧ (a1 = none → a0 = none) := by
  cases r with
  | sliceNil => exact ⟨none, 0, rfl, fun _ => ⟨rfl, rfl⟩, Nat.le_refl _, fun _ => rfl⟩
  | slice e a b => exact ⟨_, _, rfl, fun c => (by cases c), a, fun c => (by cases c)⟩
  | sliceEmpty => exact ⟨_, _, rfl, fun c => (by cases c), Nat.le_refl _, fun c => (by cases c)⟩

/-! Lengths. -/

theorem HStep.lenSlice {t : TypeId} {x : Operand} {a0 : Option Addr} {len hc : Nat} (ho : o.op = .call { callee := .builtin .len, args := #[x], argTypes := #[t] }) (hx : Opd.val e x = .slice a0 len hc) (ht : (telem P t).isSome = true) :
    HStep G P o T M e h (.int .i64 len) h :=
  .of_pure fun p a hr => by
    have h1 := hr x (by rw [ho]; simp [Op.operands, Call.operands])
    rw [hx] at h1
    obtain ⟨a1, cap, h2, _⟩ := h1.slice_any
    refine ⟨.int .i64 len, .int _ _, fun w => ?_⟩
    unfold telem at ht
    split at ht
    · rename_i hu
      unfold execOp
      rw [ho]
      simp [resolve, invoke, builtin, Builtin.len_, h2, run_underlying hu, goInt]
    · cases ht

theorem HStep.lenString {t : TypeId} {x : Operand} {s : ByteArray} (ho : o.op = .call { callee := .builtin .len, args := #[x], argTypes := #[t] }) (hx : Opd.val e x = .string s) (ht : P.underlying t = some .string) :
    HStep G P o T M e h (.int .i64 s.size) h :=
  .of_pure fun p a hr => by
    have h1 := hr x (by rw [ho]; simp [Op.operands, Call.operands])
    rw [hx] at h1
    have h2 := (Plain.string s).eq h1
    refine ⟨.int .i64 s.size, .int _ _, fun w => ?_⟩
    unfold execOp
    rw [ho]
    simp [resolve, invoke, builtin, Builtin.len_, h2, run_underlying ht, goInt]

theorem HStep.max2 {t : TypeId} {x y : Operand} {k : IntKind} {m n : Int} {ats : Array TypeId} (ho : o.op = .call { callee := .builtin .max, args := #[x, y], argTypes := ats }) (hx : Opd.val e x = .int k m) (hy : Opd.val e y = .int k n) (_ht : t = t) :
    HStep G P o T M e h (.int k (if n > m then n else m)) h := by
  refine .of_plain (by rw [ho]; intro cs b c; cases c) ?_ (.int _ _) ?_
  · intro z hz
    rw [ho] at hz
    simp [Op.operands, Call.operands] at hz
    rcases hz with rfl | rfl
    · rw [hx]; exact .int _ _
    · rw [hy]; exact .int _ _
  · intro w
    unfold execOp
    rw [ho]
    simp [resolve, invoke, builtin, Builtin.max_, Builtin.max2, hx, hy]

theorem HStep.min2 {t : TypeId} {x y : Operand} {k : IntKind} {m n : Int} {ats : Array TypeId} (ho : o.op = .call { callee := .builtin .min, args := #[x, y], argTypes := ats }) (hx : Opd.val e x = .int k m) (hy : Opd.val e y = .int k n) (_ht : t = t) :
    HStep G P o T M e h (.int k (if n < m then n else m)) h := by
  refine .of_plain (by rw [ho]; intro cs b c; cases c) ?_ (.int _ _) ?_
  · intro z hz
    rw [ho] at hz
    simp [Op.operands, Call.operands] at hz
    rcases hz with rfl | rfl
    · rw [hx]; exact .int _ _
    · rw [hy]; exact .int _ _
  · intro w
    unfold execOp
    rw [ho]
    simp [resolve, invoke, builtin, Builtin.min_, Builtin.min2, hx, hy]

theorem HStep.max3 {x y z : Operand} {k : IntKind} {m n c : Int} {ats : Array TypeId} (ho : o.op = .call { callee := .builtin .max, args := #[x, y, z], argTypes := ats }) (hx : Opd.val e x = .int k m) (hy : Opd.val e y = .int k n) (hz : Opd.val e z = .int k c) :
    HStep G P o T M e h (.int k (if c > (if n > m then n else m) then c else (if n > m then n else m))) h := by
  refine .of_plain (by rw [ho]; intro cs b c; cases c) ?_ (.int _ _) ?_
  · intro u hu
    rw [ho] at hu
    simp [Op.operands, Call.operands] at hu
    rcases hu with rfl | rfl | rfl
    · rw [hx]; exact .int _ _
    · rw [hy]; exact .int _ _
    · rw [hz]; exact .int _ _
  · intro w
    unfold execOp
    rw [ho]
    simp [resolve, invoke, builtin, Builtin.max_, Builtin.max2, hx, hy, hz]

/-! Arrays. -/

theorem VRel.agg_inv {p : Phi} {c : Array Value} {v' : Value} (r : VRel p (.agg c) v') : ∃ c', v' = .agg c' ∧ ARel p c c' := by
  cases r with
  | agg e i => exact ⟨_, rfl, e, i⟩

theorem HStep.indexArr {t el : TypeId} {x y : Operand} {cs : Array Value} {n : Int} {k : IntKind} {len : Nat} {v : Value} (ho : o.op = .index t x y) (hx : Opd.val e x = .agg cs) (hy : Opd.val e y = .int k n)
    (ht : tarr P t = some (len, 1, el)) (hl : tload P el = some none) (h0 : 0 ≤ n) (hn : n < len) (hv : cs[n.toNat]? = some v) : HStep G P o T M e h v h :=
  .of_pure fun p a hr => by
    have h1 := hr x (by rw [ho]; simp [Op.operands])
    have h2 := hr y (by rw [ho]; simp [Op.operands])
    rw [hx] at h1
    rw [hy] at h2
    have h2' : a.eval y = .int k n := (Plain.int k n).eq h2
    obtain ⟨cs', h1', hsz, hel⟩ := h1.agg_inv
    have hlt := (Array.getElem?_eq_some_iff.1 hv).1
    have hlt' : n.toNat < cs'.size := by omega
    have hv' : cs[n.toNat] = v := (Array.getElem?_eq_some_iff.1 hv).2
    refine ⟨cs'[n.toNat], by rw [← hv']; exact hel _ hlt hlt', fun w => ?_⟩
    have hagg : (isAgg el).run P w = .ok false w := by
      unfold tload at hl
      cases hu : P.underlying el with
      | none => rw [hu] at hl; cases hl
      | some d => rw [hu] at hl; cases d <;> simp [isAgg, run_underlying hu] at hl ⊢ <;> cases hi : P.info? el <;> rw [hi] at hl <;> simp at hl
    unfold tarr at ht
    split at ht
    · rename_i hu
      rw [Option.map_eq_some_iff] at ht
      obtain ⟨i, hi, hs⟩ := ht
      simp only [Prod.mk.injEq] at hs
      obtain ⟨rfl, hs1, rfl⟩ := hs
      unfold execOp
      rw [ho]
      simp [Instr.index, h2', h1', asIntOf, run_underlying hu, sizeOf, typeInfo, hi, hs1, h0, hn, part, hagg, hlt']
    · cases ht

/-! Texts. -/

theorem HStep.indexString {t : TypeId} {x y : Operand} {s : ByteArray} {n : Int} {k : IntKind} {b : UInt8} (ho : o.op = .index t x y) (hx : Opd.val e x = .string s) (hy : Opd.val e y = .int k n) (ht : P.underlying t = some .string) (h0 : 0 ≤ n) (hb : s[n.toNat]? = some b) :
    HStep G P o T M e h (.int .u8 b.toNat) h := by
  refine .of_plain (by rw [ho]; intro cs b c; cases c) ?_ (.int _ _) ?_
  · intro z hz
    rw [ho] at hz
    simp [Op.operands] at hz
    rcases hz with rfl | rfl
    · rw [hx]; exact .string _
    · rw [hy]; exact .int _ _
  · intro w
    unfold execOp
    rw [ho]
    simp [Instr.index, hx, hy, asIntOf, run_underlying ht, h0, hb]

theorem HStep.convInt {s d : TypeId} {x : Operand} {k k' : IntKind} {n : Int} (ho : o.op = .convert s d x) (hx : Opd.val e x = .int k n) (hs : (P.underlying s).isSome = true) (ht : P.underlying d = some (.int k')) :
    HStep G P o T M e h (.int k' (k'.wrap n)) h := by
  refine .of_plain (by rw [ho]; intro cs b c; cases c) ?_ (.int _ _) ?_
  · intro z hz
    rw [ho] at hz
    simp [Op.operands] at hz
    subst hz
    rw [hx]; exact .int _ _
  · intro w
    obtain ⟨ds, hds⟩ := Option.isSome_iff_exists.1 hs
    unfold execOp
    rw [ho]
    simp [convert, hx, run_underlying hds, run_underlying ht, Conv.intToInt]

/-- A bound of a slice expression: nothing, or a number. -/
def bnd (e : Env) : Option Operand → Nat → Option Nat
  | none, d => some d
  | some x, _ => match Opd.val e x with
    | .int _ n => if 0 ≤ n then some n.toNat else none
    | _ => none

theorem bnd_rel {p : Phi} {a : Act} {lo : Option Operand} {d m y : Nat} (hr : ∀ x, lo = some x → VRel p (Opd.val e x) (a.eval x)) (hb : bnd e lo d = some m) (hy : m ≤ y) (code : BoundsCode) :
    ∀ w, (match (lo.map a.eval) with | some v => Instr.sliceBound v y code | none => (pure d : Sem Nat)).run P w = .ok m w := by
  intro w
  cases lo with
  | none => simp only [bnd, Option.some.injEq] at hb; subst hb; rfl
  | some x =>
    have h1 := hr x rfl
    simp only [bnd] at hb
    cases hn : Opd.val e x <;> rw [hn] at hb h1 <;> simp only [reduceCtorEq] at hb
    rename_i k n
    have h2 := (Plain.int k n).eq h1
    split at hb
    · rename_i h0
      simp only [Option.some.injEq] at hb
      subst hb
      have : n ≤ y := by omega
      simp [h2, Instr.sliceBound, asIntOf, h0, this]
    · cases hb

theorem HStep.sliceString {t : TypeId} {x : Operand} {lo hi : Option Operand} {s : ByteArray} {l m : Nat} (ho : o.op = .slice t x lo hi none) (hx : Opd.val e x = .string s) (ht : P.underlying t = some .string)
    (hh : bnd e hi s.size = some m) (hl : bnd e lo 0 = some l) (hm : m ≤ s.size) (hlm : l ≤ m) : HStep G P o T M e h (.string (s.extract l m)) h :=
  .of_pure fun p a hr => by
    have h1 := hr x (by rw [ho]; simp [Op.operands])
    rw [hx] at h1
    have h2 := (Plain.string s).eq h1
    have r1 : ∀ y, hi = some y → VRel p (Opd.val e y) (a.eval y) := fun y hy => hr y (by rw [ho, hy]; simp [Op.operands])
    have r2 : ∀ y, lo = some y → VRel p (Opd.val e y) (a.eval y) := fun y hy => hr y (by rw [ho, hy]; simp [Op.operands])
    refine ⟨.string (s.extract l m), .string _, fun w => ?_⟩
    have b1 := bnd_rel (P := P) r1 hh hm .sliceAlen w
    have b2 := bnd_rel (P := P) r2 hl hlm .sliceB w
    have hsb : (Instr.sliceBounds false s.size s.size (lo.map a.eval) (hi.map a.eval) none).run P w = .ok (l, m, s.size) w := by
      unfold Instr.sliceBounds
      cases hi with
      | none =>
        simp only [bnd, Option.some.injEq] at hh
        subst hh
        cases lo <;> simp at b2 ⊢ <;> simp [b2]
      | some y => cases lo <;> simp at b1 b2 ⊢ <;> simp [b1, b2]
    unfold execOp
    rw [ho]
    simp [Instr.sliceAt, run_underlying ht, Instr.slice, h2, hsb]

theorem HStep.sliceSlice {t el : TypeId} {x : Operand} {lo hi : Option Operand} {id off len sz l m : Nat} {k : Blk} (ho : o.op = .slice t x lo hi none) (hx : Opd.val e x = .slice (some ⟨id, off, none⟩) len 0) (ht : telem P t = some (sz, el)) (hk : h[id]? = some k) (hks : k.esz = sz)
    (hh : bnd e hi len = some m) (hl : bnd e lo 0 = some l) (hm : m ≤ len) (hlm : l ≤ m) : HStep G P o T M e h (.slice (some ⟨id, off + l * sz, none⟩) (m - l) 0) h :=
  .of_pureH fun p a _ hrel hr => by
    have h1 := hr x (by rw [ho]; simp [Op.operands])
    rw [hx] at h1
    have r1 : ∀ y, hi = some y → VRel p (Opd.val e y) (a.eval y) := fun y hy => hr y (by rw [ho, hy]; simp [Op.operands])
    have r2 : ∀ y, lo = some y → VRel p (Opd.val e y) (a.eval y) := fun y hy => hr y (by rw [ho, hy]; simp [Op.operands])
    unfold telem at ht
    split at ht
    · rename_i hu
      rw [Option.map_eq_some_iff] at ht
      obtain ⟨i, hi', hs⟩ := ht
      simp only [Prod.mk.injEq] at hs
      obtain ⟨rfl, rfl⟩ := hs
      have run : ∀ (a1 : Addr) (cap : Nat), a.eval x = .slice (some a1) len cap → len ≤ cap → ∀ w, (execOp a.eval o).run P w = .ok (.value (.slice (if cap = l then some a1 else some (a1.add (l * i.size))) (m - l) (cap - l))) w := by
        intro a1 cap hq hcap w
        have b1 := bnd_rel (P := P) r1 hh (Nat.le_trans hm hcap) .sliceAcap w
        have b2 := bnd_rel (P := P) r2 hl hlm .sliceB w
        have hsb : (Instr.sliceBounds true len cap (lo.map a.eval) (hi.map a.eval) none).run P w = .ok (l, m, cap) w := by
          unfold Instr.sliceBounds
          cases hi with
          | none =>
            simp only [bnd, Option.some.injEq] at hh
            subst hh
            cases lo <;> simp at b2 ⊢ <;> simp [b2]
          | some y => cases lo <;> simp at b1 b2 ⊢ <;> simp [b1, b2]
        unfold execOp
        rw [ho]
        simp [Instr.sliceAt, run_underlying hu, Instr.slice, hq, hsb, sizeOf, typeInfo, hi']
      generalize hq : a.eval x = u at h1
      cases h1 with
      | @slice _ _ tg _ cap e1 e2 e3 =>
        by_cases hc : cap = l
        · subst hc
          refine ⟨_, ?_, fun w => run _ _ hq e2 w⟩
          have : m - cap = 0 := by omega
          rw [if_pos rfl, this, Nat.sub_self]
          exact .sliceEmpty
        · refine ⟨_, ?_, fun w => run _ _ hq e2 w⟩
          rw [if_neg hc, addr_add]
          have := VRel.slice (p := p) (off := off + l * i.size) (len := m - l) (cap := cap - l) e1 (by omega) ?_
          · rw [show off + tg.d + l * i.size = off + l * i.size + tg.d from by omega]
            exact this
          · have := hrel.esz id tg k e1 hk
            have h3 : tg.esz = i.size := by omega
            rw [h3] at e3 ⊢
            have : cap * i.size = l * i.size + (cap - l) * i.size := by rw [← Nat.add_mul]; congr 1; omega
            omega
      | sliceEmpty =>
        have : l = 0 := by omega
        subst this
        have hm0 : m = 0 := by omega
        subst hm0
        refine ⟨_, ?_, fun w => run _ _ hq (Nat.le_refl _) w⟩
        exact .sliceEmpty
    · cases ht

/-- A slice of an empty slice. -/
theorem HStep.sliceNone {t el : TypeId} {x : Operand} {lo hi : Option Operand} {oa : Option Addr} {sz : Nat} (ho : o.op = .slice t x lo hi none) (hx : Opd.val e x = .slice oa 0 0) (ht : telem P t = some (sz, el))
    (hh : bnd e hi 0 = some 0) (hl : bnd e lo 0 = some 0) : HStep G P o T M e h (.slice oa 0 0) h :=
  .of_pureH fun p a _ hrel hr => by
    have h1 := hr x (by rw [ho]; simp [Op.operands])
    rw [hx] at h1
    have r1 : ∀ y, hi = some y → VRel p (Opd.val e y) (a.eval y) := fun y hy => hr y (by rw [ho, hy]; simp [Op.operands])
    have r2 : ∀ y, lo = some y → VRel p (Opd.val e y) (a.eval y) := fun y hy => hr y (by rw [ho, hy]; simp [Op.operands])
    unfold telem at ht
    split at ht
    · rename_i hu
      rw [Option.map_eq_some_iff] at ht
      obtain ⟨i, hi', hs⟩ := ht
      simp only [Prod.mk.injEq] at hs
      obtain ⟨rfl, rfl⟩ := hs
      have run : ∀ (a1 : Option Addr) (cap : Nat), a.eval x = .slice a1 0 cap → ∀ w, (execOp a.eval o).run P w = .ok (.value (.slice (if cap = 0 then a1 else a1.map (·.add (0 * i.size))) (0 - 0) (cap - 0))) w := by
        intro a1 cap hq w
        have b1 := bnd_rel (P := P) r1 hh (Nat.zero_le cap) .sliceAcap w
        have b2 := bnd_rel (P := P) r2 hl (Nat.le_refl 0) .sliceB w
        have hsb : (Instr.sliceBounds true 0 cap (lo.map a.eval) (hi.map a.eval) none).run P w = .ok (0, 0, cap) w := by
          unfold Instr.sliceBounds
          cases hi with
          | none => cases lo <;> simp at b2 ⊢ <;> simp [b2]
          | some y => cases lo <;> simp at b1 b2 ⊢ <;> simp [b1, b2]
        unfold execOp
        rw [ho]
        simp [Instr.sliceAt, run_underlying hu, Instr.slice, hq, hsb, sizeOf, typeInfo, hi']
      have same : ∀ (a1 : Option Addr) (cap : Nat), (if cap = 0 then a1 else a1.map (·.add (0 * i.size))) = a1 := by
        intro a1 cap
        split
        · rfl
        · cases a1 with
          | none => rfl
          | some q => simp [Addr.add]
      generalize hq : a.eval x = u at h1
      cases h1 with
      | sliceNil => exact ⟨_, by rw [same]; exact .sliceNil, fun w => run _ _ hq w⟩
      | @slice _ _ tg _ cap e1 e2 e3 => exact ⟨_, by rw [same]; exact .slice e1 (by omega) (by simpa using e3), fun w => run _ _ hq w⟩
      | sliceEmpty => exact ⟨_, by rw [same]; exact .sliceEmpty, fun w => run _ _ hq w⟩
    · cases ht

end
end Go.HH

namespace Go.HH

section
variable {G : List (Nat × Nat)} {P : Program} {T M : Nat → Prop} {e : Env} {h : Heap} {o : Oper}

/-- A slice type's element: its cells, its bytes. -/
def tapp (P : Program) (t : TypeId) : Option (Nat × Nat) :=
  match P.underlying t with
  | some (.slice el) => match P.info? el with
    | some i => match i.zero with
      | some z => if z.cells.size = i.size ∧ 0 < i.size then some (i.size, i.bytes) else none
      | none => none
    | none => none
  | _ => none

theorem tapp_spec {t : TypeId} {sz by8 : Nat} (ht : tapp P t = some (sz, by8)) :
    ∃ el i z, P.underlying t = some (.slice el) ∧ P.info? el = some i ∧ i.zero = some z ∧ z.cells.size = i.size ∧ 0 < i.size ∧ i.size = sz ∧ i.bytes = by8 := by
  unfold tapp at ht
  split at ht
  · rename_i el hu
    split at ht
    · rename_i i hi
      split at ht
      · rename_i z hz
        split at ht
        · rename_i hc
          simp only [Option.some.injEq, Prod.mk.injEq] at ht
          exact ⟨el, i, z, hu, hi, hz, hc.1, hc.2, ht.1, ht.2⟩
        · cases ht
      · cases ht
    · cases ht
  · cases ht

theorem HRelT.kill {p : Phi} {w : World} (r : HRelT G T p h w) {id : Nat} {k : Blk} (hk : h[id]? = some k) :
    HRelT G T p (h.set id ⟨k.cells, k.esz, .dead⟩) w ∧ Ext M p p h (h.set id ⟨k.cells, k.esz, .dead⟩) w w := by
  have hid : id < h.length := (List.getElem?_eq_some_iff.1 hk).1
  have hget : ∀ j, (h.set id ⟨k.cells, k.esz, .dead⟩)[j]? = if id = j then some ⟨k.cells, k.esz, .dead⟩ else h[j]? := fun j => by
    rw [List.getElem?_set]
    split
    · rename_i hj; subst hj; rfl
    · rfl
  refine ⟨⟨r.glob, fun j t e => ⟨by simpa using (r.dom j t e).1, (r.dom j t e).2⟩, fun j t kj tt e hj hd => ?_, fun j t kj e hj => ?_, fun j j' t t' kj kj' e e' hj hj' hrw hd hb => ?_⟩, ?_⟩
  · rw [hget] at hj
    split at hj
    · cases hj; exact absurd rfl hd
    · exact r.blk j t kj tt e hj hd
  · rw [hget] at hj
    split at hj
    · rename_i he; subst he; cases hj; exact r.esz id t k e hk
    · exact r.esz j t kj e hj
  · rw [hget] at hj hj'
    split at hj
    · cases hj; cases hrw
    · split at hj'
      · cases hj'; exact absurd rfl hd
      · exact r.inj j j' t t' kj kj' e e' hj hj' hrw hd hb
  · exact ⟨Phi.le_refl p, fun j t e en => (by rw [e] at en; cases en), by simp, fun _ _ _ => rfl, Nat.le_refl _, rfl, rfl, rfl⟩

theorem HStep.append0 {s x : Operand} {t t2 : TypeId} {so a2 : Option Addr} {len hc hc2 : Nat} {sb : Nat × Nat} (ho : o.op = .call { callee := .builtin .append, args := #[s, x], argTypes := #[t, t2] })
    (hs : Opd.val e s = .slice so len hc) (hx : Opd.val e x = .slice a2 0 hc2) (ht : tapp P t = some sb) (ht2 : (telem P t2).isSome = true) : HStep G P o T M e h (.slice so len hc) h :=
  .of_pure fun p a hr => by
    have h1 := hr s (by rw [ho]; simp [Op.operands, Call.operands])
    have h2 := hr x (by rw [ho]; simp [Op.operands, Call.operands])
    rw [hs] at h1
    rw [hx] at h2
    obtain ⟨b1, cap, g1, _, g3, _⟩ := h1.slice_any
    obtain ⟨b2, cap2, k1, _, k3, _⟩ := h2.slice_any
    refine ⟨a.eval s, h1, fun w => ?_⟩
    obtain ⟨el, i, z, e1, e2, e3, _⟩ := tapp_spec (sz := sb.1) (by8 := sb.2) ht
    unfold telem at ht2
    split at ht2
    · rename_i hu2
      have hfc : ∀ w, (Builtin.firstCells i.size 0 (a.eval x)).run P w = .ok #[] w := by
        intro w
        rw [k1]
        cases b2 <;> simp [Builtin.firstCells, loadCells, loadCellsFrom]
      have hst : ∀ (ad : Addr) (w : World), (storeCells ad [] 0).run P w = .ok () w := fun _ _ => rfl
      unfold execOp
      rw [ho]
      rw [k1] at hfc
      cases b1 <;> simp [resolve, invoke, builtin, Builtin.append_, g1, k1, run_underlying e1, run_underlying hu2, sizeOf, typeInfo, e2, Builtin.lenOf, g3, hfc, hst]
    · cases ht2

theorem HRelT.grow {p : Phi} {w : World} (r : HRelT G T p h w) (esz : Nat) (elem : TypeId) {cells : List Value} {c : Array Value} (hc : LRel p cells (c.toList.take cells.length)) (hsz : cells.length ≤ c.size) :
    HRelT G (fun id => T id ∨ h.length ≤ id) (phiPush p h.length ⟨w.heap.size, 0, esz, c.size⟩) (h ++ [⟨cells, esz, .rw⟩]) (w.drew.alloc (.cells c elem)) ∧
    Ext M p (phiPush p h.length ⟨w.heap.size, 0, esz, c.size⟩) h (h ++ [⟨cells, esz, .rw⟩]) w (w.drew.alloc (.cells c elem)) := by
  have r1 : HRelT G T p h w.drew := ⟨r.glob, r.dom, fun id t k tt a b c => let x := r.blk id t k tt a b c; ⟨x.esz, x.row⟩, r.esz, r.inj⟩
  obtain ⟨h1, h2⟩ := r1.push (M := M) esz elem .rw (0, 0) hc hsz (fun o _ => by omega)
  exact ⟨h1, ⟨h2.le, h2.new, h2.len, h2.frame, h2.size, h2.os, h2.tape, h2.output⟩⟩

/-- What a slice of known cells gives to be appended. -/
theorem source {p : Phi} {w : World} (r : HRelT G T p h w) {id off n sz : Nat} {k : Blk} {v' : Value} (hv : VRel p (.slice (some ⟨id, off, none⟩) n 0) v') (hn : 0 < n) (hT : T id) (hk : h[id]? = some k) (hd : k.st ≠ .dead) (hl : off + n * sz ≤ k.cells.length) :
    ∃ ad cap news, v' = .slice (some ad) n cap ∧ LRel p ((k.cells.drop off).take (n * sz)) news ∧ news.length = n * sz ∧ ∀ j u, news[j]? = some u → w.cell? (ad.add j) = some u := by
  obtain ⟨t, cap, g1, g2, g3, rfl⟩ := hv.slice_inv hn
  obtain ⟨cs, l1, l2, l3⟩ := r.cells hT g1 hk hd hl
  exact ⟨_, cap, cs, rfl, l1, l2, l3⟩

theorem HStep.appendNil {s x : Operand} {t : TypeId} {id2 off2 n sz by8 : Nat} {k2 : Blk} (ho : o.op = .call { callee := .builtin .append, args := #[s, x], argTypes := #[t, t] })
    (hs : Opd.val e s = .slice none 0 0) (hx : Opd.val e x = .slice (some ⟨id2, off2, none⟩) n 0) (ht : tapp P t = some (sz, by8)) (hn : 0 < n) (hT : T id2) (hk : h[id2]? = some k2) (hd : k2.st ≠ .dead) (hl : off2 + n * sz ≤ k2.cells.length)
    (hmax : n ≤ 9223372036854775807) (hby : n * by8 ≤ 140737488355328) :
    HStep G P o T M e h (.slice (some ⟨h.length, 0, none⟩) n 0) (h ++ [⟨(k2.cells.drop off2).take (n * sz), sz, .rw⟩]) :=
  .of_run fun p a w r hr => by
    have h1 := hr s (by rw [ho]; simp [Op.operands, Call.operands])
    have h2 := hr x (by rw [ho]; simp [Op.operands, Call.operands])
    rw [hs] at h1
    rw [hx] at h2
    have h1' := Plain.sliceNil.eq h1
    obtain ⟨ad, cap2, news, s1, s2, s3, s4⟩ := source r h2 hn hT hk hd hl
    obtain ⟨el, i, z, e1, e2, e3, e4, e5, rfl, rfl⟩ := tapp_spec ht
    have hrun := run_append_nil (P := P) w t o.type el i z e1 e2 e3 ad n cap2 news s3 s4 hn (by omega) (by omega)
    have hge := grownCap_ge w n 0 el
    have hz : (Builtin.zeroCells z.cells (grownCap w n 0 el - n)).size = (grownCap w n 0 el - n) * i.size := by rw [size_zeroCells, e4]
    have hcs : (news.toArray ++ Builtin.zeroCells z.cells (grownCap w n 0 el - n)).size = grownCap w n 0 el * i.size := by
      rw [Array.size_append, hz, List.size_toArray, s3, ← Nat.add_mul]; congr 1; omega
    have hlen : ((k2.cells.drop off2).take (n * i.size)).length = news.length := s2.1
    obtain ⟨d1, d2⟩ := r.grow (M := M) i.size el (cells := (k2.cells.drop off2).take (n * i.size)) (c := news.toArray ++ Builtin.zeroCells z.cells (grownCap w n 0 el - n))
      (by rw [hlen]; simpa using s2) (by rw [hlen]; simp)
    refine ⟨_, .slice (some ⟨w.heap.size, 0, none⟩) n (grownCap w n 0 el), _, .inl ?_, d1, ?_, d2⟩
    · unfold execOp
      rw [ho]
      simp [resolve, invoke, builtin, h1', s1, hrun]
    · exact VRel.slice (t := ⟨w.heap.size, 0, i.size, _⟩) phiPush_same hge (by simp only; rw [hcs]; omega)

theorem HStep.append {s x : Operand} {t : TypeId} {id off len id2 off2 n sz by8 : Nat} {k k2 : Blk} (ho : o.op = .call { callee := .builtin .append, args := #[s, x], argTypes := #[t, t] })
    (hs : Opd.val e s = .slice (some ⟨id, off, none⟩) len 0) (hx : Opd.val e x = .slice (some ⟨id2, off2, none⟩) n 0) (ht : tapp P t = some (sz, by8)) (hn : 0 < n)
    (hT1 : T id) (hM : M id) (hk1 : h[id]? = some k) (hd1 : k.st = .rw) (hf : off + len * sz = k.cells.length) (hks : k.esz = sz)
    (hT : T id2) (hk : h[id2]? = some k2) (hd : k2.st ≠ .dead) (hl : off2 + n * sz ≤ k2.cells.length) (h1c : ((k2.cells.drop off2).take (n * sz)).all oneC = true)
    (hmax : len + n ≤ 9223372036854775807) (hby : (len + n) * by8 ≤ 140737488355328) :
    HStep G P o T M e h (.slice (some ⟨h.length, 0, none⟩) (len + n) 0) (h.set id ⟨k.cells, k.esz, .dead⟩ ++ [⟨k.cells.drop off ++ (k2.cells.drop off2).take (n * sz), sz, .rw⟩]) :=
  .of_run fun p a w r hr => by
    have h1 := hr s (by rw [ho]; simp [Op.operands, Call.operands])
    have h2 := hr x (by rw [ho]; simp [Op.operands, Call.operands])
    rw [hs] at h1
    rw [hx] at h2
    obtain ⟨ad, cap2, news, s1, s2, s3, s4⟩ := source r h2 hn hT hk hd hl
    obtain ⟨el, i, z, e1, e2, e3, e4, e5, rfl, rfl⟩ := tapp_spec ht
    have hlen2 : ((k2.cells.drop off2).take (n * i.size)).length = news.length := s2.1
    have hid : id < h.length := (List.getElem?_eq_some_iff.1 hk1).1
    -- the new array
    have growth : ∀ (b : Addr) (cap : Nat) (olds : List Value), a.eval s = .slice (some b) len cap → cap < len + n → LRel p (k.cells.drop off) olds → olds.length = len * i.size → (∀ j u, olds[j]? = some u → w.cell? (b.add j) = some u) →
        ∃ q v' w', (execOp a.eval o).run P w = .ok (.value v') w' ∧ HRelT G (fun id => T id ∨ h.length ≤ id) q (h.set id ⟨k.cells, k.esz, .dead⟩ ++ [⟨k.cells.drop off ++ (k2.cells.drop off2).take (n * i.size), i.size, .rw⟩]) w' ∧
          VRel q (.slice (some ⟨h.length, 0, none⟩) (len + n) 0) v' ∧ Ext M p q h (h.set id ⟨k.cells, k.esz, .dead⟩ ++ [⟨k.cells.drop off ++ (k2.cells.drop off2).take (n * i.size), i.size, .rw⟩]) w w' := by
      intro b cap olds hq hcap ho1 ho2 ho3
      have hrun := run_append_grow (P := P) w t o.type el i z e1 e2 e3 b len cap olds ho2 ho3 ad n cap2 news s3 s4 hcap (by omega) (growslice_fits hcap hby)
      have hge := grownCap_ge w (len + n) cap el
      have hcs : (olds.toArray ++ news.toArray ++ Builtin.zeroCells z.cells (grownCap w (len + n) cap el - (len + n))).size = grownCap w (len + n) cap el * i.size := by
        rw [Array.size_append, Array.size_append, size_zeroCells, e4, List.size_toArray, List.size_toArray, ho2, s3, ← Nat.add_mul, ← Nat.add_mul]; congr 1; omega
      obtain ⟨r1, x1⟩ := r.kill (M := M) hk1
      have hl1 : (k.cells.drop off ++ (k2.cells.drop off2).take (n * i.size)).length = (olds ++ news).length := by rw [List.length_append, List.length_append, ho1.1, hlen2]
      obtain ⟨d1, d2⟩ := r1.grow (M := M) i.size el (cells := k.cells.drop off ++ (k2.cells.drop off2).take (n * i.size)) (c := olds.toArray ++ news.toArray ++ Builtin.zeroCells z.cells (grownCap w (len + n) cap el - (len + n)))
        (by
          have : (olds.toArray ++ news.toArray ++ Builtin.zeroCells z.cells (grownCap w (len + n) cap el - (len + n))).toList.take (olds ++ news).length = olds ++ news := by
            simp only [Array.toList_append]
            rw [List.take_append_of_le_length (by simp)]
            exact List.take_of_length_le (by simp)
          rw [hl1, this]
          exact ho1.append s2) (by rw [hl1]; simp)
      have hsl : (h.set id ⟨k.cells, k.esz, .dead⟩).length = h.length := by simp
      rw [hsl] at d1 d2
      refine ⟨_, .slice (some ⟨w.heap.size, 0, none⟩) (len + n) (grownCap w (len + n) cap el), _, ?_, d1, ?_, x1.trans d2⟩
      · unfold execOp
        rw [ho]
        simp [resolve, invoke, builtin, hq, s1, hrun]
      · exact VRel.slice (t := ⟨w.heap.size, 0, i.size, _⟩) phiPush_same hge (by simp only; rw [hcs]; omega)
    generalize hq : a.eval s = u at h1
    cases h1 with
    | @slice _ _ tg _ cap f1 f2 f3 =>
      have htg : tg.esz = i.size := by have := r.esz id tg k f1 hk1; omega
      by_cases hroom : len + n ≤ cap
      · -- there is room
        obtain ⟨x1, c, ele, fr, x2, x3, x4, x5, x6⟩ := r.blk id tg k hT1 f1 hk1 (by rw [hd1]; decide)
        have hfit : off + tg.d + (len + n) * i.size ≤ c.size := by
          rw [htg] at f3
          have : (len + n) * i.size ≤ cap * i.size := Nat.mul_le_mul_right _ hroom
          omega
        rw [Nat.add_mul] at hfit
        have hst := run_storeCells_free P tg.b (off + tg.d + len * i.size) ele fr news 0 c w x2 (x6 hd1) (by omega) (s2.oneC (List.all_eq_true.1 h1c))
        simp only [Nat.add_zero] at hst
        have hfc := run_firstCells_some (P := P) w i.size n ad n cap2 news s3 s4
        have hheap : (w.setRow tg.b (HH.setRange c.toList (off + tg.d + len * i.size) news).toArray).heap[tg.b]? = some (.cells (HH.setRange c.toList (off + tg.d + len * i.size) news).toArray ele fr) := setRow_heap w tg.b c _ ele fr x2
        have hoth : ∀ b, b ≠ tg.b → (w.setRow tg.b (HH.setRange c.toList (off + tg.d + len * i.size) news).toArray).heap[b]? = w.heap[b]? := fun b hb => by simp [World.setRow, Array.getElem?_modify, Ne.symm hb]
        have hsize : (w.setRow tg.b (HH.setRange c.toList (off + tg.d + len * i.size) news).toArray).heap.size = w.heap.size := by simp [World.setRow]
        generalize hw' : w.setRow tg.b (HH.setRange c.toList (off + tg.d + len * i.size) news).toArray = w' at *
        have hos : w'.os = w.os := by rw [← hw']; rfl
        have htape : w'.tape = w.tape := by rw [← hw']; rfl
        have hout : w'.output = w.output := by rw [← hw']; rfl
        have hcl : (HH.setRange c.toList (off + tg.d + len * i.size) news).length = c.size := by rw [setRange_length (by simp; omega)]; simp
        have hle : p.le (phiPush p h.length ⟨tg.b, off + tg.d, i.size, tg.n⟩) := fun j t ej => by
          unfold phiPush
          rw [if_neg]
          · exact ej
          · intro hj; have := (r.dom j t ej).1; omega
        have split : ∀ j t, phiPush p h.length ⟨tg.b, off + tg.d, i.size, tg.n⟩ j = some t → (p j = some t ∧ j < h.length ∧ t.b < w.heap.size) ∨ (j = h.length ∧ t = ⟨tg.b, off + tg.d, i.size, tg.n⟩) := by
          intro j t ej
          unfold phiPush at ej
          split at ej
          · rename_i hj; exact .inr ⟨hj, (Option.some.inj ej).symm⟩
          · exact .inl ⟨ej, r.dom j t ej⟩
        have hget : ∀ j, (h.set id ⟨k.cells, k.esz, .dead⟩ ++ [(⟨k.cells.drop off ++ (k2.cells.drop off2).take (n * i.size), i.size, .rw⟩ : Blk)])[j]? = if j < h.length then (if id = j then some ⟨k.cells, k.esz, .dead⟩ else h[j]?) else if j = h.length then some ⟨k.cells.drop off ++ (k2.cells.drop off2).take (n * i.size), i.size, .rw⟩ else none := by
          intro j
          split
          · rename_i hj
            rw [List.getElem?_append_left (by simpa using hj), List.getElem?_set]
            split
            · first | rfl | rw [if_pos (by assumption)]
            · rfl
          · rename_i hj
            rw [List.getElem?_append_right (by simp; omega)]
            split
            · rename_i hj2; simp [hj2]
            · simp; omega
        have hb0 : tg.b < w.heap.size := (r.dom id tg f1).2
        refine ⟨phiPush p h.length ⟨tg.b, off + tg.d, i.size, tg.n⟩, .slice (some ⟨tg.b, off + tg.d, none⟩) (len + n) cap, w', .inl ?_, ⟨fun g hg => ?_, fun j t ej => ?_, fun j t kj tt ej hj hdj => ?_, fun j t kj ej hj => ?_, fun j j' t t' kj kj' ej ej' hj hj' hrw hdd hb => ?_⟩, ?_, ⟨hle, fun j t ej en => ?_, by simp, fun b hb hno => hoth b (fun hbt => hno id tg f1 hM hbt.symm), by omega, hos, htape, hout⟩⟩
        · unfold execOp
          rw [ho]
          simp [resolve, invoke, builtin, Builtin.append_, hq, s1, run_underlying e1, sizeOf, typeInfo, e2, Builtin.lenOf, hroom, hfc, addr_add, hst]
        · obtain ⟨t, a1, a2⟩ := r.glob g hg
          exact ⟨t, hle _ _ a1, a2⟩
        · rcases split j t ej with ⟨_, b1, b2⟩ | ⟨rfl, rfl⟩
          · exact ⟨by simp; omega, by omega⟩
          · exact ⟨by simp, by simp only; omega⟩
        · rw [hget] at hj
          rcases split j t ej with ⟨b0, b1, b2⟩ | ⟨rfl, rfl⟩
          · rw [if_pos b1] at hj
            split at hj
            · cases hj; exact absurd rfl hdj
            · rename_i hne
              rcases tt with tt | tt
              · obtain ⟨y1, cc, el2, fr2, y2, y3, y4, y5, y6⟩ := r.blk j t kj tt b0 hj hdj
                have hbne : t.b ≠ tg.b := fun hb => hne (r.inj id j tg t k kj f1 b0 hk1 hj hd1 hdj hb.symm)
                exact ⟨y1, cc, el2, fr2, by rw [hoth _ hbne]; exact y2, y3, y4, fun m v hm => let ⟨v', z1, z2⟩ := y5 m v hm; ⟨v', z1, z2.mono hle⟩, y6⟩
              · omega
          · rw [if_neg (by omega), if_pos rfl] at hj
            cases hj
            refine ⟨rfl, _, ele, fr, hheap, by simpa [hcl] using x3, ?_, fun m v hm => ?_, fun _ oo hoo => x6 hd1 oo (by simpa [hcl] using hoo)⟩
            · simp only [List.size_toArray, hcl, List.length_append, List.length_drop, hlen2, s3]
              omega
            · simp only [List.getElem?_toArray]
              have hol : (k.cells.drop off).length = len * i.size := by simp; omega
              rcases Nat.lt_or_ge m (len * i.size) with hm1 | hm1
              · rw [List.getElem?_append_left (by omega), List.getElem?_drop] at hm
                obtain ⟨v', z1, z2⟩ := x5 _ v hm
                refine ⟨v', ?_, z2.mono hle⟩
                unfold HH.setRange
                rw [List.append_assoc, List.getElem?_append_left (by simp; omega), List.getElem?_take, if_pos (by omega), Array.getElem?_toList, ← z1]
                congr 1
                omega
              · rw [List.getElem?_append_right (by omega), hol] at hm
                have hmn := (List.getElem?_eq_some_iff.1 hm).1
                rw [hlen2, s3] at hmn
                obtain ⟨v', z1, z2⟩ := s2.2 _ v hm
                refine ⟨v', ?_, z2.mono hle⟩
                unfold HH.setRange
                rw [List.append_assoc, List.getElem?_append_right (by simp; omega), List.getElem?_append_left (by simp; omega), ← z1]
                congr 1
                simp
                omega
        · rw [hget] at hj
          rcases split j t ej with ⟨b0, b1, b2⟩ | ⟨rfl, rfl⟩
          · rw [if_pos b1] at hj
            split at hj
            · rename_i he; subst he; cases hj; exact r.esz id t k b0 hk1
            · exact r.esz j t kj b0 hj
          · rw [if_neg (by omega), if_pos rfl] at hj
            cases hj; rfl
        · rw [hget] at hj hj'
          rcases split j t ej with ⟨b0, b1, b2⟩ | ⟨rfl, rfl⟩ <;> rcases split j' t' ej' with ⟨c0, c1, c2⟩ | ⟨rfl, rfl⟩
          · rw [if_pos b1] at hj
            rw [if_pos c1] at hj'
            split at hj
            · cases hj; cases hrw
            · split at hj'
              · cases hj'; exact absurd rfl hdd
              · exact r.inj j j' t t' kj kj' b0 c0 hj hj' hrw hdd hb
          · rw [if_pos b1] at hj
            split at hj
            · cases hj; cases hrw
            · rename_i hne
              exact absurd (r.inj id j tg t k kj f1 b0 hk1 hj hd1 (by rw [hrw]; decide) hb.symm) hne
          · rw [if_pos c1] at hj'
            split at hj'
            · cases hj'; exact absurd rfl hdd
            · rename_i hne
              exact absurd (r.inj id j' tg t' k kj' f1 c0 hk1 hj' hd1 hdd hb) hne
          · rfl
        · have := VRel.slice (p := phiPush p h.length ⟨tg.b, off + tg.d, i.size, tg.n⟩) (off := 0) (len := len + n) (cap := cap) phiPush_same hroom (by simp only; rw [htg] at f3; omega)
          simp only [Nat.zero_add] at this
          exact this
        · rcases split j t ej with ⟨b0, _⟩ | ⟨rfl, rfl⟩
          · rw [b0] at en; cases en
          · exact ⟨Nat.le_refl _, .inr ⟨id, tg, f1, rfl, hM⟩⟩
      · obtain ⟨cs, l1, l2, l3⟩ := r.cells (off := off) (n := len * i.size) hT1 f1 hk1 (by rw [hd1]; decide) (by omega)
        have : (k.cells.drop off).take (len * i.size) = k.cells.drop off := List.take_of_length_le (by simp; omega)
        rw [this] at l1
        obtain ⟨q, v', w', g1, g2⟩ := growth ⟨tg.b, off + tg.d, none⟩ cap cs hq (by omega) l1 l2 l3
        exact ⟨q, v', w', .inl g1, g2⟩
    | @sliceEmpty _ a' =>
      have hol : k.cells.drop off = [] := by apply List.drop_of_length_le; omega
      obtain ⟨q, v', w', g1, g2⟩ := growth a' 0 [] hq (by omega) (by rw [hol]; exact LRel.nil p) (by simp) (by simp)
      exact ⟨q, v', w', .inl g1, g2⟩

end
end Go.HH

namespace Go.HH

section
variable {G : List (Nat × Nat)} {P : Program} {T M : Nat → Prop} {e : Env} {h : Heap} {o : Oper}

/-! Calls. -/

def callable (P : Program) (f : FuncId) : Bool :=
  match P.funcs[f]? with
  | some fn => fn.body.isSome && !(fn.name == "runtime.NumGoroutine")
  | none => false

theorem ARel.append {p : Phi} {x y x' y' : Array Value} (r : ARel p x y) (r' : ARel p x' y') : ARel p (x ++ x') (y ++ y') := by
  have := (r.list.append r'.list).array
  have e1 : (x.toList ++ x'.toList).toArray = x ++ x' := by apply Array.ext'; simp
  have e2 : (y.toList ++ y'.toList).toArray = y ++ y' := by apply Array.ext'; simp
  rw [e1, e2] at this
  exact this

theorem ARel.map_opd {p : Phi} {a : Act} {args : Array Operand} (hr : ∀ x ∈ args, VRel p (Opd.val e x) (a.eval x)) : ARel p (args.map (Opd.val e)) (args.map a.eval) :=
  ⟨by simp, fun i h1 h2 => by
    have hi : i < args.size := by simpa using h1
    simp only [Array.getElem_map]
    exact hr _ (Array.getElem_mem hi)⟩

theorem HStep.call {f : Operand} {fid : FuncId} {first captured : Array Value} {args : Array Operand} {ats : Array TypeId} {r : Value} {h' : Heap}
    (ho : o.op = .call { callee := .value f, args := args, argTypes := ats }) (hf : Opd.val e f = .func (.func fid) first captured) (hc : callable P fid = true)
    (hr : HRuns G P fid (first.toList ++ (args.map (Opd.val e)).toList ++ captured.toList) h M r h') : HStep G P o allT M e h r h' := by
  intro p a w hrel hopd next Q hk
  unfold callable at hc
  split at hc
  · rename_i fn hfn
    simp only [Bool.and_eq_true, Bool.not_eq_true'] at hc
    obtain ⟨hb, hn⟩ := hc
    have h1 := hopd f (by rw [ho]; simp [Op.operands, Call.operands])
    rw [hf] at h1
    have h2 : ARel p (args.map (Opd.val e)) (args.map a.eval) := ARel.map_opd fun x hx => hopd x (by rw [ho]; simp [Op.operands, Call.operands]; exact .inr hx)
    generalize hq : a.eval f = u at h1
    cases h1 with
    | @func _ _ f2 _ c2 e1 e2 i1 i2 =>
      have h3 : ARel p (first.toList ++ (args.map (Opd.val e)).toList ++ captured.toList).toArray (f2 ++ args.map a.eval ++ c2) := by
        have := ARel.append (ARel.append (⟨e1, i1⟩ : ARel p first f2) h2) (⟨e2, i2⟩ : ARel p captured c2)
        have e3 : (first.toList ++ (args.map (Opd.val e)).toList ++ captured.toList).toArray = first ++ args.map (Opd.val e) ++ captured := by apply Array.ext'; simp
        rw [e3]
        exact this
      have hcall := hr p w _ hrel h3
      have hbn : fn.body.isNone = false := by cases hx : fn.body <;> simp_all
      have hrun : (execOp a.eval o).run P w = .ok (.enter fid (f2 ++ args.map a.eval ++ c2)) w := by
        unfold execOp
        rw [ho]
        simp only [resolve, Deferred.ofValue, hq, Sem.run_bind, Sem.run_pure, Result.andThen_ok, invoke, callFunc, program, Sem.run, hfn, hn, hbn, Bool.false_eq_true, if_false]
      unfold Oper.wp
      rw [hrun]
      refine Calls.mono hcall ?_
      rintro en w' ⟨v, q, rfl, hv, hrel', ex⟩
      exact hk q v w' (hrel'.weaken fun _ _ _ _ => trivial) hv ex
  · cases hc

/-! A function's body. -/

def resOne (P : Program) (e : Env) (h : Heap) : ResultVar → Option Value
  | .tmp t => some (e t)
  | .cell a t => match e a with
    | .pointer (some ⟨id, off, none⟩) => match h[id]? with
      | some k => match k.st, tload P t with
        | .dead, _ => none
        | _, some none => k.cells[off]?
        | _, some (some n) => if off + n ≤ k.cells.length then some (.agg ((k.cells.drop off).take n).toArray) else none
        | _, none => none
      | none => none
    | _ => none

def resAll (P : Program) (e : Env) (h : Heap) (rs : List ResultVar) : Option Value :=
  match rs.mapM (resOne P e h) with
  | some [v] => some v
  | some vs => some (.tuple vs.toArray)
  | none => none

def env0 (args : List Value) : Env := fun i => args.getD i undef

theorem env0_rel {p : Phi} {args : List Value} {vs : Array Value} {n : Nat} (hr : ARel p args.toArray vs) (hn : args.length ≤ n) : ERel p n (env0 args) { tmps := vs ++ Array.replicate (n - vs.size) undef, defers := [] } := by
  have hs : vs.size = args.length := by rw [← hr.1]; simp
  refine ⟨by simp; omega, rfl, fun t => ?_⟩
  unfold env0
  rcases Nat.lt_or_ge t args.length with ht | ht
  · have h1 : t < vs.size := by omega
    have := hr.2 t (by simpa using ht) h1
    have e1 : args.getD t undef = args.toArray[t]'(by simpa using ht) := by simp [List.getD, ht]
    have e2 : (vs ++ Array.replicate (n - vs.size) undef).getD t undef = vs[t] := by
      rw [Array.getD_eq_getD_getElem?, Array.getElem?_append_left h1, Array.getElem?_eq_getElem h1]
      rfl
    rw [e1, e2]
    exact this
  · have e1 : args.getD t undef = undef := by simp [List.getD, List.getElem?_eq_none ht]
    have e2 : (vs ++ Array.replicate (n - vs.size) undef).getD t undef = undef := by
      rw [Array.getD_eq_getD_getElem?, Array.getElem?_append_right (by omega)]
      cases hx : (Array.replicate (n - vs.size) undef)[t - vs.size]? with
      | none => rfl
      | some v =>
        rw [Array.getElem?_replicate] at hx
        split at hx
        · cases hx; rfl
        · cases hx
    rw [e1, e2]
    exact VRel.undef p

theorem tload_one {t : TypeId} (ht : tload P t = some none) (w : World) : (isAgg t).run P w = .ok false w := by
  unfold tload at ht
  cases hu : P.underlying t with
  | none => rw [hu] at ht; cases ht
  | some d => rw [hu] at ht; cases d <;> simp [isAgg, run_underlying hu] at ht ⊢ <;> cases hi : P.info? t <;> rw [hi] at ht <;> simp at ht

theorem tload_agg {t : TypeId} {n : Nat} (ht : tload P t = some (some n)) (w : World) : (isAgg t).run P w = .ok true w ∧ ∃ i, P.info? t = some i ∧ i.size = n := by
  unfold tload at ht
  cases hu : P.underlying t with
  | none => rw [hu] at ht; cases ht
  | some d =>
    rw [hu] at ht
    cases d <;> simp at ht
    all_goals
      obtain ⟨i, hi, hs⟩ := ht
      exact ⟨by simp [isAgg, run_underlying hu], i, hi, hs⟩

def resSem (tmps : Array Value) : ResultVar → Sem Value
  | .tmp t => pure (tmps.getD t undef)
  | .cell ad t => do loadVar t (← asAddr (tmps.getD ad undef))

theorem resOne_rel {p : Phi} {w : World} {n : Nat} {a : Act} {rv : ResultVar} {v : Value} (r : HRel G p h w) (er : ERel p n e a) (hv : resOne P e h rv = some v) :
    ∃ v', VRel p v v' ∧ (resSem a.tmps rv).run P w = .ok v' w := by
  cases rv with
  | tmp t =>
    simp only [resOne, Option.some.injEq] at hv
    subst hv
    exact ⟨_, er.val t, rfl⟩
  | cell ad t =>
    unfold resOne at hv
    simp only at hv
    split at hv
    · rename_i id off he
      have h0 := er.val ad
      rw [he] at h0
      obtain ⟨tg, h1, h2⟩ := h0.ptr_inv
      split at hv
      · rename_i k hk
        split at hv
        · cases hv
        · rename_i ht hd
          have hlt := (List.getElem?_eq_some_iff.1 hv).1
          obtain ⟨cs, l1, l2, l3⟩ := r.cells (off := off) (n := 1) trivial h1 hk (by intro c; exact hd c) (by omega)
          have l4 : ((k.cells.drop off).take 1)[0]? = some v := by rw [List.getElem?_take, if_pos (by omega), List.getElem?_drop]; simpa using hv
          obtain ⟨v', l5, l6⟩ := l1.2 0 v l4
          have l7 := l3 0 v' l5
          rw [addr_add] at l7
          simp only [Nat.add_zero] at l7
          refine ⟨v', l6, ?_⟩
          simp [resSem, h2, asAddr, loadVar, tload_one ht, load, Sem.run, l7]
        · rename_i nn ht hd
          split at hv
          · rename_i hn
            simp only [Option.some.injEq] at hv
            subst hv
            obtain ⟨cs, l1, l2, l3⟩ := r.cells (n := nn) trivial h1 hk (by intro c; exact hd c) hn
            refine ⟨.agg cs.toArray, .agg l1.array.1 l1.array.2, ?_⟩
            obtain ⟨hagg, i, hi, hs⟩ := tload_agg ht w
            have hload := run_loadCells_list (P := P) w ⟨tg.b, off + tg.d, none⟩ cs l3
            rw [l2] at hload
            simp [resSem, h2, asAddr, loadVar, hagg, sizeOf, typeInfo, hi, hs, hload]
          · cases hv
        · cases hv
      · cases hv
    · cases hv

theorem resMap_rel {p : Phi} {w : World} {n : Nat} {a : Act} (r : HRel G p h w) (er : ERel p n e a) : ∀ (rs : List ResultVar) (vs : List Value), rs.mapM (resOne P e h) = some vs →
    ∃ vs', LRel p vs vs' ∧ (rs.mapM (resSem a.tmps)).run P w = .ok vs' w
  | [], vs, hv => by simp at hv; subst hv; exact ⟨[], LRel.nil p, rfl⟩
  | rv :: rs, vs, hv => by
    simp only [List.mapM_cons, Option.bind_eq_bind, Option.bind_eq_some_iff, Option.pure_def, Option.some.injEq] at hv
    obtain ⟨v, hv1, vs1, hv2, rfl⟩ := hv
    obtain ⟨v', h1, h2⟩ := resOne_rel r er hv1
    obtain ⟨vs', h3, h4⟩ := resMap_rel r er rs vs1 hv2
    refine ⟨v' :: vs', ?_, ?_⟩
    · have h0 : LRel p [v] [v'] := ⟨rfl, fun i u hu => by
        cases i with
        | zero => simp only [List.getElem?_cons_zero, Option.some.injEq] at hu; subst hu; exact ⟨v', rfl, h1⟩
        | succ i => simp at hu⟩
      have := h0.append h3
      simpa using this
    · rw [List.mapM_cons]
      simp only [Sem.run_bind, h2, Result.andThen_ok, h4, Sem.run_pure]

theorem resAll_rel {fn : Func} {p : Phi} {w : World} {n : Nat} {a : Act} {v : Value} (r : HRel G p h w) (er : ERel p n e a) (hv : resAll P e h fn.results.toList = some v) :
    ∃ v', VRel p v v' ∧ (results fn a.tmps).run P w = .ok v' w := by
  unfold resAll at hv
  cases hm : fn.results.toList.mapM (resOne P e h) with
  | none => rw [hm] at hv; cases hv
  | some vs =>
    obtain ⟨vs', h1, h2⟩ := resMap_rel r er _ _ hm
    have h3 : (results fn a.tmps).run P w = .ok (if hx : vs'.toArray.size = 1 then vs'.toArray[0] else .tuple vs'.toArray) w := by
      unfold results
      have hfun : (fun x : ResultVar => match x with | .tmp t => pure (a.tmps.getD t undef) | .cell ad t => do loadVar t (← asAddr (a.tmps.getD ad undef)) : ResultVar → Sem Value) = resSem a.tmps := by
        funext x; cases x <;> rfl
      rw [Array.mapM_eq_mapM_toList]
      simp only [Sem.run_bind, Sem.run_map]
      refine Eq.trans (congrArg (fun z => Result.andThen (Result.andThen z _) _) h2) ?_
      rfl
    rw [h3]
    refine ⟨_, ?_, rfl⟩
    rw [hm] at hv
    match vs, vs', h1, hv with
    | [u], [u'], h1, hv =>
      simp only [Option.some.injEq] at hv
      subst hv
      obtain ⟨x, g1, g2⟩ := h1.2 0 u rfl
      simp only [List.getElem?_cons_zero, Option.some.injEq] at g1
      subst g1
      simpa using g2
    | [], [], h1, hv =>
      simp only [Option.some.injEq] at hv
      subst hv
      exact .tuple h1.array.1 h1.array.2
    | u :: u2 :: us, u' :: u2' :: us', h1, hv =>
      simp only [Option.some.injEq] at hv
      subst hv
      rw [dif_neg (by simp)]
      exact .tuple h1.array.1 h1.array.2
    | [], _ :: _, h1, _ => exact absurd h1.1 (by simp)
    | _ :: _, [], h1, _ => exact absurd h1.1 (by simp)
    | [_], _ :: _ :: _, h1, _ => exact absurd h1.1 (by simp)
    | _ :: _ :: _, [_], h1, _ => exact absurd h1.1 (by simp)

/-- The blocks that a call of its own makes may be changed by it. -/
def own (m : Nat) (M : Nat → Prop) : Nat → Prop := fun id => m ≤ id ∨ M id

theorem HRuns.of_body {f : FuncId} {fn : Func} {c : Code} {args : List Value} {R : Value → Heap → Prop} (hf : P.funcs[f]? = some fn) (hb : fn.body = some c) (hn : args.length ≤ fn.ntmps)
    (hw : HWp G P fn.ntmps (own h.length M) c (fun x e' h' => (x = .ret ∨ x = .normal) ∧ ∃ r, resAll P e' h' fn.results.toList = some r ∧ R r h') (env0 args) h) :
    ∃ r h', HRuns G P f args h M r h' ∧ R r h' := by
  obtain ⟨x, e', h', hx, hret, r, hres, hR⟩ := hw
  refine ⟨r, h', fun p w vs hr ha => ?_, hR⟩
  refine calls_of_wp hf hb ?_
  refine wp_mono (hx p _ w hr (env0_rel ha hn)) ?_
  rintro x1 a' w' ⟨rfl, q, hr', er', ex⟩
  obtain ⟨v', h1, h2⟩ := resAll_rel (fn := fn) hr' er' hres
  have key : bodyPost P fn (fun en w' => ∃ v q, en = .returned v ∧ VRel q r v ∧ HRel G q h' w' ∧ Ext M p q h h' w w') .ret a' w' :=
    ⟨er'.defers, v', h2, v', q, rfl, h1, hr', ex.weaken (fun id t e => (hr.dom id t e).1) (fun id hid hm => hm.elim (fun c => absurd hid (by omega)) (fun m => m))⟩
  rcases hret with rfl | rfl
  · exact key
  · exact key

/-! Slices by make; functions by a literal. -/

theorem HStep.makeFunc {fn : Fn} {first captured : Array Operand} (ho : o.op = .makeFunc fn first captured) : HStep G P o T M e h (.func fn (first.map (Opd.val e)) (captured.map (Opd.val e))) h :=
  .of_pure fun p a hr => by
    have h1 := ARel.map_opd (e := e) (a := a) (p := p) (args := first) fun x hx => hr x (by rw [ho]; simp [Op.operands]; exact .inl hx)
    have h2 := ARel.map_opd (e := e) (a := a) (p := p) (args := captured) fun x hx => hr x (by rw [ho]; simp [Op.operands]; exact .inr hx)
    refine ⟨.func fn (first.map a.eval) (captured.map a.eval), .func h1.1 h2.1 h1.2 h2.2, fun w => ?_⟩
    unfold execOp
    rw [ho]
    simp [Instr.makeFunc]

theorem HStep.makeSlice {t el : TypeId} {x : Operand} {n : Int} {k : IntKind} {sz : Nat} {z : List Value} {bt : Nat} (ho : o.op = .makeSlice t x x) (hx : Opd.val e x = .int k n) (ht : telem P t = some (sz, el)) (hz : tzero P el = some z) (hzp : ∀ v ∈ z, plainB v = true)
    (hzs : z.length = sz) (hs0 : 0 < sz) (hbt : (P.info? el).map (·.bytes) = some bt) (h0 : 0 ≤ n) (hmax : n ≤ 9223372036854775807) (hby : bt * n ≤ 281474976710656) :
    HStep G P o T M e h (.slice (some ⟨h.length, 0, none⟩) n.toNat 0) (h ++ [⟨(List.range (n.toNat * sz)).map fun i => z.getD (i % z.length) undef, sz, .rw⟩]) :=
  .of_run fun p a w r hr => by
    have h1 := hr x (by rw [ho]; simp [Op.operands])
    rw [hx] at h1
    have h1' := (Plain.int k n).eq h1
    unfold telem at ht
    split at ht
    · rename_i el' hu
      rw [Option.map_eq_some_iff] at ht
      obtain ⟨i, hi, hs⟩ := ht
      simp only [Prod.mk.injEq] at hs
      obtain ⟨rfl, rfl⟩ := hs
      rw [hi] at hbt
      simp only [Option.map_some, Option.some.injEq] at hbt
      subst hbt
      unfold tzero at hz
      rw [hi] at hz
      simp only [Option.bind_some, Option.map_eq_some_iff] at hz
      obtain ⟨zv, hz1, rfl⟩ := hz
      have hzr := zeros_rel (p := p) (zv := zv) (n := n.toNat * i.size) (k := i.size) hzp (by simpa using hzs) (fun _ _ => hs0)
      obtain ⟨g1, g2⟩ := r.push' (M := M) i.size el' hzr
      refine ⟨_, .slice (some ⟨w.heap.size, 0, none⟩) n.toNat n.toNat, _, .inl ?_, g1, ?_, g2⟩
      · have hw : IntKind.i64.wrap n = n := IntWalk.i64_in _ (by omega)
        have c1 : ¬ (n < 0) := by omega
        have c2 : ¬ (281474976710656 < (i.bytes : Int) * n) := by omega
        unfold execOp
        rw [ho]
        have hask : ∀ b w, (askRoom b).run P w = .ok () w := by
          intro b w
          unfold askRoom
          split <;> simp [mark, Sem.run]
        by_cases hn0 : n.toNat * i.size = 0
        · have hn1 : n.toNat = 0 := by rcases Nat.mul_eq_zero.1 hn0 with c | c; exact c; omega
          have hn2 : n = 0 := by omega
          subst hn2
          have e0 : (Array.range 0).map (zv.cells[· % zv.cells.size]!) = #[] := by simp
          simp [Instr.makeSlice, h1', asInt, asIntOf, run_underlying hu, typeInfo, hi, hw, hask, sizeOf, newRow, newObj, Sem.run, Array.range_zero']
        · simp [Instr.makeSlice, h1', asInt, asIntOf, run_underlying hu, typeInfo, hi, hw, c1, c2, hask, sizeOf, hn0, zeroValue, hz1, newRow, newObj, Sem.run]
      · refine VRel.slice (t := ⟨w.heap.size, 0, i.size, _⟩) phiPush_same (Nat.le_refl _) ?_
        simp
    · cases ht

end
end Go.HH

namespace Go.HH

/-! Texts and rows of bytes, one out of the other. -/

def u8v (b : UInt8) : Value := .int .u8 b.toNat
def bytesV (s : ByteArray) : List Value := s.data.toList.map u8v
def numOfV : Value → Option Int
  | .int .u8 n => some n
  | _ => none
def numsOfV : List Value → Option (List Int)
  | [] => some []
  | v :: l => match numOfV v, numsOfV l with
    | some n, some ns => some (n :: ns)
    | _, _ => none
/-- The text whose bytes some cells hold. -/
def strOfV (l : List Value) : Option ByteArray := (numsOfV l).map strOfNums
theorem numsOfV_spec : ∀ {l : List Value} {ns : List Int}, numsOfV l = some ns → l = ns.map (Value.int .u8)
  | [], ns, h => by cases h; rfl
  | v :: l, ns, h => by
    unfold numsOfV at h
    split at h
    · rename_i n ns' h1 h2
      cases h
      rw [List.map_cons, ← numsOfV_spec h2]
      unfold numOfV at h1
      split at h1
      · cases h1; rfl
      · cases h1
    · cases h
theorem numsOfV_bytes : ∀ (l : List UInt8), numsOfV (l.map u8v) = some (l.map fun b => (b.toNat : Int))
  | [] => rfl
  | b :: l => by
    rw [List.map_cons, numsOfV, numsOfV_bytes l]; rfl
theorem strOfV_bytes (l : List UInt8) : strOfV (l.map u8v) = some ⟨l.toArray⟩ := by
  rw [strOfV, numsOfV_bytes]
  have : ((fun n : Int => UInt8.ofNat n.toNat) ∘ fun b : UInt8 => (b.toNat : Int)) = id := by funext b; simp
  simp [strOfNums, List.map_map, this]

theorem bytesWorld_eq (w : World) (el : TypeId) (s : ByteArray) :
    Lib.bytesWorld w el s = { w.drew with heap := w.drew.heap.push (.cells (Lib.bytesCells w el s) el ((Lib.bytesCells w el s).size, (Lib.bytesCells w el s).size + 1)) } := by
  have h1 : (Lib.bytesWorld w el s).heap = w.drew.heap.push (.cells (Lib.bytesCells w el s) el ((Lib.bytesCells w el s).size, (Lib.bytesCells w el s).size + 1)) := by
    refine Array.ext_getElem? fun i => ?_
    rw [Array.getElem?_push]
    rcases Nat.lt_trichotomy i w.heap.size with h | h | h
    · rw [Lib.bytesWorld_at_old w el s i h, if_neg (by show i ≠ w.heap.size; omega)]; rfl
    · subst h
      rw [Lib.bytesWorld_at_new, if_pos (by rfl)]
    · rw [if_neg (by show i ≠ w.heap.size; omega), Array.getElem?_eq_none (by rw [Lib.bytesWorld_size]; omega)]
      exact (Array.getElem?_eq_none (by show w.heap.size ≤ i; omega)).symm
  unfold Lib.bytesWorld at h1 ⊢
  unfold World.freeze at h1 ⊢
  simp only [Nat.succ_ne_zero, if_false] at h1 ⊢
  rw [h1]
  rfl

theorem telem_under {P : Program} {t : TypeId} {te : Nat × TypeId} (h : telem P t = some te) : P.underlying t = some (.slice te.2) := by
  unfold telem at h
  split at h
  · rename_i el hu
    rw [Option.map_eq_some_iff] at h
    obtain ⟨i, _, rfl⟩ := h
    exact hu
  · cases h

section
variable {G : List (Nat × Nat)} {P : Program} {T M : Nat → Prop} {e : Env} {h : Heap} {o : Oper}

theorem HStep.of_pureH1 {v : Value}
    (hr : ∀ (p : Phi) (a : Act) (w : World), HRelT G T p h w → (∀ x ∈ o.op.operands, VRel p (Opd.val e x) (a.eval x)) → ∃ v', VRel p v v' ∧ (execOp a.eval o).run P w = .ok (.value v') w) : HStep G P o T M e h v h :=
  .of_run fun p a w r ho => by
    obtain ⟨v', h1, h2⟩ := hr p a w r ho
    exact ⟨p, v', w, .inl h2, r.weaken (fun id t e ht => ht.elim (fun x => x) (fun hl => absurd (r.dom id t e).1 (by omega))), h1, Ext.refl ..⟩

theorem HStep.convSB {s d : TypeId} {x : Operand} {str : ByteArray} {te : Nat × TypeId} (ho : o.op = .convert s d x) (hx : Opd.val e x = .string str) (hs : P.underlying s = some .string) (ht : telem P d = some te) (he : P.underlying te.2 = some (.int .u8)) :
    HStep G P o T M e h (.slice (some ⟨h.length, 0, none⟩) str.size 0) (h ++ [⟨bytesV str, 1, .rw⟩]) :=
  .of_run fun p a w r hr => by
    have h2 := hr x (by rw [ho]; simp [Op.operands])
    rw [hx] at h2
    have h2' := (Plain.string str).eq h2
    have hrun := Lib.run_convert_string_bytes (P := P) w s d te.2 str hs (telem_under ht) he
    rw [bytesWorld_eq] at hrun
    have hge := grownCap_ge w str.size 0 te.2
    have hcs : (Lib.bytesCells w te.2 str).size = grownCap w str.size 0 te.2 := by
      simp [Lib.bytesCells]; have : str.data.size = str.size := rfl; omega
    have hlen : (bytesV str).length = str.size := by simp [bytesV]
    have r1 : HRelT G T p h w.drew := ⟨r.glob, r.dom, fun id t k tt a b c => let x := r.blk id t k tt a b c; ⟨x.esz, x.row⟩, r.esz, r.inj⟩
    have hl2 : (Lib.bytesCells w te.2 str).toList.take (bytesV str).length = bytesV str := by
      rw [hlen, Lib.bytesCells, Array.toList_append, List.take_append_of_le_length (by simp)]
      rw [List.take_of_length_le (by simp)]
      simp [bytesV, u8v]
    obtain ⟨d1, d2⟩ := r1.push (M := M) (cells := bytesV str) (c := Lib.bytesCells w te.2 str) 1 te.2 .rw ((Lib.bytesCells w te.2 str).size, (Lib.bytesCells w te.2 str).size + 1)
      (by
        rw [hl2]
        refine ⟨rfl, fun i v hv => ⟨v, hv, ?_⟩⟩
        obtain ⟨b, _, rfl⟩ := List.mem_map.1 (List.mem_of_getElem? hv)
        exact VRel.int _ _) (by rw [hlen, hcs]; exact hge) (fun o ho hh => by omega)
    refine ⟨_, .slice (some ⟨w.heap.size, 0, none⟩) str.size (grownCap w str.size 0 te.2), _, .inl ?_, d1, ?_, ⟨d2.le, d2.new, d2.len, d2.frame, d2.size, d2.os, d2.tape, d2.output⟩⟩
    · unfold execOp
      rw [ho]
      simp [h2', hrun]
    · exact VRel.slice (t := ⟨w.heap.size, 0, 1, _⟩) phiPush_same hge (by simp only; rw [hcs]; omega)

theorem HStep.convBS {s d : TypeId} {x : Operand} {id off len : Nat} {k : Blk} {str : ByteArray} {te : Nat × TypeId} (ho : o.op = .convert s d x) (hx : Opd.val e x = .slice (some ⟨id, off, none⟩) len 0) (hs : telem P s = some te) (he : P.underlying te.2 = some (.int .u8)) (hd : P.underlying d = some .string)
    (hn : 0 < len) (hT : T id) (hk : h[id]? = some k) (hdead : k.st ≠ .dead) (hl : off + len ≤ k.cells.length) (hb : strOfV ((k.cells.drop off).take len) = some str) : HStep G P o T M e h (.string str) h :=
  .of_pureH1 fun p a w r hr => by
    have h2 := hr x (by rw [ho]; simp [Op.operands])
    rw [hx] at h2
    obtain ⟨t, cap, g1, g2, g3, g4⟩ := h2.slice_inv hn
    obtain ⟨cs, c1, c2, c3⟩ := r.cells hT g1 hk hdead hl
    unfold strOfV at hb
    rw [Option.map_eq_some_iff] at hb
    obtain ⟨ns, hns, rfl⟩ := hb
    have hcells := numsOfV_spec hns
    have hlen : ns.length = len := by
      have := congrArg List.length hcells
      rw [List.length_map, List.length_take, List.length_drop] at this
      omega
    refine ⟨.string (strOfNums ns), .string _, ?_⟩
    have := run_convert_bytes_arg (P := P) w s te.2 (telem_under hs) he t.b (off + t.d) len cap ns hlen (fun i hi => by
      have hv : ((k.cells.drop off).take len)[i]? = some (.int .u8 (ns.getD i 0)) := by
        rw [hcells, List.getElem?_map, List.getElem?_eq_getElem (by omega), List.getD, List.getElem?_eq_getElem (by omega)]; rfl
      obtain ⟨v', e1, e2⟩ := c1.2 i _ hv
      have e3 := (Plain.int _ _).eq e2
      subst e3
      have := c3 i _ e1
      rwa [addr_add] at this) d hd
    unfold execOp
    rw [ho]
    simp [g4, this]

theorem HStep.convBS0 {s d : TypeId} {x : Operand} {oa : Option Addr} {te : Nat × TypeId} (ho : o.op = .convert s d x) (hx : Opd.val e x = .slice oa 0 0) (hs : telem P s = some te) (he : P.underlying te.2 = some (.int .u8)) (hd : P.underlying d = some .string) :
    HStep G P o T M e h (.string ⟨#[]⟩) h :=
  .of_pureH1 fun p a w r hr => by
    have h2 := hr x (by rw [ho]; simp [Op.operands])
    rw [hx] at h2
    obtain ⟨a1, cap, g1, _⟩ := h2.slice_any
    refine ⟨.string ⟨#[]⟩, .string _, ?_⟩
    unfold execOp
    rw [ho]
    cases a1 with
    | none =>
      have := run_convert_bytes_nil (P := P) (w := w) s te.2 (telem_under hs) he 0 cap d hd
      simp [g1, this]; rfl
    | some ad =>
      have h3 := run_bytesToString (P := P) w ad 0 cap [] (by simpa using run_loadCells_list (P := P) w ad [] (fun j v hj => by simp at hj))
      have h4 := run_convert_bytes_string (P := P) w s d te.2 (some ad) 0 cap (telem_under hs) he hd
      rw [h3] at h4
      simp [g1, h4]; rfl

/-! Equality of structs of numbers, texts and truth values. -/

def kindN (P : Program) (t : TypeId) : Option Nat := match P.underlying t with
  | some (.int _) => some 0
  | some .string => some 1
  | some .bool => some 2
  | _ => none
def flatF (P : Program) : Nat → List Field → Option (List Nat)
  | _, [] => some []
  | i, f :: fs => if f.name ≠ "_" ∧ f.offset = i then (match kindN P f.type, flatF P (i + 1) fs with
    | some k, some ks => some (k :: ks)
    | _, _ => none) else none
def flatK (P : Program) (t : TypeId) : Option (List Nat) := match P.underlying t with
  | some (.struct fs) => if P.stoodInHeld t = false ∧ P.eqGuardType P.depth t = false then flatF P 0 fs.toList else none
  | _ => none
def eqOne : Nat → Value → Value → Option Bool
  | 0, .int k a, .int k' b => if k = k' then some (a == b) else none
  | 1, .string a, .string b => some (a.toList == b.toList)
  | 2, .bool a, .bool b => some (a == b)
  | _, _, _ => none
def eqK : List Nat → List Value → List Value → Option Bool
  | [], [], [] => some true
  | k :: ks, x :: xs, y :: ys => match eqOne k x y, eqK ks xs ys with
    | some a, some b => some (a && b)
    | _, _ => none
  | _, _, _ => none
theorem eqOne_plain {k : Nat} {x y : Value} {b : Bool} (h : eqOne k x y = some b) : Plain x ∧ Plain y := by
  unfold eqOne at h
  split at h
  · exact ⟨.int _ _, .int _ _⟩
  · exact ⟨.string _, .string _⟩
  · exact ⟨.bool _, .bool _⟩
  · cases h
theorem eqK_plain : ∀ {ks : List Nat} {xs ys : List Value} {b : Bool}, eqK ks xs ys = some b → (∀ x ∈ xs, Plain x) ∧ (∀ y ∈ ys, Plain y)
  | [], [], [], b, _ => ⟨fun x hx => (by cases hx), fun x hx => (by cases hx)⟩
  | [], _ :: _, _, b, h => by simp [eqK] at h
  | [], [], _ :: _, b, h => by simp [eqK] at h
  | _ :: _, [], _, b, h => by simp [eqK] at h
  | _ :: _, _ :: _, [], b, h => by simp [eqK] at h
  | k :: ks, x :: xs, y :: ys, b, h => by
    unfold eqK at h
    split at h
    · rename_i a b' h1 h2
      obtain ⟨p1, p2⟩ := eqOne_plain h1
      obtain ⟨q1, q2⟩ := eqK_plain h2
      exact ⟨fun z hz => by rcases List.mem_cons.1 hz with rfl | hz; exact p1; exact q1 z hz, fun z hz => by rcases List.mem_cons.1 hz with rfl | hz; exact p2; exact q2 z hz⟩
    · cases h
theorem run_eqOne (w : World) (d : Nat) {k : Nat} {t : TypeId} {x y : Value} {b : Bool} (hk : kindN P t = some k) (h : eqOne k x y = some b) : (Op.equalIn (d + 1) t x y).run P w = .ok b w := by
  unfold eqOne at h
  unfold kindN at hk
  split at h
  · split at hk <;> simp at hk
    rename_i k' hu
    split at h
    · rename_i hkk
      subst hkk
      cases h
      exact run_equalIn_int w d t _ k' _ _ hu
    · cases h
  · split at hk <;> simp at hk
    rename_i hu
    cases h
    exact run_equalIn_string w d t _ _ hu
  · split at hk <;> simp at hk
    rename_i hu
    cases h
    exact run_equalIn_bool' w d t _ _ hu
  · cases h
theorem run_part_kind (w : World) {k : Nat} {t : TypeId} {xs : Array Value} {i : Nat} {v : Value} (hk : kindN P t = some k) (hx : xs[i]? = some v) : (part t xs i).run P w = .ok v w := by
  unfold kindN at hk
  split at hk <;> first | (rename_i hu; simp [part, isAgg, run_underlying hu, hx]; done) | cases hk
theorem drop_cons_get {xs : Array Value} {i : Nat} {x : Value} {r : List Value} (h : xs.toList.drop i = x :: r) : xs[i]? = some x ∧ xs.toList.drop (i + 1) = r := by
  constructor
  · have : (xs.toList.drop i)[0]? = some x := by rw [h]; rfl
    rw [List.getElem?_drop] at this
    simpa using this
  · have := congrArg (List.drop 1) h
    rw [List.drop_drop] at this
    exact this
theorem run_eqFlat (w : World) (d : Nat) (xs ys : Array Value) : ∀ (fs : List Field) (i : Nat) (ks : List Nat) (b : Bool), flatF P i fs = some ks → eqK ks (xs.toList.drop i) (ys.toList.drop i) = some b → (Op.eqFields (d + 1) xs ys fs).run P w = .ok b w
  | [], i, ks, b, h, he => by
    cases h
    cases hx : xs.toList.drop i with
    | nil =>
      cases hy : ys.toList.drop i with
      | nil => rw [hx, hy] at he; cases he; rfl
      | cons y r => rw [hx, hy] at he; cases he
    | cons x r => rw [hx] at he; cases he
  | f :: fs, i, ks, b, h, he => by
    unfold flatF at h
    split at h
    · rename_i hf
      split at h
      · rename_i k ks' h1 h2
        cases h
        cases hx : xs.toList.drop i with
        | nil => rw [hx] at he; cases he
        | cons x r =>
          cases hy : ys.toList.drop i with
          | nil => rw [hx, hy] at he; cases he
          | cons y r2 =>
            rw [hx, hy] at he
            obtain ⟨x1, x2⟩ := drop_cons_get hx
            obtain ⟨y1, y2⟩ := drop_cons_get hy
            unfold eqK at he
            split at he
            · rename_i a b' e1 e2
              rw [← x2, ← y2] at e2
              have ih := run_eqFlat w d xs ys fs (i + 1) ks' b' h2 e2
              simp only [Op.eqFields]
              rw [if_pos hf.1, hf.2]
              simp only [Sem.run_bind, run_part_kind w h1 x1, run_part_kind w h1 y1, Result.andThen_ok, run_eqOne w d h1 e1]
              cases a
              · cases he; simp [Sem.run_pure]
              · cases he; simpa using ih
            · cases he
      · cases h
    · cases h

def hEql (P : Program) (t : TypeId) (u v : Value) : Option Value := match u, v with
  | .agg xs, .agg ys => (flatK P t).bind fun ks => (eqK ks xs.toList ys.toList).map Value.bool
  | u, v => hBin .eql u v
def hNeq (P : Program) (t : TypeId) (u v : Value) : Option Value := match u, v with
  | .agg xs, .agg ys => (flatK P t).bind fun ks => (eqK ks xs.toList ys.toList).map fun b => .bool (!b)
  | u, v => hBin .neq u v

theorem run_aggEq (w : World) {t : TypeId} {xs ys : Array Value} {ks : List Nat} {b : Bool} (hf : flatK P t = some ks) (he : eqK ks xs.toList ys.toList = some b) : (Op.equalIn 10000 t (.agg xs) (.agg ys)).run P w = .ok b w ∧ P.eqGuardType P.depth t = false := by
  unfold flatK at hf
  split at hf
  · rename_i fs hu
    split at hf
    · rename_i hg
      have hfs : P.fieldsOf t = fs := by simp [Program.fieldsOf, hu]
      refine ⟨?_, hg.2⟩
      rw [show 10000 = 9999 + 1 from rfl, run_equalIn_struct w 9999 t xs ys (by rw [hfs]; exact hu) hg.1, hfs]
      exact run_eqFlat w 9998 xs ys fs.toList 0 ks b hf (by simpa using he)
    · cases hf
  · cases hf

theorem HStep.hEql {t t' : TypeId} {x y : Operand} {v : Value} (ho : o.op = .binOp .eql t x y t') (hv : HH.hEql P t (Opd.val e x) (Opd.val e y) = some v) : HStep G P o T M e h v h := by
  unfold HH.hEql at hv
  split at hv
  · rename_i xs ys hx hy
    rw [Option.bind_eq_some_iff] at hv
    obtain ⟨ks, hf, hv⟩ := hv
    rw [Option.map_eq_some_iff] at hv
    obtain ⟨b, he, rfl⟩ := hv
    obtain ⟨px, py⟩ := eqK_plain he
    refine .of_plain (by rw [ho]; intro cs b c; cases c) ?_ (.bool _) ?_
    · intro z hz
      rw [ho] at hz
      simp [Op.operands] at hz
      rcases hz with rfl | rfl
      · rw [hx]; exact .agg (fun i hi => px _ (by simp))
      · rw [hy]; exact .agg (fun i hi => py _ (by simp))
    · intro w
      obtain ⟨h1, h2⟩ := run_aggEq (P := P) w hf he
      unfold execOp
      rw [ho]
      simp [hx, hy, run_eqGuard_agg (P := P) w .eql t x y xs ys h2, run_eql_struct (P := P) w t xs ys, h1]
  · exact .bin ho hv
theorem HStep.hNeq {t t' : TypeId} {x y : Operand} {v : Value} (ho : o.op = .binOp .neq t x y t') (hv : HH.hNeq P t (Opd.val e x) (Opd.val e y) = some v) : HStep G P o T M e h v h := by
  unfold HH.hNeq at hv
  split at hv
  · rename_i xs ys hx hy
    rw [Option.bind_eq_some_iff] at hv
    obtain ⟨ks, hf, hv⟩ := hv
    rw [Option.map_eq_some_iff] at hv
    obtain ⟨b, he, rfl⟩ := hv
    obtain ⟨px, py⟩ := eqK_plain he
    refine .of_plain (by rw [ho]; intro cs b c; cases c) ?_ (.bool _) ?_
    · intro z hz
      rw [ho] at hz
      simp [Op.operands] at hz
      rcases hz with rfl | rfl
      · rw [hx]; exact .agg (fun i hi => px _ (by simp))
      · rw [hy]; exact .agg (fun i hi => py _ (by simp))
    · intro w
      obtain ⟨h1, h2⟩ := run_aggEq (P := P) w hf he
      unfold execOp
      rw [ho]
      simp [hx, hy, run_eqGuard_agg (P := P) w .neq t x y xs ys h2, run_neq_struct (P := P) w t xs ys, h1]
  · exact .bin ho hv
end
end Go.HH
