
/- The library's variable that bounds a search beside the tables, as blocks of the heap; strings.Contains over it. No condition. -/
import Derived.Test.YtfolkgkcaiaifaaDoorRows
import Derived.Test.YtfolkgkcaiaifaaDoorShelf
import Derived.Test.YtfolkgkcaiaifaaDoorSmpL
import Derived.Test.YtfolkgkcaiaifaaDoorH3
import Derived.Stop.LaidErr
import Derived.Handed
import Derived.Shelf.Vars
namespace Go.Proofs.YtfolkgkcaiaifaaDoor
open Go.HH Go.Proofs
set_option linter.unusedSimpArgs false
set_option linter.unusedVariables false

/-- The wrap that keeps the condition on the variables and the world's shape. -/
theorem handed_and_shaped {H : Type} {enc : TypeId × Value → H} {a : Assume} {C : Checked} {os : Os} {f : FuncId} {fn : Func} {s : ChangeSpec} {conds : List PathCond} {apart fresh handsOn again : Bool} {X : World → Array Value → Prop}
    (hX : ∀ (w w' : World) (args : Array Value), w.heap = w'.heap → X w args → X w' args)
    (own : ownKnob C.prog.godebug = none) (started : os.Started) (noInit : C.prog.inits.idxOf? f = none) (hfn : C.prog.funcs[f]? = some fn)
    (witness : ∃ (w : World) (tape : Tape) (i : Input), w.os = os ∧ (w.forCall tape i).Shaped C.prog ∧ i.vars = [] ∧ Input.okWide C.prog (w.forCall tape i) .any w.heap.size f i ∧
      ((s.pre enc C.prog fn conds apart (w.forCall tape i).memory i.args ∧ X (w.forCall tape i).memory i.args) ∧ sizedMet enc C.prog fn (OpenSpec.ofChange s) apart (w.forCall tape i).memory i.args) ∧ a.holds C.prog (lone (Frame.enter C.prog f i.args .normal) [] (w.forCall tape i)))
    (contract : ∀ (W : World) (base : Nat) (args : Array Value) (ds gs : List (DataW H)) (before : List MemPlace), W.ShapedOpen C.prog →
      (∀ (j : Nat) t v, fn.params[j]? = some t → args[j]? = some v → Value.okWide C.prog W .any base t v) →
      DataW.Whole enc C.prog fn.params.toList s.vars apart W args.toList ds gs before →
      conds.all (PathCond.test C.prog ⟨fn.params.toList, ds, s.plain.varTypes C.prog, gs⟩) = true →
      (DataW.weightsEach C.prog (fn.params.toList ++ s.plain.varTypes C.prog) (ds ++ gs)).all (· ≤ reachBytes) = true → X W args →
      a.holds C.prog (lone (Frame.enter C.prog f args .normal) [] W) →
      Calls C.prog f args W fun e W' => ∃ v, e = .returned v ∧ s.post enc C.prog fn apart fresh handsOn again W args v W') :
    ReturnsInHanded a C os f .any (fun w args => (s.pre enc C.prog fn conds apart w args ∧ X w args) ∧ sizedMet enc C.prog fn (OpenSpec.ofChange s) apart w args) (s.post enc C.prog fn apart fresh handsOn again) :=
  returnsInHanded_of_calls own started noInit witness fun w tape i _ hsh _ hok hpre hholds => by
    obtain ⟨_, _, _, fn', hfn', _, _, _, _, hval⟩ := hok
    obtain rfl : fn' = fn := Option.some.inj (hfn'.symm.trans hfn)
    obtain ⟨⟨⟨ds, gs, before, hw, hc⟩, hx⟩, hz⟩ := hpre
    refine (contract (w.forCall tape i) w.heap.size i.args ds gs before hsh hval (DataW.Whole.of_heap (w' := w.forCall tape i) (by rfl) hw) hc (hz.weights hw) (hX _ _ _ (by rfl) hx) hholds).mono fun e W' ⟨v, he, hp⟩ => ?_
    subst he
    exact ChangeSpec.post_blind hp

/-- A variable that holds one number holds some number in every world of the program's shape. -/
theorem shaped_int {P : Program} {w : World} {g : Nat} {t : TypeId} {zero : Array Value} {k : IntKind}
    (h : w.ShapedOpen P) (hg : g < P.globals.size) (h0 : ((begin P (fun _ _ => 0) default).world.heap[g]?).bind Obj.row? = some (zero, t)) (hz : zero.size = 1)
    (hb : P.buildable t = true) (hc : P.cellTypes P.depth t = some [t]) (hu : P.underlying t = some (.int k)) :
    ∃ m el fr, w.heap[g]? = some (.cells [Value.int k m].toArray el fr) := by
  obtain ⟨m, hm⟩ := cell_of_shapedOpen_int h hg h0 hz hb hc hu
  obtain ⟨cs, hh, hs, _⟩ := h.1 g zero t hg h0
  have h1 : cs[0]? = some (.int k m) := by simpa [World.cell?, hh] using hm
  have e : cs = [Value.int k m].toArray := by
    refine Array.ext (by simpa using hs.trans hz) fun i a1 a2 => ?_
    obtain rfl : i = 0 := by simp at a2; omega
    rw [Array.getElem?_eq_getElem a1] at h1
    simpa using h1
  subst e
  exact ⟨m, t, (0, 0), hh⟩

def MaxAt (G : List (Nat × Nat)) (h : Heap) : Prop := (0, 1) ∈ G ∧ ∃ m, hget h 0 = some ⟨[.int .i64 m], 1, .ro⟩
theorem MaxAt.mono {G : List (Nat × Nat)} {h h' : Heap} (a : MaxAt G h) (hp : h <+: h') : MaxAt G h' := ⟨a.1, a.2.imp fun m hm => by rw [hget_prefix hp (hget_lt hm)]; exact hm⟩
theorem c_ContainsG {G : List (Nat × Nat)} {M : Nat → Prop} {h : Heap} (a : MaxAt G h) (s sub : ByteArray) (hs : s.size < 4294967281) : vCall G Tryd.prog M 45 [.string s, .string sub] h (fun r h' => r = .bool (Lib.contains (bl s) (bl sub)) ∧ h = h') := by
  obtain ⟨ag, m, am⟩ := a
  refine vCall_below (by rfl) rfl fun p w hr => ?_
  have hv := var_of (P := Tryd.prog) (l := [.int .i64 m]) hr ag (fun v hv => by rw [List.mem_singleton.1 hv]; exact .int _ _) am (by simp) rfl (name := "internal/bytealg.MaxLen") (by kernel_rfl)
  have hc := World.var?_cell (show Tryd.prog.globalNamed "internal/bytealg.MaxLen" = some 0 by kernel_rfl) hv 0
  refine (Tryd.strings_Contains s sub m w hs (by rw [hc]; rfl)).mono ?_
  rintro e w' ⟨rfl, rfl⟩
  exact ⟨rfl, rfl, rfl, rfl, Nat.le_refl _, fun b hb => rfl⟩
/-- What a search finds. -/
theorem contains_iff (s sub : List UInt8) : Lib.contains s sub = true ↔ sub <:+: s := by
  rw [Lib.contains, decide_eq_true_eq]
  constructor
  · intro h
    rcases Lib.index_spec s sub with ⟨h1, _⟩ | ⟨i, _, _, h3, _⟩
    · omega
    · obtain ⟨t, ht⟩ := List.isPrefixOf_iff_prefix.1 h3
      exact ⟨s.take i, t, by rw [List.append_assoc, ht, List.take_append_drop]⟩
  · rintro ⟨X, Y, rfl⟩
    rcases Lib.index_spec (X ++ sub ++ Y) sub with ⟨_, h2⟩ | ⟨i, h1, _⟩
    · have := h2 X.length (by simp only [List.length_append]; omega)
      rw [Lib.occAt, List.append_assoc, List.drop_left', List.isPrefixOf_iff_prefix.2 (List.prefix_append _ _)] at this
      · cases this
      · rfl
    · omega

/-! The blocks: the powers and the bound; and these with the words. -/
def glLM (m : Int) : List (Nat × List Value) := [(3, powV), (0, [.int .i64 m])]
def glNM : Nat := max 3 0 + 1
def glGM : List (Nat × Nat) := [(3, 20), (0, 1)]
def glHM (m : Int) : Heap := globH (glLM m) glNM
theorem globGM (m : Int) : globG (glLM m) = glGM := by
  show [(3, powV.length), (0, 1)] = _
  rw [powV_len]; rfl
theorem glHM_at {m : Int} {h : Heap} (hp : glHM m <+: h) : PowAt glGM h ∧ MaxAt glGM h := by
  refine ⟨PowAt.mono ⟨by simp [glGM], ?_⟩ hp, MaxAt.mono ⟨by simp [glGM], m, ?_⟩ hp⟩
  · show (globH (glLM m) glNM)[3]? = _
    simp [globH, glNM, glLM, List.lookup]
  · show (globH (glLM m) glNM)[0]? = _
    simp [globH, glNM, glLM, List.lookup]
theorem max_met {W : World} (hs : W.ShapedOpen Tryd.prog) : ∃ m el fr, W.heap[0]? = some (.cells [Value.int .i64 m].toArray el fr) :=
  shaped_int (t := 3) (zero := #[.int .i64 0]) hs (by decide +kernel) (by kernel_rfl) rfl (by kernel_rfl) (by kernel_rfl) (by kernel_rfl)
end Go.Proofs.YtfolkgkcaiaifaaDoor
