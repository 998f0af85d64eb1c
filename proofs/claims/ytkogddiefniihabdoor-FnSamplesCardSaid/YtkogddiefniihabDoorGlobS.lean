
/- The words of the samples' kinds beside the table of powers of ten, as blocks of the heap. No condition. -/
import Derived.Test.YtkogddiefniihabDoorRows
import Derived.Test.YtkogddiefniihabDoorGlob
import Derived.Test.YtkogddiefniihabDoorH3
import Derived.Stop.LaidErr
namespace Go.Proofs.YtkogddiefniihabDoor
open Go.HH Go.Proofs
set_option linter.unusedSimpArgs false
set_option linter.unusedVariables false

def wordL : List (List UInt8) := [[], [99, 104, 108, 111, 114, 105, 110, 101], [110, 105, 116, 114, 97, 116, 101], [105, 114, 111, 110], [116, 117, 114, 98, 105, 100, 105, 116, 121]]
def wordB (k : Nat) : ByteArray := ⟨(wordL.getD k []).toArray⟩
def wordV : List Value := wordL.map fun z => Value.string ⟨z.toArray⟩
theorem wordV_plain : ∀ v ∈ wordV, Plain v := by
  intro v hv
  obtain ⟨z, _, rfl⟩ := List.mem_map.1 hv
  exact .string _
/-- An array of texts that reads as these texts holds them. -/
theorem cells_of_strs {H : Type} {enc : TypeId × Value → H} {P : Program} {w : World} {base : Nat} {sp : Nat → Bool} {held : Bool} {fuel : Nat} {t e : TypeId} {n : Nat} {cs : List Value} {zs : List (List UInt8)} {p : List MemPlace}
    (ht : P.underlying t = some (.array n e)) (he : P.underlying e = some .string) (hce : P.cellsOf e = 1) (hct : P.cellsOf t = n)
    (h : DataW.trod enc P w base sp held fuel t cs = some (.agg (zs.map fun z => .lit (.string z)), p)) : cs = zs.map fun z => Value.string ⟨z.toArray⟩ := by
  cases fuel with
  | zero => simp [DataW.trod] at h
  | succ fuel =>
    simp only [DataW.trod, ht, hce, hct, Nat.mul_one] at h
    split at h
    · rename_i hl
      obtain ⟨xs, hm, hx⟩ := Option.map_eq_some_iff.1 h
      have hxs : xs.map (·.1) = zs.map fun z => (DataW.lit (.string z) : DataW H) := by
        have := congrArg Prod.fst hx
        simpa using this
      have hxl : xs.length = n := by simpa using Lib.mapM_length hm
      have hzl : zs.length = n := by
        have := congrArg List.length hxs
        rw [List.length_map, List.length_map] at this; omega
      refine List.ext_getElem? fun i => ?_
      by_cases hi : i < n
      · obtain ⟨b, hb, hf⟩ := Lib.mapM_at hm i i (by simp [hi])
        obtain ⟨s, hc, rfl, _⟩ := DataW.trod_string he hf
        have h1 : cs[i]? = some (.string s) := by
          have := congrArg (·[0]?) hc
          simpa [List.getElem?_take, List.getElem?_drop] using this
        have h2 : (xs.map (·.1))[i]? = some (DataW.lit (.string s.data.toList) : DataW H) := by simp [hb]
        rw [hxs, List.getElem?_map] at h2
        obtain ⟨z, hz, hz2⟩ := Option.map_eq_some_iff.1 h2
        have hz3 : z = s.data.toList := by injection hz2 with a; injection a
        rw [h1, List.getElem?_map, hz, hz3]; rfl
      · rw [List.getElem?_eq_none (by omega), List.getElem?_eq_none (by simp; omega)]
    · cases h

/-- The words lie in a heap. -/
def WordsAt (G : List (Nat × Nat)) (h : Heap) : Prop := (0, 5) ∈ G ∧ hget h 0 = some ⟨wordV, 1, .ro⟩
theorem WordsAt.mono {G : List (Nat × Nat)} {h h' : Heap} (a : WordsAt G h) (hp : h <+: h') : WordsAt G h' := ⟨a.1, by rw [hget_prefix hp (hget_lt a.2)]; exact a.2⟩
def glLS : List (Nat × List Value) := [(2, powV), (0, wordV)]
def glNS : Nat := max 2 0 + 1
def glGS : List (Nat × Nat) := globG glLS
def glHS : Heap := globH glLS glNS
theorem glHS_at {h : Heap} (hp : glHS <+: h) : PowAt glGS h ∧ WordsAt glGS h := by
  refine ⟨PowAt.mono ⟨?_, ?_⟩ hp, WordsAt.mono ⟨?_, ?_⟩ hp⟩
  · show (2, 20) ∈ [(2, powV.length), (0, 5)]
    rw [powV_len]; exact List.mem_cons_self
  · show (globH glLS glNS)[2]? = _
    simp [globH, glNS, glLS, List.lookup]
  · show (0, 5) ∈ [(2, powV.length), (0, 5)]
    exact List.mem_cons_of_mem _ (List.mem_singleton.2 rfl)
  · show (globH glLS glNS)[0]? = _
    simp [globH, glNS, glLS, List.lookup]
theorem glob_metS {W : World} (h : laidMetH Tryd.prog Rows.fnExactSampleTextRow.laid W) : HRel glGS (globP glLS glNS) glHS W ∧ allRo glHS := by
  rw [MakeChecks.laidMetH_plain _ _ _ (by kernel_rfl)] at h
  have h3 : laidMet Tryd.prog ((_, Lib.tabData .u64 Lib.pow10Tab) :: _) W := laidMet.tail (laidMet.tail h)
  have t := Lib.tabIs_of_head (g := 2) (t := 138) (e := 74) (n := 20) (by kernel_rfl) (by kernel_rfl) (by kernel_rfl) (by kernel_rfl) (by kernel_rfl) (by kernel_rfl) h3
  obtain ⟨ps, ⟨g', t', cs, fuel, p, q, hg', ht', hvar, hd, _, _⟩, _⟩ : laidMet Tryd.prog ((_, .agg (wordL.map fun z => .lit (.string z))) :: []) W := laidMet.tail h3
  obtain rfl : 0 = g' := Option.some.inj ((show Tryd.prog.globalNamed _ = some 0 by kernel_rfl).symm.trans hg')
  obtain rfl : 93 = t' := Option.some.inj ((show (Tryd.prog.globals[0]?).map (·.type) = some 93 by kernel_rfl).symm.trans ht')
  have hcs := cells_of_strs (n := 5) (e := 9) (by kernel_rfl) (by kernel_rfl) (by kernel_rfl) (by kernel_rfl) hd
  obtain rfl : cs = wordV.toArray := by rw [show wordV = cs.toList from hcs.symm, Array.toArray_toList]
  refine glob_rel ?_ ?_
  · intro x hx
    rcases List.mem_cons.1 hx with rfl | hx
    · exact ⟨by decide, rfl⟩
    · rw [List.mem_singleton.1 hx]
      exact ⟨by decide, rfl⟩
  · intro i l e
    unfold glLS at e
    rw [List.lookup_cons] at e
    split at e
    · rename_i hi
      obtain rfl : i = 2 := by simpa using hi
      cases e
      exact ⟨powV_plain, var_cells (by kernel_rfl) t⟩
    · rw [List.lookup_cons] at e
      split at e
      · rename_i hi
        obtain rfl : i = 0 := by simpa using hi
        cases e
        exact ⟨wordV_plain, var_cells (by kernel_rfl) hvar⟩
      · simp at e
end Go.Proofs.YtkogddiefniihabDoor
