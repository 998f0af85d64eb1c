
/- The words of the samples' kinds beside the table of powers of ten, as blocks of the heap. No condition. -/
import Derived.Test.YtfolkgkcaiaifaaDoorRows
import Derived.Test.YtfolkgkcaiaifaaDoorGlob
import Derived.Test.YtfolkgkcaiaifaaDoorH3
import Derived.Stop.LaidErr
namespace Go.Proofs.YtfolkgkcaiaifaaDoor
open Go.HH Go.Proofs
set_option linter.unusedSimpArgs false
set_option linter.unusedVariables false

def wordL : List (List UInt8) := [[], [99, 104, 108, 111, 114, 105, 110, 101], [110, 105, 116, 114, 97, 116, 101], [105, 114, 111, 110], [116, 117, 114, 98, 105, 100, 105, 116, 121]]
def wordB (k : Nat) : ByteArray := ⟨(wordL.getD k []).toArray⟩
def wordV : List Value := wordL.map fun z => Value.string ⟨z.toArray⟩
theorem wordV_plain : ∀ v ∈ wordV, Plain v := by
  intro v hv
  obtain ⟨z, _, rfl⟩ := List.mem_map.1 hv
  exact .string _
/-- An array of texts that reads as these texts holds them. -/
theorem cells_of_strs {H : Type} {enc : TypeId × Value → H} {P : Program} {w : World} {base : Nat} {sp : Nat → Bool} {held : Bool} {fuel : Nat} {t e : TypeId} {n : Nat} {cs : List Value} {zs : List (List UInt8)} {p : List MemPlace}
    (ht : P.underlying t = some (.array n e)) (he : P.underlying e = some .string) (hce : P.cellsOf e = 1) (hct : P.cellsOf t = n)
    (h : DataW.trod enc P w base sp held fuel t cs = some (.agg (zs.map fun z => .lit (.string z)), p)) : cs = zs.map fun z => Value.string ⟨z.toArray⟩ := by
  cases fuel with
  | zero => simp [DataW.trod] at h
  | succ fuel =>
    simp only [DataW.trod, ht, hce, hct, Nat.mul_one] at h
    split at h
    · rename_i hl
      obtain ⟨xs, hm, hx⟩ := Option.map_eq_some_iff.1 h
      have hxs : xs.map (·.1) = zs.map fun z => (DataW.lit (.string z) : DataW H) := by
        have := congrArg Prod.fst hx
        simpa using this
      have hxl : xs.length = n := by simpa using Lib.mapM_length hm
      have hzl : zs.length = n := by
        have := congrArg List.length hxs
        rw [List.length_map, List.length_map] at this; omega
      refine List.ext_getElem? fun i => ?_
      by_cases hi : i < n
      · obtain ⟨b, hb, hf⟩ := Lib.mapM_at hm i i (by simp [hi])
        obtain ⟨s, hc, rfl, _⟩ := DataW.trod_string he hf
        have h1 : cs[i]? = some (.string s) := by
          have := congrArg (·[0]?) hc
          simpa [List.getElem?_take, List.getElem?_drop] using this
        have h2 : (xs.map (·.1))[i]? = some (DataW.lit (.string s.data.toList) : DataW H) := by simp [hb]
        rw [hxs, List.getElem?_map] at h2
        obtain ⟨z, hz, hz2⟩ := Option.map_eq_some_iff.1 h2
        have hz3 : z = s.data.toList := by injection hz2 with a; injection a
        rw [h1, List.getElem?_map, hz, hz3]; rfl
      · rw [List.getElem?_eq_none (by omega), List.getElem?_eq_none (by simp; omega)]
    · cases h

end Go.Proofs.YtfolkgkcaiaifaaDoor
