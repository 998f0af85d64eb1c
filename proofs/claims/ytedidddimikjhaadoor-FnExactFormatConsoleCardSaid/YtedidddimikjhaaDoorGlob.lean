
/- The library's table of powers of ten as a block of the heap, and strconv.Itoa over it. No condition. -/
import Derived.Test.YtedidddimikjhaaDoorRows
import Derived.Test.YtedidddimikjhaaDoorNum
import Derived.Test.YtedidddimikjhaaDoorH3
import Derived.Stop.LaidErr
namespace Go.Proofs.YtedidddimikjhaaDoor
open Go.HH Go.Proofs
set_option linter.unusedSimpArgs false
set_option linter.unusedVariables false

def powV : List Value := Lib.pow10Tab.map (Value.int .u64)
theorem powV_len : powV.length = 20 := by simp [powV, Lib.pow10Tab]
theorem powV_plain : ∀ v ∈ powV, Plain v := by
  intro v hv
  obtain ⟨z, _, rfl⟩ := List.mem_map.1 hv
  exact .int _ _
/-- The table lies in a heap. -/
def PowAt (G : List (Nat × Nat)) (h : Heap) : Prop := (0, 20) ∈ G ∧ hget h 0 = some ⟨powV, 1, .ro⟩
theorem PowAt.mono {G : List (Nat × Nat)} {h h' : Heap} (a : PowAt G h) (hp : h <+: h') : PowAt G h' := ⟨a.1, by rw [hget_prefix hp (hget_lt a.2)]; exact a.2⟩
theorem PowAt.app {G : List (Nat × Nat)} {h : Heap} (a : PowAt G h) (t : Heap) : PowAt G (h ++ t) := a.mono (List.prefix_append _ _)
theorem c_ItoaG {G : List (Nat × Nat)} {M : Nat → Prop} {h : Heap} (a : PowAt G h) (n : Nat) (hn : n < 10000000000) : vCall G Tryd.prog M 28 [.int .i64 n] h (fun r h' => r = .string (num n) ∧ h = h') := by
  refine vCall_below (by rfl) rfl fun p w hr => ?_
  have e : Lib.itoa (n : Int) = Lib.decDigits n := by rw [Lib.itoa, if_neg (by omega)]; rfl
  have := Tryd.strconv_Itoa n (by omega) (by omega) w (var_of (l := powV) hr (by rw [powV_len]; exact a.1) powV_plain a.2 (by simp) rfl (by kernel_rfl))
  rw [e] at this
  refine this.mono ?_
  rintro e w' ⟨rfl, k, os, rfl⟩
  exact ⟨rfl, below_grow⟩

def glL : List (Nat × List Value) := [(0, powV)]
def glN : Nat := 0 + 1
def glG : List (Nat × Nat) := globG glL
def glH : Heap := globH glL glN
theorem glH_at {h : Heap} (hp : glH <+: h) : PowAt glG h := by
  refine PowAt.mono ⟨?_, ?_⟩ hp
  · show (0, 20) ∈ [(0, powV.length)]
    rw [powV_len]; exact List.mem_singleton.2 rfl
  · show (globH glL glN)[0]? = _
    simp [globH, glN, glL, List.lookup]
theorem var_cells {P : Program} {W : World} {name : String} {g : Nat} {c : Array Value} (hg : P.globalNamed name = some g) (h : W.var? P name = some c) : ∃ el fr, W.heap[g]? = some (.cells c el fr) := by
  simp only [World.var?, hg, Option.bind_some] at h
  split at h
  · rename_i cs el fr e
    cases h
    exact ⟨el, fr, e⟩
  · cases h
theorem glob_met {W : World} (h : laidMetH Tryd.prog Rows.fnExactIsValidConsoleRow.laid W) : HRel glG (globP glL glN) glH W ∧ allRo glH := by
  rw [MakeChecks.laidMetH_plain _ _ _ (by kernel_rfl)] at h
  have h3 : laidMet Tryd.prog ((_, Lib.tabData .u64 Lib.pow10Tab) :: []) W := laidMet.tail (laidMet.tail h)
  have t := Lib.tabIs_of_head (g := 0) (t := 112) (e := 102) (n := 20) (by kernel_rfl) (by kernel_rfl) (by kernel_rfl) (by kernel_rfl) (by kernel_rfl) (by kernel_rfl) h3
  refine glob_rel ?_ ?_
  · intro x hx
    rw [List.mem_singleton.1 hx]
    exact ⟨by decide, rfl⟩
  · intro i l e
    have : i = 0 ∧ l = powV := by
      unfold glL at e
      rw [List.lookup_cons] at e
      split at e
      · rename_i hi
        exact ⟨by simpa using hi, by simpa using e.symm⟩
      · simp at e
    obtain ⟨rfl, rfl⟩ := this
    exact ⟨powV_plain, var_cells (by kernel_rfl) t⟩
end Go.Proofs.YtedidddimikjhaaDoor
