
/- The library's table of powers of ten as a block of the heap, and strconv.Itoa over it. No condition. -/
import Derived.Test.YtfolkgkcaiaifaaDoorRows
import Derived.Test.YtfolkgkcaiaifaaDoorNum
import Derived.Test.YtfolkgkcaiaifaaDoorH3
import Derived.Stop.LaidErr
namespace Go.Proofs.YtfolkgkcaiaifaaDoor
open Go.HH Go.Proofs
set_option linter.unusedSimpArgs false
set_option linter.unusedVariables false

def powV : List Value := Lib.pow10Tab.map (Value.int .u64)
theorem powV_len : powV.length = 20 := by simp [powV, Lib.pow10Tab]
theorem powV_plain : ∀ v ∈ powV, Plain v := by
  intro v hv
  obtain ⟨z, _, rfl⟩ := List.mem_map.1 hv
  exact .int _ _
/-- The table lies in a heap. -/
def PowAt (G : List (Nat × Nat)) (h : Heap) : Prop := (3, 20) ∈ G ∧ hget h 3 = some ⟨powV, 1, .ro⟩
theorem PowAt.mono {G : List (Nat × Nat)} {h h' : Heap} (a : PowAt G h) (hp : h <+: h') : PowAt G h' := ⟨a.1, by rw [hget_prefix hp (hget_lt a.2)]; exact a.2⟩
theorem PowAt.app {G : List (Nat × Nat)} {h : Heap} (a : PowAt G h) (t : Heap) : PowAt G (h ++ t) := a.mono (List.prefix_append _ _)
theorem c_ItoaG {G : List (Nat × Nat)} {M : Nat → Prop} {h : Heap} (a : PowAt G h) (n : Nat) (hn : n < 10000000000) : vCall G Tryd.prog M 61 [.int .i64 n] h (fun r h' => r = .string (num n) ∧ h = h') := by
  refine vCall_below (by rfl) rfl fun p w hr => ?_
  have e : Lib.itoa (n : Int) = Lib.decDigits n := by rw [Lib.itoa, if_neg (by omega)]; rfl
  have := Tryd.strconv_Itoa n (by omega) (by omega) w (var_of (l := powV) hr (by rw [powV_len]; exact a.1) powV_plain a.2 (by simp) rfl (by kernel_rfl))
  rw [e] at this
  refine this.mono ?_
  rintro e w' ⟨rfl, k, os, rfl⟩
  exact ⟨rfl, below_grow⟩

def glL : List (Nat × List Value) := [(3, powV)]
def glN : Nat := 3 + 1
def glG : List (Nat × Nat) := globG glL
def glH : Heap := globH glL glN
theorem glH_at {h : Heap} (hp : glH <+: h) : PowAt glG h := by
  refine PowAt.mono ⟨?_, ?_⟩ hp
  · show (3, 20) ∈ [(3, powV.length)]
    rw [powV_len]; exact List.mem_singleton.2 rfl
  · show (globH glL glN)[3]? = _
    simp [globH, glN, glL, List.lookup]
theorem var_cells {P : Program} {W : World} {name : String} {g : Nat} {c : Array Value} (hg : P.globalNamed name = some g) (h : W.var? P name = some c) : ∃ el fr, W.heap[g]? = some (.cells c el fr) := by
  simp only [World.var?, hg, Option.bind_some] at h
  split at h
  · rename_i cs el fr e
    cases h
    exact ⟨el, fr, e⟩
  · cases h
end Go.Proofs.YtfolkgkcaiaifaaDoor
