
/- Texts: which bytes they hold, and records of the log. No condition. -/
import Derived.Test.YtfolkgkcaiaifaaDoorScalar
import Derived.Test.YtfolkgkcaiaifaaDoorContains
import Derived.Test.YtfolkgkcaiaifaaDoorH3
namespace Go.Proofs.YtfolkgkcaiaifaaDoor
open Go.HH
set_option linter.unusedSimpArgs false
set_option linter.unusedVariables false

/-- A byte that a record may hold. -/
def okc (b : UInt8) : Bool := decide (32 ≤ b.toNat ∧ b.toNat ≤ 126 ∧ b.toNat ≠ 35)
def plainS (s : ByteArray) : Bool := (bl s).all okc
/-- A good record. -/
def recOk (c r : ByteArray) : Bool := decide (1 ≤ c.size ∧ c.size ≤ 160 ∧ r.size ≤ 200) && plainS c && plainS r && !((bl c).contains 64)
theorem u8_ofNat (b : UInt8) : (b.toNat : Int) ≤ 255 ∧ (0 : Int) ≤ b.toNat := by
  have := b.toNat_lt; omega

section
variable {h : Heap} {M : Nat → Prop}

theorem toList_eq {s t : ByteArray} : (s.toList == t.toList) = decide (s = t) := by
  by_cases h : s = t
  · subst h; simp
  · have : ¬ s.toList = t.toList := by
      intro hh
      rw [Lib.toList_data, Lib.toList_data] at hh
      exact h (bl_ext hh)
    rw [decide_eq_false h]
    simpa using this

theorem empty_size (c : ByteArray) : (c.toList == (⟨#[]⟩ : ByteArray).toList) = decide (c.size = 0) := by
  rw [toList_eq]
  refine decide_eq_decide.2 ⟨fun hh => by rw [hh]; rfl, fun hh => bl_ext ?_⟩
  have := bl_len c
  rw [hh] at this
  rw [List.eq_nil_of_length_eq_zero this]; rfl

end

end Go.Proofs.YtfolkgkcaiaifaaDoor
