
/- strings.Cut at a text of one byte. No condition. -/
import Derived.Test.YtfolkgkcaiaifaaDoorLogL
import Derived.Test.YtfolkgkcaiaifaaDoorH3
namespace Go.Proofs.YtfolkgkcaiaifaaDoor
open Go.HH Go.Proofs
set_option linter.unusedSimpArgs false
set_option linter.unusedVariables false

theorem idx_miss {c : UInt8} : ∀ {l : BL}, c ∉ l → Lib.indexByte l c = -1
  | [], _ => rfl
  | x :: l, h => by
    have h1 : x ≠ c := fun e => h (by rw [e]; exact List.mem_cons_self)
    rw [Lib.indexByte, idx_miss (l := l) (fun e => h (List.mem_cons_of_mem _ e))]
    simp [h1]
theorem idx_at {c : UInt8} {q : BL} : ∀ {p : BL}, c ∉ p → Lib.indexByte (p ++ c :: q) c = p.length
  | [], _ => by simp [Lib.indexByte]
  | x :: p, h => by
    have h1 : x ≠ c := fun e => h (by rw [e]; exact List.mem_cons_self)
    have h2 := idx_at (q := q) (p := p) (fun e => h (List.mem_cons_of_mem _ e))
    rw [List.cons_append, Lib.indexByte, h2]
    have h3 : ¬ ((p.length : Int) = -1) := by omega
    simp [h1, h3]
theorem idx_hit {c : UInt8} {l : BL} (h : c ∈ l) : Lib.indexByte l c = (cutA l c).length := by
  obtain ⟨p, q, rfl, hp⟩ := List.eq_append_cons_of_mem h
  rw [cutA_hit hp, idx_at hp]
theorem cut_len {c : UInt8} {l : BL} (h : c ∈ l) : (cutA l c).length + 1 + (cutB l c).length = l.length := by
  have := congrArg List.length (cut_mem h).1
  rw [List.length_append, List.length_cons] at this
  omega
theorem cutA_extract {s : ByteArray} {c : UInt8} (h : c ∈ bl s) : s.extract 0 (cutA (bl s) c).length = mkB (cutA (bl s) c) := by
  apply bl_ext
  obtain ⟨p, q, e, hp⟩ := List.eq_append_cons_of_mem h
  rw [bl_extract, bl_mkB, e, cutA_hit hp]; simp
theorem cutB_extract {s : ByteArray} {c : UInt8} (h : c ∈ bl s) : s.extract ((cutA (bl s) c).length + 1) s.size = mkB (cutB (bl s) c) := by
  apply bl_ext
  rw [bl_extract, ← bl_len, List.take_length, bl_mkB]
  obtain ⟨p, q, e, hp⟩ := List.eq_append_cons_of_mem h
  rw [e, cutA_hit hp, cutB_hit hp, List.drop_append, List.drop_eq_nil_of_le (by omega)]
  simp

section
variable {h : Heap} {M : Nat → Prop}
theorem c_sIndex (s : ByteArray) (c : UInt8) : vCall [] Tryd.prog M 75 [.string s, .string ⟨#[c]⟩] h (fun r h' => r = .int .i64 (Lib.indexByte (bl s) c) ∧ h = h') :=
  vCall_plain (by rfl) rfl (Tryd.stringslite_Index_one s c)

end
end Go.Proofs.YtfolkgkcaiaifaaDoor
