
/- strings.Contains at a text of one byte, by the library's contract. No condition. -/
import Derived.Test.YtedidddimikjhaaDoorShelf
import Derived.Lib.Bytealg
import Derived.Lib.IndexAny
import Derived.Test.YtedidddimikjhaaDoorTypes
import Derived.Test.YtedidddimikjhaaDoorH3
namespace Go.Proofs.YtedidddimikjhaaDoor
open Go.HH Go.Proofs

theorem c_Contains {h : Heap} {M : Nat → Prop} (s : ByteArray) (c : UInt8) : vCall [] Tryd.prog M 70 [.string s, .string ⟨#[c]⟩] h (fun r h' => r = .bool ((bl s).contains c) ∧ h = h') := by
  have := vCall_plain (G := []) (M := M) (h := h) (args := [.string s, .string ⟨#[c]⟩]) (by rfl) rfl (Tryd.strings_Contains_one s c)
  rw [← Lib.contains_iff_indexByte] at this
  exact this
end Go.Proofs.YtedidddimikjhaaDoor
