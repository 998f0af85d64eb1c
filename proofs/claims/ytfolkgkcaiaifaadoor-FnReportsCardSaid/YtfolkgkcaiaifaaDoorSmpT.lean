
/- The text of a sample: what both programs say. No condition. -/
import Derived.Test.YtfolkgkcaiaifaaDoorSamples
import Derived.Test.YtfolkgkcaiaifaaDoorGlobS
import Derived.Test.YtfolkgkcaiaifaaDoorLogL
import Derived.Test.YtfolkgkcaiaifaaDoorH3
namespace Go.Proofs.YtfolkgkcaiaifaaDoor
open Go.HH Go.Proofs
set_option linter.unusedSimpArgs false
set_option linter.unusedVariables false

def tDay : ByteArray := ⟨#[100, 97, 121, 32]⟩
def tAt : ByteArray := ⟨#[44, 32, 110, 111, 100, 101, 32]⟩
def tCol : ByteArray := ⟨#[58, 32]⟩
def tSp : ByteArray := ⟨#[32]⟩
def tDot : ByteArray := ⟨#[46]⟩
/-- Three digits. -/
def dl3 (x : Nat) : List UInt8 := [UInt8.ofNat (48 + x / 100), UInt8.ofNat (48 + x / 10 % 10), UInt8.ofNat (48 + x % 10)]
def d3 (x : Nat) : ByteArray := ⟨(dl3 x).toArray⟩
def smpS (a n k v : Nat) : ByteArray := tDay ++ num a ++ tAt ++ num n ++ tCol ++ wordB k ++ tSp ++ num (v / 1000) ++ tDot ++ d3 (v % 1000)
theorem t_addS {a b : ByteArray} {n m : Nat} (h1 : a.size ≤ n) (h2 : b.size ≤ m) (h : n + m ≤ 9223372036854775807) : hBin .add (.string a) (.string b) = some (.string (a ++ b)) := hBin_sadd (by omega)
theorem t_sizeS {a b : ByteArray} {n m : Nat} (h1 : a.size ≤ n) (h2 : b.size ≤ m) : (a ++ b).size ≤ n + m := by rw [ByteArray.size_append]; omega
theorem wordB_size {k : Nat} (hk : k ≤ 4) : (wordB k).size ≤ 9 := by
  rcases k with _ | _ | _ | _ | _ | k <;> first | decide | omega
theorem wordV_at {k : Nat} (hk : k ≤ 4) : wordV[k]? = some (.string (wordB k)) := by
  rcases k with _ | _ | _ | _ | _ | k <;> first | rfl | omega
theorem dec4 {x : Nat} (hx : x < 1000) : Lib.decDigits (1000 + x) = 49 :: dl3 x := by
  have step : ∀ n, ¬ n < 10 → Lib.decDigits n = Lib.decDigits (n / 10) ++ [UInt8.ofNat (48 + n % 10)] := fun n h => by rw [Lib.decDigits, dif_neg h]
  rw [step (1000 + x) (by omega), step ((1000 + x) / 10) (by omega), step ((1000 + x) / 10 / 10) (by omega), Lib.decDigits_one (by omega)]
  rw [show (1000 + x) / 10 / 10 / 10 = 1 by omega, show (1000 + x) / 10 / 10 % 10 = x / 100 by omega, show (1000 + x) / 10 % 10 = x / 10 % 10 by omega, show (1000 + x) % 10 = x % 10 by omega]
  rfl
theorem num4 {x : Nat} (hx : x < 1000) : (num (1000 + x)).size = 4 ∧ (num (1000 + x)).extract 1 4 = d3 x := by
  have e : bl (num (1000 + x)) = 49 :: dl3 x := dec4 hx
  refine ⟨by rw [← bl_len, e]; rfl, bl_ext ?_⟩
  rw [bl_extract, e]; rfl

section
variable {G : List (Nat × Nat)} {h : Heap} {M : Nat → Prop}

theorem div3 {x : Nat} (hx : x < 1000) : ∀ i, i < 3 → (dl3 x).drop (3 - (i + 1)) = UInt8.ofNat (48 + x / 10 ^ i % 10) :: (dl3 x).drop (3 - i)
  | 0, _ => by simp [dl3]
  | 1, _ => by simp [dl3]
  | 2, _ => by
    have : x / 100 % 10 = x / 100 := Nat.mod_eq_of_lt (by omega)
    simp [dl3, this]
  | i + 3, h => by omega
theorem wrap8 {n : Int} (h : 0 ≤ n ∧ n ≤ 255) : IntKind.u8.wrap n = n := IntWalk.u8_in _ h
set_option maxRecDepth 20000 in
end
end Go.Proofs.YtfolkgkcaiaifaaDoor
