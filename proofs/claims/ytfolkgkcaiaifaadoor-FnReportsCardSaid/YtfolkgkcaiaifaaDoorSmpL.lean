
/- The law about the text of a sample. No condition. -/
import Derived.Test.YtfolkgkcaiaifaaDoorSmpT
import Derived.Test.YtfolkgkcaiaifaaDoorH3
namespace Go.Proofs.YtfolkgkcaiaifaaDoor
open Go.HH Go.Proofs
set_option linter.unusedSimpArgs false
set_option linter.unusedVariables false

/-- A contract over fewer variables. -/
theorem HRuns.sub {G1 G : List (Nat × Nat)} (hs : ∀ x ∈ G1, x ∈ G) {P : Program} {f : FuncId} {args : List Value} {h : Heap} {M : Nat → Prop} {r : Value} {h' : Heap} (hh : HRuns G1 P f args h M r h') : HRuns G P f args h M r h' := by
  intro p w vs hr ha
  refine (hh p w vs ⟨fun g hg => hr.glob g (hs g hg), hr.dom, hr.blk, hr.esz, hr.inj⟩ ha).mono ?_
  rintro e w' ⟨v, q, rfl, hv, hq, ex⟩
  exact ⟨v, q, rfl, hv, ⟨fun g hg => by obtain ⟨t, a, b, c⟩ := hr.glob g hg; exact ⟨t, ex.le _ _ a, b, c⟩, hq.dom, hq.blk, hq.esz, hq.inj⟩, ex⟩
theorem vCall.sub {G1 G : List (Nat × Nat)} (hs : ∀ x ∈ G1, x ∈ G) {P : Program} {M : Nat → Prop} {f : FuncId} {args : List Value} {h : Heap} {K : Value → Heap → Prop} (hh : vCall G1 P M f args h K) : vCall G P M f args h K :=
  let ⟨r, h', a, k⟩ := hh
  ⟨r, h', HRuns.sub hs a, k⟩

def smpB (x : Smp) : ByteArray := smpS x.1.toNat x.2.1.toNat x.2.2.1.toNat x.2.2.2.toNat
def smpTV (x : Smp) : Value := if smpOk x then .tuple #[.string (smpB x), .bool true] else .tuple #[.string ⟨#[]⟩, .bool false]
theorem smpTV_shape (x : Smp) : ∃ s g, smpTV x = .tuple #[.string s, .bool g] := by
  unfold smpTV
  split <;> exact ⟨_, _, rfl⟩
section
variable {G : List (Nat × Nat)} {h : Heap} {M : Nat → Prop}
theorem decbS {p : Prop} [Decidable p] (g : p) : decide p = true := decide_eq_true g
theorem dectS {p : Prop} [Decidable p] (g : ¬ p) : decide p = false := decide_eq_false g
theorem eqsS {s : ByteArray} : (s.toList == s.toList) = true := beq_self_eq_true _
end
end Go.Proofs.YtfolkgkcaiaifaaDoor
