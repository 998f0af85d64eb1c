
/- strings.Join by the library's contract. No condition. -/
import Derived.Test.YtfolkgkcaiaifaaDoorShelf
import Derived.Test.YtfolkgkcaiaifaaDoorTypes
import Derived.Test.YtfolkgkcaiaifaaDoorH3
namespace Go.Proofs.YtfolkgkcaiaifaaDoor
open Go.HH Go.Proofs Go.RowKit
set_option linter.unusedSimpArgs false
set_option linter.unusedVariables false

/-- Texts with a text between them. -/
def joinB (xs : List ByteArray) (sep : ByteArray) : ByteArray := ⟨(Lib.join (xs.map (·.data.toList)) sep.data.toList).toArray⟩
theorem joinB_nil (sep : ByteArray) : joinB [] sep = ⟨#[]⟩ := rfl
theorem joinB_one (x sep : ByteArray) : joinB [x] sep = x := by
  show (⟨(Lib.join [x.data.toList] sep.data.toList).toArray⟩ : ByteArray) = x
  rw [Lib.join_one]
theorem joinB_snoc (x : ByteArray) (xs : List ByteArray) (y sep : ByteArray) : joinB (x :: xs ++ [y]) sep = joinB (x :: xs) sep ++ sep ++ y := by
  apply bl_ext
  show (Lib.join ((x :: xs ++ [y]).map (·.data.toList)) sep.data.toList).toArray.toList = (joinB (x :: xs) sep ++ sep ++ y).data.toList
  simp only [List.cons_append, List.map_cons, List.map_append, List.map_nil, Lib.join_cons, Lib.joinTail, joinB, ByteArray.data_append, Array.toList_append, List.flatten_append, List.flatten_cons, List.flatten_nil, List.append_nil, List.append_assoc]

theorem joinB_cons2 (x y sep : ByteArray) (r : List ByteArray) : joinB (x :: y :: r) sep = x ++ sep ++ joinB (y :: r) sep := by
  apply bl_ext
  show (Lib.join ((x :: y :: r).map (·.data.toList)) sep.data.toList).toArray.toList = (x ++ sep ++ joinB (y :: r) sep).data.toList
  simp only [List.map_cons, Lib.join_cons, Lib.joinTail, joinB, ByteArray.data_append, Array.toList_append, List.flatten_cons, List.append_assoc]
theorem joinB_size {sep : ByteArray} {k : Nat} : ∀ {xs : List ByteArray}, (∀ x ∈ xs, x.size ≤ k) → (joinB xs sep).size ≤ xs.length * (k + sep.size)
  | [], _ => by rw [joinB_nil]; exact Nat.zero_le _
  | [x], hx => by rw [joinB_one]; have := hx x (by simp); rw [List.length_singleton, Nat.one_mul]; omega
  | x :: y :: r, hx => by
    have e : joinB (x :: y :: r) sep = x ++ sep ++ joinB (y :: r) sep := by
      apply bl_ext
      show (Lib.join ((x :: y :: r).map (·.data.toList)) sep.data.toList).toArray.toList = (x ++ sep ++ joinB (y :: r) sep).data.toList
      simp only [List.map_cons, Lib.join_cons, Lib.joinTail, joinB, ByteArray.data_append, Array.toList_append, List.flatten_cons, List.append_assoc]
    have h1 := joinB_size (sep := sep) (k := k) (xs := y :: r) (fun z hz => hx z (List.mem_cons_of_mem _ hz))
    have h2 := hx x (by simp)
    rw [e, ByteArray.size_append, ByteArray.size_append, List.length_cons, Nat.succ_mul]
    omega
theorem joinB_pos {sep x : ByteArray} {xs : List ByteArray} (hx : 0 < x.size) : 0 < (joinB (x :: xs) sep).size := by
  rw [show (joinB (x :: xs) sep).size = (Lib.join ((x :: xs).map (·.data.toList)) sep.data.toList).length from (bl_len _).symm, List.map_cons, Lib.join_cons, List.length_append]
  have : x.data.toList.length = x.size := bl_len x
  omega
theorem strs_flat (xs : List ByteArray) : (xs.map fun x => [Value.string x]).flatten = xs.map Value.string := by
  induction xs with
  | nil => rfl
  | cons y ys ih => rw [List.map_cons, List.flatten_cons, ih]; rfl
theorem Sl.strs {h : Heap} {id n : Nat} {xs ys : List ByteArray} (hg : hget h id = some ⟨xs.map Value.string, 1, .rw⟩) (hy : ys = xs.take n) (hn : n = ys.length) : Sl h 1 (.slice (some ⟨id, 0, none⟩) n 0) (ys.map fun x => [.string x]) := by
  refine ⟨some ⟨id, 0, none⟩, by rw [List.length_map, hn], fun r hr => ?_, fun _ => ⟨id, 0, _, rfl, hg, by simp, ?_, ?_⟩⟩
  · obtain ⟨x, _, rfl⟩ := List.mem_map.1 hr; rfl
  · have : ys.length ≤ xs.length := by rw [hy, List.length_take]; omega
    simp only [List.length_map]; omega
  · rw [strs_flat, List.length_map, List.drop_zero, ← List.map_take, Nat.mul_one, ← hn, ← hy]
theorem c_Join {G : List (Nat × Nat)} {h : Heap} {M : Nat → Prop} (v : Value) (xs : List ByteArray) (sep : ByteArray) (s : Sl h 1 v (xs.map fun x => [.string x])) (hN : xs.length ≤ 1000000) (hlen : (joinB xs sep).size ≤ 1000000000) :
    vCall G Tryd.prog M 58 [v, .string sep] h (fun r h' => r = .string (joinB xs sep) ∧ h = h') := by
  refine ⟨.string (joinB xs sep), h, fun p w vs hr ha => ?_, rfl, rfl⟩
  obtain ⟨v', rfl, hv⟩ : ∃ v', vs = #[v', .string sep] ∧ VRel p v v' := by
    have h2 : vs.size = 2 := ha.1.symm
    refine ⟨vs[0], ?_, ha.2 0 (by simp) (by omega)⟩
    refine Array.ext (by simpa using h2) fun i h3 h4 => ?_
    match i, h4 with
    | 0, _ => rfl
    | 1, _ =>
      have := ha.2 1 (by simp) (by omega)
      have := (Plain.string sep).eq this
      simpa using this
  have fin : ∀ w', Below w.heap.size w w' → ∃ v q, Ending.returned (.string (joinB xs sep)) = Ending.returned v ∧ VRel q (.string (joinB xs sep)) v ∧ HRel G q h w' ∧ Ext M p q h h w w' := fun w' b =>
    ⟨_, p, rfl, .string _, hr.kept b.size (fun k hk => b.block k hk), Ext.of_below b⟩
  by_cases h0 : xs = []
  · subst h0
    obtain ⟨a, rfl, _⟩ := s
    obtain ⟨a', c', rfl⟩ : ∃ a' c', v' = .slice a' 0 c' := by
      cases hv with
      | sliceNil => exact ⟨_, _, rfl⟩
      | slice => exact ⟨_, _, rfl⟩
      | sliceEmpty => exact ⟨_, _, rfl⟩
    refine (Tryd.strings_Join_none a' c' sep w).mono ?_
    rintro e w' ⟨rfl, rfl⟩
    exact fin _ (Below.refl _ _)
  · obtain ⟨bk, o, c, rfl, h1, h2, h3⟩ := strs_cells hr s hv h0
    refine (Tryd.strings_Join bk o c xs sep w h3 h1 (by omega) h2 ?_).mono ?_
    · have : (joinB xs sep).size = (Lib.join (xs.map (·.data.toList)) sep.data.toList).length := by simp [joinB, ByteArray.size]
      omega
    · rintro e w' ⟨rfl, b⟩
      exact fin _ b
end Go.Proofs.YtfolkgkcaiaifaaDoor
