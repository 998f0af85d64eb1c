
/- Draws of supplies. No condition. -/
import Derived.Test.YtfolkgkcaiaifaaWst
import Derived.Test.YtfolkgkcaiaifaaFairShare
import Derived.Test.YtfolkgkcaiaifaaH3
namespace Go.Proofs.Ytfolkgkcaiaifaa
open Go.HH Go.Proofs
set_option linter.unusedSimpArgs false
set_option linter.unusedVariables false

def flS (l : List Sup) : List Value := (l.map sup).flatten
theorem flS_snoc {l : List Sup} {p : Sup} : flS (l ++ [p]) = flS l ++ sup p := by simp [flS]
theorem flS_len {l : List Sup} : (flS l).length = l.length * 3 := by
  induction l with
  | nil => rfl
  | cons x l ih => simp only [flS, List.map_cons, List.flatten_cons, List.length_append, List.length_cons] at ih ⊢; rw [ih]; simp [sup]; omega
def supZ : Blk := ⟨[.int .i64 0, .int .i64 0, .int .i64 0], 3, .rw⟩
section
variable {h : Heap} {M : Nat → Prop}
theorem c_l1Least (a b : Int) : vCall [] Try.prog M 52 [.int .i64 a, .int .i64 b] h (fun r h' => (∃ m, r = .int .i64 m) ∧ h = h') := by
  refine body_of mo Try.func52 rfl (by kernel_rfl) (Nat.le_of_ble_eq_true (by kernel_rfl)) rfl ?_
  by_cases g : a < b
  · simp only [go_sem, Nat.reduceBEq, Nat.reduceAdd, Nat.reduceMul, Nat.reduceSub, Nat.reduceLeDiff, Nat.le_refl, implies_true, Nat.reduceLT, reduceIte, decide_true, decide_false, true_and, and_true, reduceCtorEq, Nat.mul_one, Int.reduceToNat, Int.reduceLE, Int.reduceLT, Int.reduceAdd, Int.reduceSub, Int.reduceMul, Int.cast_ofNat_Int, cast_zero_int, cast_one_int, Nat.reducePow, Nat.reduceEqDiff, Nat.reduceMod, Nat.zero_add, Nat.sub_zero, Nat.add_zero, g]
    exact ⟨_, rfl⟩
  · simp only [go_sem, Nat.reduceBEq, Nat.reduceAdd, Nat.reduceMul, Nat.reduceSub, Nat.reduceLeDiff, Nat.le_refl, implies_true, Nat.reduceLT, reduceIte, decide_true, decide_false, true_and, and_true, reduceCtorEq, Nat.mul_one, Int.reduceToNat, Int.reduceLE, Int.reduceLT, Int.reduceAdd, Int.reduceSub, Int.reduceMul, Int.cast_ofNat_Int, cast_zero_int, cast_one_int, Nat.reducePow, Nat.reduceEqDiff, Nat.reduceMod, Nat.zero_add, Nat.sub_zero, Nat.add_zero, g]
    exact ⟨_, rfl⟩
set_option maxRecDepth 20000 in
theorem flS_row : ∀ {l : List Sup} {i : Nat} (hi : i < l.length), ((flS l).drop (i * 3)).take 3 = [.int .i64 l[i].1, .int .i64 l[i].2.1, .int .i64 l[i].2.2]
  | x :: l, 0, _ => rfl
  | x :: l, i + 1, hi => by
    have ih := flS_row (l := l) (i := i) (by simpa using hi)
    rw [Nat.add_mul]
    simpa [flS, sup] using ih
theorem flS_set0 : ∀ {l : List Sup} (hi : 0 < l.length) (x : Sup), setRange (flS l) 0 [.int .i64 x.1, .int .i64 x.2.1, .int .i64 x.2.2] = flS (l.set 0 x)
  | y :: l, _, x => by simp [flS, sup, setRange]
theorem snoc_lenS {l : List Sup} {x : Sup} : (l ++ [x]).length = l.length + 1 := by simp
set_option maxRecDepth 20000 in
theorem St.start0W {h : Heap} {b : Option Addr} {n : Nat} (hcode : CodeOk h b n) : St (h ++ [⟨[.slice b n 0, .int .i64 0, .int .u64 0], 3, .rw⟩]) h.length n b 0 :=
  ⟨⟨0, 0, by simp [hget, curB], by omega, by omega⟩, hcode.app⟩
/-- What a draw of a list leaves. -/
theorem Wst.rows {h H : Heap} {id n B sid k : Nat} {a : Option Addr} {l : List Sup} (s : Wst h H id n a B sid 3 (flS l)) (h0 : k ≤ h.length) : FR k H.length 3 H (.slice (some ⟨sid, 0, none⟩) l.length 0) (l.map sup) :=
  ⟨sid, by rw [List.length_map], Nat.le_trans h0 s.low.1, hget_lt s.s, s.s, fun r hr => by obtain ⟨x, _, rfl⟩ := List.mem_map.1 hr; rfl⟩
set_option maxRecDepth 20000 in
set_option maxRecDepth 20000 in
end
end Go.Proofs.Ytfolkgkcaiaifaa
