
/- The texts of networks and of consoles. No condition. -/
import Derived.Test.YtedidddimikjhaaDoorCons
namespace Go.Proofs.YtedidddimikjhaaDoor
open Go.HH Go.Proofs
set_option linter.unusedSimpArgs false
set_option linter.unusedVariables false

theorem tAdd {s t : ByteArray} {m n : Nat} (hs : s.size ≤ m) (ht : t.size ≤ n) (h : m + n ≤ 1000000) : hBin .add (.string s) (.string t) = some (.string (s ++ t)) := hBin_sadd (by omega)
theorem tSize {s t : ByteArray} {m n : Nat} (hs : s.size ≤ m) (ht : t.size ≤ n) : (s ++ t).size ≤ m + n := by rw [ByteArray.size_append]; omega
def nu (n : Int) : ByteArray := num n.toNat
theorem nu_size {n : Int} (h : 0 ≤ n ∧ n < 100) : (nu n).size ≤ 2 := num_size 2 n.toNat (by omega) (by omega)
/-- The line of a pipe. -/
def pipT (p : Pip) : ByteArray := nu p.1 ++ ⟨#[58, 32]⟩ ++ nu p.2.1 ++ ⟨#[45]⟩ ++ nu p.2.2.1 ++ ⟨#[32, 115, 105, 122, 101, 32]⟩ ++ nu p.2.2.2 ++ ⟨#[10]⟩
/-- The text of the first pipes. -/
def netT (N : Int) (P : List Pip) : Nat → ByteArray
  | 0 => ⟨#[110, 111, 100, 101, 115, 32]⟩ ++ nu N ++ ⟨#[10]⟩
  | i + 1 => netT N P i ++ pipT (P.getD i pip0)
/-- The line of a valve. -/
def vlvT (v : Vlv) : ByteArray := nu v.1 ++ ⟨#[32, 105, 110, 32]⟩ ++ nu v.2.1 ++ ⟨#[32, 97, 116, 32]⟩ ++ nu v.2.2.1 ++ (if v.2.2.2 = true then ⟨#[32, 115, 104, 117, 116]⟩ else ⟨#[]⟩) ++ ⟨#[10]⟩
def conT (c : Con) : Nat → ByteArray
  | 0 => netT c.N c.P c.P.length
  | i + 1 => conT c i ++ vlvT (c.V.getD i vlv0)
/-- The text of a console. -/
def fmtT (c : Con) : ByteArray := conT c c.V.length ++ ⟨#[115, 111, 117, 114, 99, 101, 32]⟩ ++ nu c.src ++ ⟨#[32, 114, 101, 99, 111, 114, 100, 115, 32]⟩ ++ nu c.cnt ++ ⟨#[10]⟩
theorem pipT_size {N : Int} {p : Pip} (hN : N ≤ 8) (g : pipOk N p) : (pipT p).size ≤ 20 := by
  obtain ⟨g1, g2, g3, _, g4⟩ := g
  have a := nu_size (n := p.1) (by omega)
  have b := nu_size (n := p.2.1) (by omega)
  have c := nu_size (n := p.2.2.1) (by omega)
  have d := nu_size (n := p.2.2.2) (by omega)
  have e1 : (⟨#[58, 32]⟩ : ByteArray).size = 2 := rfl
  have e2 : (⟨#[45]⟩ : ByteArray).size = 1 := rfl
  have e3 : (⟨#[32, 115, 105, 122, 101, 32]⟩ : ByteArray).size = 6 := rfl
  have e4 : (⟨#[10]⟩ : ByteArray).size = 1 := rfl
  simp only [pipT, ByteArray.size_append]
  omega
theorem netT_size {N : Int} {P : List Pip} (g : netGood N P) : ∀ i, i ≤ P.length → (netT N P i).size ≤ 10 + 20 * i
  | 0, _ => by
    have a := nu_size (n := N) (by have := g.2.1; omega)
    have e1 : (⟨#[110, 111, 100, 101, 115, 32]⟩ : ByteArray).size = 6 := rfl
    have e4 : (⟨#[10]⟩ : ByteArray).size = 1 := rfl
    simp only [netT, ByteArray.size_append]
    omega
  | i + 1, h => by
    have ih := netT_size g i (by omega)
    have := pipT_size g.2.1.2 (g.1 i (by omega)).1
    simp only [netT, ByteArray.size_append]
    omega
theorem vlvT_size {v : Vlv} (h1 : 0 ≤ v.1 ∧ v.1 < 100) (h2 : 0 ≤ v.2.1 ∧ v.2.1 < 100) (h3 : 0 ≤ v.2.2.1 ∧ v.2.2.1 < 100) : (vlvT v).size ≤ 22 := by
  have a := nu_size h1
  have b := nu_size h2
  have c := nu_size h3
  have e1 : (⟨#[32, 105, 110, 32]⟩ : ByteArray).size = 4 := rfl
  have e2 : (⟨#[32, 97, 116, 32]⟩ : ByteArray).size = 4 := rfl
  have e3 : (⟨#[32, 115, 104, 117, 116]⟩ : ByteArray).size = 5 := rfl
  have e4 : (⟨#[10]⟩ : ByteArray).size = 1 := rfl
  have e5 : (⟨#[]⟩ : ByteArray).size = 0 := rfl
  unfold vlvT
  split <;> simp only [ByteArray.size_append] <;> omega
theorem cnt_small {D Q : BL} {n : Int} (g : logOk D Q n) : 0 ≤ n ∧ n < 100 := by
  have h := g.2.2
  have := openL_len 60 0 (D ++ Q)
  omega
/-- The numbers of a valid valve. -/
theorem valOk.small {N : Int} {P : List Pip} {V : List Vlv} (g : valOk N P V) {i : Nat} (hi : i < V.length) : (0 ≤ (V.getD i vlv0).1 ∧ (V.getD i vlv0).1 < 100) ∧ (0 ≤ (V.getD i vlv0).2.1 ∧ (V.getD i vlv0).2.1 < 100) ∧ (0 ≤ (V.getD i vlv0).2.2.1 ∧ (V.getD i vlv0).2.2.1 < 100) := by
  obtain ⟨⟨a, _, b⟩, _⟩ := g.2.2 i hi
  obtain ⟨k, hk⟩ := Int.eq_ofNat_of_zero_le b.1
  obtain ⟨hkl, hkp⟩ := idxI_at hk
  have hp := of_decide_eq_true hkp
  have q := (g.1.1 k hkl).1
  rw [getDp hkl] at q
  have b2 := b.2
  rw [hk, Int.toNat_natCast, getDp hkl] at b2
  obtain ⟨q1, q2, q3, _⟩ := q
  have hN := g.1.2.1
  exact ⟨by omega, by omega, by omega⟩
theorem conT_size {c : Con} (g : valOk c.N c.P c.V) : ∀ i, i ≤ c.V.length → (conT c i).size ≤ 210 + 22 * i
  | 0, _ => by
    have := netT_size g.1 c.P.length (Nat.le_refl _)
    have := g.1.2.2
    simp only [conT]
    omega
  | i + 1, h => by
    have ih := conT_size g i (by omega)
    obtain ⟨a, b, d⟩ := g.small (i := i) (by omega)
    have := vlvT_size a b d
    simp only [conT, ByteArray.size_append]
    omega
section
variable {G : List (Nat × Nat)} {h : Heap} {M : Nat → Prop}
theorem c_ItoaI (n : Int) (hn : 0 ≤ n ∧ n < 100) : vCall [] Tryd.prog M 28 [.int .i64 n] h (fun r h' => r = .string (nu n) ∧ h = h') := by
  obtain ⟨k, rfl⟩ := Int.eq_ofNat_of_zero_le hn.1
  exact c_Itoa k (by omega)
theorem c_l1NumI (n : Int) (hn : 0 ≤ n ∧ n < 100) : vCall [] Tryd.prog M 26 [.int .i64 n] h (fun r h' => r = .string (nu n) ∧ h = h') := by
  obtain ⟨k, rfl⟩ := Int.eq_ofNat_of_zero_le hn.1
  exact c_l1Num k (by omega)
set_option maxHeartbeats 4000000 in
theorem c_networkText {n : Nat} (v : Value) (N : Int) (P : List Pip) (hv : NA n h v N P) (g : netGood N P) : vCall [] Tryd.prog M 27 [v] h (fun r h' => r = .string (netT N P P.length) ∧ h <+: h') := by
  obtain ⟨w, rfl, sw⟩ := id hv
  obtain ⟨a, rfl⟩ := Sl.len4 sw.1
  have hN := g.2.1
  have hPl := g.2.2
  have hN0 : (nu N).size ≤ 2 := nu_size (by omega)
  have y0 : (⟨#[110, 111, 100, 101, 115, 32]⟩ : ByteArray).size ≤ 6 := Nat.le_refl 6
  have ya1 : hBin .add (.string (⟨#[110, 111, 100, 101, 115, 32]⟩)) (.string (nu N)) = some (.string (⟨#[110, 111, 100, 101, 115, 32]⟩ ++ (nu N))) := tAdd y0 hN0 (by omega)
  have y1 : (⟨#[110, 111, 100, 101, 115, 32]⟩ ++ (nu N)).size ≤ 6+2 := tSize y0 hN0
  have ya2 : hBin .add (.string (⟨#[110, 111, 100, 101, 115, 32]⟩ ++ (nu N))) (.string ⟨#[10]⟩) = some (.string (⟨#[110, 111, 100, 101, 115, 32]⟩ ++ (nu N) ++ ⟨#[10]⟩)) := tAdd y1 (Nat.le_refl 1) (by omega)
  have y2 : (⟨#[110, 111, 100, 101, 115, 32]⟩ ++ (nu N) ++ ⟨#[10]⟩).size ≤ 6+2+1 := tSize y1 (Nat.le_refl 1)
  have yp : ⟨#[110, 111, 100, 101, 115, 32]⟩ ++ nu N ++ ⟨#[10]⟩ = netT N P 0 := rfl
  refine body_of mo Tryd.func27 rfl (by kernel_rfl) (Nat.le_of_ble_eq_true (by kernel_rfl)) rfl ?_
  simp only [go_sem, Nat.reduceBEq, Nat.reduceAdd, Nat.reduceMul, Nat.reduceSub, Nat.reduceLeDiff, Nat.le_refl, implies_true, Nat.reduceLT, reduceIte, decide_true, decide_false, true_and, and_true, reduceCtorEq, Nat.mul_one, Int.reduceToNat, Int.reduceLE, Int.reduceLT, Int.reduceAdd, Int.reduceSub, Int.reduceMul, Int.cast_ofNat_Int, cast_zero_int, cast_one_int, Nat.reducePow, Nat.reduceEqDiff, Nat.reduceMod, Nat.zero_add, Nat.sub_zero, Nat.add_zero]
  refine ⟨by kernel_rfl, (c_ItoaI N (by omega)).use (fun _ m => m) ?_⟩
  rintro _ _ ⟨rfl, rfl⟩
  simp only [go_sem, Nat.reduceBEq, Nat.reduceAdd, Nat.reduceMul, Nat.reduceSub, Nat.reduceLeDiff, Nat.le_refl, implies_true, Nat.reduceLT, reduceIte, decide_true, decide_false, true_and, and_true, reduceCtorEq, Nat.mul_one, Int.reduceToNat, Int.reduceLE, Int.reduceLT, Int.reduceAdd, Int.reduceSub, Int.reduceMul, Int.cast_ofNat_Int, cast_zero_int, cast_one_int, Nat.reducePow, Nat.reduceEqDiff, Nat.reduceMod, Nat.zero_add, Nat.sub_zero, Nat.add_zero, ya1, ya2, yp]
  refine vLoop.count mo P.length (fun i e h' => ∃ t : Heap, e 3 = .string (netT N P i) ∧ e 12 = .slice a P.length 0 ∧ e 13 = .int .i64 P.length ∧ e 14 = .int .i64 i ∧ h' = h ++ ⟨[.int .i64 N, .slice a P.length 0], 2, .rw⟩ :: t) ?_ ?_
  · exact ⟨[], rfl, rfl, rfl, rfl, rfl⟩
  · rintro i e _ hi ⟨t, e3, e12, e13, e14, rfl⟩
    simp only [go_sem, Nat.reduceBEq, Nat.reduceAdd, Nat.reduceMul, Nat.reduceSub, Nat.reduceLeDiff, Nat.le_refl, implies_true, Nat.reduceLT, reduceIte, decide_true, decide_false, true_and, and_true, reduceCtorEq, Nat.mul_one, Int.reduceToNat, Int.reduceLE, Int.reduceLT, Int.reduceAdd, Int.reduceSub, Int.reduceMul, Int.cast_ofNat_Int, cast_zero_int, cast_one_int, Nat.reducePow, Nat.reduceEqDiff, Nat.reduceMod, Nat.zero_add, Nat.sub_zero, Nat.add_zero, e3, e12, e13, e14]
    by_cases hlt : i < P.length
    · have ws := wsucc hlt (by omega)
      have hlt' : i < (P.map pip).length := by simpa using hlt
      obtain ⟨id, o, K, hv2, hK, _, hd, hb, hrow, _⟩ := sw.1.at hlt'
      obtain rfl : a = some ⟨id, o, none⟩ := by simpa using hv2
      rw [List.getElem_map] at hrow
      simp only [pip] at hrow
      have gd : P.getD i pip0 = P[i] := getDp hlt
      have ok := (g.1 i hlt).1
      rw [gd] at ok
      have ok2 := ok
      obtain ⟨q1, q2, q3, _, q4⟩ := ok2
      have n1 : (nu P[i].1).size ≤ 2 := nu_size (by omega)
      have n2 : (nu P[i].2.1).size ≤ 2 := nu_size (by omega)
      have n3 : (nu P[i].2.2.1).size ≤ 2 := nu_size (by omega)
      have n4 : (nu P[i].2.2.2).size ≤ 2 := nu_size (by omega)
      have ns := netT_size g i (by omega)
      have z0 : (nu P[i].1).size ≤ 2 := n1
      have za1 : hBin .add (.string (nu P[i].1)) (.string ⟨#[58, 32]⟩) = some (.string (nu P[i].1 ++ ⟨#[58, 32]⟩)) := tAdd z0 (Nat.le_refl 2) (by omega)
      have z1 : (nu P[i].1 ++ ⟨#[58, 32]⟩).size ≤ 2+2 := tSize z0 (Nat.le_refl 2)
      have za2 : hBin .add (.string (nu P[i].1 ++ ⟨#[58, 32]⟩)) (.string (nu P[i].2.1)) = some (.string (nu P[i].1 ++ ⟨#[58, 32]⟩ ++ (nu P[i].2.1))) := tAdd z1 n2 (by omega)
      have z2 : (nu P[i].1 ++ ⟨#[58, 32]⟩ ++ (nu P[i].2.1)).size ≤ 2+2+2 := tSize z1 n2
      have za3 : hBin .add (.string (nu P[i].1 ++ ⟨#[58, 32]⟩ ++ (nu P[i].2.1))) (.string ⟨#[45]⟩) = some (.string (nu P[i].1 ++ ⟨#[58, 32]⟩ ++ (nu P[i].2.1) ++ ⟨#[45]⟩)) := tAdd z2 (Nat.le_refl 1) (by omega)
      have z3 : (nu P[i].1 ++ ⟨#[58, 32]⟩ ++ (nu P[i].2.1) ++ ⟨#[45]⟩).size ≤ 2+2+2+1 := tSize z2 (Nat.le_refl 1)
      have za4 : hBin .add (.string (nu P[i].1 ++ ⟨#[58, 32]⟩ ++ (nu P[i].2.1) ++ ⟨#[45]⟩)) (.string (nu P[i].2.2.1)) = some (.string (nu P[i].1 ++ ⟨#[58, 32]⟩ ++ (nu P[i].2.1) ++ ⟨#[45]⟩ ++ (nu P[i].2.2.1))) := tAdd z3 n3 (by omega)
      have z4 : (nu P[i].1 ++ ⟨#[58, 32]⟩ ++ (nu P[i].2.1) ++ ⟨#[45]⟩ ++ (nu P[i].2.2.1)).size ≤ 2+2+2+1+2 := tSize z3 n3
      have za5 : hBin .add (.string (nu P[i].1 ++ ⟨#[58, 32]⟩ ++ (nu P[i].2.1) ++ ⟨#[45]⟩ ++ (nu P[i].2.2.1))) (.string ⟨#[32, 115, 105, 122, 101, 32]⟩) = some (.string (nu P[i].1 ++ ⟨#[58, 32]⟩ ++ (nu P[i].2.1) ++ ⟨#[45]⟩ ++ (nu P[i].2.2.1) ++ ⟨#[32, 115, 105, 122, 101, 32]⟩)) := tAdd z4 (Nat.le_refl 6) (by omega)
      have z5 : (nu P[i].1 ++ ⟨#[58, 32]⟩ ++ (nu P[i].2.1) ++ ⟨#[45]⟩ ++ (nu P[i].2.2.1) ++ ⟨#[32, 115, 105, 122, 101, 32]⟩).size ≤ 2+2+2+1+2+6 := tSize z4 (Nat.le_refl 6)
      have za6 : hBin .add (.string (nu P[i].1 ++ ⟨#[58, 32]⟩ ++ (nu P[i].2.1) ++ ⟨#[45]⟩ ++ (nu P[i].2.2.1) ++ ⟨#[32, 115, 105, 122, 101, 32]⟩)) (.string (nu P[i].2.2.2)) = some (.string (nu P[i].1 ++ ⟨#[58, 32]⟩ ++ (nu P[i].2.1) ++ ⟨#[45]⟩ ++ (nu P[i].2.2.1) ++ ⟨#[32, 115, 105, 122, 101, 32]⟩ ++ (nu P[i].2.2.2))) := tAdd z5 n4 (by omega)
      have z6 : (nu P[i].1 ++ ⟨#[58, 32]⟩ ++ (nu P[i].2.1) ++ ⟨#[45]⟩ ++ (nu P[i].2.2.1) ++ ⟨#[32, 115, 105, 122, 101, 32]⟩ ++ (nu P[i].2.2.2)).size ≤ 2+2+2+1+2+6+2 := tSize z5 n4
      have za7 : hBin .add (.string (nu P[i].1 ++ ⟨#[58, 32]⟩ ++ (nu P[i].2.1) ++ ⟨#[45]⟩ ++ (nu P[i].2.2.1) ++ ⟨#[32, 115, 105, 122, 101, 32]⟩ ++ (nu P[i].2.2.2))) (.string ⟨#[10]⟩) = some (.string (nu P[i].1 ++ ⟨#[58, 32]⟩ ++ (nu P[i].2.1) ++ ⟨#[45]⟩ ++ (nu P[i].2.2.1) ++ ⟨#[32, 115, 105, 122, 101, 32]⟩ ++ (nu P[i].2.2.2) ++ ⟨#[10]⟩)) := tAdd z6 (Nat.le_refl 1) (by omega)
      have z7 : (nu P[i].1 ++ ⟨#[58, 32]⟩ ++ (nu P[i].2.1) ++ ⟨#[45]⟩ ++ (nu P[i].2.2.1) ++ ⟨#[32, 115, 105, 122, 101, 32]⟩ ++ (nu P[i].2.2.2) ++ ⟨#[10]⟩).size ≤ 2+2+2+1+2+6+2+1 := tSize z6 (Nat.le_refl 1)
      have fa : hBin .add (.string (netT N P i)) (.string (pipT P[i])) = some (.string (netT N P (i + 1))) := by
        rw [netT, gd]
        exact tAdd ns (pipT_size g.2.1.2 ok) (by omega)
      have zp : nu P[i].1 ++ ⟨#[58, 32]⟩ ++ (nu P[i].2.1) ++ ⟨#[45]⟩ ++ (nu P[i].2.2.1) ++ ⟨#[32, 115, 105, 122, 101, 32]⟩ ++ (nu P[i].2.2.2) ++ ⟨#[10]⟩ = pipT P[i] := rfl
      simp only [go_sem, Nat.reduceBEq, Nat.reduceAdd, Nat.reduceMul, Nat.reduceSub, Nat.reduceLeDiff, Nat.le_refl, implies_true, Nat.reduceLT, reduceIte, decide_true, decide_false, true_and, and_true, reduceCtorEq, Nat.mul_one, Int.reduceToNat, Int.reduceLE, Int.reduceLT, Int.reduceAdd, Int.reduceSub, Int.reduceMul, Int.cast_ofNat_Int, cast_zero_int, cast_one_int, Nat.reducePow, Nat.reduceEqDiff, Nat.reduceMod, Nat.zero_add, Nat.sub_zero, Nat.add_zero, e3, e12, e13, e14, show (i : Int) < P.length by omega, hK, hd, hb, hrow]
      refine ⟨by kernel_rfl, (c_ItoaI _ (by omega)).use (fun _ m => m) ?_⟩
      rintro _ _ ⟨rfl, rfl⟩
      simp only [go_sem, Nat.reduceBEq, Nat.reduceAdd, Nat.reduceMul, Nat.reduceSub, Nat.reduceLeDiff, Nat.le_refl, implies_true, Nat.reduceLT, reduceIte, decide_true, decide_false, true_and, and_true, reduceCtorEq, Nat.mul_one, Int.reduceToNat, Int.reduceLE, Int.reduceLT, Int.reduceAdd, Int.reduceSub, Int.reduceMul, Int.cast_ofNat_Int, cast_zero_int, cast_one_int, Nat.reducePow, Nat.reduceEqDiff, Nat.reduceMod, Nat.zero_add, Nat.sub_zero, Nat.add_zero, e3, e12, e13, e14, za1, za2, za3, za4, za5, za6, za7, zp, fa]
      refine ⟨by kernel_rfl, (c_ItoaI _ (by omega)).use (fun _ m => m) ?_⟩
      rintro _ _ ⟨rfl, rfl⟩
      simp only [go_sem, Nat.reduceBEq, Nat.reduceAdd, Nat.reduceMul, Nat.reduceSub, Nat.reduceLeDiff, Nat.le_refl, implies_true, Nat.reduceLT, reduceIte, decide_true, decide_false, true_and, and_true, reduceCtorEq, Nat.mul_one, Int.reduceToNat, Int.reduceLE, Int.reduceLT, Int.reduceAdd, Int.reduceSub, Int.reduceMul, Int.cast_ofNat_Int, cast_zero_int, cast_one_int, Nat.reducePow, Nat.reduceEqDiff, Nat.reduceMod, Nat.zero_add, Nat.sub_zero, Nat.add_zero, e3, e12, e13, e14, za1, za2, za3, za4, za5, za6, za7, zp, fa]
      refine ⟨by kernel_rfl, (c_ItoaI _ (by omega)).use (fun _ m => m) ?_⟩
      rintro _ _ ⟨rfl, rfl⟩
      simp only [go_sem, Nat.reduceBEq, Nat.reduceAdd, Nat.reduceMul, Nat.reduceSub, Nat.reduceLeDiff, Nat.le_refl, implies_true, Nat.reduceLT, reduceIte, decide_true, decide_false, true_and, and_true, reduceCtorEq, Nat.mul_one, Int.reduceToNat, Int.reduceLE, Int.reduceLT, Int.reduceAdd, Int.reduceSub, Int.reduceMul, Int.cast_ofNat_Int, cast_zero_int, cast_one_int, Nat.reducePow, Nat.reduceEqDiff, Nat.reduceMod, Nat.zero_add, Nat.sub_zero, Nat.add_zero, e3, e12, e13, e14, za1, za2, za3, za4, za5, za6, za7, zp, fa]
      refine ⟨by kernel_rfl, (c_ItoaI _ (by omega)).use (fun _ m => m) ?_⟩
      rintro _ _ ⟨rfl, rfl⟩
      simp only [go_sem, Nat.reduceBEq, Nat.reduceAdd, Nat.reduceMul, Nat.reduceSub, Nat.reduceLeDiff, Nat.le_refl, implies_true, Nat.reduceLT, reduceIte, decide_true, decide_false, true_and, and_true, reduceCtorEq, Nat.mul_one, Int.reduceToNat, Int.reduceLE, Int.reduceLT, Int.reduceAdd, Int.reduceSub, Int.reduceMul, Int.cast_ofNat_Int, cast_zero_int, cast_one_int, Nat.reducePow, Nat.reduceEqDiff, Nat.reduceMod, Nat.zero_add, Nat.sub_zero, Nat.add_zero, e3, e12, e13, e14, za1, za2, za3, za4, za5, za6, za7, zp, fa]
      exact ⟨hlt, _, congrArg _ ws, rfl⟩
    · obtain rfl : i = P.length := by omega
      simp only [go_sem, Nat.reduceBEq, Nat.reduceAdd, Nat.reduceMul, Nat.reduceSub, Nat.reduceLeDiff, Nat.le_refl, implies_true, Nat.reduceLT, reduceIte, decide_true, decide_false, true_and, and_true, reduceCtorEq, Nat.mul_one, Int.reduceToNat, Int.reduceLE, Int.reduceLT, Int.reduceAdd, Int.reduceSub, Int.reduceMul, Int.cast_ofNat_Int, cast_zero_int, cast_one_int, Nat.reducePow, Nat.reduceEqDiff, Nat.reduceMod, Nat.zero_add, Nat.sub_zero, Nat.add_zero, e3, e12, e13, e14, show ¬ ((P.length : Int) < P.length) by omega]
set_option maxHeartbeats 4000000 in
theorem c_l2Text {n : Nat} (v : Value) (N : Int) (P : List Pip) (hv : NA n h v N P) (g : netGood N P) : vCall [] Tryd.prog M 25 [v] h (fun r h' => r = .string (netT N P P.length) ∧ h <+: h') := by
  obtain ⟨w, rfl, sw⟩ := id hv
  obtain ⟨a, rfl⟩ := Sl.len4 sw.1
  have hN := g.2.1
  have hPl := g.2.2
  have hN0 : (nu N).size ≤ 2 := nu_size (by omega)
  have y0 : (⟨#[110, 111, 100, 101, 115, 32]⟩ : ByteArray).size ≤ 6 := Nat.le_refl 6
  have ya1 : hBin .add (.string (⟨#[110, 111, 100, 101, 115, 32]⟩)) (.string (nu N)) = some (.string (⟨#[110, 111, 100, 101, 115, 32]⟩ ++ (nu N))) := tAdd y0 hN0 (by omega)
  have y1 : (⟨#[110, 111, 100, 101, 115, 32]⟩ ++ (nu N)).size ≤ 6+2 := tSize y0 hN0
  have ya2 : hBin .add (.string (⟨#[110, 111, 100, 101, 115, 32]⟩ ++ (nu N))) (.string ⟨#[10]⟩) = some (.string (⟨#[110, 111, 100, 101, 115, 32]⟩ ++ (nu N) ++ ⟨#[10]⟩)) := tAdd y1 (Nat.le_refl 1) (by omega)
  have y2 : (⟨#[110, 111, 100, 101, 115, 32]⟩ ++ (nu N) ++ ⟨#[10]⟩).size ≤ 6+2+1 := tSize y1 (Nat.le_refl 1)
  have yp : ⟨#[110, 111, 100, 101, 115, 32]⟩ ++ nu N ++ ⟨#[10]⟩ = netT N P 0 := rfl
  refine body_of mo Tryd.func25 rfl (by kernel_rfl) (Nat.le_of_ble_eq_true (by kernel_rfl)) rfl ?_
  simp only [go_sem, Nat.reduceBEq, Nat.reduceAdd, Nat.reduceMul, Nat.reduceSub, Nat.reduceLeDiff, Nat.le_refl, implies_true, Nat.reduceLT, reduceIte, decide_true, decide_false, true_and, and_true, reduceCtorEq, Nat.mul_one, Int.reduceToNat, Int.reduceLE, Int.reduceLT, Int.reduceAdd, Int.reduceSub, Int.reduceMul, Int.cast_ofNat_Int, cast_zero_int, cast_one_int, Nat.reducePow, Nat.reduceEqDiff, Nat.reduceMod, Nat.zero_add, Nat.sub_zero, Nat.add_zero]
  refine ⟨by kernel_rfl, (c_l1NumI N (by omega)).use (fun _ m => m) ?_⟩
  rintro _ _ ⟨rfl, rfl⟩
  simp only [go_sem, Nat.reduceBEq, Nat.reduceAdd, Nat.reduceMul, Nat.reduceSub, Nat.reduceLeDiff, Nat.le_refl, implies_true, Nat.reduceLT, reduceIte, decide_true, decide_false, true_and, and_true, reduceCtorEq, Nat.mul_one, Int.reduceToNat, Int.reduceLE, Int.reduceLT, Int.reduceAdd, Int.reduceSub, Int.reduceMul, Int.cast_ofNat_Int, cast_zero_int, cast_one_int, Nat.reducePow, Nat.reduceEqDiff, Nat.reduceMod, Nat.zero_add, Nat.sub_zero, Nat.add_zero, ya1, ya2, yp]
  refine vLoop.count mo P.length (fun i e h' => ∃ t : Heap, e 1 = .pointer (some ⟨h.length, 0, none⟩) ∧ e 3 = .string (netT N P i) ∧ e 4 = .int .i64 i ∧ h' = h ++ ⟨[.int .i64 N, .slice a P.length 0], 2, .rw⟩ :: t) ?_ ?_
  · exact ⟨[], rfl, rfl, rfl, rfl⟩
  · rintro i e _ hi ⟨t, e1, e3, e4, rfl⟩
    simp only [go_sem, Nat.reduceBEq, Nat.reduceAdd, Nat.reduceMul, Nat.reduceSub, Nat.reduceLeDiff, Nat.le_refl, implies_true, Nat.reduceLT, reduceIte, decide_true, decide_false, true_and, and_true, reduceCtorEq, Nat.mul_one, Int.reduceToNat, Int.reduceLE, Int.reduceLT, Int.reduceAdd, Int.reduceSub, Int.reduceMul, Int.cast_ofNat_Int, cast_zero_int, cast_one_int, Nat.reducePow, Nat.reduceEqDiff, Nat.reduceMod, Nat.zero_add, Nat.sub_zero, Nat.add_zero, e1, e3, e4]
    by_cases hlt : i < P.length
    · have ws := wsucc hlt (by omega)
      have hlt' : i < (P.map pip).length := by simpa using hlt
      obtain ⟨id, o, K, hv2, hK, _, hd, hb, hrow, _⟩ := sw.1.at hlt'
      obtain rfl : a = some ⟨id, o, none⟩ := by simpa using hv2
      rw [List.getElem_map] at hrow
      simp only [pip] at hrow
      have gd : P.getD i pip0 = P[i] := getDp hlt
      have ok := (g.1 i hlt).1
      rw [gd] at ok
      have ok2 := ok
      obtain ⟨q1, q2, q3, _, q4⟩ := ok2
      have n1 : (nu P[i].1).size ≤ 2 := nu_size (by omega)
      have n2 : (nu P[i].2.1).size ≤ 2 := nu_size (by omega)
      have n3 : (nu P[i].2.2.1).size ≤ 2 := nu_size (by omega)
      have n4 : (nu P[i].2.2.2).size ≤ 2 := nu_size (by omega)
      have ns := netT_size g i (by omega)
      have z0 := ns
      have za1 : hBin .add (.string (netT N P i)) (.string (nu P[i].1)) = some (.string (netT N P i ++ (nu P[i].1))) := tAdd z0 n1 (by omega)
      have z1 : (netT N P i ++ (nu P[i].1)).size ≤ (10 + 20 * i)+2 := tSize z0 n1
      have za2 : hBin .add (.string (netT N P i ++ (nu P[i].1))) (.string ⟨#[58, 32]⟩) = some (.string (netT N P i ++ (nu P[i].1) ++ ⟨#[58, 32]⟩)) := tAdd z1 (Nat.le_refl 2) (by omega)
      have z2 : (netT N P i ++ (nu P[i].1) ++ ⟨#[58, 32]⟩).size ≤ (10 + 20 * i)+2+2 := tSize z1 (Nat.le_refl 2)
      have za3 : hBin .add (.string (netT N P i ++ (nu P[i].1) ++ ⟨#[58, 32]⟩)) (.string (nu P[i].2.1)) = some (.string (netT N P i ++ (nu P[i].1) ++ ⟨#[58, 32]⟩ ++ (nu P[i].2.1))) := tAdd z2 n2 (by omega)
      have z3 : (netT N P i ++ (nu P[i].1) ++ ⟨#[58, 32]⟩ ++ (nu P[i].2.1)).size ≤ (10 + 20 * i)+2+2+2 := tSize z2 n2
      have za4 : hBin .add (.string (netT N P i ++ (nu P[i].1) ++ ⟨#[58, 32]⟩ ++ (nu P[i].2.1))) (.string ⟨#[45]⟩) = some (.string (netT N P i ++ (nu P[i].1) ++ ⟨#[58, 32]⟩ ++ (nu P[i].2.1) ++ ⟨#[45]⟩)) := tAdd z3 (Nat.le_refl 1) (by omega)
      have z4 : (netT N P i ++ (nu P[i].1) ++ ⟨#[58, 32]⟩ ++ (nu P[i].2.1) ++ ⟨#[45]⟩).size ≤ (10 + 20 * i)+2+2+2+1 := tSize z3 (Nat.le_refl 1)
      have za5 : hBin .add (.string (netT N P i ++ (nu P[i].1) ++ ⟨#[58, 32]⟩ ++ (nu P[i].2.1) ++ ⟨#[45]⟩)) (.string (nu P[i].2.2.1)) = some (.string (netT N P i ++ (nu P[i].1) ++ ⟨#[58, 32]⟩ ++ (nu P[i].2.1) ++ ⟨#[45]⟩ ++ (nu P[i].2.2.1))) := tAdd z4 n3 (by omega)
      have z5 : (netT N P i ++ (nu P[i].1) ++ ⟨#[58, 32]⟩ ++ (nu P[i].2.1) ++ ⟨#[45]⟩ ++ (nu P[i].2.2.1)).size ≤ (10 + 20 * i)+2+2+2+1+2 := tSize z4 n3
      have za6 : hBin .add (.string (netT N P i ++ (nu P[i].1) ++ ⟨#[58, 32]⟩ ++ (nu P[i].2.1) ++ ⟨#[45]⟩ ++ (nu P[i].2.2.1))) (.string ⟨#[32, 115, 105, 122, 101, 32]⟩) = some (.string (netT N P i ++ (nu P[i].1) ++ ⟨#[58, 32]⟩ ++ (nu P[i].2.1) ++ ⟨#[45]⟩ ++ (nu P[i].2.2.1) ++ ⟨#[32, 115, 105, 122, 101, 32]⟩)) := tAdd z5 (Nat.le_refl 6) (by omega)
      have z6 : (netT N P i ++ (nu P[i].1) ++ ⟨#[58, 32]⟩ ++ (nu P[i].2.1) ++ ⟨#[45]⟩ ++ (nu P[i].2.2.1) ++ ⟨#[32, 115, 105, 122, 101, 32]⟩).size ≤ (10 + 20 * i)+2+2+2+1+2+6 := tSize z5 (Nat.le_refl 6)
      have za7 : hBin .add (.string (netT N P i ++ (nu P[i].1) ++ ⟨#[58, 32]⟩ ++ (nu P[i].2.1) ++ ⟨#[45]⟩ ++ (nu P[i].2.2.1) ++ ⟨#[32, 115, 105, 122, 101, 32]⟩)) (.string (nu P[i].2.2.2)) = some (.string (netT N P i ++ (nu P[i].1) ++ ⟨#[58, 32]⟩ ++ (nu P[i].2.1) ++ ⟨#[45]⟩ ++ (nu P[i].2.2.1) ++ ⟨#[32, 115, 105, 122, 101, 32]⟩ ++ (nu P[i].2.2.2))) := tAdd z6 n4 (by omega)
      have z7 : (netT N P i ++ (nu P[i].1) ++ ⟨#[58, 32]⟩ ++ (nu P[i].2.1) ++ ⟨#[45]⟩ ++ (nu P[i].2.2.1) ++ ⟨#[32, 115, 105, 122, 101, 32]⟩ ++ (nu P[i].2.2.2)).size ≤ (10 + 20 * i)+2+2+2+1+2+6+2 := tSize z6 n4
      have za8 : hBin .add (.string (netT N P i ++ (nu P[i].1) ++ ⟨#[58, 32]⟩ ++ (nu P[i].2.1) ++ ⟨#[45]⟩ ++ (nu P[i].2.2.1) ++ ⟨#[32, 115, 105, 122, 101, 32]⟩ ++ (nu P[i].2.2.2))) (.string ⟨#[10]⟩) = some (.string (netT N P i ++ (nu P[i].1) ++ ⟨#[58, 32]⟩ ++ (nu P[i].2.1) ++ ⟨#[45]⟩ ++ (nu P[i].2.2.1) ++ ⟨#[32, 115, 105, 122, 101, 32]⟩ ++ (nu P[i].2.2.2) ++ ⟨#[10]⟩)) := tAdd z7 (Nat.le_refl 1) (by omega)
      have z8 : (netT N P i ++ (nu P[i].1) ++ ⟨#[58, 32]⟩ ++ (nu P[i].2.1) ++ ⟨#[45]⟩ ++ (nu P[i].2.2.1) ++ ⟨#[32, 115, 105, 122, 101, 32]⟩ ++ (nu P[i].2.2.2) ++ ⟨#[10]⟩).size ≤ (10 + 20 * i)+2+2+2+1+2+6+2+1 := tSize z7 (Nat.le_refl 1)
      have zp : netT N P i ++ (nu P[i].1) ++ ⟨#[58, 32]⟩ ++ (nu P[i].2.1) ++ ⟨#[45]⟩ ++ (nu P[i].2.2.1) ++ ⟨#[32, 115, 105, 122, 101, 32]⟩ ++ (nu P[i].2.2.2) ++ ⟨#[10]⟩ = netT N P (i + 1) := by
        rw [netT, gd, pipT]
        simp only [ByteArray.append_assoc]
      simp only [go_sem, Nat.reduceBEq, Nat.reduceAdd, Nat.reduceMul, Nat.reduceSub, Nat.reduceLeDiff, Nat.le_refl, implies_true, Nat.reduceLT, reduceIte, decide_true, decide_false, true_and, and_true, reduceCtorEq, Nat.mul_one, Int.reduceToNat, Int.reduceLE, Int.reduceLT, Int.reduceAdd, Int.reduceSub, Int.reduceMul, Int.cast_ofNat_Int, cast_zero_int, cast_one_int, Nat.reducePow, Nat.reduceEqDiff, Nat.reduceMod, Nat.zero_add, Nat.sub_zero, Nat.add_zero, e1, e3, e4, show (i : Int) < P.length by omega, hK, hd, hb, hrow]
      refine ⟨by kernel_rfl, (c_l1NumI _ (by omega)).use (fun _ m => m) ?_⟩
      rintro _ _ ⟨rfl, rfl⟩
      simp only [go_sem, Nat.reduceBEq, Nat.reduceAdd, Nat.reduceMul, Nat.reduceSub, Nat.reduceLeDiff, Nat.le_refl, implies_true, Nat.reduceLT, reduceIte, decide_true, decide_false, true_and, and_true, reduceCtorEq, Nat.mul_one, Int.reduceToNat, Int.reduceLE, Int.reduceLT, Int.reduceAdd, Int.reduceSub, Int.reduceMul, Int.cast_ofNat_Int, cast_zero_int, cast_one_int, Nat.reducePow, Nat.reduceEqDiff, Nat.reduceMod, Nat.zero_add, Nat.sub_zero, Nat.add_zero, e1, e3, e4, za1, za2, za3, za4, za5, za6, za7, za8, zp]
      refine ⟨by kernel_rfl, (c_l1NumI _ (by omega)).use (fun _ m => m) ?_⟩
      rintro _ _ ⟨rfl, rfl⟩
      simp only [go_sem, Nat.reduceBEq, Nat.reduceAdd, Nat.reduceMul, Nat.reduceSub, Nat.reduceLeDiff, Nat.le_refl, implies_true, Nat.reduceLT, reduceIte, decide_true, decide_false, true_and, and_true, reduceCtorEq, Nat.mul_one, Int.reduceToNat, Int.reduceLE, Int.reduceLT, Int.reduceAdd, Int.reduceSub, Int.reduceMul, Int.cast_ofNat_Int, cast_zero_int, cast_one_int, Nat.reducePow, Nat.reduceEqDiff, Nat.reduceMod, Nat.zero_add, Nat.sub_zero, Nat.add_zero, e1, e3, e4, za1, za2, za3, za4, za5, za6, za7, za8, zp]
      refine ⟨by kernel_rfl, (c_l1NumI _ (by omega)).use (fun _ m => m) ?_⟩
      rintro _ _ ⟨rfl, rfl⟩
      simp only [go_sem, Nat.reduceBEq, Nat.reduceAdd, Nat.reduceMul, Nat.reduceSub, Nat.reduceLeDiff, Nat.le_refl, implies_true, Nat.reduceLT, reduceIte, decide_true, decide_false, true_and, and_true, reduceCtorEq, Nat.mul_one, Int.reduceToNat, Int.reduceLE, Int.reduceLT, Int.reduceAdd, Int.reduceSub, Int.reduceMul, Int.cast_ofNat_Int, cast_zero_int, cast_one_int, Nat.reducePow, Nat.reduceEqDiff, Nat.reduceMod, Nat.zero_add, Nat.sub_zero, Nat.add_zero, e1, e3, e4, za1, za2, za3, za4, za5, za6, za7, za8, zp]
      refine ⟨by kernel_rfl, (c_l1NumI _ (by omega)).use (fun _ m => m) ?_⟩
      rintro _ _ ⟨rfl, rfl⟩
      simp only [go_sem, Nat.reduceBEq, Nat.reduceAdd, Nat.reduceMul, Nat.reduceSub, Nat.reduceLeDiff, Nat.le_refl, implies_true, Nat.reduceLT, reduceIte, decide_true, decide_false, true_and, and_true, reduceCtorEq, Nat.mul_one, Int.reduceToNat, Int.reduceLE, Int.reduceLT, Int.reduceAdd, Int.reduceSub, Int.reduceMul, Int.cast_ofNat_Int, cast_zero_int, cast_one_int, Nat.reducePow, Nat.reduceEqDiff, Nat.reduceMod, Nat.zero_add, Nat.sub_zero, Nat.add_zero, e1, e3, e4, za1, za2, za3, za4, za5, za6, za7, za8, zp]
      exact ⟨hlt, _, congrArg _ ws, rfl⟩
    · obtain rfl : i = P.length := by omega
      simp only [go_sem, Nat.reduceBEq, Nat.reduceAdd, Nat.reduceMul, Nat.reduceSub, Nat.reduceLeDiff, Nat.le_refl, implies_true, Nat.reduceLT, reduceIte, decide_true, decide_false, true_and, and_true, reduceCtorEq, Nat.mul_one, Int.reduceToNat, Int.reduceLE, Int.reduceLT, Int.reduceAdd, Int.reduceSub, Int.reduceMul, Int.cast_ofNat_Int, cast_zero_int, cast_one_int, Nat.reducePow, Nat.reduceEqDiff, Nat.reduceMod, Nat.zero_add, Nat.sub_zero, Nat.add_zero, e1, e3, e4, show ¬ ((P.length : Int) < P.length) by omega]
theorem nilB : (⟨#[]⟩ : ByteArray) = ByteArray.empty := rfl
open Classical in
noncomputable def fmtV (c : Con) : Value := if conOk c then .tuple #[.string (fmtT c), .bool true] else .tuple #[.string ⟨#[]⟩, .bool false]
set_option maxHeartbeats 4000000 in
theorem c_FormatConsole {n : Nat} (pw : PowAt G h) (c : Con) (wP wV : Value) (s : ConS n h c wP wV) (hes : EszC h 4 wV) (hc : conSmall c) : vCall G Tryd.prog M 11 [conV c wP wV] h (fun r h' => r = fmtV c ∧ h <+: h') := by
  have cv : conV c wP wV = .agg #[.int .i64 c.N, wP, wV, .int .i64 c.src, .string c.D, .string c.Q, .int .i64 c.cnt] := rfl
  obtain ⟨a, ea, _, _⟩ := id s.v.1
  rw [List.length_map] at ea
  subst ea
  refine body_of mo Tryd.func11 rfl (by kernel_rfl) (Nat.le_of_ble_eq_true (by kernel_rfl)) rfl ?_
  simp only [go_sem, Nat.reduceBEq, Nat.reduceAdd, Nat.reduceMul, Nat.reduceSub, Nat.reduceLeDiff, Nat.le_refl, implies_true, Nat.reduceLT, reduceIte, decide_true, decide_false, true_and, and_true, reduceCtorEq, Nat.mul_one, Int.reduceToNat, Int.reduceLE, Int.reduceLT, Int.reduceAdd, Int.reduceSub, Int.reduceMul, Int.cast_ofNat_Int, cast_zero_int, cast_one_int, Nat.reducePow, Nat.reduceEqDiff, Nat.reduceMod, Nat.zero_add, Nat.sub_zero, Nat.add_zero, conV]
  rw [← cv]
  refine ⟨by kernel_rfl, (c_IsValidConsole (pw.mono (by simp)) c wP _ (s.mono (by simp)) (hes.mono (by simp)) hc).use (fun _ m => m) ?_⟩
  rintro _ _ ⟨rfl, ⟨t, rfl⟩⟩
  by_cases g : conOk c
  · have hV := g.1.2.1
    have hN := g.1.1.2.1
    have hsrc := g.2.1
    have hcnt := cnt_small g.2.2
    have nsrc : (nu c.src).size ≤ 2 := nu_size (by omega)
    have ncnt : (nu c.cnt).size ≤ 2 := nu_size (by omega)
    simp only [go_sem, Nat.reduceBEq, Nat.reduceAdd, Nat.reduceMul, Nat.reduceSub, Nat.reduceLeDiff, Nat.le_refl, implies_true, Nat.reduceLT, reduceIte, decide_true, decide_false, true_and, and_true, reduceCtorEq, Nat.mul_one, Int.reduceToNat, Int.reduceLE, Int.reduceLT, Int.reduceAdd, Int.reduceSub, Int.reduceMul, Int.cast_ofNat_Int, cast_zero_int, cast_one_int, Nat.reducePow, Nat.reduceEqDiff, Nat.reduceMod, Nat.zero_add, Nat.sub_zero, Nat.add_zero, decb g, conV]
    refine ⟨by kernel_rfl, ((c_networkText _ c.N c.P (s.net.mono (by simp)) g.1.1).addG).use (fun _ m => m) ?_⟩
    rintro _ _ ⟨rfl, ⟨t2, rfl⟩⟩
    try simp only [go_sem, Nat.reduceBEq, Nat.reduceAdd, Nat.reduceMul, Nat.reduceSub, Nat.reduceLeDiff, Nat.le_refl, implies_true, Nat.reduceLT, reduceIte, decide_true, decide_false, true_and, and_true, reduceCtorEq, Nat.mul_one, Int.reduceToNat, Int.reduceLE, Int.reduceLT, Int.reduceAdd, Int.reduceSub, Int.reduceMul, Int.cast_ofNat_Int, cast_zero_int, cast_one_int, Nat.reducePow, Nat.reduceEqDiff, Nat.reduceMod, Nat.zero_add, Nat.sub_zero, Nat.add_zero, conV]
    refine vLoop.count mo c.V.length (fun i e h' => ∃ t : Heap, e 1 = .pointer (some ⟨h.length, 0, none⟩) ∧ e 4 = .string (conT c i) ∧ e 14 = .slice a c.V.length 0 ∧ e 15 = .int .i64 c.V.length ∧ e 16 = .int .i64 i ∧ h' = h ++ ⟨[.int .i64 c.N, wP, .slice a c.V.length 0, .int .i64 c.src, .string c.D, .string c.Q, .int .i64 c.cnt], 7, .rw⟩ :: t) ?_ ?_
    · exact ⟨_, rfl, rfl, rfl, rfl, rfl, rfl⟩
    · rintro i e _ hi ⟨t, x1, x4, x14, x15, x16, rfl⟩
      simp only [go_sem, Nat.reduceBEq, Nat.reduceAdd, Nat.reduceMul, Nat.reduceSub, Nat.reduceLeDiff, Nat.le_refl, implies_true, Nat.reduceLT, reduceIte, decide_true, decide_false, true_and, and_true, reduceCtorEq, Nat.mul_one, Int.reduceToNat, Int.reduceLE, Int.reduceLT, Int.reduceAdd, Int.reduceSub, Int.reduceMul, Int.cast_ofNat_Int, cast_zero_int, cast_one_int, Nat.reducePow, Nat.reduceEqDiff, Nat.reduceMod, Nat.zero_add, Nat.sub_zero, Nat.add_zero, x1, x4, x14, x15, x16]
      by_cases hlt : i < c.V.length
      · have ws := wsucc hlt (by omega)
        have hlt' : i < (c.V.map vlv).length := by simpa using hlt
        obtain ⟨id, o, K, hv2, hK, _, hd, hb, hrow, _⟩ := s.v.1.at hlt'
        obtain rfl : a = some ⟨id, o, none⟩ := by simpa using hv2
        rw [List.getElem_map] at hrow
        simp only [vlv] at hrow
        have gd : c.V.getD i vlv0 = c.V[i] := getDv hlt
        obtain ⟨q1, q2, q3⟩ := g.1.small hlt
        rw [gd] at q1 q2 q3
        have n1 := nu_size q1
        have n2 := nu_size q2
        have n3 := nu_size q3
        have ns := conT_size g.1 i (by omega)
        have z0 : (nu c.V[i].1).size ≤ 2 := n1
        have za1 : hBin .add (.string (nu c.V[i].1)) (.string ⟨#[32, 105, 110, 32]⟩) = some (.string (nu c.V[i].1 ++ ⟨#[32, 105, 110, 32]⟩)) := tAdd z0 (Nat.le_refl 4) (by omega)
        have z1 : (nu c.V[i].1 ++ ⟨#[32, 105, 110, 32]⟩).size ≤ 2+4 := tSize z0 (Nat.le_refl 4)
        have za2 : hBin .add (.string (nu c.V[i].1 ++ ⟨#[32, 105, 110, 32]⟩)) (.string (nu c.V[i].2.1)) = some (.string (nu c.V[i].1 ++ ⟨#[32, 105, 110, 32]⟩ ++ (nu c.V[i].2.1))) := tAdd z1 n2 (by omega)
        have z2 : (nu c.V[i].1 ++ ⟨#[32, 105, 110, 32]⟩ ++ (nu c.V[i].2.1)).size ≤ 2+4+2 := tSize z1 n2
        have za3 : hBin .add (.string (nu c.V[i].1 ++ ⟨#[32, 105, 110, 32]⟩ ++ (nu c.V[i].2.1))) (.string ⟨#[32, 97, 116, 32]⟩) = some (.string (nu c.V[i].1 ++ ⟨#[32, 105, 110, 32]⟩ ++ (nu c.V[i].2.1) ++ ⟨#[32, 97, 116, 32]⟩)) := tAdd z2 (Nat.le_refl 4) (by omega)
        have z3 : (nu c.V[i].1 ++ ⟨#[32, 105, 110, 32]⟩ ++ (nu c.V[i].2.1) ++ ⟨#[32, 97, 116, 32]⟩).size ≤ 2+4+2+4 := tSize z2 (Nat.le_refl 4)
        have za4 : hBin .add (.string (nu c.V[i].1 ++ ⟨#[32, 105, 110, 32]⟩ ++ (nu c.V[i].2.1) ++ ⟨#[32, 97, 116, 32]⟩)) (.string (nu c.V[i].2.2.1)) = some (.string (nu c.V[i].1 ++ ⟨#[32, 105, 110, 32]⟩ ++ (nu c.V[i].2.1) ++ ⟨#[32, 97, 116, 32]⟩ ++ (nu c.V[i].2.2.1))) := tAdd z3 n3 (by omega)
        have z4 : (nu c.V[i].1 ++ ⟨#[32, 105, 110, 32]⟩ ++ (nu c.V[i].2.1) ++ ⟨#[32, 97, 116, 32]⟩ ++ (nu c.V[i].2.2.1)).size ≤ 2+4+2+4+2 := tSize z3 n3
        have fa : hBin .add (.string (conT c i)) (.string (nu c.V[i].1 ++ ⟨#[32, 105, 110, 32]⟩ ++ (nu c.V[i].2.1) ++ ⟨#[32, 97, 116, 32]⟩ ++ (nu c.V[i].2.2.1))) = some (.string (conT c i ++ (nu c.V[i].1 ++ ⟨#[32, 105, 110, 32]⟩ ++ (nu c.V[i].2.1) ++ ⟨#[32, 97, 116, 32]⟩ ++ (nu c.V[i].2.2.1)))) := tAdd ns z4 (by omega)
        have fz : (conT c i ++ (nu c.V[i].1 ++ ⟨#[32, 105, 110, 32]⟩ ++ (nu c.V[i].2.1) ++ ⟨#[32, 97, 116, 32]⟩ ++ (nu c.V[i].2.2.1))).size ≤ (210 + 22 * i) + (2+4+2+4+2) := tSize ns z4
        have s1 : hBin .add (.string (conT c i ++ (nu c.V[i].1 ++ ⟨#[32, 105, 110, 32]⟩ ++ (nu c.V[i].2.1) ++ ⟨#[32, 97, 116, 32]⟩ ++ (nu c.V[i].2.2.1)))) (.string ⟨#[32, 115, 104, 117, 116]⟩) = some (.string (conT c i ++ (nu c.V[i].1 ++ ⟨#[32, 105, 110, 32]⟩ ++ (nu c.V[i].2.1) ++ ⟨#[32, 97, 116, 32]⟩ ++ (nu c.V[i].2.2.1)) ++ ⟨#[32, 115, 104, 117, 116]⟩)) := tAdd fz (Nat.le_refl 5) (by omega)
        have s1z : (conT c i ++ (nu c.V[i].1 ++ ⟨#[32, 105, 110, 32]⟩ ++ (nu c.V[i].2.1) ++ ⟨#[32, 97, 116, 32]⟩ ++ (nu c.V[i].2.2.1)) ++ ⟨#[32, 115, 104, 117, 116]⟩).size ≤ ((210 + 22 * i) + (2+4+2+4+2))+5 := tSize fz (Nat.le_refl 5)
        have s2 : hBin .add (.string (conT c i ++ (nu c.V[i].1 ++ ⟨#[32, 105, 110, 32]⟩ ++ (nu c.V[i].2.1) ++ ⟨#[32, 97, 116, 32]⟩ ++ (nu c.V[i].2.2.1)) ++ ⟨#[32, 115, 104, 117, 116]⟩)) (.string ⟨#[10]⟩) = some (.string (conT c i ++ (nu c.V[i].1 ++ ⟨#[32, 105, 110, 32]⟩ ++ (nu c.V[i].2.1) ++ ⟨#[32, 97, 116, 32]⟩ ++ (nu c.V[i].2.2.1)) ++ ⟨#[32, 115, 104, 117, 116]⟩ ++ ⟨#[10]⟩)) := tAdd s1z (Nat.le_refl 1) (by omega)
        have s3 : hBin .add (.string (conT c i ++ (nu c.V[i].1 ++ ⟨#[32, 105, 110, 32]⟩ ++ (nu c.V[i].2.1) ++ ⟨#[32, 97, 116, 32]⟩ ++ (nu c.V[i].2.2.1)))) (.string ⟨#[10]⟩) = some (.string (conT c i ++ (nu c.V[i].1 ++ ⟨#[32, 105, 110, 32]⟩ ++ (nu c.V[i].2.1) ++ ⟨#[32, 97, 116, 32]⟩ ++ (nu c.V[i].2.2.1)) ++ ⟨#[10]⟩)) := tAdd fz (Nat.le_refl 1) (by omega)
        have e1 : c.V[i].2.2.2 = true → conT c i ++ (nu c.V[i].1 ++ ⟨#[32, 105, 110, 32]⟩ ++ (nu c.V[i].2.1) ++ ⟨#[32, 97, 116, 32]⟩ ++ (nu c.V[i].2.2.1)) ++ ⟨#[32, 115, 104, 117, 116]⟩ ++ ⟨#[10]⟩ = conT c (i + 1) := fun q => by
          rw [conT, gd, vlvT, if_pos q]
          simp only [ByteArray.append_assoc]
        have e2 : c.V[i].2.2.2 = false → conT c i ++ (nu c.V[i].1 ++ ⟨#[32, 105, 110, 32]⟩ ++ (nu c.V[i].2.1) ++ ⟨#[32, 97, 116, 32]⟩ ++ (nu c.V[i].2.2.1)) ++ ⟨#[10]⟩ = conT c (i + 1) := fun q => by
          rw [conT, gd, vlvT, if_neg (by simp [q])]
          simp only [ByteArray.append_assoc, ByteArray.append_empty, ByteArray.empty_append, nilB]
        simp only [go_sem, Nat.reduceBEq, Nat.reduceAdd, Nat.reduceMul, Nat.reduceSub, Nat.reduceLeDiff, Nat.le_refl, implies_true, Nat.reduceLT, reduceIte, decide_true, decide_false, true_and, and_true, reduceCtorEq, Nat.mul_one, Int.reduceToNat, Int.reduceLE, Int.reduceLT, Int.reduceAdd, Int.reduceSub, Int.reduceMul, Int.cast_ofNat_Int, cast_zero_int, cast_one_int, Nat.reducePow, Nat.reduceEqDiff, Nat.reduceMod, Nat.zero_add, Nat.sub_zero, Nat.add_zero, x1, x4, x14, x15, x16, show (i : Int) < c.V.length by omega, hK, hd, hb, hrow]
        refine ⟨by kernel_rfl, ((c_ItoaI _ (by omega)).addG).use (fun _ m => m) ?_⟩
        rintro _ _ ⟨rfl, rfl⟩
        simp only [go_sem, Nat.reduceBEq, Nat.reduceAdd, Nat.reduceMul, Nat.reduceSub, Nat.reduceLeDiff, Nat.le_refl, implies_true, Nat.reduceLT, reduceIte, decide_true, decide_false, true_and, and_true, reduceCtorEq, Nat.mul_one, Int.reduceToNat, Int.reduceLE, Int.reduceLT, Int.reduceAdd, Int.reduceSub, Int.reduceMul, Int.cast_ofNat_Int, cast_zero_int, cast_one_int, Nat.reducePow, Nat.reduceEqDiff, Nat.reduceMod, Nat.zero_add, Nat.sub_zero, Nat.add_zero, x1, x4, x14, x15, x16, za1, za2, za3, za4, fa]
        refine ⟨by kernel_rfl, ((c_ItoaI _ (by omega)).addG).use (fun _ m => m) ?_⟩
        rintro _ _ ⟨rfl, rfl⟩
        simp only [go_sem, Nat.reduceBEq, Nat.reduceAdd, Nat.reduceMul, Nat.reduceSub, Nat.reduceLeDiff, Nat.le_refl, implies_true, Nat.reduceLT, reduceIte, decide_true, decide_false, true_and, and_true, reduceCtorEq, Nat.mul_one, Int.reduceToNat, Int.reduceLE, Int.reduceLT, Int.reduceAdd, Int.reduceSub, Int.reduceMul, Int.cast_ofNat_Int, cast_zero_int, cast_one_int, Nat.reducePow, Nat.reduceEqDiff, Nat.reduceMod, Nat.zero_add, Nat.sub_zero, Nat.add_zero, x1, x4, x14, x15, x16, za1, za2, za3, za4, fa]
        refine ⟨by kernel_rfl, ((c_ItoaI _ (by omega)).addG).use (fun _ m => m) ?_⟩
        rintro _ _ ⟨rfl, rfl⟩
        simp only [go_sem, Nat.reduceBEq, Nat.reduceAdd, Nat.reduceMul, Nat.reduceSub, Nat.reduceLeDiff, Nat.le_refl, implies_true, Nat.reduceLT, reduceIte, decide_true, decide_false, true_and, and_true, reduceCtorEq, Nat.mul_one, Int.reduceToNat, Int.reduceLE, Int.reduceLT, Int.reduceAdd, Int.reduceSub, Int.reduceMul, Int.cast_ofNat_Int, cast_zero_int, cast_one_int, Nat.reducePow, Nat.reduceEqDiff, Nat.reduceMod, Nat.zero_add, Nat.sub_zero, Nat.add_zero, x1, x4, x14, x15, x16, za1, za2, za3, za4, fa]
        cases hq : c.V[i].2.2.2 with
        | true =>
          simp only [go_sem, Nat.reduceBEq, Nat.reduceAdd, Nat.reduceMul, Nat.reduceSub, Nat.reduceLeDiff, Nat.le_refl, implies_true, Nat.reduceLT, reduceIte, decide_true, decide_false, true_and, and_true, reduceCtorEq, Nat.mul_one, Int.reduceToNat, Int.reduceLE, Int.reduceLT, Int.reduceAdd, Int.reduceSub, Int.reduceMul, Int.cast_ofNat_Int, cast_zero_int, cast_one_int, Nat.reducePow, Nat.reduceEqDiff, Nat.reduceMod, Nat.zero_add, Nat.sub_zero, Nat.add_zero, x1, x4, x14, x15, x16, za1, za2, za3, za4, fa, s1, s2, s3, hq]
          exact ⟨hlt, _, by rw [e1 hq], congrArg _ ws, rfl⟩
        | false =>
          simp only [go_sem, Nat.reduceBEq, Nat.reduceAdd, Nat.reduceMul, Nat.reduceSub, Nat.reduceLeDiff, Nat.le_refl, implies_true, Nat.reduceLT, reduceIte, decide_true, decide_false, true_and, and_true, reduceCtorEq, Nat.mul_one, Int.reduceToNat, Int.reduceLE, Int.reduceLT, Int.reduceAdd, Int.reduceSub, Int.reduceMul, Int.cast_ofNat_Int, cast_zero_int, cast_one_int, Nat.reducePow, Nat.reduceEqDiff, Nat.reduceMod, Nat.zero_add, Nat.sub_zero, Nat.add_zero, x1, x4, x14, x15, x16, za1, za2, za3, za4, fa, s1, s2, s3, hq]
          exact ⟨hlt, _, by rw [e2 hq], congrArg _ ws, rfl⟩
      · obtain rfl : i = c.V.length := by omega
        have w0 := conT_size g.1 c.V.length (Nat.le_refl _)
        have wa1 : hBin .add (.string (conT c c.V.length)) (.string ⟨#[115, 111, 117, 114, 99, 101, 32]⟩) = some (.string (conT c c.V.length ++ ⟨#[115, 111, 117, 114, 99, 101, 32]⟩)) := tAdd w0 (Nat.le_refl 7) (by omega)
        have w1 : (conT c c.V.length ++ ⟨#[115, 111, 117, 114, 99, 101, 32]⟩).size ≤ (210 + 22 * c.V.length)+7 := tSize w0 (Nat.le_refl 7)
        have wa2 : hBin .add (.string (conT c c.V.length ++ ⟨#[115, 111, 117, 114, 99, 101, 32]⟩)) (.string (nu c.src)) = some (.string (conT c c.V.length ++ ⟨#[115, 111, 117, 114, 99, 101, 32]⟩ ++ (nu c.src))) := tAdd w1 nsrc (by omega)
        have w2 : (conT c c.V.length ++ ⟨#[115, 111, 117, 114, 99, 101, 32]⟩ ++ (nu c.src)).size ≤ (210 + 22 * c.V.length)+7+2 := tSize w1 nsrc
        have wa3 : hBin .add (.string (conT c c.V.length ++ ⟨#[115, 111, 117, 114, 99, 101, 32]⟩ ++ (nu c.src))) (.string ⟨#[32, 114, 101, 99, 111, 114, 100, 115, 32]⟩) = some (.string (conT c c.V.length ++ ⟨#[115, 111, 117, 114, 99, 101, 32]⟩ ++ (nu c.src) ++ ⟨#[32, 114, 101, 99, 111, 114, 100, 115, 32]⟩)) := tAdd w2 (Nat.le_refl 9) (by omega)
        have w3 : (conT c c.V.length ++ ⟨#[115, 111, 117, 114, 99, 101, 32]⟩ ++ (nu c.src) ++ ⟨#[32, 114, 101, 99, 111, 114, 100, 115, 32]⟩).size ≤ (210 + 22 * c.V.length)+7+2+9 := tSize w2 (Nat.le_refl 9)
        have wa4 : hBin .add (.string (conT c c.V.length ++ ⟨#[115, 111, 117, 114, 99, 101, 32]⟩ ++ (nu c.src) ++ ⟨#[32, 114, 101, 99, 111, 114, 100, 115, 32]⟩)) (.string (nu c.cnt)) = some (.string (conT c c.V.length ++ ⟨#[115, 111, 117, 114, 99, 101, 32]⟩ ++ (nu c.src) ++ ⟨#[32, 114, 101, 99, 111, 114, 100, 115, 32]⟩ ++ (nu c.cnt))) := tAdd w3 ncnt (by omega)
        have w4 : (conT c c.V.length ++ ⟨#[115, 111, 117, 114, 99, 101, 32]⟩ ++ (nu c.src) ++ ⟨#[32, 114, 101, 99, 111, 114, 100, 115, 32]⟩ ++ (nu c.cnt)).size ≤ (210 + 22 * c.V.length)+7+2+9+2 := tSize w3 ncnt
        have wa5 : hBin .add (.string (conT c c.V.length ++ ⟨#[115, 111, 117, 114, 99, 101, 32]⟩ ++ (nu c.src) ++ ⟨#[32, 114, 101, 99, 111, 114, 100, 115, 32]⟩ ++ (nu c.cnt))) (.string ⟨#[10]⟩) = some (.string (conT c c.V.length ++ ⟨#[115, 111, 117, 114, 99, 101, 32]⟩ ++ (nu c.src) ++ ⟨#[32, 114, 101, 99, 111, 114, 100, 115, 32]⟩ ++ (nu c.cnt) ++ ⟨#[10]⟩)) := tAdd w4 (Nat.le_refl 1) (by omega)
        have w5 : (conT c c.V.length ++ ⟨#[115, 111, 117, 114, 99, 101, 32]⟩ ++ (nu c.src) ++ ⟨#[32, 114, 101, 99, 111, 114, 100, 115, 32]⟩ ++ (nu c.cnt) ++ ⟨#[10]⟩).size ≤ (210 + 22 * c.V.length)+7+2+9+2+1 := tSize w4 (Nat.le_refl 1)
        simp only [go_sem, Nat.reduceBEq, Nat.reduceAdd, Nat.reduceMul, Nat.reduceSub, Nat.reduceLeDiff, Nat.le_refl, implies_true, Nat.reduceLT, reduceIte, decide_true, decide_false, true_and, and_true, reduceCtorEq, Nat.mul_one, Int.reduceToNat, Int.reduceLE, Int.reduceLT, Int.reduceAdd, Int.reduceSub, Int.reduceMul, Int.cast_ofNat_Int, cast_zero_int, cast_one_int, Nat.reducePow, Nat.reduceEqDiff, Nat.reduceMod, Nat.zero_add, Nat.sub_zero, Nat.add_zero, x1, x4, x14, x15, x16, show ¬ ((c.V.length : Int) < c.V.length) by omega, wa1]
        refine ⟨by kernel_rfl, ((c_ItoaI _ (by omega)).addG).use (fun _ m => m) ?_⟩
        rintro _ _ ⟨rfl, rfl⟩
        simp only [go_sem, Nat.reduceBEq, Nat.reduceAdd, Nat.reduceMul, Nat.reduceSub, Nat.reduceLeDiff, Nat.le_refl, implies_true, Nat.reduceLT, reduceIte, decide_true, decide_false, true_and, and_true, reduceCtorEq, Nat.mul_one, Int.reduceToNat, Int.reduceLE, Int.reduceLT, Int.reduceAdd, Int.reduceSub, Int.reduceMul, Int.cast_ofNat_Int, cast_zero_int, cast_one_int, Nat.reducePow, Nat.reduceEqDiff, Nat.reduceMod, Nat.zero_add, Nat.sub_zero, Nat.add_zero, x1, x4, x14, x15, x16, wa1, wa2, wa3, wa4, wa5]
        refine ⟨by kernel_rfl, ((c_ItoaI _ (by omega)).addG).use (fun _ m => m) ?_⟩
        rintro _ _ ⟨rfl, rfl⟩
        simp only [go_sem, Nat.reduceBEq, Nat.reduceAdd, Nat.reduceMul, Nat.reduceSub, Nat.reduceLeDiff, Nat.le_refl, implies_true, Nat.reduceLT, reduceIte, decide_true, decide_false, true_and, and_true, reduceCtorEq, Nat.mul_one, Int.reduceToNat, Int.reduceLE, Int.reduceLT, Int.reduceAdd, Int.reduceSub, Int.reduceMul, Int.cast_ofNat_Int, cast_zero_int, cast_one_int, Nat.reducePow, Nat.reduceEqDiff, Nat.reduceMod, Nat.zero_add, Nat.sub_zero, Nat.add_zero, x1, x4, x14, x15, x16, wa1, wa2, wa3, wa4, wa5]
        rw [fmtV, if_pos g]
        rfl
  · simp only [go_sem, Nat.reduceBEq, Nat.reduceAdd, Nat.reduceMul, Nat.reduceSub, Nat.reduceLeDiff, Nat.le_refl, implies_true, Nat.reduceLT, reduceIte, decide_true, decide_false, true_and, and_true, reduceCtorEq, Nat.mul_one, Int.reduceToNat, Int.reduceLE, Int.reduceLT, Int.reduceAdd, Int.reduceSub, Int.reduceMul, Int.cast_ofNat_Int, cast_zero_int, cast_one_int, Nat.reducePow, Nat.reduceEqDiff, Nat.reduceMod, Nat.zero_add, Nat.sub_zero, Nat.add_zero, dect g]
    rw [fmtV, if_neg g]
set_option maxHeartbeats 4000000 in
theorem c_sFormatConsole {n : Nat} (c : Con) (wP wV : Value) (s : ConS n h c wP wV) (hc : conSmall c) : vCall [] Tryd.prog M 10 [conV c wP wV] h (fun r h' => r = fmtV c ∧ h <+: h') := by
  have cv : conV c wP wV = .agg #[.int .i64 c.N, wP, wV, .int .i64 c.src, .string c.D, .string c.Q, .int .i64 c.cnt] := rfl
  obtain ⟨a, ea, _, _⟩ := id s.v.1
  rw [List.length_map] at ea
  subst ea
  refine body_of mo Tryd.func10 rfl (by kernel_rfl) (Nat.le_of_ble_eq_true (by kernel_rfl)) rfl ?_
  simp only [go_sem, Nat.reduceBEq, Nat.reduceAdd, Nat.reduceMul, Nat.reduceSub, Nat.reduceLeDiff, Nat.le_refl, implies_true, Nat.reduceLT, reduceIte, decide_true, decide_false, true_and, and_true, reduceCtorEq, Nat.mul_one, Int.reduceToNat, Int.reduceLE, Int.reduceLT, Int.reduceAdd, Int.reduceSub, Int.reduceMul, Int.cast_ofNat_Int, cast_zero_int, cast_one_int, Nat.reducePow, Nat.reduceEqDiff, Nat.reduceMod, Nat.zero_add, Nat.sub_zero, Nat.add_zero, conV]
  rw [← cv]
  refine ⟨by kernel_rfl, (c_l28Good c wP _ (s.mono (by simp)) hc).use (fun _ m => m) ?_⟩
  rintro _ _ ⟨rfl, ⟨t, rfl⟩⟩
  by_cases g : conOk c
  · have hV := g.1.2.1
    have hN := g.1.1.2.1
    have hsrc := g.2.1
    have hcnt := cnt_small g.2.2
    have nsrc : (nu c.src).size ≤ 2 := nu_size (by omega)
    have ncnt : (nu c.cnt).size ≤ 2 := nu_size (by omega)
    simp only [go_sem, Nat.reduceBEq, Nat.reduceAdd, Nat.reduceMul, Nat.reduceSub, Nat.reduceLeDiff, Nat.le_refl, implies_true, Nat.reduceLT, reduceIte, decide_true, decide_false, true_and, and_true, reduceCtorEq, Nat.mul_one, Int.reduceToNat, Int.reduceLE, Int.reduceLT, Int.reduceAdd, Int.reduceSub, Int.reduceMul, Int.cast_ofNat_Int, cast_zero_int, cast_one_int, Nat.reducePow, Nat.reduceEqDiff, Nat.reduceMod, Nat.zero_add, Nat.sub_zero, Nat.add_zero, decb g, conV]
    refine ⟨by kernel_rfl, (c_l2Text _ c.N c.P (s.net.mono (by simp)) g.1.1).use (fun _ m => m) ?_⟩
    rintro _ _ ⟨rfl, ⟨t2, rfl⟩⟩
    try simp only [go_sem, Nat.reduceBEq, Nat.reduceAdd, Nat.reduceMul, Nat.reduceSub, Nat.reduceLeDiff, Nat.le_refl, implies_true, Nat.reduceLT, reduceIte, decide_true, decide_false, true_and, and_true, reduceCtorEq, Nat.mul_one, Int.reduceToNat, Int.reduceLE, Int.reduceLT, Int.reduceAdd, Int.reduceSub, Int.reduceMul, Int.cast_ofNat_Int, cast_zero_int, cast_one_int, Nat.reducePow, Nat.reduceEqDiff, Nat.reduceMod, Nat.zero_add, Nat.sub_zero, Nat.add_zero, conV]
    refine vLoop.count mo c.V.length (fun i e h' => ∃ t : Heap, e 1 = .pointer (some ⟨h.length, 0, none⟩) ∧ e 4 = .string (conT c i) ∧ e 5 = .int .i64 i ∧ h' = h ++ ⟨[.int .i64 c.N, wP, .slice a c.V.length 0, .int .i64 c.src, .string c.D, .string c.Q, .int .i64 c.cnt], 7, .rw⟩ :: t) ?_ ?_
    · exact ⟨_, rfl, rfl, rfl, rfl⟩
    · rintro i e _ hi ⟨t, x1, x4, x5, rfl⟩
      simp only [go_sem, Nat.reduceBEq, Nat.reduceAdd, Nat.reduceMul, Nat.reduceSub, Nat.reduceLeDiff, Nat.le_refl, implies_true, Nat.reduceLT, reduceIte, decide_true, decide_false, true_and, and_true, reduceCtorEq, Nat.mul_one, Int.reduceToNat, Int.reduceLE, Int.reduceLT, Int.reduceAdd, Int.reduceSub, Int.reduceMul, Int.cast_ofNat_Int, cast_zero_int, cast_one_int, Nat.reducePow, Nat.reduceEqDiff, Nat.reduceMod, Nat.zero_add, Nat.sub_zero, Nat.add_zero, x1, x4, x5]
      by_cases hlt : i < c.V.length
      · have ws := wsucc hlt (by omega)
        have hlt' : i < (c.V.map vlv).length := by simpa using hlt
        obtain ⟨id, o, K, hv2, hK, _, hd, hb, hrow, _⟩ := s.v.1.at hlt'
        obtain rfl : a = some ⟨id, o, none⟩ := by simpa using hv2
        rw [List.getElem_map] at hrow
        simp only [vlv] at hrow
        have gd : c.V.getD i vlv0 = c.V[i] := getDv hlt
        obtain ⟨q1, q2, q3⟩ := g.1.small hlt
        rw [gd] at q1 q2 q3
        have n1 := nu_size q1
        have n2 := nu_size q2
        have n3 := nu_size q3
        have ns := conT_size g.1 i (by omega)
        have z0 := ns
        have za1 : hBin .add (.string (conT c i)) (.string (nu c.V[i].1)) = some (.string (conT c i ++ (nu c.V[i].1))) := tAdd z0 n1 (by omega)
        have z1 : (conT c i ++ (nu c.V[i].1)).size ≤ (210 + 22 * i)+2 := tSize z0 n1
        have za2 : hBin .add (.string (conT c i ++ (nu c.V[i].1))) (.string ⟨#[32, 105, 110, 32]⟩) = some (.string (conT c i ++ (nu c.V[i].1) ++ ⟨#[32, 105, 110, 32]⟩)) := tAdd z1 (Nat.le_refl 4) (by omega)
        have z2 : (conT c i ++ (nu c.V[i].1) ++ ⟨#[32, 105, 110, 32]⟩).size ≤ (210 + 22 * i)+2+4 := tSize z1 (Nat.le_refl 4)
        have za3 : hBin .add (.string (conT c i ++ (nu c.V[i].1) ++ ⟨#[32, 105, 110, 32]⟩)) (.string (nu c.V[i].2.1)) = some (.string (conT c i ++ (nu c.V[i].1) ++ ⟨#[32, 105, 110, 32]⟩ ++ (nu c.V[i].2.1))) := tAdd z2 n2 (by omega)
        have z3 : (conT c i ++ (nu c.V[i].1) ++ ⟨#[32, 105, 110, 32]⟩ ++ (nu c.V[i].2.1)).size ≤ (210 + 22 * i)+2+4+2 := tSize z2 n2
        have za4 : hBin .add (.string (conT c i ++ (nu c.V[i].1) ++ ⟨#[32, 105, 110, 32]⟩ ++ (nu c.V[i].2.1))) (.string ⟨#[32, 97, 116, 32]⟩) = some (.string (conT c i ++ (nu c.V[i].1) ++ ⟨#[32, 105, 110, 32]⟩ ++ (nu c.V[i].2.1) ++ ⟨#[32, 97, 116, 32]⟩)) := tAdd z3 (Nat.le_refl 4) (by omega)
        have z4 : (conT c i ++ (nu c.V[i].1) ++ ⟨#[32, 105, 110, 32]⟩ ++ (nu c.V[i].2.1) ++ ⟨#[32, 97, 116, 32]⟩).size ≤ (210 + 22 * i)+2+4+2+4 := tSize z3 (Nat.le_refl 4)
        have za5 : hBin .add (.string (conT c i ++ (nu c.V[i].1) ++ ⟨#[32, 105, 110, 32]⟩ ++ (nu c.V[i].2.1) ++ ⟨#[32, 97, 116, 32]⟩)) (.string (nu c.V[i].2.2.1)) = some (.string (conT c i ++ (nu c.V[i].1) ++ ⟨#[32, 105, 110, 32]⟩ ++ (nu c.V[i].2.1) ++ ⟨#[32, 97, 116, 32]⟩ ++ (nu c.V[i].2.2.1))) := tAdd z4 n3 (by omega)
        have z5 : (conT c i ++ (nu c.V[i].1) ++ ⟨#[32, 105, 110, 32]⟩ ++ (nu c.V[i].2.1) ++ ⟨#[32, 97, 116, 32]⟩ ++ (nu c.V[i].2.2.1)).size ≤ (210 + 22 * i)+2+4+2+4+2 := tSize z4 n3
        have fz := z5
        have s1 : hBin .add (.string (conT c i ++ (nu c.V[i].1) ++ ⟨#[32, 105, 110, 32]⟩ ++ (nu c.V[i].2.1) ++ ⟨#[32, 97, 116, 32]⟩ ++ (nu c.V[i].2.2.1))) (.string ⟨#[32, 115, 104, 117, 116]⟩) = some (.string (conT c i ++ (nu c.V[i].1) ++ ⟨#[32, 105, 110, 32]⟩ ++ (nu c.V[i].2.1) ++ ⟨#[32, 97, 116, 32]⟩ ++ (nu c.V[i].2.2.1) ++ ⟨#[32, 115, 104, 117, 116]⟩)) := tAdd fz (Nat.le_refl 5) (by omega)
        have s1z : (conT c i ++ (nu c.V[i].1) ++ ⟨#[32, 105, 110, 32]⟩ ++ (nu c.V[i].2.1) ++ ⟨#[32, 97, 116, 32]⟩ ++ (nu c.V[i].2.2.1) ++ ⟨#[32, 115, 104, 117, 116]⟩).size ≤ ((210 + 22 * i)+2+4+2+4+2)+5 := tSize fz (Nat.le_refl 5)
        have s2 : hBin .add (.string (conT c i ++ (nu c.V[i].1) ++ ⟨#[32, 105, 110, 32]⟩ ++ (nu c.V[i].2.1) ++ ⟨#[32, 97, 116, 32]⟩ ++ (nu c.V[i].2.2.1) ++ ⟨#[32, 115, 104, 117, 116]⟩)) (.string ⟨#[10]⟩) = some (.string (conT c i ++ (nu c.V[i].1) ++ ⟨#[32, 105, 110, 32]⟩ ++ (nu c.V[i].2.1) ++ ⟨#[32, 97, 116, 32]⟩ ++ (nu c.V[i].2.2.1) ++ ⟨#[32, 115, 104, 117, 116]⟩ ++ ⟨#[10]⟩)) := tAdd s1z (Nat.le_refl 1) (by omega)
        have s3 : hBin .add (.string (conT c i ++ (nu c.V[i].1) ++ ⟨#[32, 105, 110, 32]⟩ ++ (nu c.V[i].2.1) ++ ⟨#[32, 97, 116, 32]⟩ ++ (nu c.V[i].2.2.1))) (.string ⟨#[10]⟩) = some (.string (conT c i ++ (nu c.V[i].1) ++ ⟨#[32, 105, 110, 32]⟩ ++ (nu c.V[i].2.1) ++ ⟨#[32, 97, 116, 32]⟩ ++ (nu c.V[i].2.2.1) ++ ⟨#[10]⟩)) := tAdd fz (Nat.le_refl 1) (by omega)
        have e1 : c.V[i].2.2.2 = true → conT c i ++ (nu c.V[i].1) ++ ⟨#[32, 105, 110, 32]⟩ ++ (nu c.V[i].2.1) ++ ⟨#[32, 97, 116, 32]⟩ ++ (nu c.V[i].2.2.1) ++ ⟨#[32, 115, 104, 117, 116]⟩ ++ ⟨#[10]⟩ = conT c (i + 1) := fun q => by
          rw [conT, gd, vlvT, if_pos q]
          simp only [ByteArray.append_assoc]
        have e2 : c.V[i].2.2.2 = false → conT c i ++ (nu c.V[i].1) ++ ⟨#[32, 105, 110, 32]⟩ ++ (nu c.V[i].2.1) ++ ⟨#[32, 97, 116, 32]⟩ ++ (nu c.V[i].2.2.1) ++ ⟨#[10]⟩ = conT c (i + 1) := fun q => by
          rw [conT, gd, vlvT, if_neg (by simp [q])]
          simp only [ByteArray.append_assoc, ByteArray.append_empty, ByteArray.empty_append, nilB]
        simp only [go_sem, Nat.reduceBEq, Nat.reduceAdd, Nat.reduceMul, Nat.reduceSub, Nat.reduceLeDiff, Nat.le_refl, implies_true, Nat.reduceLT, reduceIte, decide_true, decide_false, true_and, and_true, reduceCtorEq, Nat.mul_one, Int.reduceToNat, Int.reduceLE, Int.reduceLT, Int.reduceAdd, Int.reduceSub, Int.reduceMul, Int.cast_ofNat_Int, cast_zero_int, cast_one_int, Nat.reducePow, Nat.reduceEqDiff, Nat.reduceMod, Nat.zero_add, Nat.sub_zero, Nat.add_zero, x1, x4, x5, show (i : Int) < c.V.length by omega, hK, hd, hb, hrow]
        refine ⟨by kernel_rfl, (c_l1NumI _ (by omega)).use (fun _ m => m) ?_⟩
        rintro _ _ ⟨rfl, rfl⟩
        simp only [go_sem, Nat.reduceBEq, Nat.reduceAdd, Nat.reduceMul, Nat.reduceSub, Nat.reduceLeDiff, Nat.le_refl, implies_true, Nat.reduceLT, reduceIte, decide_true, decide_false, true_and, and_true, reduceCtorEq, Nat.mul_one, Int.reduceToNat, Int.reduceLE, Int.reduceLT, Int.reduceAdd, Int.reduceSub, Int.reduceMul, Int.cast_ofNat_Int, cast_zero_int, cast_one_int, Nat.reducePow, Nat.reduceEqDiff, Nat.reduceMod, Nat.zero_add, Nat.sub_zero, Nat.add_zero, x1, x4, x5, za1, za2, za3, za4, za5]
        refine ⟨by kernel_rfl, (c_l1NumI _ (by omega)).use (fun _ m => m) ?_⟩
        rintro _ _ ⟨rfl, rfl⟩
        simp only [go_sem, Nat.reduceBEq, Nat.reduceAdd, Nat.reduceMul, Nat.reduceSub, Nat.reduceLeDiff, Nat.le_refl, implies_true, Nat.reduceLT, reduceIte, decide_true, decide_false, true_and, and_true, reduceCtorEq, Nat.mul_one, Int.reduceToNat, Int.reduceLE, Int.reduceLT, Int.reduceAdd, Int.reduceSub, Int.reduceMul, Int.cast_ofNat_Int, cast_zero_int, cast_one_int, Nat.reducePow, Nat.reduceEqDiff, Nat.reduceMod, Nat.zero_add, Nat.sub_zero, Nat.add_zero, x1, x4, x5, za1, za2, za3, za4, za5]
        refine ⟨by kernel_rfl, (c_l1NumI _ (by omega)).use (fun _ m => m) ?_⟩
        rintro _ _ ⟨rfl, rfl⟩
        simp only [go_sem, Nat.reduceBEq, Nat.reduceAdd, Nat.reduceMul, Nat.reduceSub, Nat.reduceLeDiff, Nat.le_refl, implies_true, Nat.reduceLT, reduceIte, decide_true, decide_false, true_and, and_true, reduceCtorEq, Nat.mul_one, Int.reduceToNat, Int.reduceLE, Int.reduceLT, Int.reduceAdd, Int.reduceSub, Int.reduceMul, Int.cast_ofNat_Int, cast_zero_int, cast_one_int, Nat.reducePow, Nat.reduceEqDiff, Nat.reduceMod, Nat.zero_add, Nat.sub_zero, Nat.add_zero, x1, x4, x5, za1, za2, za3, za4, za5]
        cases hq : c.V[i].2.2.2 with
        | true =>
          simp only [go_sem, Nat.reduceBEq, Nat.reduceAdd, Nat.reduceMul, Nat.reduceSub, Nat.reduceLeDiff, Nat.le_refl, implies_true, Nat.reduceLT, reduceIte, decide_true, decide_false, true_and, and_true, reduceCtorEq, Nat.mul_one, Int.reduceToNat, Int.reduceLE, Int.reduceLT, Int.reduceAdd, Int.reduceSub, Int.reduceMul, Int.cast_ofNat_Int, cast_zero_int, cast_one_int, Nat.reducePow, Nat.reduceEqDiff, Nat.reduceMod, Nat.zero_add, Nat.sub_zero, Nat.add_zero, x1, x4, x5, za1, za2, za3, za4, za5, s1, s2, s3, hq]
          exact ⟨hlt, _, by rw [e1 hq], congrArg _ ws, rfl⟩
        | false =>
          simp only [go_sem, Nat.reduceBEq, Nat.reduceAdd, Nat.reduceMul, Nat.reduceSub, Nat.reduceLeDiff, Nat.le_refl, implies_true, Nat.reduceLT, reduceIte, decide_true, decide_false, true_and, and_true, reduceCtorEq, Nat.mul_one, Int.reduceToNat, Int.reduceLE, Int.reduceLT, Int.reduceAdd, Int.reduceSub, Int.reduceMul, Int.cast_ofNat_Int, cast_zero_int, cast_one_int, Nat.reducePow, Nat.reduceEqDiff, Nat.reduceMod, Nat.zero_add, Nat.sub_zero, Nat.add_zero, x1, x4, x5, za1, za2, za3, za4, za5, s1, s2, s3, hq]
          exact ⟨hlt, _, by rw [e2 hq], congrArg _ ws, rfl⟩
      · obtain rfl : i = c.V.length := by omega
        have w0 := conT_size g.1 c.V.length (Nat.le_refl _)
        have wa1 : hBin .add (.string (conT c c.V.length)) (.string ⟨#[115, 111, 117, 114, 99, 101, 32]⟩) = some (.string (conT c c.V.length ++ ⟨#[115, 111, 117, 114, 99, 101, 32]⟩)) := tAdd w0 (Nat.le_refl 7) (by omega)
        have w1 : (conT c c.V.length ++ ⟨#[115, 111, 117, 114, 99, 101, 32]⟩).size ≤ (210 + 22 * c.V.length)+7 := tSize w0 (Nat.le_refl 7)
        have wa2 : hBin .add (.string (conT c c.V.length ++ ⟨#[115, 111, 117, 114, 99, 101, 32]⟩)) (.string (nu c.src)) = some (.string (conT c c.V.length ++ ⟨#[115, 111, 117, 114, 99, 101, 32]⟩ ++ (nu c.src))) := tAdd w1 nsrc (by omega)
        have w2 : (conT c c.V.length ++ ⟨#[115, 111, 117, 114, 99, 101, 32]⟩ ++ (nu c.src)).size ≤ (210 + 22 * c.V.length)+7+2 := tSize w1 nsrc
        have wa3 : hBin .add (.string (conT c c.V.length ++ ⟨#[115, 111, 117, 114, 99, 101, 32]⟩ ++ (nu c.src))) (.string ⟨#[32, 114, 101, 99, 111, 114, 100, 115, 32]⟩) = some (.string (conT c c.V.length ++ ⟨#[115, 111, 117, 114, 99, 101, 32]⟩ ++ (nu c.src) ++ ⟨#[32, 114, 101, 99, 111, 114, 100, 115, 32]⟩)) := tAdd w2 (Nat.le_refl 9) (by omega)
        have w3 : (conT c c.V.length ++ ⟨#[115, 111, 117, 114, 99, 101, 32]⟩ ++ (nu c.src) ++ ⟨#[32, 114, 101, 99, 111, 114, 100, 115, 32]⟩).size ≤ (210 + 22 * c.V.length)+7+2+9 := tSize w2 (Nat.le_refl 9)
        have wa4 : hBin .add (.string (conT c c.V.length ++ ⟨#[115, 111, 117, 114, 99, 101, 32]⟩ ++ (nu c.src) ++ ⟨#[32, 114, 101, 99, 111, 114, 100, 115, 32]⟩)) (.string (nu c.cnt)) = some (.string (conT c c.V.length ++ ⟨#[115, 111, 117, 114, 99, 101, 32]⟩ ++ (nu c.src) ++ ⟨#[32, 114, 101, 99, 111, 114, 100, 115, 32]⟩ ++ (nu c.cnt))) := tAdd w3 ncnt (by omega)
        have w4 : (conT c c.V.length ++ ⟨#[115, 111, 117, 114, 99, 101, 32]⟩ ++ (nu c.src) ++ ⟨#[32, 114, 101, 99, 111, 114, 100, 115, 32]⟩ ++ (nu c.cnt)).size ≤ (210 + 22 * c.V.length)+7+2+9+2 := tSize w3 ncnt
        have wa5 : hBin .add (.string (conT c c.V.length ++ ⟨#[115, 111, 117, 114, 99, 101, 32]⟩ ++ (nu c.src) ++ ⟨#[32, 114, 101, 99, 111, 114, 100, 115, 32]⟩ ++ (nu c.cnt))) (.string ⟨#[10]⟩) = some (.string (conT c c.V.length ++ ⟨#[115, 111, 117, 114, 99, 101, 32]⟩ ++ (nu c.src) ++ ⟨#[32, 114, 101, 99, 111, 114, 100, 115, 32]⟩ ++ (nu c.cnt) ++ ⟨#[10]⟩)) := tAdd w4 (Nat.le_refl 1) (by omega)
        have w5 : (conT c c.V.length ++ ⟨#[115, 111, 117, 114, 99, 101, 32]⟩ ++ (nu c.src) ++ ⟨#[32, 114, 101, 99, 111, 114, 100, 115, 32]⟩ ++ (nu c.cnt) ++ ⟨#[10]⟩).size ≤ (210 + 22 * c.V.length)+7+2+9+2+1 := tSize w4 (Nat.le_refl 1)
        simp only [go_sem, Nat.reduceBEq, Nat.reduceAdd, Nat.reduceMul, Nat.reduceSub, Nat.reduceLeDiff, Nat.le_refl, implies_true, Nat.reduceLT, reduceIte, decide_true, decide_false, true_and, and_true, reduceCtorEq, Nat.mul_one, Int.reduceToNat, Int.reduceLE, Int.reduceLT, Int.reduceAdd, Int.reduceSub, Int.reduceMul, Int.cast_ofNat_Int, cast_zero_int, cast_one_int, Nat.reducePow, Nat.reduceEqDiff, Nat.reduceMod, Nat.zero_add, Nat.sub_zero, Nat.add_zero, x1, x4, x5, show ¬ ((c.V.length : Int) < c.V.length) by omega, wa1]
        refine ⟨by kernel_rfl, (c_l1NumI _ (by omega)).use (fun _ m => m) ?_⟩
        rintro _ _ ⟨rfl, rfl⟩
        simp only [go_sem, Nat.reduceBEq, Nat.reduceAdd, Nat.reduceMul, Nat.reduceSub, Nat.reduceLeDiff, Nat.le_refl, implies_true, Nat.reduceLT, reduceIte, decide_true, decide_false, true_and, and_true, reduceCtorEq, Nat.mul_one, Int.reduceToNat, Int.reduceLE, Int.reduceLT, Int.reduceAdd, Int.reduceSub, Int.reduceMul, Int.cast_ofNat_Int, cast_zero_int, cast_one_int, Nat.reducePow, Nat.reduceEqDiff, Nat.reduceMod, Nat.zero_add, Nat.sub_zero, Nat.add_zero, x1, x4, x5, wa1, wa2, wa3, wa4, wa5]
        refine ⟨by kernel_rfl, (c_l1NumI _ (by omega)).use (fun _ m => m) ?_⟩
        rintro _ _ ⟨rfl, rfl⟩
        simp only [go_sem, Nat.reduceBEq, Nat.reduceAdd, Nat.reduceMul, Nat.reduceSub, Nat.reduceLeDiff, Nat.le_refl, implies_true, Nat.reduceLT, reduceIte, decide_true, decide_false, true_and, and_true, reduceCtorEq, Nat.mul_one, Int.reduceToNat, Int.reduceLE, Int.reduceLT, Int.reduceAdd, Int.reduceSub, Int.reduceMul, Int.cast_ofNat_Int, cast_zero_int, cast_one_int, Nat.reducePow, Nat.reduceEqDiff, Nat.reduceMod, Nat.zero_add, Nat.sub_zero, Nat.add_zero, x1, x4, x5, wa1, wa2, wa3, wa4, wa5]
        rw [fmtV, if_pos g]
        rfl
  · simp only [go_sem, Nat.reduceBEq, Nat.reduceAdd, Nat.reduceMul, Nat.reduceSub, Nat.reduceLeDiff, Nat.le_refl, implies_true, Nat.reduceLT, reduceIte, decide_true, decide_false, true_and, and_true, reduceCtorEq, Nat.mul_one, Int.reduceToNat, Int.reduceLE, Int.reduceLT, Int.reduceAdd, Int.reduceSub, Int.reduceMul, Int.cast_ofNat_Int, cast_zero_int, cast_one_int, Nat.reducePow, Nat.reduceEqDiff, Nat.reduceMod, Nat.zero_add, Nat.sub_zero, Nat.add_zero, dect g]
    rw [fmtV, if_neg g]
end
end Go.Proofs.YtedidddimikjhaaDoor
