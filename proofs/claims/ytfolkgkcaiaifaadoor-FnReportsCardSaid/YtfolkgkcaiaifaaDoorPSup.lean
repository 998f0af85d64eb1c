
/- A supply read from its sentence: what both programs return. No condition. -/
import Derived.Test.YtfolkgkcaiaifaaDoorSupText
import Derived.Test.YtfolkgkcaiaifaaDoorFairShare
import Derived.Test.YtfolkgkcaiaifaaDoorReadN
import Derived.Test.YtfolkgkcaiaifaaDoorGlobM
import Derived.Test.YtfolkgkcaiaifaaDoorH3
namespace Go.Proofs.YtfolkgkcaiaifaaDoor
open Go.HH Go.Proofs
set_option linter.unusedSimpArgs false
set_option linter.unusedVariables false

def supT (x : Int × Int × Int) : ByteArray := supS x.1.toNat x.2.1.toNat x.2.2.toNat
/-- The supply that a text tells. -/
def IsPS (s : ByteArray) (ok : Bool) (x : Int × Int × Int) : Prop := (ok = true ∧ supOk x ∧ supT x = s) ∨ (ok = false ∧ x = (0, 0, 0) ∧ ¬ ∃ y, supOk y ∧ supT y = s)
theorem IsPS.ex (s : ByteArray) : ∃ ok x, IsPS s ok x := by
  by_cases h : ∃ y, supOk y ∧ supT y = s
  · obtain ⟨y, hy⟩ := h
    exact ⟨true, y, .inl ⟨rfl, hy⟩⟩
  · exact ⟨false, _, .inr ⟨rfl, rfl, h⟩⟩

theorem splitL_hit {p q : BL} {b : UInt8} (hp : b ∉ p) : splitL (p ++ b :: q) b = p :: splitL q b := by
  have key : ∀ (l : BL) (A : List BL) (c : BL), l.foldl (spl b) (A, c) = (A ++ ((l.foldl (spl b) ([], c)).1), (l.foldl (spl b) ([], c)).2) := by
    intro l
    induction l with
    | nil => intro A c; simp
    | cons x r ih =>
      intro A c
      simp only [List.foldl_cons]
      by_cases hx : x = b
      · rw [show spl b (A, c) x = (A ++ [c], []) by rw [spl, if_pos hx], show spl b ([], c) x = ([] ++ [c], []) by rw [spl, if_pos hx], ih (A ++ [c]) [], ih ([] ++ [c]) []]
        simp
      · rw [show spl b (A, c) x = (A, c ++ [x]) by rw [spl, if_neg hx], show spl b ([], c) x = ([], c ++ [x]) by rw [spl, if_neg hx], ih A (c ++ [x])]
  have pre : ∀ (l : BL) (c : BL), b ∉ l → l.foldl (spl b) ([], c) = ([], c ++ l) := by
    intro l
    induction l with
    | nil => intro c _; simp
    | cons x r ih =>
      intro c h
      simp only [List.mem_cons, not_or] at h
      rw [List.foldl_cons, show spl b ([], c) x = ([], c ++ [x]) by rw [spl, if_neg (fun e => h.1 e.symm)], ih _ h.2, List.append_assoc]; rfl
  have e : (p ++ b :: q).foldl (spl b) ([], []) = q.foldl (spl b) ([p], []) := by
    rw [List.foldl_append, pre p [] hp, List.nil_append, List.foldl_cons, spl, if_pos rfl]; rfl
  simp only [splitL, e]
  rw [key q [p] []]; rfl
theorem splitL_last {p : BL} {b : UInt8} (hp : b ∉ p) : splitL p b = [p] := by
  obtain ⟨r, h1, h2⟩ := splitL_head p b
  rw [h1, h2.2 hp, cutA_miss hp]
theorem dec_no32 (n : Nat) : (32 : UInt8) ∉ Lib.decDigits n := fun h => by have := dec_digit n _ h; exact absurd this (by decide)
def pNode : BL := [78, 111, 100, 101]
def pGot : BL := [103, 111, 116]
def pAll : BL := [97, 108, 108]
def pNoth : BL := [110, 111, 116, 104, 105, 110, 103]
def pOf : BL := [111, 102]
def pTail : List BL := [[108, 105, 116, 101, 114, 115], [112, 101, 114], [109, 105, 110, 117, 116, 101, 46]]
/-- The words of a supply's sentence. -/
def supW (a b c : Nat) : List BL := if b = c then [pNode, Lib.decDigits a, pGot, pAll, Lib.decDigits c] ++ pTail else if b = 0 then [pNode, Lib.decDigits a, pGot, pNoth, pOf, Lib.decDigits c] ++ pTail else [pNode, Lib.decDigits a, pGot, Lib.decDigits b, pOf, Lib.decDigits c] ++ pTail
theorem sup_split (a b c : Nat) : splitL (bl (supS a b c)) 32 = supW a b c := by
  have t : splitL [108, 105, 116, 101, 114, 115, 32, 112, 101, 114, 32, 109, 105, 110, 117, 116, 101, 46] 32 = pTail := by decide
  have e0 : bl tNode = pNode ++ [32] := rfl
  have e1 : bl tGot = 32 :: (pGot ++ [32]) := rfl
  have e2 : bl tLit = 32 :: [108, 105, 116, 101, 114, 115, 32, 112, 101, 114, 32, 109, 105, 110, 117, 116, 101, 46] := rfl
  have head : ∀ mid : BL, splitL (bl (tNode ++ num a ++ tGot) ++ mid) 32 = pNode :: Lib.decDigits a :: pGot :: splitL mid 32 := fun mid => by
    rw [bl_app, bl_app, bl_num, e0, e1]
    simp only [List.append_assoc, List.cons_append, List.nil_append]
    rw [splitL_hit (by decide), splitL_hit (dec_no32 a), splitL_hit (by decide)]
  have tail : splitL (Lib.decDigits c ++ bl tLit) 32 = Lib.decDigits c :: pTail := by rw [e2, splitL_hit (dec_no32 c), t]
  have eS : bl (supS a b c) = bl (tNode ++ num a ++ tGot) ++ (bl (supMid b c) ++ (Lib.decDigits c ++ bl tLit)) := by
    rw [supS, bl_app, bl_app, bl_app, bl_num, List.append_assoc, List.append_assoc]
  rw [eS, head, supMid, supW]
  split
  · rw [show bl tAll = pAll ++ [32] from rfl, List.append_assoc]
    simp only [List.cons_append, List.nil_append]
    rw [splitL_hit (by decide), tail]
  · split
    · rw [show bl tNone = pNoth ++ 32 :: (pOf ++ [32]) from rfl]
      simp only [List.append_assoc, List.cons_append, List.nil_append]
      rw [splitL_hit (by decide), splitL_hit (by decide), tail]
    · rw [bl_app, bl_num, show bl tOf = 32 :: (pOf ++ [32]) from rfl]
      simp only [List.append_assoc, List.cons_append, List.nil_append]
      rw [splitL_hit (dec_no32 b), splitL_hit (by decide), tail]
theorem dgno {l : BL} (h : l.all (fun c => !isDg c) = true) : ∀ c ∈ l, isDg c = false := fun c hc => by
  have := List.all_eq_true.1 h c hc
  simpa using this
/-- The numbers of a supply's sentence. -/
def supN (a b c : Nat) : List Int := if b = c then [(a : Int), (c : Int)] else if b = 0 then [(a : Int), (c : Int)] else [(a : Int), (b : Int), (c : Int)]
theorem sup_nums {a b c : Nat} (ha : a < 1000000) (hb : b < 1000000) (hc : c < 1000000) : NumsR 4 (bl (supS a b c)) (supN a b c) := by
  have tail : ∀ m, NumsR (m + 2) (Lib.decDigits c ++ bl tLit) [(c : Int)] := fun m => by
    rw [show bl tLit = 32 :: [108, 105, 116, 101, 114, 115, 32, 112, 101, 114, 32, 109, 105, 110, 117, 116, 101, 46] from rfl]
    refine NumsR.num hc (by decide) ?_
    have := NumsR.free (m := m) (q := []) (o := []) (.nil _) (p := [108, 105, 116, 101, 114, 115, 32, 112, 101, 114, 32, 109, 105, 110, 117, 116, 101, 46]) (dgno (by decide))
    rwa [List.append_nil] at this
  have head : ∀ (mid : BL) (o : List Int), NumsR 3 mid o → NumsR 4 (bl (tNode ++ num a ++ tGot) ++ mid) ((a : Int) :: o) := fun mid o h => by
    rw [bl_app, bl_app, bl_num, show bl tGot = 32 :: [103, 111, 116, 32] from rfl, List.append_assoc, List.append_assoc]
    refine NumsR.free ?_ (dgno (by decide))
    rw [List.cons_append]
    exact NumsR.num ha (by decide) (NumsR.free h (dgno (by decide)))
  have eS : bl (supS a b c) = bl (tNode ++ num a ++ tGot) ++ (bl (supMid b c) ++ (Lib.decDigits c ++ bl tLit)) := by
    rw [supS, bl_app, bl_app, bl_app, bl_num, List.append_assoc, List.append_assoc]
  rw [eS, supMid, supN]
  split
  · exact head _ _ (NumsR.free (tail 1) (dgno (by decide)))
  · split
    · exact head _ _ (NumsR.free (tail 1) (dgno (by decide)))
    · refine head _ _ ?_
      rw [bl_app, bl_num, show bl tOf = 32 :: [111, 102, 32] from rfl, List.append_assoc, List.cons_append]
      exact NumsR.num hb (by decide) (NumsR.free (tail 0) (dgno (by decide)))
theorem sup_all {a c : Nat} : Lib.contains (bl (supS a c c)) [32, 97, 108, 108, 32] = true := by
  rw [contains_iff]
  refine ⟨bl (tNode ++ num a) ++ [32, 103, 111, 116], Lib.decDigits c ++ bl tLit, ?_⟩
  rw [supS, supMid, if_pos rfl]
  simp only [bl_app, bl_num, List.append_assoc]
  rfl
theorem sup_noall {a c : Nat} (hc : c ≠ 0) : Lib.contains (bl (supS a 0 c)) [32, 97, 108, 108, 32] = false := by
  rw [Bool.eq_false_iff]
  intro h
  rw [contains_iff] at h
  have hm : (97 : UInt8) ∈ bl (supS a 0 c) := h.subset (by simp)
  rw [supS, supMid, if_neg (fun e => hc e.symm), if_pos rfl] at hm
  simp only [bl_app, bl_num, List.mem_append] at hm
  rcases hm with ((((hm | hm) | hm) | hm) | hm) | hm
  · exact absurd hm (by decide)
  · have := dec_digit a _ hm; exact absurd this (by decide)
  · exact absurd hm (by decide)
  · exact absurd hm (by decide)
  · have := dec_digit c _ hm; exact absurd this (by decide)
  · exact absurd hm (by decide)

def ag3 (x : Int × Int × Int) : Value := .agg #[.int .i64 x.1, .int .i64 x.2.1, .int .i64 x.2.2]
theorem IsPS.no {s : ByteArray} {ok : Bool} {x y : Int × Int × Int} (h : IsPS s ok x) (hy : ok = true → y = x) (g : ¬ (supOk y ∧ supT y = s)) : ok = false ∧ x = (0, 0, 0) := by
  rcases h with ⟨h1, h2, h3⟩ | ⟨h1, h2, _⟩
  · rw [hy h1] at g; exact absurd ⟨h2, h3⟩ g
  · exact ⟨h1, h2⟩
theorem IsPS.yes {s : ByteArray} {ok : Bool} {x y : Int × Int × Int} (h : IsPS s ok x) (hy : ok = true → y = x) (g : supOk y ∧ supT y = s) : ok = true ∧ x = y := by
  rcases h with ⟨h1, h2, h3⟩ | ⟨h1, h2, h3⟩
  · exact ⟨h1, (hy h1).symm⟩
  · exact absurd ⟨y, g⟩ h3
theorem IsPS.nat {s : ByteArray} {ok : Bool} {x : Int × Int × Int} (h : IsPS s ok x) (hok : ok = true) : ∃ a b c : Nat, x = ((a : Int), (b : Int), (c : Int)) ∧ a ≤ 8 ∧ b ≤ c ∧ c ≤ 1000 ∧ s = supS a b c := by
  rcases h with ⟨h1, h2, h3⟩ | ⟨h1, _⟩
  · obtain ⟨a, b, c⟩ := x
    obtain ⟨g1, g2, g3, g4⟩ := h2
    dsimp only at g1 g2 g3 g4
    obtain ⟨a, rfl⟩ := Int.eq_ofNat_of_zero_le (show 0 ≤ a by omega)
    obtain ⟨b, rfl⟩ := Int.eq_ofNat_of_zero_le g2
    obtain ⟨c, rfl⟩ := Int.eq_ofNat_of_zero_le (show 0 ≤ c by omega)
    exact ⟨a, b, c, rfl, by omega, by omega, by omega, h3.symm⟩
  · rw [h1] at hok; cases hok

section
variable {G : List (Nat × Nat)} {h : Heap} {M : Nat → Prop}

set_option maxRecDepth 20000 in
theorem c_ParseSupply (pw : PowAt G h) (mx : MaxAt G h) (s : ByteArray) (ok : Bool) (x : Int × Int × Int) (hs : s.size ≤ 10000000) (hx : IsPS s ok x) : vCall G Tryd.prog M 15 [.string s] h (fun r h' => r = .tuple #[ag3 x, .bool ok] ∧ h <+: h') := by
  refine body_of mo Tryd.func15 rfl (by kernel_rfl) (Nat.le_of_ble_eq_true (by kernel_rfl)) rfl ?_
  simp only [go_sem, Nat.reduceBEq, Nat.reduceAdd, Nat.reduceMul, Nat.reduceSub, Nat.reduceLeDiff, Nat.le_refl, implies_true, Nat.reduceLT, reduceIte, decide_true, decide_false, true_and, and_true, reduceCtorEq, Nat.mul_one, Int.reduceToNat, Int.reduceLE, Int.reduceLT, Int.reduceAdd, Int.reduceSub, Int.reduceMul, Int.cast_ofNat_Int, cast_zero_int, cast_one_int, Nat.reducePow, Nat.reduceEqDiff, Nat.reduceMod, Nat.zero_add, Nat.sub_zero, Nat.add_zero]
  refine ⟨by kernel_rfl, ((c_numbersOf s 4 hs (by omega)).addG).use (fun _ m => m) ?_⟩
  rintro v _ ⟨⟨l, fl, nl⟩, ⟨t, rfl⟩⟩
  have ll := nl.len
  obtain ⟨va, rfl⟩ := fl.ai.len
  have known : ok = true → s.size ≤ 80 ∧ ∃ a b c : Nat, x = ((a : Int), (b : Int), (c : Int)) ∧ s = supS a b c ∧ l = supN a b c := fun hok => by
    obtain ⟨a, b, c, e1, e2, e3, e4, e5⟩ := hx.nat hok
    refine ⟨by rw [e5]; exact supS_size e2 (by omega) e4, a, b, c, e1, e5, ?_⟩
    rw [e5] at nl
    exact nl.uniq (sup_nums (by omega) (by omega) (by omega))
  have shut : ¬ (s.size ≤ 80 ∧ 2 ≤ l.length ∧ l.length ≤ 3) → ok = false ∧ x = (0, 0, 0) := fun g => by
    rcases hx with ⟨h1, _⟩ | ⟨h1, h2, _⟩
    · obtain ⟨k1, a, b, c, _, _, k2⟩ := known h1
      refine absurd ⟨k1, ?_⟩ g
      rw [k2, supN]
      split
      · exact ⟨Nat.le_refl 2, Nat.le_succ 2⟩
      · split
        · exact ⟨Nat.le_refl 2, Nat.le_succ 2⟩
        · exact ⟨Nat.le_succ 2, Nat.le_refl 3⟩
    · exact ⟨h1, h2⟩
  by_cases g1 : s.size ≤ 80
  · simp only [go_sem, Nat.reduceBEq, Nat.reduceAdd, Nat.reduceMul, Nat.reduceSub, Nat.reduceLeDiff, Nat.le_refl, implies_true, Nat.reduceLT, reduceIte, decide_true, decide_false, true_and, and_true, reduceCtorEq, Nat.mul_one, Int.reduceToNat, Int.reduceLE, Int.reduceLT, Int.reduceAdd, Int.reduceSub, Int.reduceMul, Int.cast_ofNat_Int, cast_zero_int, cast_one_int, Nat.reducePow, Nat.reduceEqDiff, Nat.reduceMod, Nat.zero_add, Nat.sub_zero, Nat.add_zero, show ¬ (80 : Int) < s.size by omega]
    refine ⟨by kernel_rfl, ((c_inside _ _ _).addG).use (fun _ m => m) ?_⟩
    rintro _ _ ⟨rfl, rfl⟩
    by_cases g2 : 2 ≤ l.length ∧ l.length ≤ 3
    · have g3 : decide ((2 : Int) ≤ l.length ∧ (l.length : Int) ≤ 3) = true := decide_eq_true (by omega)
      obtain ⟨id, off, k, hv, _, hk, hk0, hd, _, hb, _, hat⟩ := fl.ai.at (by omega)
      obtain rfl : va = some ⟨id, off, none⟩ := by simpa using hv
      simp only [List.append_assoc, List.cons_append, List.nil_append] at hk hk0
      have dead : k.st ≠ .dead := hd
      by_cases g4 : l.length = 3
      · obtain ⟨p, q, r, rfl⟩ : ∃ p q r, l = [p, q, r] := by
          match l, g4 with
          | [p, q, r], _ => exact ⟨p, q, r, rfl⟩
        have a0 : k.cells[off]? = some (.int .i64 p) := hat 0 (by simp)
        have a1 : k.cells[off + 1]? = some (.int .i64 q) := hat 1 (by simp)
        have a2 : k.cells[off + 2]? = some (.int .i64 r) := hat 2 (by simp)
        simp only [go_sem, Nat.reduceBEq, Nat.reduceAdd, Nat.reduceMul, Nat.reduceSub, Nat.reduceLeDiff, Nat.le_refl, implies_true, Nat.reduceLT, reduceIte, decide_true, decide_false, true_and, and_true, reduceCtorEq, Nat.mul_one, Int.reduceToNat, Int.reduceLE, Int.reduceLT, Int.reduceAdd, Int.reduceSub, Int.reduceMul, Int.cast_ofNat_Int, cast_zero_int, cast_one_int, Nat.reducePow, Nat.reduceEqDiff, Nat.reduceMod, Nat.zero_add, Nat.sub_zero, Nat.add_zero, show ¬ (80 : Int) < s.size by omega, g3, hk, hk0, hd, a0, a1, a2, show IntKind.i64.wrap 2 = 2 from rfl, show IntKind.i64.wrap 1 = 1 from rfl]
        have hy : ok = true → ((p, q, r) : Int × Int × Int) = x := fun hok => by
          obtain ⟨_, a, b, c, e1, _, e2⟩ := known hok
          unfold supN at e2
          split at e2
          · simp at e2
          · split at e2
            · simp at e2
            · rw [e1]; simp at e2; obtain ⟨rfl, rfl, rfl⟩ := e2; rfl
        refine ⟨by kernel_rfl, ((c_IsValidSupply p q r).addG).use (fun _ m => m) ?_⟩
        rintro _ _ ⟨rfl, ⟨t3, rfl⟩⟩
        by_cases v1 : supplyOk p q r
        · simp only [go_sem, Nat.reduceBEq, Nat.reduceAdd, Nat.reduceMul, Nat.reduceSub, Nat.reduceLeDiff, Nat.le_refl, implies_true, Nat.reduceLT, reduceIte, decide_true, decide_false, true_and, and_true, reduceCtorEq, Nat.mul_one, Int.reduceToNat, Int.reduceLE, Int.reduceLT, Int.reduceAdd, Int.reduceSub, Int.reduceMul, Int.cast_ofNat_Int, cast_zero_int, cast_one_int, Nat.reducePow, Nat.reduceEqDiff, Nat.reduceMod, Nat.zero_add, Nat.sub_zero, Nat.add_zero, decbS v1]
          refine ⟨by kernel_rfl, (c_supplyTextI (pw.mono (by simp)) p q r v1).use (fun _ m => m) ?_⟩
          rintro _ _ ⟨rfl, ⟨t4, rfl⟩⟩
          by_cases v2 : supT (p, q, r) = s
          · obtain ⟨rfl, rfl⟩ := hx.yes hy ⟨v1, v2⟩
            have v3 : ((supS p.toNat q.toNat r.toNat).toList == s.toList) = true := by rw [show supS p.toNat q.toNat r.toNat = s from v2]; exact beq_self_eq_true _
            simp only [go_sem, Nat.reduceBEq, Nat.reduceAdd, Nat.reduceMul, Nat.reduceSub, Nat.reduceLeDiff, Nat.le_refl, implies_true, Nat.reduceLT, reduceIte, decide_true, decide_false, true_and, and_true, reduceCtorEq, Nat.mul_one, Int.reduceToNat, Int.reduceLE, Int.reduceLT, Int.reduceAdd, Int.reduceSub, Int.reduceMul, Int.cast_ofNat_Int, cast_zero_int, cast_one_int, Nat.reducePow, Nat.reduceEqDiff, Nat.reduceMod, Nat.zero_add, Nat.sub_zero, Nat.add_zero, decbS v1, v3, Bool.not_true]
            rfl
          · obtain ⟨rfl, rfl⟩ := hx.no hy (fun h => v2 h.2)
            have v3 : ((supS p.toNat q.toNat r.toNat).toList == s.toList) = false := by rw [toList_eq]; exact decide_eq_false v2
            simp only [go_sem, Nat.reduceBEq, Nat.reduceAdd, Nat.reduceMul, Nat.reduceSub, Nat.reduceLeDiff, Nat.le_refl, implies_true, Nat.reduceLT, reduceIte, decide_true, decide_false, true_and, and_true, reduceCtorEq, Nat.mul_one, Int.reduceToNat, Int.reduceLE, Int.reduceLT, Int.reduceAdd, Int.reduceSub, Int.reduceMul, Int.cast_ofNat_Int, cast_zero_int, cast_one_int, Nat.reducePow, Nat.reduceEqDiff, Nat.reduceMod, Nat.zero_add, Nat.sub_zero, Nat.add_zero, decbS v1, v3, Bool.not_false]
            rfl
        · obtain ⟨rfl, rfl⟩ := hx.no hy (fun h => v1 h.1)
          simp only [go_sem, Nat.reduceBEq, Nat.reduceAdd, Nat.reduceMul, Nat.reduceSub, Nat.reduceLeDiff, Nat.le_refl, implies_true, Nat.reduceLT, reduceIte, decide_true, decide_false, true_and, and_true, reduceCtorEq, Nat.mul_one, Int.reduceToNat, Int.reduceLE, Int.reduceLT, Int.reduceAdd, Int.reduceSub, Int.reduceMul, Int.cast_ofNat_Int, cast_zero_int, cast_one_int, Nat.reducePow, Nat.reduceEqDiff, Nat.reduceMod, Nat.zero_add, Nat.sub_zero, Nat.add_zero, dectS v1]
          rfl
      · obtain ⟨p, q, rfl⟩ : ∃ p q, l = [p, q] := by
          have g5 : l.length = 2 := by omega
          match l, g5 with
          | [p, q], _ => exact ⟨p, q, rfl⟩
        have a0 : k.cells[off]? = some (.int .i64 p) := hat 0 (by simp)
        have a1 : k.cells[off + 1]? = some (.int .i64 q) := hat 1 (by simp)
        simp only [go_sem, Nat.reduceBEq, Nat.reduceAdd, Nat.reduceMul, Nat.reduceSub, Nat.reduceLeDiff, Nat.le_refl, implies_true, Nat.reduceLT, reduceIte, decide_true, decide_false, true_and, and_true, reduceCtorEq, Nat.mul_one, Int.reduceToNat, Int.reduceLE, Int.reduceLT, Int.reduceAdd, Int.reduceSub, Int.reduceMul, Int.cast_ofNat_Int, cast_zero_int, cast_one_int, Nat.reducePow, Nat.reduceEqDiff, Nat.reduceMod, Nat.zero_add, Nat.sub_zero, Nat.add_zero, show ¬ (80 : Int) < s.size by omega, g3, hk, hk0, hd, a0, a1, show ((2 : Int) == 3) = false from rfl, show IntKind.i64.wrap 2 = 2 from rfl, show IntKind.i64.wrap 1 = 1 from rfl]
        refine ⟨by kernel_rfl, (c_ContainsG (mx.mono (by simp)) s _ (by omega)).use (fun _ m => m) ?_⟩
        rintro _ _ ⟨rfl, rfl⟩
        by_cases q1 : Lib.contains (bl s) (bl ⟨#[32, 97, 108, 108, 32]⟩) = true
        · have hy : ok = true → ((p, q, q) : Int × Int × Int) = x := fun hok => by
            obtain ⟨_, a, b, c, e1, e3, e2⟩ := known hok
            unfold supN at e2
            split at e2
            · rename_i h1; rw [e1]; simp at e2; obtain ⟨rfl, rfl⟩ := e2; rw [h1]
            · split at e2
              · rename_i h1 h2
                subst h2
                rw [e3] at q1
                rw [show bl (⟨#[32, 97, 108, 108, 32]⟩ : ByteArray) = [32, 97, 108, 108, 32] from rfl, sup_noall (fun h => h1 h.symm)] at q1
                cases q1
              · simp at e2
          simp only [go_sem, Nat.reduceBEq, Nat.reduceAdd, Nat.reduceMul, Nat.reduceSub, Nat.reduceLeDiff, Nat.le_refl, implies_true, Nat.reduceLT, reduceIte, decide_true, decide_false, true_and, and_true, reduceCtorEq, Nat.mul_one, Int.reduceToNat, Int.reduceLE, Int.reduceLT, Int.reduceAdd, Int.reduceSub, Int.reduceMul, Int.cast_ofNat_Int, cast_zero_int, cast_one_int, Nat.reducePow, Nat.reduceEqDiff, Nat.reduceMod, Nat.zero_add, Nat.sub_zero, Nat.add_zero, q1]
          refine ⟨by kernel_rfl, ((c_IsValidSupply p q q).addG).use (fun _ m => m) ?_⟩
          rintro _ _ ⟨rfl, ⟨t3, rfl⟩⟩
          by_cases v1 : supplyOk p q q
          · simp only [go_sem, Nat.reduceBEq, Nat.reduceAdd, Nat.reduceMul, Nat.reduceSub, Nat.reduceLeDiff, Nat.le_refl, implies_true, Nat.reduceLT, reduceIte, decide_true, decide_false, true_and, and_true, reduceCtorEq, Nat.mul_one, Int.reduceToNat, Int.reduceLE, Int.reduceLT, Int.reduceAdd, Int.reduceSub, Int.reduceMul, Int.cast_ofNat_Int, cast_zero_int, cast_one_int, Nat.reducePow, Nat.reduceEqDiff, Nat.reduceMod, Nat.zero_add, Nat.sub_zero, Nat.add_zero, decbS v1]
            refine ⟨by kernel_rfl, (c_supplyTextI (pw.mono (by simp)) p q q v1).use (fun _ m => m) ?_⟩
            rintro _ _ ⟨rfl, ⟨t4, rfl⟩⟩
            by_cases v2 : supT (p, q, q) = s
            · obtain ⟨rfl, rfl⟩ := hx.yes hy ⟨v1, v2⟩
              have v3 : ((supS p.toNat q.toNat q.toNat).toList == s.toList) = true := by rw [show supS p.toNat q.toNat q.toNat = s from v2]; exact beq_self_eq_true _
              simp only [go_sem, Nat.reduceBEq, Nat.reduceAdd, Nat.reduceMul, Nat.reduceSub, Nat.reduceLeDiff, Nat.le_refl, implies_true, Nat.reduceLT, reduceIte, decide_true, decide_false, true_and, and_true, reduceCtorEq, Nat.mul_one, Int.reduceToNat, Int.reduceLE, Int.reduceLT, Int.reduceAdd, Int.reduceSub, Int.reduceMul, Int.cast_ofNat_Int, cast_zero_int, cast_one_int, Nat.reducePow, Nat.reduceEqDiff, Nat.reduceMod, Nat.zero_add, Nat.sub_zero, Nat.add_zero, decbS v1, v3, Bool.not_true]
              rfl
            · obtain ⟨rfl, rfl⟩ := hx.no hy (fun h => v2 h.2)
              have v3 : ((supS p.toNat q.toNat q.toNat).toList == s.toList) = false := by rw [toList_eq]; exact decide_eq_false v2
              simp only [go_sem, Nat.reduceBEq, Nat.reduceAdd, Nat.reduceMul, Nat.reduceSub, Nat.reduceLeDiff, Nat.le_refl, implies_true, Nat.reduceLT, reduceIte, decide_true, decide_false, true_and, and_true, reduceCtorEq, Nat.mul_one, Int.reduceToNat, Int.reduceLE, Int.reduceLT, Int.reduceAdd, Int.reduceSub, Int.reduceMul, Int.cast_ofNat_Int, cast_zero_int, cast_one_int, Nat.reducePow, Nat.reduceEqDiff, Nat.reduceMod, Nat.zero_add, Nat.sub_zero, Nat.add_zero, decbS v1, v3, Bool.not_false]
              rfl
          · obtain ⟨rfl, rfl⟩ := hx.no hy (fun h => v1 h.1)
            simp only [go_sem, Nat.reduceBEq, Nat.reduceAdd, Nat.reduceMul, Nat.reduceSub, Nat.reduceLeDiff, Nat.le_refl, implies_true, Nat.reduceLT, reduceIte, decide_true, decide_false, true_and, and_true, reduceCtorEq, Nat.mul_one, Int.reduceToNat, Int.reduceLE, Int.reduceLT, Int.reduceAdd, Int.reduceSub, Int.reduceMul, Int.cast_ofNat_Int, cast_zero_int, cast_one_int, Nat.reducePow, Nat.reduceEqDiff, Nat.reduceMod, Nat.zero_add, Nat.sub_zero, Nat.add_zero, dectS v1]
            rfl
        · have q2 : Lib.contains (bl s) (bl ⟨#[32, 97, 108, 108, 32]⟩) = false := by simpa using q1
          have hy : ok = true → ((p, 0, q) : Int × Int × Int) = x := fun hok => by
            obtain ⟨_, a, b, c, e1, e3, e2⟩ := known hok
            unfold supN at e2
            split at e2
            · rename_i h1
              subst h1
              rw [e3] at q1
              exact absurd sup_all q1
            · split at e2
              · rename_i h1 h2; rw [e1]; simp at e2; obtain ⟨rfl, rfl⟩ := e2; rw [h2]; rfl
              · simp at e2
          simp only [go_sem, Nat.reduceBEq, Nat.reduceAdd, Nat.reduceMul, Nat.reduceSub, Nat.reduceLeDiff, Nat.le_refl, implies_true, Nat.reduceLT, reduceIte, decide_true, decide_false, true_and, and_true, reduceCtorEq, Nat.mul_one, Int.reduceToNat, Int.reduceLE, Int.reduceLT, Int.reduceAdd, Int.reduceSub, Int.reduceMul, Int.cast_ofNat_Int, cast_zero_int, cast_one_int, Nat.reducePow, Nat.reduceEqDiff, Nat.reduceMod, Nat.zero_add, Nat.sub_zero, Nat.add_zero, q2]
          refine ⟨by kernel_rfl, ((c_IsValidSupply p 0 q).addG).use (fun _ m => m) ?_⟩
          rintro _ _ ⟨rfl, ⟨t3, rfl⟩⟩
          by_cases v1 : supplyOk p 0 q
          · simp only [go_sem, Nat.reduceBEq, Nat.reduceAdd, Nat.reduceMul, Nat.reduceSub, Nat.reduceLeDiff, Nat.le_refl, implies_true, Nat.reduceLT, reduceIte, decide_true, decide_false, true_and, and_true, reduceCtorEq, Nat.mul_one, Int.reduceToNat, Int.reduceLE, Int.reduceLT, Int.reduceAdd, Int.reduceSub, Int.reduceMul, Int.cast_ofNat_Int, cast_zero_int, cast_one_int, Nat.reducePow, Nat.reduceEqDiff, Nat.reduceMod, Nat.zero_add, Nat.sub_zero, Nat.add_zero, decbS v1]
            refine ⟨by kernel_rfl, (c_supplyTextI (pw.mono (by simp)) p 0 q v1).use (fun _ m => m) ?_⟩
            rintro _ _ ⟨rfl, ⟨t4, rfl⟩⟩
            by_cases v2 : supT (p, 0, q) = s
            · obtain ⟨rfl, rfl⟩ := hx.yes hy ⟨v1, v2⟩
              have v3 : ((supS p.toNat 0 q.toNat).toList == s.toList) = true := by rw [show supS p.toNat 0 q.toNat = s from v2]; exact beq_self_eq_true _
              simp only [go_sem, Nat.reduceBEq, Nat.reduceAdd, Nat.reduceMul, Nat.reduceSub, Nat.reduceLeDiff, Nat.le_refl, implies_true, Nat.reduceLT, reduceIte, decide_true, decide_false, true_and, and_true, reduceCtorEq, Nat.mul_one, Int.reduceToNat, Int.reduceLE, Int.reduceLT, Int.reduceAdd, Int.reduceSub, Int.reduceMul, Int.cast_ofNat_Int, cast_zero_int, cast_one_int, Nat.reducePow, Nat.reduceEqDiff, Nat.reduceMod, Nat.zero_add, Nat.sub_zero, Nat.add_zero, decbS v1, v3, Bool.not_true]
              rfl
            · obtain ⟨rfl, rfl⟩ := hx.no hy (fun h => v2 h.2)
              have v3 : ((supS p.toNat 0 q.toNat).toList == s.toList) = false := by rw [toList_eq]; exact decide_eq_false v2
              simp only [go_sem, Nat.reduceBEq, Nat.reduceAdd, Nat.reduceMul, Nat.reduceSub, Nat.reduceLeDiff, Nat.le_refl, implies_true, Nat.reduceLT, reduceIte, decide_true, decide_false, true_and, and_true, reduceCtorEq, Nat.mul_one, Int.reduceToNat, Int.reduceLE, Int.reduceLT, Int.reduceAdd, Int.reduceSub, Int.reduceMul, Int.cast_ofNat_Int, cast_zero_int, cast_one_int, Nat.reducePow, Nat.reduceEqDiff, Nat.reduceMod, Nat.zero_add, Nat.sub_zero, Nat.add_zero, decbS v1, v3, Bool.not_false]
              rfl
          · obtain ⟨rfl, rfl⟩ := hx.no hy (fun h => v1 h.1)
            simp only [go_sem, Nat.reduceBEq, Nat.reduceAdd, Nat.reduceMul, Nat.reduceSub, Nat.reduceLeDiff, Nat.le_refl, implies_true, Nat.reduceLT, reduceIte, decide_true, decide_false, true_and, and_true, reduceCtorEq, Nat.mul_one, Int.reduceToNat, Int.reduceLE, Int.reduceLT, Int.reduceAdd, Int.reduceSub, Int.reduceMul, Int.cast_ofNat_Int, cast_zero_int, cast_one_int, Nat.reducePow, Nat.reduceEqDiff, Nat.reduceMod, Nat.zero_add, Nat.sub_zero, Nat.add_zero, dectS v1]
            rfl
    · obtain ⟨rfl, rfl⟩ := shut (fun h => g2 h.2)
      simp only [go_sem, Nat.reduceBEq, Nat.reduceAdd, Nat.reduceMul, Nat.reduceSub, Nat.reduceLeDiff, Nat.le_refl, implies_true, Nat.reduceLT, reduceIte, decide_true, decide_false, true_and, and_true, reduceCtorEq, Nat.mul_one, Int.reduceToNat, Int.reduceLE, Int.reduceLT, Int.reduceAdd, Int.reduceSub, Int.reduceMul, Int.cast_ofNat_Int, cast_zero_int, cast_one_int, Nat.reducePow, Nat.reduceEqDiff, Nat.reduceMod, Nat.zero_add, Nat.sub_zero, Nat.add_zero, show ¬ (80 : Int) < s.size by omega, show decide ((2 : Int) ≤ l.length ∧ (l.length : Int) ≤ 3) = false from decide_eq_false (by omega)]
      rfl
  · obtain ⟨rfl, rfl⟩ := shut (fun h => g1 h.1)
    simp only [go_sem, Nat.reduceBEq, Nat.reduceAdd, Nat.reduceMul, Nat.reduceSub, Nat.reduceLeDiff, Nat.le_refl, implies_true, Nat.reduceLT, reduceIte, decide_true, decide_false, true_and, and_true, reduceCtorEq, Nat.mul_one, Int.reduceToNat, Int.reduceLE, Int.reduceLT, Int.reduceAdd, Int.reduceSub, Int.reduceMul, Int.cast_ofNat_Int, cast_zero_int, cast_one_int, Nat.reducePow, Nat.reduceEqDiff, Nat.reduceMod, Nat.zero_add, Nat.sub_zero, Nat.add_zero, show (80 : Int) < s.size by omega]
    rfl
end
end Go.Proofs.YtfolkgkcaiaifaaDoor
