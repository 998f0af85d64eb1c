
/- A list of nodes read from its text: what both programs return. No condition. -/
import Derived.Test.YtfolkgkcaiaifaaDoorNodes
import Derived.Test.YtfolkgkcaiaifaaDoorNums
import Derived.Test.YtfolkgkcaiaifaaDoorH3
namespace Go.Proofs.YtfolkgkcaiaifaaDoor
open Go.HH Go.Proofs
set_option linter.unusedSimpArgs false
set_option linter.unusedVariables false

/-- The list that a text tells. -/
def tells (l : List Int) (s : ByteArray) : Prop := rising l 1 8 ∧ nodesS l = s
instance (l : List Int) (s : ByteArray) : Decidable (tells l s) := by unfold tells; infer_instance
def IsPN (s : ByteArray) (ok : Bool) (L : List Int) : Prop := (ok = true ∧ tells L s) ∨ (ok = false ∧ L = [] ∧ ¬ ∃ l, tells l s)
theorem IsPN.ex (s : ByteArray) : ∃ ok L, IsPN s ok L := by
  by_cases h : ∃ l, tells l s
  · obtain ⟨l, hl⟩ := h
    exact ⟨true, l, .inl ⟨rfl, hl⟩⟩
  · exact ⟨false, [], .inr ⟨rfl, rfl, h⟩⟩

theorem bl_numI (x : Int) : bl (numI x) = Lib.decDigits x.toNat := rfl
theorem dig_no {l : BL} (h : l.all (fun c => !isDg c) = true) : ∀ c ∈ l, isDg c = false := fun c hc => by
  have := List.all_eq_true.1 h c hc
  simpa using this
theorem NumsR.int {m : Nat} {x : Int} {c : UInt8} {q : BL} {o : List Int} (hx : 1 ≤ x ∧ x ≤ 8) (hc : isDg c = false) (h : NumsR m q o) : NumsR (m + 1) (bl (numI x) ++ c :: q) (x :: o) := by
  have := NumsR.num (n := x.toNat) (by omega) hc h
  rwa [show ((x.toNat : Nat) : Int) = x by omega] at this
theorem NumsR.intL {m : Nat} {x : Int} (hx : 1 ≤ x ∧ x ≤ 8) : NumsR (m + 1) (bl (numI x)) [x] := by
  have := NumsR.last (m := m) (n := x.toNat) (by omega)
  rwa [show ((x.toNat : Nat) : Int) = x by omega] at this
theorem nums_join {q : BL} {o : List Int} {m : Nat} (h : NumsR m q o) : ∀ {ys : List Int}, ys ≠ [] → (∀ y ∈ ys, 1 ≤ y ∧ y ≤ 8) → NumsR (m + ys.length) (bl (joinB (ys.map numI) nSep) ++ 32 :: q) (ys ++ o)
  | [], h0, _ => absurd rfl h0
  | [y], _, hy => by
    rw [List.map_cons, List.map_nil, joinB_one]
    exact NumsR.int (hy y (by simp)) (by decide) h
  | y :: y2 :: r, _, hy => by
    have ih := nums_join h (ys := y2 :: r) (by simp) (fun z hz => hy z (List.mem_cons_of_mem _ hz))
    rw [List.map_cons, List.map_cons, joinB_cons2, bl_app, bl_app, List.append_assoc, List.append_assoc]
    have e : bl nSep = [44, 32] := rfl
    rw [e]
    have h3 : NumsR (m + r.length + 1) ([32] ++ (bl (joinB (numI y2 :: r.map numI) nSep) ++ 32 :: q)) (y2 :: r ++ o) := NumsR.free (by rw [List.map_cons, List.length_cons] at ih; exact ih) (dig_no (by decide))
    exact NumsR.int (m := m + r.length + 1) (c := 44) (hy y (by simp)) (by decide) h3
theorem rising_mem {l : List Int} (g : rising l 1 8) : ∀ y ∈ l, 1 ≤ y ∧ y ≤ 8 := fun y hy => by
  obtain ⟨i, hi, rfl⟩ := List.getElem_of_mem hy
  exact rising_at g hi
theorem nodes_nums {l : List Int} (g : rising l 1 8) : NumsR 9 (bl (nodesS l)) l := by
  have hl := rising_len g
  have hm := rising_mem g
  unfold nodesS
  split
  · rename_i h0
    rw [List.eq_nil_of_length_eq_zero h0]
    have := NumsR.free (m := 8) (q := []) (o := []) (.nil _) (p := bl nNo) (dig_no (by decide))
    rwa [List.append_nil] at this
  · rename_i h0
    split
    · rename_i h1
      obtain ⟨x, rfl⟩ : ∃ x, l = [x] := List.length_eq_one_iff.1 h1
      rw [bl_app]
      exact NumsR.free (m := 8) (NumsR.intL (hm x (by simp))) (p := bl nOne) (dig_no (by decide))
    · rename_i h1
      have hlast : l.length - 1 < l.length := by omega
      have tl : (l.take (l.length - 1)).length = l.length - 1 := by rw [List.length_take]; omega
      have e : l = l.take (l.length - 1) ++ [l[l.length - 1]] := by
        have := List.take_append_drop (l.length - 1) l
        rw [List.drop_eq_getElem_cons hlast, List.drop_eq_nil_of_le (by omega)] at this
        exact this.symm
      have q1 : NumsR (9 - l.length + 1) ([97, 110, 100, 32] ++ bl (numI (l[l.length - 1]))) [l[l.length - 1]] := NumsR.free (NumsR.intL (hm _ (List.getElem_mem hlast))) (dig_no (by decide))
      have q2 := nums_join q1 (ys := l.take (l.length - 1)) (by intro h; rw [h] at tl; simp at tl; omega) (fun y hy => hm y (List.mem_of_mem_take hy))
      rw [← e, tl, show 9 - l.length + 1 + (l.length - 1) = 8 + 1 by omega] at q2
      have q3 := NumsR.free q2 (p := bl nMany) (dig_no (by decide))
      rw [getD_of hlast, bl_app, bl_app, bl_app, List.append_assoc, List.append_assoc]
      exact q3

/-- The digits of a text, as the other program reads them. -/
def digs (l : BL) : List Int := l.filterMap fun c => if 49 ≤ c.toNat ∧ c.toNat ≤ 56 then some ((c.toNat : Int) - 48) else none
theorem digs_app (a b : BL) : digs (a ++ b) = digs a ++ digs b := List.filterMap_append
theorem digs_num {x : Int} (hx : 1 ≤ x ∧ x ≤ 8) : digs (bl (numI x)) = [x] := by
  rw [bl_numI, Lib.decDigits_one (by omega)]
  have e : (UInt8.ofNat (48 + x.toNat)).toNat = 48 + x.toNat := by simp; omega
  simp only [digs, List.filterMap_cons, e, List.filterMap_nil]
  rw [if_pos (by omega)]
  simp; omega
theorem digs_join : ∀ {ys : List Int}, (∀ y ∈ ys, 1 ≤ y ∧ y ≤ 8) → digs (bl (joinB (ys.map numI) nSep)) = ys
  | [], _ => rfl
  | [y], hy => by rw [List.map_cons, List.map_nil, joinB_one, digs_num (hy y (by simp))]
  | y :: y2 :: r, hy => by
    have ih := digs_join (ys := y2 :: r) (fun z hz => hy z (List.mem_cons_of_mem _ hz))
    rw [List.map_cons, List.map_cons, joinB_cons2, bl_app, bl_app, digs_app, digs_app, digs_num (hy y (by simp)), show digs (bl nSep) = [] by decide]
    rw [List.map_cons] at ih
    rw [ih]; rfl
theorem nodes_digs {l : List Int} (g : rising l 1 8) : digs (bl (nodesS l)) = l ∧ (nodesS l).size < 60 := by
  have hl := rising_len g
  have hm := rising_mem g
  have one : ∀ y, 1 ≤ y ∧ y ≤ 8 → (numI y).size = 1 := fun y hy => by rw [← bl_len, bl_numI, Lib.decDigits_one (by omega)]; rfl
  unfold nodesS
  split
  · rename_i h0
    rw [List.eq_nil_of_length_eq_zero h0]
    exact ⟨by decide, by decide⟩
  · rename_i h0
    split
    · rename_i h1
      obtain ⟨x, rfl⟩ : ∃ x, l = [x] := List.length_eq_one_iff.1 h1
      rw [bl_app, digs_app]
      refine ⟨by rw [show digs (bl nOne) = [] by decide]; exact digs_num (hm x (by simp)), ?_⟩
      rw [ByteArray.size_append]
      have h2 : (numI ([x].getD 0 0)).size = 1 := one x (hm x (by simp))
      have h3 : nOne.size = 5 := rfl
      omega
    · rename_i h1
      have hlast : l.length - 1 < l.length := by omega
      have e : l = l.take (l.length - 1) ++ [l[l.length - 1]] := by
        have := List.take_append_drop (l.length - 1) l
        rw [List.drop_eq_getElem_cons hlast, List.drop_eq_nil_of_le (by omega)] at this
        exact this.symm
      have hz := joinB_size (sep := nSep) (k := 1) (xs := (l.take (l.length - 1)).map numI) (fun x hx => by
        obtain ⟨y, hy, rfl⟩ := List.mem_map.1 hx
        rw [one y (hm y (List.mem_of_mem_take hy))]; exact Nat.le_refl 1)
      have h4 : nSep.size = 2 := rfl
      rw [List.length_map, List.length_take, h4] at hz
      have h5 := one _ (hm _ (List.getElem_mem hlast))
      rw [getD_of hlast]
      constructor
      · rw [bl_app, bl_app, bl_app, digs_app, digs_app, digs_app, digs_num (hm _ (List.getElem_mem hlast)), digs_join (fun y hy => hm y (List.mem_of_mem_take hy)), show digs (bl nMany) = [] by decide, show digs (bl nAnd) = [] by decide, List.nil_append, List.append_nil]
        exact e.symm
      · simp only [ByteArray.size_append]
        have h6 : nMany.size = 6 := rfl
        have h7 : nAnd.size = 5 := rfl
        omega

theorem FI.getNil {n m : Nat} {h : Heap} {v : Value} {l : List Int} (s : FI n m h v l) : ∃ a, v = .slice a l.length 0 := AI.len s.ai
theorem tells_no {s : ByteArray} {L : List Int} (h : ¬ ∃ l, tells l s) (g : rising L 1 8) : ((nodesS L).toList == s.toList) = false := by
  rw [toList_eq]
  exact decide_eq_false fun e => h ⟨L, g, e⟩

section
variable {h : Heap} {M : Nat → Prop}

theorem c_ParseNodeList (s : ByteArray) (ok : Bool) (L : List Int) (hs : s.size ≤ 10000000) (hL : IsPN s ok L) : vCall [] Tryd.prog M 26 [.string s] h
    (fun r h' => (∃ w, r = .tuple #[w, .bool ok] ∧ FI h.length h'.length h' w L) ∧ h <+: h') := by
  refine body_of mo Tryd.func26 rfl (by kernel_rfl) (Nat.le_of_ble_eq_true (by kernel_rfl)) rfl ?_
  simp only [go_sem, Nat.reduceBEq, Nat.reduceAdd, Nat.reduceMul, Nat.reduceSub, Nat.reduceLeDiff, Nat.le_refl, implies_true, Nat.reduceLT, reduceIte, decide_true, decide_false, true_and, and_true, reduceCtorEq, Nat.mul_one, Int.reduceToNat, Int.reduceLE, Int.reduceLT, Int.reduceAdd, Int.reduceSub, Int.reduceMul, Int.cast_ofNat_Int, cast_zero_int, cast_one_int, Nat.reducePow, Nat.reduceEqDiff, Nat.reduceMod, Nat.zero_add, Nat.sub_zero, Nat.add_zero]
  refine ⟨by kernel_rfl, (c_numbersOf s 9 hs (by omega)).use (fun _ m => m) ?_⟩
  rintro v _ ⟨⟨l, fl, nl⟩, ⟨t, rfl⟩⟩
  have ll := nl.len
  try simp only [go_sem, Nat.reduceBEq, Nat.reduceAdd, Nat.reduceMul, Nat.reduceSub, Nat.reduceLeDiff, Nat.le_refl, implies_true, Nat.reduceLT, reduceIte, decide_true, decide_false, true_and, and_true, reduceCtorEq, Nat.mul_one, Int.reduceToNat, Int.reduceLE, Int.reduceLT, Int.reduceAdd, Int.reduceSub, Int.reduceMul, Int.cast_ofNat_Int, cast_zero_int, cast_one_int, Nat.reducePow, Nat.reduceEqDiff, Nat.reduceMod, Nat.zero_add, Nat.sub_zero, Nat.add_zero]
  refine ⟨by kernel_rfl, (c_ascending v l 1 8 (fl.si (Nat.le_refl _)) (by omega)).use (fun _ m => m) ?_⟩
  rintro _ _ ⟨rfl, rfl⟩
  by_cases g : rising l 1 8
  · simp only [go_sem, Nat.reduceBEq, Nat.reduceAdd, Nat.reduceMul, Nat.reduceSub, Nat.reduceLeDiff, Nat.le_refl, implies_true, Nat.reduceLT, reduceIte, decide_true, decide_false, true_and, and_true, reduceCtorEq, Nat.mul_one, Int.reduceToNat, Int.reduceLE, Int.reduceLT, Int.reduceAdd, Int.reduceSub, Int.reduceMul, Int.cast_ofNat_Int, cast_zero_int, cast_one_int, Nat.reducePow, Nat.reduceEqDiff, Nat.reduceMod, Nat.zero_add, Nat.sub_zero, Nat.add_zero, decb g]
    refine ⟨by kernel_rfl, (c_nodeList v l (fl.si (Nat.le_refl _)) g).use (fun _ m => m) ?_⟩
    rintro _ _ ⟨rfl, ⟨t2, rfl⟩⟩
    rcases hL with ⟨rfl, tl⟩ | ⟨rfl, rfl, no⟩
    · obtain ⟨g1, g2⟩ := tl
      have el : l = L := by
        have := nodes_nums g1
        rw [g2] at this
        exact nl.uniq this
      subst el
      have e : (!((nodesS l).toList == s.toList)) = false := by rw [g2]; simp
      simp only [go_sem, Nat.reduceBEq, Nat.reduceAdd, Nat.reduceMul, Nat.reduceSub, Nat.reduceLeDiff, Nat.le_refl, implies_true, Nat.reduceLT, reduceIte, decide_true, decide_false, true_and, and_true, reduceCtorEq, Nat.mul_one, Int.reduceToNat, Int.reduceLE, Int.reduceLT, Int.reduceAdd, Int.reduceSub, Int.reduceMul, Int.cast_ofNat_Int, cast_zero_int, cast_one_int, Nat.reducePow, Nat.reduceEqDiff, Nat.reduceMod, Nat.zero_add, Nat.sub_zero, Nat.add_zero, decb g, e]
      exact ⟨_, rfl, (FI.mono fl (by simp)).wide (Nat.le_refl _) (by simp)⟩
    · simp only [go_sem, Nat.reduceBEq, Nat.reduceAdd, Nat.reduceMul, Nat.reduceSub, Nat.reduceLeDiff, Nat.le_refl, implies_true, Nat.reduceLT, reduceIte, decide_true, decide_false, true_and, and_true, reduceCtorEq, Nat.mul_one, Int.reduceToNat, Int.reduceLE, Int.reduceLT, Int.reduceAdd, Int.reduceSub, Int.reduceMul, Int.cast_ofNat_Int, cast_zero_int, cast_one_int, Nat.reducePow, Nat.reduceEqDiff, Nat.reduceMod, Nat.zero_add, Nat.sub_zero, Nat.add_zero, decb g, tells_no no g]
      exact ⟨_, rfl, .nil⟩
  · simp only [go_sem, Nat.reduceBEq, Nat.reduceAdd, Nat.reduceMul, Nat.reduceSub, Nat.reduceLeDiff, Nat.le_refl, implies_true, Nat.reduceLT, reduceIte, decide_true, decide_false, true_and, and_true, reduceCtorEq, Nat.mul_one, Int.reduceToNat, Int.reduceLE, Int.reduceLT, Int.reduceAdd, Int.reduceSub, Int.reduceMul, Int.cast_ofNat_Int, cast_zero_int, cast_one_int, Nat.reducePow, Nat.reduceEqDiff, Nat.reduceMod, Nat.zero_add, Nat.sub_zero, Nat.add_zero, dect g]
    rcases hL with ⟨rfl, tl⟩ | ⟨rfl, rfl, no⟩
    · obtain ⟨g1, g2⟩ := tl
      have el : l = L := by
        have := nodes_nums g1
        rw [g2] at this
        exact nl.uniq this
      subst el
      exact absurd g1 g
    · exact ⟨_, rfl, .nil⟩

theorem digs_snoc {l : BL} {i : Nat} (hi : i < l.length) : digs (l.take (i + 1)) = digs (l.take i) ++ digs [l[i]] := by
  rw [List.take_add_one, List.getElem?_eq_getElem hi, digs_app]; rfl
theorem digs_len (l : BL) : (digs l).length ≤ l.length := List.length_filterMap_le _ _
theorem digs_bound (l : BL) : ∀ x ∈ digs l, 0 ≤ x ∧ x ≤ 8 := by
  intro x hx
  obtain ⟨c, hc, e⟩ := List.mem_filterMap.1 hx
  split at e
  · cases e; omega
  · cases e

theorem c_sParseNodeList (s : ByteArray) (ok : Bool) (L : List Int) (hs : s.size ≤ 10000000) (hL : IsPN s ok L) : vCall [] Tryd.prog M 29 [.string s] h
    (fun r h' => (∃ w, r = .tuple #[w, .bool ok] ∧ FI h.length h'.length h' w L) ∧ h <+: h') := by
  have hbl := bl_len s
  refine body_of mo Tryd.func29 rfl (by kernel_rfl) (Nat.le_of_ble_eq_true (by kernel_rfl)) rfl ?_
  simp only [go_sem, Nat.reduceBEq, Nat.reduceAdd, Nat.reduceMul, Nat.reduceSub, Nat.reduceLeDiff, Nat.le_refl, implies_true, Nat.reduceLT, reduceIte, decide_true, decide_false, true_and, and_true, reduceCtorEq, Nat.mul_one, Int.reduceToNat, Int.reduceLE, Int.reduceLT, Int.reduceAdd, Int.reduceSub, Int.reduceMul, Int.cast_ofNat_Int, cast_zero_int, cast_one_int, Nat.reducePow, Nat.reduceEqDiff, Nat.reduceMod, Nat.zero_add, Nat.sub_zero, Nat.add_zero]
  refine vLoop.count mo s.size (fun i e h' => ∃ (t : Heap) (j : Nat), e 0 = .string s ∧ e 5 = .int .i64 i ∧ (0 < i → s.size < 60) ∧ e 4 = .slice (some ⟨h.length + j, 0, none⟩) (digs ((bl s).take i)).length 0 ∧ h' = h ++ t ∧ t[j]? = some ⟨(digs ((bl s).take i)).map iv, 1, .rw⟩) ?_ ?_
  · exact ⟨[⟨[], 1, .rw⟩], 0, rfl, rfl, fun h0 => absurd h0 (by omega), rfl, rfl, rfl⟩
  · rintro i e _ hi ⟨t, j, e0, e5, hlim, e4, rfl, hj⟩
    have dl := digs_len ((bl s).take i)
    rw [List.length_take] at dl
    by_cases h1 : i < s.size ∧ s.size < 60
    · obtain ⟨hlt, h60⟩ := h1
      have hlt' : i < (bl s).length := by omega
      have hb := bl_get hlt
      have ds := digs_snoc hlt'
      obtain ⟨b, hbe⟩ : ∃ b, b = (bl s)[i] := ⟨_, rfl⟩
      rw [← hbe] at hb ds
      have hb2 : (b.toNat : Int) ≤ 255 := by have := b.toNat_lt; omega
      have c1 : (i : Int) < s.size := by omega
      have c2 : (s.size : Int) < 60 := by omega
      by_cases g1 : (49 : Int) ≤ b.toNat
      · by_cases g2 : (b.toNat : Int) ≤ 56
        · have w1 : IntKind.i64.wrap (b.toNat : Int) = b.toNat := wrap64 (by omega)
          have w2 : IntKind.i64.wrap ((b.toNat : Int) - 48) = (b.toNat : Int) - 48 := wrap64 (by omega)
          have e1 : digs [b] = [(b.toNat : Int) - 48] := by
            simp only [digs, List.filterMap_cons, List.filterMap_nil]
            rw [if_pos (by omega)]
          simp only [go_sem, Nat.reduceBEq, Nat.reduceAdd, Nat.reduceMul, Nat.reduceSub, Nat.reduceLeDiff, Nat.le_refl, implies_true, Nat.reduceLT, reduceIte, decide_true, decide_false, true_and, and_true, reduceCtorEq, Nat.mul_one, Int.reduceToNat, Int.reduceLE, Int.reduceLT, Int.reduceAdd, Int.reduceSub, Int.reduceMul, Int.cast_ofNat_Int, cast_zero_int, cast_one_int, Nat.reducePow, Nat.reduceEqDiff, Nat.reduceMod, Nat.zero_add, Nat.sub_zero, Nat.add_zero, e0, e4, e5, c1, c2, hb, g1, g2, w1, w2, app_old hj, List.length_map]
          refine ⟨by omega, by omega, hlt, _, t.length + 1, by rw [wrap64 (by omega)]; rfl, fun _ => h60, by rw [ds, e1, List.length_append]; rfl, rfl, ?_⟩
          rw [ds, e1, List.map_append]
          exact new_at (by simp)
        · have e1 : digs [b] = [] := by
            simp only [digs, List.filterMap_cons, List.filterMap_nil]
            rw [if_neg (by omega)]
          simp only [go_sem, Nat.reduceBEq, Nat.reduceAdd, Nat.reduceMul, Nat.reduceSub, Nat.reduceLeDiff, Nat.le_refl, implies_true, Nat.reduceLT, reduceIte, decide_true, decide_false, true_and, and_true, reduceCtorEq, Nat.mul_one, Int.reduceToNat, Int.reduceLE, Int.reduceLT, Int.reduceAdd, Int.reduceSub, Int.reduceMul, Int.cast_ofNat_Int, cast_zero_int, cast_one_int, Nat.reducePow, Nat.reduceEqDiff, Nat.reduceMod, Nat.zero_add, Nat.sub_zero, Nat.add_zero, e0, e4, e5, c1, c2, hb, g1, g2]
          exact ⟨hlt, t, j, by rw [wrap64 (by omega)]; rfl, fun _ => h60, by rw [ds, e1, List.append_nil], rfl, by rw [ds, e1, List.append_nil]; exact hj⟩
      · have e1 : digs [b] = [] := by
          simp only [digs, List.filterMap_cons, List.filterMap_nil]
          rw [if_neg (by omega)]
        simp only [go_sem, Nat.reduceBEq, Nat.reduceAdd, Nat.reduceMul, Nat.reduceSub, Nat.reduceLeDiff, Nat.le_refl, implies_true, Nat.reduceLT, reduceIte, decide_true, decide_false, true_and, and_true, reduceCtorEq, Nat.mul_one, Int.reduceToNat, Int.reduceLE, Int.reduceLT, Int.reduceAdd, Int.reduceSub, Int.reduceMul, Int.cast_ofNat_Int, cast_zero_int, cast_one_int, Nat.reducePow, Nat.reduceEqDiff, Nat.reduceMod, Nat.zero_add, Nat.sub_zero, Nat.add_zero, e0, e4, e5, c1, c2, hb, g1]
        exact ⟨hlt, t, j, by rw [wrap64 (by omega)]; rfl, fun _ => h60, by rw [ds, e1, List.append_nil], rfl, by rw [ds, e1, List.append_nil]; exact hj⟩
    · obtain ⟨D, hD⟩ : ∃ D, D = digs ((bl s).take i) := ⟨_, rfl⟩
      rw [← hD] at e4 hj dl
      have jlt := (List.getElem?_eq_some_iff.1 hj).1
      have fD : FI h.length (h ++ t).length (h ++ t) (.slice (some ⟨h.length + j, 0, none⟩) D.length 0) D := FI.at (by omega) (by simp; omega) (by rw [hget_app]; exact hj)
      have hDL : ∀ l, tells l s → D = l := fun l hl => by
        obtain ⟨d1, d2⟩ := nodes_digs hl.1
        rw [hl.2] at d1 d2
        have : i = s.size := by
          rcases Nat.lt_or_ge i s.size with h2 | h2
          · exact absurd ⟨h2, d2⟩ h1
          · omega
        rw [hD, this, ← hbl, List.take_length, d1]
      by_cases c1 : (i : Int) < s.size
      · simp only [go_sem, Nat.reduceBEq, Nat.reduceAdd, Nat.reduceMul, Nat.reduceSub, Nat.reduceLeDiff, Nat.le_refl, implies_true, Nat.reduceLT, reduceIte, decide_true, decide_false, true_and, and_true, reduceCtorEq, Nat.mul_one, Int.reduceToNat, Int.reduceLE, Int.reduceLT, Int.reduceAdd, Int.reduceSub, Int.reduceMul, Int.cast_ofNat_Int, cast_zero_int, cast_one_int, Nat.reducePow, Nat.reduceEqDiff, Nat.reduceMod, Nat.zero_add, Nat.sub_zero, Nat.add_zero, e0, e4, e5, c1, show ¬ ((s.size : Int) < 60) by omega]
        refine ⟨by kernel_rfl, (c_l1Rising _ D 1 8 (fD.si (Nat.le_refl _)) (by omega)).use (fun _ m => m) ?_⟩
        rintro _ _ ⟨rfl, rfl⟩
        by_cases g : rising D 1 8
        · simp only [go_sem, Nat.reduceBEq, Nat.reduceAdd, Nat.reduceMul, Nat.reduceSub, Nat.reduceLeDiff, Nat.le_refl, implies_true, Nat.reduceLT, reduceIte, decide_true, decide_false, true_and, and_true, reduceCtorEq, Nat.mul_one, Int.reduceToNat, Int.reduceLE, Int.reduceLT, Int.reduceAdd, Int.reduceSub, Int.reduceMul, Int.cast_ofNat_Int, cast_zero_int, cast_one_int, Nat.reducePow, Nat.reduceEqDiff, Nat.reduceMod, Nat.zero_add, Nat.sub_zero, Nat.add_zero, e0, e4, e5, decb g]
          refine ⟨by kernel_rfl, (c_l25Nodes _ D (fD.si (Nat.le_refl _)) g).use (fun _ m => m) ?_⟩
          rintro _ _ ⟨rfl, rfl⟩
          rcases hL with ⟨rfl, tl⟩ | ⟨rfl, rfl, no⟩
          · obtain rfl := hDL L tl
            have e : (!((nodesS D).toList == s.toList)) = false := by rw [tl.2]; simp
            simp only [go_sem, Nat.reduceBEq, Nat.reduceAdd, Nat.reduceMul, Nat.reduceSub, Nat.reduceLeDiff, Nat.le_refl, implies_true, Nat.reduceLT, reduceIte, decide_true, decide_false, true_and, and_true, reduceCtorEq, Nat.mul_one, Int.reduceToNat, Int.reduceLE, Int.reduceLT, Int.reduceAdd, Int.reduceSub, Int.reduceMul, Int.cast_ofNat_Int, cast_zero_int, cast_one_int, Nat.reducePow, Nat.reduceEqDiff, Nat.reduceMod, Nat.zero_add, Nat.sub_zero, Nat.add_zero, e0, e4, e5, decb g, e]
            exact ⟨_, rfl, fD.wide (Nat.le_refl _) (by simp)⟩
          · simp only [go_sem, Nat.reduceBEq, Nat.reduceAdd, Nat.reduceMul, Nat.reduceSub, Nat.reduceLeDiff, Nat.le_refl, implies_true, Nat.reduceLT, reduceIte, decide_true, decide_false, true_and, and_true, reduceCtorEq, Nat.mul_one, Int.reduceToNat, Int.reduceLE, Int.reduceLT, Int.reduceAdd, Int.reduceSub, Int.reduceMul, Int.cast_ofNat_Int, cast_zero_int, cast_one_int, Nat.reducePow, Nat.reduceEqDiff, Nat.reduceMod, Nat.zero_add, Nat.sub_zero, Nat.add_zero, e0, e4, e5, decb g, tells_no no g]
            exact ⟨_, rfl, .nil⟩
        · simp only [go_sem, Nat.reduceBEq, Nat.reduceAdd, Nat.reduceMul, Nat.reduceSub, Nat.reduceLeDiff, Nat.le_refl, implies_true, Nat.reduceLT, reduceIte, decide_true, decide_false, true_and, and_true, reduceCtorEq, Nat.mul_one, Int.reduceToNat, Int.reduceLE, Int.reduceLT, Int.reduceAdd, Int.reduceSub, Int.reduceMul, Int.cast_ofNat_Int, cast_zero_int, cast_one_int, Nat.reducePow, Nat.reduceEqDiff, Nat.reduceMod, Nat.zero_add, Nat.sub_zero, Nat.add_zero, e0, e4, e5, dect g]
          rcases hL with ⟨rfl, tl⟩ | ⟨rfl, rfl, no⟩
          · obtain rfl := hDL L tl
            exact absurd tl.1 g
          · exact ⟨_, rfl, .nil⟩
      · simp only [go_sem, Nat.reduceBEq, Nat.reduceAdd, Nat.reduceMul, Nat.reduceSub, Nat.reduceLeDiff, Nat.le_refl, implies_true, Nat.reduceLT, reduceIte, decide_true, decide_false, true_and, and_true, reduceCtorEq, Nat.mul_one, Int.reduceToNat, Int.reduceLE, Int.reduceLT, Int.reduceAdd, Int.reduceSub, Int.reduceMul, Int.cast_ofNat_Int, cast_zero_int, cast_one_int, Nat.reducePow, Nat.reduceEqDiff, Nat.reduceMod, Nat.zero_add, Nat.sub_zero, Nat.add_zero, e0, e4, e5, c1]
        refine ⟨by kernel_rfl, (c_l1Rising _ D 1 8 (fD.si (Nat.le_refl _)) (by omega)).use (fun _ m => m) ?_⟩
        rintro _ _ ⟨rfl, rfl⟩
        by_cases g : rising D 1 8
        · simp only [go_sem, Nat.reduceBEq, Nat.reduceAdd, Nat.reduceMul, Nat.reduceSub, Nat.reduceLeDiff, Nat.le_refl, implies_true, Nat.reduceLT, reduceIte, decide_true, decide_false, true_and, and_true, reduceCtorEq, Nat.mul_one, Int.reduceToNat, Int.reduceLE, Int.reduceLT, Int.reduceAdd, Int.reduceSub, Int.reduceMul, Int.cast_ofNat_Int, cast_zero_int, cast_one_int, Nat.reducePow, Nat.reduceEqDiff, Nat.reduceMod, Nat.zero_add, Nat.sub_zero, Nat.add_zero, e0, e4, e5, decb g]
          refine ⟨by kernel_rfl, (c_l25Nodes _ D (fD.si (Nat.le_refl _)) g).use (fun _ m => m) ?_⟩
          rintro _ _ ⟨rfl, rfl⟩
          rcases hL with ⟨rfl, tl⟩ | ⟨rfl, rfl, no⟩
          · obtain rfl := hDL L tl
            have e : (!((nodesS D).toList == s.toList)) = false := by rw [tl.2]; simp
            simp only [go_sem, Nat.reduceBEq, Nat.reduceAdd, Nat.reduceMul, Nat.reduceSub, Nat.reduceLeDiff, Nat.le_refl, implies_true, Nat.reduceLT, reduceIte, decide_true, decide_false, true_and, and_true, reduceCtorEq, Nat.mul_one, Int.reduceToNat, Int.reduceLE, Int.reduceLT, Int.reduceAdd, Int.reduceSub, Int.reduceMul, Int.cast_ofNat_Int, cast_zero_int, cast_one_int, Nat.reducePow, Nat.reduceEqDiff, Nat.reduceMod, Nat.zero_add, Nat.sub_zero, Nat.add_zero, e0, e4, e5, decb g, e]
            exact ⟨_, rfl, fD.wide (Nat.le_refl _) (by simp)⟩
          · simp only [go_sem, Nat.reduceBEq, Nat.reduceAdd, Nat.reduceMul, Nat.reduceSub, Nat.reduceLeDiff, Nat.le_refl, implies_true, Nat.reduceLT, reduceIte, decide_true, decide_false, true_and, and_true, reduceCtorEq, Nat.mul_one, Int.reduceToNat, Int.reduceLE, Int.reduceLT, Int.reduceAdd, Int.reduceSub, Int.reduceMul, Int.cast_ofNat_Int, cast_zero_int, cast_one_int, Nat.reducePow, Nat.reduceEqDiff, Nat.reduceMod, Nat.zero_add, Nat.sub_zero, Nat.add_zero, e0, e4, e5, decb g, tells_no no g]
            exact ⟨_, rfl, .nil⟩
        · simp only [go_sem, Nat.reduceBEq, Nat.reduceAdd, Nat.reduceMul, Nat.reduceSub, Nat.reduceLeDiff, Nat.le_refl, implies_true, Nat.reduceLT, reduceIte, decide_true, decide_false, true_and, and_true, reduceCtorEq, Nat.mul_one, Int.reduceToNat, Int.reduceLE, Int.reduceLT, Int.reduceAdd, Int.reduceSub, Int.reduceMul, Int.cast_ofNat_Int, cast_zero_int, cast_one_int, Nat.reducePow, Nat.reduceEqDiff, Nat.reduceMod, Nat.zero_add, Nat.sub_zero, Nat.add_zero, e0, e4, e5, dect g]
          rcases hL with ⟨rfl, tl⟩ | ⟨rfl, rfl, no⟩
          · obtain rfl := hDL L tl
            exact absurd tl.1 g
          · exact ⟨_, rfl, .nil⟩

end
end Go.Proofs.YtfolkgkcaiaifaaDoor
