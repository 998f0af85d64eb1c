
/- A report read from its text: what both programs return. No condition. -/
import Derived.Test.YtfolkgkcaiaifaaDoorSplitA
import Derived.Test.YtfolkgkcaiaifaaDoorPSupL
import Derived.Test.YtfolkgkcaiaifaaDoorReport
import Derived.Test.YtfolkgkcaiaifaaDoorDSup
import Derived.Test.YtfolkgkcaiaifaaDoorFairRun
import Derived.Test.YtfolkgkcaiaifaaDoorH3
namespace Go.Proofs.YtfolkgkcaiaifaaDoor
open Go.HH Go.Proofs
set_option linter.unusedSimpArgs false
set_option linter.unusedVariables false

/-- The supplies that a text reports. -/
def IsPR (s : ByteArray) (ok : Bool) (L : List Sup) : Prop := (ok = true ∧ supGood L ∧ reportS L = s) ∨ (ok = false ∧ L = [] ∧ ¬ ∃ l, supGood l ∧ reportS l = s)
theorem IsPR.ex (s : ByteArray) : ∃ ok L, IsPR s ok L := by
  by_cases h : ∃ l, supGood l ∧ reportS l = s
  · obtain ⟨l, hl⟩ := h
    exact ⟨true, l, .inl ⟨rfl, hl⟩⟩
  · exact ⟨false, _, .inr ⟨rfl, rfl, h⟩⟩
theorem IsPR.non {s : ByteArray} {ok : Bool} {L : List Sup} (h : IsPR s ok L) (g : ¬ ok = true) : ok = false ∧ L = [] := by
  rcases h with ⟨h1, _⟩ | ⟨h1, h2, _⟩
  · exact absurd h1 g
  · exact ⟨h1, h2⟩
/-- A sentence up to its stop. -/
def supBody (x : Sup) : BL := (bl (supB x)).take ((bl (supB x)).length - 1)
theorem sup_body (x : Sup) (g : supOk x) : bl (supB x) = supBody x ++ [46] ∧ 46 ∉ supBody x := by
  obtain ⟨P, hP, hn⟩ : ∃ P, bl (supB x) = P ++ [46] ∧ 46 ∉ P := by
    have nd : ∀ n, (46 : UInt8) ∉ Lib.decDigits n := fun n h => by have := dec_digit n _ h; exact absurd this (by decide)
    have e : bl tLit = [32, 108, 105, 116, 101, 114, 115, 32, 112, 101, 114, 32, 109, 105, 110, 117, 116, 101] ++ [46] := rfl
    refine ⟨bl (tNode ++ num x.1.toNat ++ tGot ++ supMid x.2.1.toNat x.2.2.toNat ++ num x.2.2.toNat) ++ [32, 108, 105, 116, 101, 114, 115, 32, 112, 101, 114, 32, 109, 105, 110, 117, 116, 101], ?_, ?_⟩
    · rw [supB, supS, bl_app _ tLit, e, List.append_assoc]
    · simp only [bl_app, bl_num, List.mem_append, not_or]
      refine ⟨⟨⟨⟨⟨by decide, nd _⟩, by decide⟩, ?_⟩, nd _⟩, by decide⟩
      unfold supMid
      split
      · decide
      · split
        · decide
        · rw [bl_app, bl_num, List.mem_append, not_or]; exact ⟨nd _, by decide⟩
  have : supBody x = P := by rw [supBody, hP, List.length_append, List.length_singleton, Nat.add_sub_cancel, List.take_left']; rfl
  rw [this]
  exact ⟨hP, hn⟩
theorem sa_flat : ∀ (bs : List BL), (∀ b ∈ bs, (46 : UInt8) ∉ b) → saL bs.length ((bs.map (· ++ [46])).flatten) = bs.map (· ++ [46]) ++ [[]] ∧ ((bs.map (· ++ [46])).flatten).count 46 = bs.length
  | [], _ => ⟨rfl, rfl⟩
  | b :: bs, h => by
    have hb := h b (by simp)
    obtain ⟨h1, h2⟩ := sa_flat bs (fun x hx => h x (List.mem_cons_of_mem _ hx))
    have e : ((b :: bs).map (· ++ [46])).flatten = b ++ 46 :: (bs.map (· ++ [46])).flatten := by simp
    constructor
    · rw [e, List.length_cons, saL, cutA_hit hb, cutB_hit hb, h1]; rfl
    · rw [e, List.count_append, List.count_cons, h2, List.count_eq_zero.2 hb]; simp
/-- The bodies of a report's sentences, each with the blank before it. -/
def repBs : List Sup → List BL
  | [] => []
  | x :: r => supBody x :: r.map fun y => 32 :: supBody y
theorem rep_bl {L : List Sup} (g : ∀ x ∈ L, supOk x) (h0 : L ≠ []) : bl (reportS L) = ((repBs L).map (· ++ [46])).flatten := by
  rw [reportS, if_neg h0]
  have tail : ∀ (x : Sup) (r : List Sup), (∀ y ∈ x :: r, supOk y) → bl (joinB ((x :: r).map supB) sp1) = supBody x ++ [46] ++ ((r.map fun y => 32 :: supBody y).map (· ++ [46])).flatten := by
    intro x r
    induction r generalizing x with
    | nil =>
      intro hg
      rw [List.map_cons, List.map_nil, joinB_one, (sup_body x (hg x (by simp))).1]; simp
    | cons y r ih =>
      intro hg
      rw [List.map_cons, List.map_cons, joinB_cons2, bl_app, bl_app, (sup_body x (hg x (by simp))).1]
      have := ih y (fun z hz => hg z (List.mem_cons_of_mem _ hz))
      rw [List.map_cons] at this
      rw [this]
      simp [show bl sp1 = [32] from rfl]
  cases L with
  | nil => exact absurd rfl h0
  | cons x r => rw [tail x r g]; simp [repBs]
theorem repBs_no {L : List Sup} (g : ∀ x ∈ L, supOk x) : ∀ b ∈ repBs L, (46 : UInt8) ∉ b := by
  cases L with
  | nil => intro b hb; cases hb
  | cons x r =>
    intro b hb
    rcases List.mem_cons.1 hb with rfl | hb
    · exact (sup_body x (g x (by simp))).2
    · obtain ⟨y, hy, rfl⟩ := List.mem_map.1 hb
      have := (sup_body y (g y (List.mem_cons_of_mem _ hy))).2
      simp only [List.mem_cons, not_or]
      exact ⟨by decide, this⟩
theorem repBs_len (L : List Sup) : (repBs L).length = L.length := by cases L <;> simp [repBs]
/-- What the library's pieces are. -/
theorem rep_pieces {L : List Sup} (g : ∀ x ∈ L, supOk x) (h0 : L ≠ []) : (bl (reportS L)).count 46 = L.length ∧ saL L.length (bl (reportS L)) = (repBs L).map (· ++ [46]) ++ [[]] := by
  obtain ⟨h1, h2⟩ := sa_flat (repBs L) (repBs_no g)
  rw [rep_bl g h0, ← repBs_len L]
  exact ⟨h2, h1⟩
theorem rep_trim {L : List Sup} {i : Nat} (hi : i < L.length) (g : ∀ x ∈ L, supOk x) : ∃ p, ((repBs L).map (· ++ [46]))[i]? = some p ∧ p ≠ [] ∧ (if p.head? = some 32 then p.drop 1 else p) = bl (supB L[i]) := by
  cases L with
  | nil => simp at hi
  | cons x r =>
    cases i with
    | zero =>
      refine ⟨supBody x ++ [46], rfl, by simp, ?_⟩
      have e := (sup_body x (g x (by simp))).1
      rw [← e, if_neg]
      · rfl
      · intro hh
        have : bl (supB x) = 78 :: (bl (supB x)).drop 1 := by rw [supB, supS]; simp only [bl_app]; rfl
        rw [this] at hh
        cases hh
    | succ i =>
      have hi2 : i < r.length := by simpa using hi
      refine ⟨32 :: supBody r[i] ++ [46], ?_, by simp, ?_⟩
      · simp [repBs, List.getElem?_eq_getElem hi2]
      · rw [List.cons_append, List.head?_cons, if_pos rfl, List.drop_one, List.tail_cons]
        exact (sup_body r[i] (g _ (by simp))).1.symm

theorem saL_le : ∀ (n : Nat) (l p : BL), p ∈ saL n l → p.length ≤ l.length + 1
  | 0, l, p, h => by rw [saL] at h; rw [List.mem_singleton.1 h]; omega
  | n + 1, l, p, h => by
    rw [saL] at h
    have h1 : (cutA l 46).length ≤ l.length := (List.takeWhile_sublist _).length_le
    have h2 : (cutB l 46).length ≤ l.length := by unfold cutB; exact Nat.le_trans (List.drop_sublist _ _).length_le (List.dropWhile_sublist _).length_le
    rcases List.mem_cons.1 h with rfl | h
    · rw [List.length_append, List.length_singleton]; omega
    · have := saL_le n (cutB l 46) p h; omega
theorem hget_at_len {X : Heap} {K : Blk} {n : Nat} (h : n = X.length) : hget (X ++ [K]) n = some K := by subst h; exact hget_new
theorem FR.wide' {n m m' sz : Nat} {h : Heap} {v : Value} {rows : List (List Value)} (s : FR n m sz h v rows) (h2 : m ≤ m') : FR n m' sz h v rows := by
  obtain ⟨id, q1, q2, q3, q4, q5⟩ := s
  exact ⟨id, q1, q2, by omega, q4, q5⟩
theorem rep_none {L : List Sup} (g : ∀ x ∈ L, supOk x) (h : reportS L = wNone) : L = [] := by
  cases L with
  | nil => rfl
  | cons x r =>
    have e := congrArg bl h
    rw [rep_bl g (by simp)] at e
    have e2 : ((repBs (x :: r)).map (· ++ [46])).flatten = bl (supB x) ++ ((r.map fun y => 32 :: supBody y).map (· ++ [46])).flatten := by
      rw [(sup_body x (g x (by simp))).1]; simp [repBs]
    have e3 : bl (supB x) = 78 :: (bl (supB x)).drop 1 := by rw [supB, supS]; simp only [bl_app]; rfl
    rw [e2, e3, List.cons_append] at e
    have := (List.cons.inj (e.trans (show bl wNone = 84 :: (bl wNone).drop 1 from rfl))).1
    cases this
theorem good_mem {L : List Sup} (g : supGood L) : ∀ x ∈ L, supOk x := fun x hx => by
  obtain ⟨i, hi, rfl⟩ := List.getElem_of_mem hx
  exact supGood_at g hi

section
variable {G : List (Nat × Nat)} {h : Heap} {M : Nat → Prop}
theorem empty_rows {j : Nat} (hj : hget h j = some ⟨[], 3, .rw⟩) : Sl h 3 (.slice (some ⟨j, 0, none⟩) 0 0) (([] : List Sup).map sup) := ⟨_, rfl, (fun r hr => by simp at hr), fun hn => absurd rfl hn⟩

set_option maxRecDepth 20000 in
theorem c_ParseReport (pw : PowAt G h) (mx : MaxAt G h) (s : ByteArray) (ok : Bool) (L : List Sup) (hs : s.size ≤ 9000000) (hx : IsPR s ok L) : vCall G Tryd.prog M 6 [.string s] h
    (fun r h' => (∃ w, r = .tuple #[w, .bool ok] ∧ FQ h.length h'.length h' w (L.map sup)) ∧ h <+: h') := by
  refine body_of mo Tryd.func6 rfl (by kernel_rfl) (Nat.le_of_ble_eq_true (by kernel_rfl)) rfl ?_
  simp only [go_sem, Nat.reduceBEq, Nat.reduceAdd, Nat.reduceMul, Nat.reduceSub, Nat.reduceLeDiff, Nat.le_refl, implies_true, Nat.reduceLT, reduceIte, decide_true, decide_false, true_and, and_true, reduceCtorEq, Nat.mul_one, Int.reduceToNat, Int.reduceLE, Int.reduceLT, Int.reduceAdd, Int.reduceSub, Int.reduceMul, Int.cast_ofNat_Int, cast_zero_int, cast_one_int, Nat.reducePow, Nat.reduceEqDiff, Nat.reduceMod, Nat.zero_add, Nat.sub_zero, Nat.add_zero]
  refine ⟨by kernel_rfl, (c_reportText (pw.mono (by simp)) _ [] (empty_rows hget_new) (fun i hi => by simp at hi)).use (fun _ m => m) ?_⟩
  rintro _ _ ⟨rfl, ⟨t, rfl⟩⟩
  have r0 : reportS [] = wNone := by rw [reportS, if_pos rfl]
  rw [r0]
  by_cases gN : s = wNone
  · have q : (s.toList == wNone.toList) = true := by rw [gN]; exact beq_self_eq_true _
    obtain ⟨rfl, rfl⟩ : ok = true ∧ L = [] := by
      rcases hx with ⟨h1, h2, h3⟩ | ⟨_, _, h3⟩
      · exact ⟨h1, rep_none (good_mem h2) (h3.trans gN)⟩
      · exact absurd ⟨[], fun i hi => by simp at hi, r0.trans gN.symm⟩ h3
    simp only [go_sem, Nat.reduceBEq, Nat.reduceAdd, Nat.reduceMul, Nat.reduceSub, Nat.reduceLeDiff, Nat.le_refl, implies_true, Nat.reduceLT, reduceIte, decide_true, decide_false, true_and, and_true, reduceCtorEq, Nat.mul_one, Int.reduceToNat, Int.reduceLE, Int.reduceLT, Int.reduceAdd, Int.reduceSub, Int.reduceMul, Int.cast_ofNat_Int, cast_zero_int, cast_one_int, Nat.reducePow, Nat.reduceEqDiff, Nat.reduceMod, Nat.zero_add, Nat.sub_zero, Nat.add_zero, q]
    exact ⟨_, rfl, .inr ⟨rfl, _, rfl⟩⟩
  · have q : (s.toList == wNone.toList) = false := by rw [toList_eq]; exact decide_eq_false gN
    have LN : ok = true → L ≠ [] := fun hok e => by
      rcases hx with ⟨_, _, h3⟩ | ⟨h1, _⟩
      · rw [e, r0] at h3; exact gN h3.symm
      · rw [h1] at hok; cases hok
    simp only [go_sem, Nat.reduceBEq, Nat.reduceAdd, Nat.reduceMul, Nat.reduceSub, Nat.reduceLeDiff, Nat.le_refl, implies_true, Nat.reduceLT, reduceIte, decide_true, decide_false, true_and, and_true, reduceCtorEq, Nat.mul_one, Int.reduceToNat, Int.reduceLE, Int.reduceLT, Int.reduceAdd, Int.reduceSub, Int.reduceMul, Int.cast_ofNat_Int, cast_zero_int, cast_one_int, Nat.reducePow, Nat.reduceEqDiff, Nat.reduceMod, Nat.zero_add, Nat.sub_zero, Nat.add_zero, q]
    refine ⟨by kernel_rfl, ((c_SplitAfter46 s (by omega)).addG).use (fun _ m => m) ?_⟩
    rintro _ _ ⟨t2, j, rfl, rfl, hj⟩
    obtain ⟨jb, hjb⟩ : ∃ jb, (h ++ (⟨[], 3, .rw⟩ : Blk) :: t).length + j = jb := ⟨_, rfl⟩
    obtain ⟨H0, hH0⟩ : ∃ H0, h ++ (⟨[], 3, .rw⟩ : Blk) :: t ++ t2 = H0 := ⟨_, rfl⟩
    have P0 : h <+: H0 := by rw [← hH0]; simp
    have A0 : hget H0 h.length = some ⟨[], 3, .rw⟩ := by rw [← hH0]; simp [hget]
    obtain ⟨c, hcc⟩ : ∃ c, (bl s).count 46 = c := ⟨_, rfl⟩
    obtain ⟨PP, hPP⟩ : ∃ PP, saL c (bl s) = PP := ⟨_, rfl⟩
    rw [hcc, hPP] at hj
    have B0 : hget H0 jb = some ⟨strsV PP, 1, .rw⟩ := by rw [← hH0, ← hjb, hget_app]; exact hj
    have jl : h.length < jb := by rw [← hjb, List.length_append, List.length_cons]; omega
    have lPP : PP.length = c + 1 := by rw [← hPP, saL_len]
    have cs : c ≤ s.size := by rw [← hcc, ← bl_len]; exact List.count_le_length
    rw [hjb, hH0, hcc]
    have known : ok = true → c = L.length ∧ (∀ x ∈ L, supOk x) ∧ PP = (repBs L).map (· ++ [46]) ++ [[]] := fun hok => by
      rcases hx with ⟨_, h2, h3⟩ | ⟨h1, _⟩
      · have gm := good_mem h2
        obtain ⟨p1, p2⟩ := rep_pieces gm (LN hok)
        rw [h3] at p1 p2
        have e : c = L.length := hcc.symm.trans p1
        exact ⟨e, gm, by rw [← hPP, e]; exact p2⟩
      · rw [h1] at hok; cases hok
    have zP : ∀ p ∈ PP, (mkB p).size ≤ 10000000 := fun p hp => by
      rw [← hPP] at hp
      have := saL_le c (bl s) p hp
      rw [mkB_size]; rw [bl_len] at this; omega
    clear hH0 hjb hj hPP hcc
    simp only [go_sem, Nat.reduceBEq, Nat.reduceAdd, Nat.reduceMul, Nat.reduceSub, Nat.reduceLeDiff, Nat.le_refl, implies_true, Nat.reduceLT, reduceIte, decide_true, decide_false, true_and, and_true, reduceCtorEq, Nat.mul_one, Int.reduceToNat, Int.reduceLE, Int.reduceLT, Int.reduceAdd, Int.reduceSub, Int.reduceMul, Int.cast_ofNat_Int, cast_zero_int, cast_one_int, Nat.reducePow, Nat.reduceEqDiff, Nat.reduceMod, Nat.zero_add, Nat.sub_zero, Nat.add_zero]
    refine vLoop.count mo (c + 1) (fun i e H => ∃ (l : List Sup) (sid : Nat), e 0 = .string s ∧ e 4 = .slice (some ⟨sid, 0, none⟩) l.length 0 ∧ e 16 = .slice (some ⟨jb, 0, none⟩) (c + 1) 0 ∧ e 17 = .int .i64 (c + 1 : Nat) ∧ e 18 = .int .i64 i ∧
      h <+: H ∧ hget H sid = some ⟨flS l, 3, .rw⟩ ∧ hget H jb = some ⟨strsV PP, 1, .rw⟩ ∧ (h.length ≤ sid ∧ sid ≠ jb) ∧ l.length ≤ 8 ∧ (ok = true → l = L.take i)) ?_ ?_
    · refine ⟨[], h.length, ?_⟩
      simp only [go_sem, Nat.reduceBEq, Nat.reduceAdd, Nat.reduceMul, Nat.reduceSub, Nat.reduceLeDiff, Nat.le_refl, implies_true, Nat.reduceLT, reduceIte, decide_true, decide_false, true_and, and_true, reduceCtorEq, Nat.mul_one, Int.reduceToNat, Int.reduceLE, Int.reduceLT, Int.reduceAdd, Int.reduceSub, Int.reduceMul, Int.cast_ofNat_Int, cast_zero_int, cast_one_int, Nat.reducePow, Nat.reduceEqDiff, Nat.reduceMod, Nat.zero_add, Nat.sub_zero, Nat.add_zero]
      exact ⟨P0, A0, B0, by omega⟩
    · rintro i e H hi ⟨l, sid, e0, e4, e16, e17, e18, P, A, B, ⟨hsid, hne⟩, hl8, hl⟩
      have LH := P.length_le
      by_cases hlt : i < c + 1
      · have hz : (i : Int) < ((c + 1 : Nat) : Int) := by omega
        have cp := strsV_at (W := PP) (i := i) (by omega)
        obtain ⟨p, hp⟩ : ∃ p, p = PP[i]'(by omega) := ⟨_, rfl⟩
        rw [← hp] at cp
        have zp : (mkB p).size ≤ 10000000 := by rw [hp]; exact zP _ (List.getElem_mem _)
        by_cases g0 : p = []
        · have q0 : ((mkB p).toList == (⟨#[]⟩ : ByteArray).toList) = true := by rw [g0]; exact beq_self_eq_true _
          simp only [go_sem, Nat.reduceBEq, Nat.reduceAdd, Nat.reduceMul, Nat.reduceSub, Nat.reduceLeDiff, Nat.le_refl, implies_true, Nat.reduceLT, reduceIte, decide_true, decide_false, true_and, and_true, reduceCtorEq, Nat.mul_one, Int.reduceToNat, Int.reduceLE, Int.reduceLT, Int.reduceAdd, Int.reduceSub, Int.reduceMul, Int.cast_ofNat_Int, cast_zero_int, cast_one_int, Nat.reducePow, Nat.reduceEqDiff, Nat.reduceMod, Nat.zero_add, Nat.sub_zero, Nat.add_zero, e0, e4, e16, e17, e18, hz, B, cp, q0]
          refine ⟨hlt, l, sid, rfl, by rw [wrap64 (by omega)]; rfl, P, A, ⟨hsid, hne⟩, hl8, fun hok => ?_⟩
          obtain ⟨k1, k2, k3⟩ := known hok
          have : L.length ≤ i := by
            rcases Nat.lt_or_ge i L.length with g | g
            · exfalso
              obtain ⟨p', q1, q2, _⟩ := rep_trim g k2
              have : PP[i]? = some p' := by rw [k3, List.getElem?_append_left (by rw [List.length_map, repBs_len]; exact g)]; exact q1
              rw [List.getElem?_eq_getElem (by omega), ← hp, g0] at this
              exact q2 (Option.some.inj this).symm
            · exact g
          rw [hl hok, List.take_of_length_le this, List.take_of_length_le (by omega)]
        · have q0 : ((mkB p).toList == (⟨#[]⟩ : ByteArray).toList) = false := by
            rw [toList_eq]
            exact decide_eq_false fun e => g0 (by have := congrArg bl e; exact this)
          simp only [go_sem, Nat.reduceBEq, Nat.reduceAdd, Nat.reduceMul, Nat.reduceSub, Nat.reduceLeDiff, Nat.le_refl, implies_true, Nat.reduceLT, reduceIte, decide_true, decide_false, true_and, and_true, reduceCtorEq, Nat.mul_one, Int.reduceToNat, Int.reduceLE, Int.reduceLT, Int.reduceAdd, Int.reduceSub, Int.reduceMul, Int.cast_ofNat_Int, cast_zero_int, cast_one_int, Nat.reducePow, Nat.reduceEqDiff, Nat.reduceMod, Nat.zero_add, Nat.sub_zero, Nat.add_zero, e0, e4, e16, e17, e18, hz, B, cp, q0]
          refine ⟨by kernel_rfl, ((c_TrimSp (mkB p) zp).addG).use (fun _ m => m) ?_⟩
          rintro _ _ ⟨rfl, rfl⟩
          obtain ⟨arg, harg⟩ : ∃ arg, mkB (if (bl (mkB p)).head? = some 32 then (bl (mkB p)).drop 1 else bl (mkB p)) = arg := ⟨_, rfl⟩
          rw [harg]
          have za : arg.size ≤ 10000000 := by
            rw [← harg, mkB_size]
            rw [mkB_size] at zp
            split
            · rw [bl_mkB, List.length_drop]; omega
            · rw [bl_mkB]; exact zp
          have inside : ok = true → ∃ hi : i < L.length, arg = supB L[i] ∧ supOk L[i] := fun hok => by
            obtain ⟨k1, k2, k3⟩ := known hok
            have hi : i < L.length := by
              rcases Nat.lt_or_ge i L.length with g | g
              · exact g
              · exfalso
                have : PP[i]? = some [] := by rw [k3, List.getElem?_append_right (by rw [List.length_map, repBs_len]; exact g), List.length_map, repBs_len, show i - L.length = 0 by omega]; rfl
                rw [List.getElem?_eq_getElem (by omega), ← hp] at this
                exact g0 (Option.some.inj this)
            obtain ⟨p', q1, _, q3⟩ := rep_trim hi k2
            have : PP[i]? = some p' := by rw [k3, List.getElem?_append_left (by rw [List.length_map, repBs_len]; exact hi)]; exact q1
            rw [List.getElem?_eq_getElem (by omega), ← hp] at this
            obtain rfl := Option.some.inj this
            exact ⟨hi, by rw [← harg, bl_mkB, q3, mkB_bl], k2 _ (List.getElem_mem _)⟩
          obtain ⟨ok2, x2, hx2, hL2⟩ : ∃ ok2 x2, IsPS arg ok2 x2 ∧ (ok = true → ∃ hi : i < L.length, ok2 = true ∧ x2 = L[i]) := by
            by_cases hok : ok = true
            · obtain ⟨hi, h1, h2⟩ := inside hok
              exact ⟨true, L[i], .inl ⟨rfl, h2, h1.symm⟩, fun _ => ⟨hi, rfl, rfl⟩⟩
            · obtain ⟨o, x, h1⟩ := IsPS.ex arg
              exact ⟨o, x, h1, fun h => absurd h hok⟩
          refine ⟨by kernel_rfl, (c_ParseSupply (pw.mono P) (mx.mono P) arg ok2 x2 za hx2).use (fun _ m => m) ?_⟩
          rintro _ H2 ⟨rfl, P2⟩
          have L2 := P2.length_le
          have A2 : hget H2 sid = _ := (hget_prefix P2 (hget_lt A)).trans A
          have B2 : hget H2 jb = _ := (hget_prefix P2 (hget_lt B)).trans B
          have sl2 := hget_lt A2
          cases ok2
          · obtain ⟨rfl, rfl⟩ := hx.non (fun hok => by obtain ⟨_, h1, _⟩ := hL2 hok; cases h1)
            simp only [go_sem, Nat.reduceBEq, Nat.reduceAdd, Nat.reduceMul, Nat.reduceSub, Nat.reduceLeDiff, Nat.le_refl, implies_true, Nat.reduceLT, reduceIte, decide_true, decide_false, true_and, and_true, reduceCtorEq, Nat.mul_one, Int.reduceToNat, Int.reduceLE, Int.reduceLT, Int.reduceAdd, Int.reduceSub, Int.reduceMul, Int.cast_ofNat_Int, cast_zero_int, cast_one_int, Nat.reducePow, Nat.reduceEqDiff, Nat.reduceMod, Nat.zero_add, Nat.sub_zero, Nat.add_zero, e0, e4, e16, e17, e18, hz, ag3, own_ge (show h.length ≤ H2.length by omega), hget_set_newW, set_newW, Bool.not_false]
            exact ⟨⟨_, rfl, .inr ⟨rfl, _, rfl⟩⟩, (P.trans P2).trans (List.prefix_append _ _)⟩
          · by_cases g8 : l.length = 8
            · obtain ⟨rfl, rfl⟩ := hx.non (fun hok => by
                obtain ⟨hi, _, _⟩ := hL2 hok
                have h2 : supGood L := by rcases hx with ⟨_, h2, _⟩ | ⟨h1, _⟩; exact h2; rw [h1] at hok; cases hok
                have := supGood_len h2
                have h3 := congrArg List.length (hl hok)
                rw [List.length_take] at h3; omega)
              simp only [go_sem, Nat.reduceBEq, Nat.reduceAdd, Nat.reduceMul, Nat.reduceSub, Nat.reduceLeDiff, Nat.le_refl, implies_true, Nat.reduceLT, reduceIte, decide_true, decide_false, true_and, and_true, reduceCtorEq, Nat.mul_one, Int.reduceToNat, Int.reduceLE, Int.reduceLT, Int.reduceAdd, Int.reduceSub, Int.reduceMul, Int.cast_ofNat_Int, cast_zero_int, cast_one_int, Nat.reducePow, Nat.reduceEqDiff, Nat.reduceMod, Nat.zero_add, Nat.sub_zero, Nat.add_zero, e0, e4, e16, e17, e18, hz, ag3, own_ge (show h.length ≤ H2.length by omega), hget_set_newW, set_newW, Bool.not_true, show ((l.length : Int) == 8) = true from by rw [g8]; rfl]
              exact ⟨⟨_, rfl, .inr ⟨rfl, _, rfl⟩⟩, (P.trans P2).trans (List.prefix_append _ _)⟩
            · simp only [go_sem, Nat.reduceBEq, Nat.reduceAdd, Nat.reduceMul, Nat.reduceSub, Nat.reduceLeDiff, Nat.le_refl, implies_true, Nat.reduceLT, reduceIte, decide_true, decide_false, true_and, and_true, reduceCtorEq, Nat.mul_one, Int.reduceToNat, Int.reduceLE, Int.reduceLT, Int.reduceAdd, Int.reduceSub, Int.reduceMul, Int.cast_ofNat_Int, cast_zero_int, cast_one_int, Nat.reducePow, Nat.reduceEqDiff, Nat.reduceMod, Nat.zero_add, Nat.sub_zero, Nat.add_zero, e0, e4, e16, e17, e18, hz, ag3, own_ge (show h.length ≤ H2.length by omega), hget_set_newW, set_newW, hget_new, Bool.not_true, show ((l.length : Int) == 8) = false from by rw [beq_eq_false_iff_ne]; omega, A2, self_get A2, flS_len, own_ge hsid]
              have jl2 := hget_lt B2
              refine ⟨by omega, by omega, hlt, l ++ [x2], H2.length + 2, by rw [snoc_lenS], by rw [wrap64 (by omega)]; rfl, (pre_setW ((P.trans P2).trans (List.prefix_append _ _)) hsid).trans (List.prefix_append _ _), ?_, self_get (by rw [hget_set_ne hne]; exact self_get B2 _) _, ⟨by omega, by omega⟩, by rw [snoc_lenS]; omega, fun hok => ?_⟩
              · rw [flS_snoc]
                exact hget_at_len (by simp)
              · obtain ⟨hi', _, h2⟩ := hL2 hok
                rw [hl hok, h2, List.take_add_one, List.getElem?_eq_getElem hi']; rfl
      · obtain rfl : i = c + 1 := by omega
        have nz : ¬ (((c + 1 : Nat) : Int) < ((c + 1 : Nat) : Int)) := by omega
        have fr : FR h.length H.length 3 H (.slice (some ⟨sid, 0, none⟩) l.length 0) (l.map sup) := ⟨sid, by rw [List.length_map], hsid, hget_lt A, A, fun r hr => by obtain ⟨x, _, rfl⟩ := List.mem_map.1 hr; rfl⟩
        have lL : ok = true → l = L := fun hok => by
          obtain ⟨k1, _⟩ := known hok
          rw [hl hok, List.take_of_length_le (by omega)]
        have shut : ¬ (supGood l ∧ reportS l = s) → ok = false ∧ L = [] := fun g => hx.non fun hok => by
          have e := lL hok
          rcases hx with ⟨_, h2, h3⟩ | ⟨h1, _⟩
          · exact g (by rw [e]; exact ⟨h2, h3⟩)
          · rw [h1] at hok; cases hok
        simp only [go_sem, Nat.reduceBEq, Nat.reduceAdd, Nat.reduceMul, Nat.reduceSub, Nat.reduceLeDiff, Nat.le_refl, implies_true, Nat.reduceLT, reduceIte, decide_true, decide_false, true_and, and_true, reduceCtorEq, Nat.mul_one, Int.reduceToNat, Int.reduceLE, Int.reduceLT, Int.reduceAdd, Int.reduceSub, Int.reduceMul, Int.cast_ofNat_Int, cast_zero_int, cast_one_int, Nat.reducePow, Nat.reduceEqDiff, Nat.reduceMod, Nat.zero_add, Nat.sub_zero, Nat.add_zero, e0, e4, e16, e17, e18, nz]
        refine ⟨by kernel_rfl, ((c_areSupplies _ l fr.sl (by omega)).addG).use (fun _ m => m) ?_⟩
        rintro _ H4 ⟨rfl, P4⟩
        by_cases g1 : supGood l
        · simp only [go_sem, Nat.reduceBEq, Nat.reduceAdd, Nat.reduceMul, Nat.reduceSub, Nat.reduceLeDiff, Nat.le_refl, implies_true, Nat.reduceLT, reduceIte, decide_true, decide_false, true_and, and_true, reduceCtorEq, Nat.mul_one, Int.reduceToNat, Int.reduceLE, Int.reduceLT, Int.reduceAdd, Int.reduceSub, Int.reduceMul, Int.cast_ofNat_Int, cast_zero_int, cast_one_int, Nat.reducePow, Nat.reduceEqDiff, Nat.reduceMod, Nat.zero_add, Nat.sub_zero, Nat.add_zero, e0, e4, nz, decide_eq_true g1, Bool.not_true]
          refine ⟨by kernel_rfl, (c_reportText (pw.mono (P.trans P4)) _ l (fr.mono P4).sl g1).use (fun _ m => m) ?_⟩
          rintro _ H5 ⟨rfl, P5⟩
          by_cases g2 : reportS l = s
          · have q2 : ((reportS l).toList == s.toList) = true := by rw [g2]; exact beq_self_eq_true _
            obtain ⟨rfl, rfl⟩ : ok = true ∧ l = L := by
              rcases hx with ⟨h1, _⟩ | ⟨_, _, h3⟩
              · exact ⟨h1, lL h1⟩
              · exact absurd ⟨l, g1, g2⟩ h3
            simp only [go_sem, Nat.reduceBEq, Nat.reduceAdd, Nat.reduceMul, Nat.reduceSub, Nat.reduceLeDiff, Nat.le_refl, implies_true, Nat.reduceLT, reduceIte, decide_true, decide_false, true_and, and_true, reduceCtorEq, Nat.mul_one, Int.reduceToNat, Int.reduceLE, Int.reduceLT, Int.reduceAdd, Int.reduceSub, Int.reduceMul, Int.cast_ofNat_Int, cast_zero_int, cast_one_int, Nat.reducePow, Nat.reduceEqDiff, Nat.reduceMod, Nat.zero_add, Nat.sub_zero, Nat.add_zero, e0, e4, nz, decide_eq_true g1, Bool.not_true, q2]
            exact ⟨⟨_, rfl, .inl ((FR.wide' (fr.mono (P4.trans P5)) (P4.trans P5).length_le))⟩, P.trans (P4.trans P5)⟩
          · have q2 : ((reportS l).toList == s.toList) = false := by rw [toList_eq]; exact decide_eq_false g2
            obtain ⟨rfl, rfl⟩ := shut (fun h => g2 h.2)
            simp only [go_sem, Nat.reduceBEq, Nat.reduceAdd, Nat.reduceMul, Nat.reduceSub, Nat.reduceLeDiff, Nat.le_refl, implies_true, Nat.reduceLT, reduceIte, decide_true, decide_false, true_and, and_true, reduceCtorEq, Nat.mul_one, Int.reduceToNat, Int.reduceLE, Int.reduceLT, Int.reduceAdd, Int.reduceSub, Int.reduceMul, Int.cast_ofNat_Int, cast_zero_int, cast_one_int, Nat.reducePow, Nat.reduceEqDiff, Nat.reduceMod, Nat.zero_add, Nat.sub_zero, Nat.add_zero, e0, e4, nz, decide_eq_true g1, Bool.not_true, Bool.not_false, q2]
            exact ⟨⟨_, rfl, .inr ⟨rfl, _, rfl⟩⟩, P.trans (P4.trans P5)⟩
        · obtain ⟨rfl, rfl⟩ := shut (fun h => g1 h.1)
          simp only [go_sem, Nat.reduceBEq, Nat.reduceAdd, Nat.reduceMul, Nat.reduceSub, Nat.reduceLeDiff, Nat.le_refl, implies_true, Nat.reduceLT, reduceIte, decide_true, decide_false, true_and, and_true, reduceCtorEq, Nat.mul_one, Int.reduceToNat, Int.reduceLE, Int.reduceLT, Int.reduceAdd, Int.reduceSub, Int.reduceMul, Int.cast_ofNat_Int, cast_zero_int, cast_one_int, Nat.reducePow, Nat.reduceEqDiff, Nat.reduceMod, Nat.zero_add, Nat.sub_zero, Nat.add_zero, e0, e4, nz, decide_eq_false g1, Bool.not_false]
          exact ⟨⟨_, rfl, .inr ⟨rfl, _, rfl⟩⟩, P.trans P4⟩
end
end Go.Proofs.YtfolkgkcaiaifaaDoor
