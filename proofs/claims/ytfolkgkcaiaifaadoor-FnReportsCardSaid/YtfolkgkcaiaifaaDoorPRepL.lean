
/- The law about a report read from its text. No condition. -/
import Derived.Test.YtfolkgkcaiaifaaDoorPRep
import Derived.Test.YtfolkgkcaiaifaaDoorH3
namespace Go.Proofs.YtfolkgkcaiaifaaDoor
open Go.HH Go.Proofs
set_option linter.unusedSimpArgs false
set_option linter.unusedVariables false

/-- What stands from the k-th sentence on, without its blank. -/
def restL : List Sup → BL
  | [] => []
  | x :: r => bl (supB x) ++ (r.map fun y => 32 :: bl (supB y)).flatten
theorem rep_rest {L : List Sup} (g : ∀ x ∈ L, supOk x) (h0 : L ≠ []) : bl (reportS L) = restL L := by
  rw [rep_bl g h0]
  cases L with
  | nil => exact absurd rfl h0
  | cons x r =>
    have e : ∀ r : List Sup, (∀ y ∈ r, supOk y) → ((r.map fun y => 32 :: supBody y).map (· ++ [46])).flatten = (r.map fun y => 32 :: bl (supB y)).flatten := by
      intro r
      induction r with
      | nil => intro _; rfl
      | cons y r ih =>
        intro hg
        simp only [List.map_cons, List.flatten_cons, ih (fun z hz => hg z (List.mem_cons_of_mem _ hz)), (sup_body y (hg y (by simp))).1, List.cons_append]
    rw [restL, (sup_body x (g x (by simp))).1, ← e r (fun y hy => g y (List.mem_cons_of_mem _ hy))]
    simp [repBs]
theorem rest_cons (x y : Sup) (r : List Sup) : restL (x :: y :: r) = bl (supB x) ++ 32 :: restL (y :: r) := by simp [restL]
theorem rest_one (x : Sup) : restL [x] = bl (supB x) := by simp [restL]
/-- Where a sentence ends. -/
theorem stop_at {S B T : BL} {f i : Nat} (hf : f ≤ i) (hd : S.drop f = B ++ 46 :: T) (hB : (46 : UInt8) ∉ B) (hn : ∀ q, f ≤ q → q < i → S[q]? ≠ some 46) (hi : S[i]? = some 46) : i = f + B.length := by
  have at' : ∀ q, S[f + q]? = (B ++ 46 :: T)[q]? := fun q => by rw [← hd, List.getElem?_drop]
  have h1 : ¬ i < f + B.length := fun h => by
    have := at' (i - f)
    rw [show f + (i - f) = i by omega, hi, List.getElem?_append_left (by omega)] at this
    exact hB (List.mem_of_getElem? this.symm)
  have h2 : ¬ f + B.length < i := fun h => by
    refine hn (f + B.length) (by omega) h ?_
    rw [at', List.getElem?_append_right (Nat.le_refl _), Nat.sub_self]; rfl
  omega
theorem rep_small {L : List Sup} (g : supGood L) : (reportS L).size ≤ 600 := by
  have gm := good_mem g
  have hl := supGood_len g
  by_cases h0 : L = []
  · rw [h0, reportS, if_pos rfl]; decide
  · rw [← bl_len, rep_bl gm h0]
    have zb : ∀ b ∈ repBs L, b.length ≤ 60 := by
      have one : ∀ x, supOk x → (supBody x).length ≤ 59 := fun x hx => by
        have h1 := congrArg List.length (sup_body x hx).1
        rw [bl_len, List.length_append, List.length_singleton] at h1
        obtain ⟨q1, q2, q3, q4⟩ := hx
        have h2 := sup60 (a := x.1.toNat) (b := x.2.1.toNat) (c := x.2.2.toNat) (by omega) (by omega) (by omega)
        rw [supB] at h1; omega
      cases L with
      | nil => exact absurd rfl h0
      | cons x r =>
        intro b hb
        rcases List.mem_cons.1 hb with rfl | hb
        · have := one x (gm x (by simp)); omega
        · obtain ⟨y, hy, rfl⟩ := List.mem_map.1 hb
          have := one y (gm y (List.mem_cons_of_mem _ hy))
          rw [List.length_cons]; omega
    have sum : ∀ (bs : List BL), (∀ b ∈ bs, b.length ≤ 60) → ((bs.map (· ++ [46])).flatten).length ≤ 61 * bs.length := by
      intro bs
      induction bs with
      | nil => intro _; simp
      | cons b bs ih =>
        intro h
        have h1 := ih (fun x hx => h x (List.mem_cons_of_mem _ hx))
        have h2 := h b (by simp)
        simp only [List.map_cons, List.flatten_cons, List.length_append, List.length_cons, List.length_nil]; omega
    have := sum (repBs L) zb
    rw [repBs_len] at this; omega

/-- Where the other program stands in a good report. -/
def Stand (S : BL) (L l : List Sup) (f i : Nat) : Prop := ∃ k, l = L.take k ∧ ((k < L.length ∧ S.drop f = restL (L.drop k) ∧ (∀ q, f ≤ q → q < i → S[q]? ≠ some 46) ∧ (i < f → S[i]? = some 32)) ∨ (k = L.length ∧ i = S.length))
theorem stand_init {S : BL} {L : List Sup} (h0 : L ≠ []) (h : S = restL L) : Stand S L [] 0 0 :=
  ⟨0, rfl, .inl ⟨List.length_pos_iff.2 h0, h, fun q h1 h2 => by omega, fun h => by omega⟩⟩
theorem stand_skip {S : BL} {L l : List Sup} {f i : Nat} {c : UInt8} (hf : f ≤ i + 1) (h : Stand S L l f i) (hi : S[i]? = some c) (hc : c ≠ 46) : Stand S L l f (i + 1) := by
  obtain ⟨k, h1, ⟨h2, h3, h4, h5⟩ | ⟨h2, h3⟩⟩ := h
  · refine ⟨k, h1, .inl ⟨h2, h3, fun q q1 q2 => ?_, fun h => by omega⟩⟩
    by_cases e : q = i
    · subst e; rw [hi]; exact fun h => hc (Option.some.inj h)
    · exact h4 q q1 (by omega)
  · rw [h3, List.getElem?_eq_none (Nat.le_refl _)] at hi; cases hi
theorem rest_body {L : List Sup} {k : Nat} (g : ∀ x ∈ L, supOk x) (hk : k < L.length) : ∃ T, restL (L.drop k) = supBody L[k] ++ 46 :: T ∧ (k + 1 = L.length → T = []) ∧ (k + 1 < L.length → T = 32 :: restL (L.drop (k + 1))) ∧ 46 ∉ supBody L[k] ∧ bl (supB L[k]) = supBody L[k] ++ [46] := by
  obtain ⟨b1, b2⟩ := sup_body L[k] (g _ (List.getElem_mem hk))
  rw [List.drop_eq_getElem_cons hk]
  cases hd : L.drop (k + 1) with
  | nil =>
    refine ⟨[], by rw [rest_one, b1], fun _ => rfl, fun h => ?_, b2, b1⟩
    have := congrArg List.length hd
    rw [List.length_drop] at this; simp at this; omega
  | cons y r =>
    refine ⟨32 :: restL (y :: r), by rw [rest_cons, b1]; simp, fun h => ?_, fun _ => rfl, b2, b1⟩
    have := congrArg List.length hd
    rw [List.length_drop] at this; simp at this; omega
theorem restL_pos {L : List Sup} (h : L ≠ []) : 0 < (restL L).length := by
  cases L with
  | nil => exact absurd rfl h
  | cons x r =>
    have := supS_pos x.1.toNat x.2.1.toNat x.2.2.toNat
    rw [restL, List.length_append, bl_len, supB]; omega
theorem stand_dot {S : BL} {L l : List Sup} {f i : Nat} (g : ∀ x ∈ L, supOk x) (hf : f ≤ i + 1) (h : Stand S L l f i) (hi : S[i]? = some 46) :
    ∃ k, ∃ hk : k < L.length, l = L.take k ∧ (S.take (i + 1)).drop f = bl (supB L[k]) ∧ Stand S L (L.take (k + 1)) (if i + 2 < S.length then i + 2 else S.length) (i + 1) := by
  have il : i < S.length := (List.getElem?_eq_some_iff.1 hi).1
  obtain ⟨k, h1, ⟨h2, h3, h4, h5⟩ | ⟨h2, h3⟩⟩ := h
  · obtain ⟨T, t1, t2, t3, t4, t5⟩ := rest_body g h2
    have fi : f ≤ i := by
      rcases Nat.lt_or_ge i f with q | q
      · have := h5 q; rw [hi] at this; exact absurd (Option.some.inj this) (by decide)
      · exact q
    rw [t1] at h3
    have e := stop_at fi h3 t4 h4 hi
    have ls := congrArg List.length h3
    rw [List.length_drop, List.length_append, List.length_cons] at ls
    have dd : S.drop (i + 1) = T := by
      have : S.drop (f + (supBody L[k] ++ [46]).length) = T := by
        rw [← List.drop_drop, h3, show supBody L[k] ++ 46 :: T = (supBody L[k] ++ [46]) ++ T by simp, List.drop_left']
        rfl
      rwa [List.length_append, List.length_singleton, show f + ((supBody L[k]).length + 1) = i + 1 by omega] at this
    refine ⟨k, h2, h1, ?_, k + 1, rfl, ?_⟩
    · rw [t5, List.drop_take, h3, show supBody L[k] ++ 46 :: T = (supBody L[k] ++ [46]) ++ T by simp, List.take_left']
      rw [List.length_append, List.length_singleton]; omega
    · rcases Nat.lt_or_ge (k + 1) L.length with q | q
      · have tt := t3 q
        have tl : 1 < T.length := by
          rw [tt, List.length_cons]
          have := restL_pos (L := L.drop (k + 1)) (by intro h; have := congrArg List.length h; rw [List.length_drop] at this; simp at this; omega)
          omega
        have lt : i + 2 < S.length := by omega
        rw [if_pos lt]
        refine .inl ⟨q, ?_, fun q h1 h2 => by omega, fun _ => ?_⟩
        · rw [show i + 2 = (i + 1) + 1 by omega, ← List.drop_drop, dd, tt]; rfl
        · have : (S.drop (i + 1))[0]? = some 32 := by rw [dd, tt]; rfl
          rwa [List.getElem?_drop] at this
      · have tt := t2 (by omega)
        rw [tt] at ls
        exact .inr ⟨by omega, by simp at ls; omega⟩
  · omega
theorem stand_end {S : BL} {L l : List Sup} {f : Nat} (g : ∀ x ∈ L, supOk x) (h : Stand S L l f S.length) : l = L := by
  obtain ⟨k, h1, ⟨h2, h3, h4, _⟩ | ⟨h2, _⟩⟩ := h
  · exfalso
    obtain ⟨T, t1, _, _, _, _⟩ := rest_body g h2
    rw [t1] at h3
    have ls := congrArg List.length h3
    rw [List.length_drop, List.length_append, List.length_cons] at ls
    refine h4 (f + (supBody L[k]).length) (by omega) (by omega) ?_
    rw [← List.getElem?_drop, h3, List.getElem?_append_right (Nat.le_refl _), Nat.sub_self]; rfl
  · rw [h1, h2, List.take_length]
section
variable {h : Heap} {M : Nat → Prop}
theorem c_l1LeastX (a b : Int) : vCall [] Tryd.prog M 31 [.int .i64 a, .int .i64 b] h (fun r h' => r = .int .i64 (if a < b then a else b) ∧ h = h') := by
  refine body_of mo Tryd.func31 rfl (by kernel_rfl) (Nat.le_of_ble_eq_true (by kernel_rfl)) rfl ?_
  by_cases g : a < b
  · simp only [go_sem, Nat.reduceBEq, Nat.reduceAdd, Nat.reduceMul, Nat.reduceSub, Nat.reduceLeDiff, Nat.le_refl, implies_true, Nat.reduceLT, reduceIte, decide_true, decide_false, true_and, and_true, reduceCtorEq, Nat.mul_one, Int.reduceToNat, Int.reduceLE, Int.reduceLT, Int.reduceAdd, Int.reduceSub, Int.reduceMul, Int.cast_ofNat_Int, cast_zero_int, cast_one_int, Nat.reducePow, Nat.reduceEqDiff, Nat.reduceMod, Nat.zero_add, Nat.sub_zero, Nat.add_zero, g]
    try rfl
  · simp only [go_sem, Nat.reduceBEq, Nat.reduceAdd, Nat.reduceMul, Nat.reduceSub, Nat.reduceLeDiff, Nat.le_refl, implies_true, Nat.reduceLT, reduceIte, decide_true, decide_false, true_and, and_true, reduceCtorEq, Nat.mul_one, Int.reduceToNat, Int.reduceLE, Int.reduceLT, Int.reduceAdd, Int.reduceSub, Int.reduceMul, Int.cast_ofNat_Int, cast_zero_int, cast_one_int, Nat.reducePow, Nat.reduceEqDiff, Nat.reduceMod, Nat.zero_add, Nat.sub_zero, Nat.add_zero, g]
    try rfl
set_option maxRecDepth 20000 in
theorem c_sParseReport (s : ByteArray) (ok : Bool) (L : List Sup) (hs : s.size ≤ 9000000) (hx : IsPR s ok L) : vCall [] Tryd.prog M 5 [.string s] h
    (fun r h' => (∃ w, r = .tuple #[w, .bool ok] ∧ FQ h.length h'.length h' w (L.map sup)) ∧ h <+: h') := by
  refine body_of mo Tryd.func5 rfl (by kernel_rfl) (Nat.le_of_ble_eq_true (by kernel_rfl)) rfl ?_
  simp only [go_sem, Nat.reduceBEq, Nat.reduceAdd, Nat.reduceMul, Nat.reduceSub, Nat.reduceLeDiff, Nat.le_refl, implies_true, Nat.reduceLT, reduceIte, decide_true, decide_false, true_and, and_true, reduceCtorEq, Nat.mul_one, Int.reduceToNat, Int.reduceLE, Int.reduceLT, Int.reduceAdd, Int.reduceSub, Int.reduceMul, Int.cast_ofNat_Int, cast_zero_int, cast_one_int, Nat.reducePow, Nat.reduceEqDiff, Nat.reduceMod, Nat.zero_add, Nat.sub_zero, Nat.add_zero]
  refine ⟨by kernel_rfl, (c_l25Tell _ [] (empty_rows hget_new) (fun i hi => by simp at hi)).use (fun _ m => m) ?_⟩
  rintro _ _ ⟨rfl, ⟨t, rfl⟩⟩
  have r0 : reportS [] = wNone := by rw [reportS, if_pos rfl]
  rw [r0]
  by_cases gN : s = wNone
  · have q : (s.toList == wNone.toList) = true := by rw [gN]; exact beq_self_eq_true _
    obtain ⟨rfl, rfl⟩ : ok = true ∧ L = [] := by
      rcases hx with ⟨h1, h2, h3⟩ | ⟨_, _, h3⟩
      · exact ⟨h1, rep_none (good_mem h2) (h3.trans gN)⟩
      · exact absurd ⟨[], fun i hi => by simp at hi, r0.trans gN.symm⟩ h3
    simp only [go_sem, Nat.reduceBEq, Nat.reduceAdd, Nat.reduceMul, Nat.reduceSub, Nat.reduceLeDiff, Nat.le_refl, implies_true, Nat.reduceLT, reduceIte, decide_true, decide_false, true_and, and_true, reduceCtorEq, Nat.mul_one, Int.reduceToNat, Int.reduceLE, Int.reduceLT, Int.reduceAdd, Int.reduceSub, Int.reduceMul, Int.cast_ofNat_Int, cast_zero_int, cast_one_int, Nat.reducePow, Nat.reduceEqDiff, Nat.reduceMod, Nat.zero_add, Nat.sub_zero, Nat.add_zero, q]
    exact ⟨_, rfl, .inr ⟨rfl, _, rfl⟩⟩
  · have q : (s.toList == wNone.toList) = false := by rw [toList_eq]; exact decide_eq_false gN
    have LN : ok = true → L ≠ [] := fun hok e => by
      rcases hx with ⟨_, _, h3⟩ | ⟨h1, _⟩
      · rw [e, r0] at h3; exact gN h3.symm
      · rw [h1] at hok; cases hok
    have known : ok = true → supGood L ∧ reportS L = s := fun hok => by
      rcases hx with ⟨_, h2, h3⟩ | ⟨h1, _⟩
      · exact ⟨h2, h3⟩
      · rw [h1] at hok; cases hok
    by_cases g600 : s.size ≤ 600
    · simp only [go_sem, Nat.reduceBEq, Nat.reduceAdd, Nat.reduceMul, Nat.reduceSub, Nat.reduceLeDiff, Nat.le_refl, implies_true, Nat.reduceLT, reduceIte, decide_true, decide_false, true_and, and_true, reduceCtorEq, Nat.mul_one, Int.reduceToNat, Int.reduceLE, Int.reduceLT, Int.reduceAdd, Int.reduceSub, Int.reduceMul, Int.cast_ofNat_Int, cast_zero_int, cast_one_int, Nat.reducePow, Nat.reduceEqDiff, Nat.reduceMod, Nat.zero_add, Nat.sub_zero, Nat.add_zero, q, show ¬ (600 : Int) < s.size by omega]
      have zs := bl_len s
      refine vLoop.count mo s.size (fun i e H => ∃ (l : List Sup) (sid f : Nat), e 0 = .string s ∧ e 4 = .slice (some ⟨sid, 0, none⟩) l.length 0 ∧ e 5 = .int .i64 f ∧ e 6 = .int .i64 i ∧
        h <+: H ∧ hget H sid = some ⟨flS l, 3, .rw⟩ ∧ h.length ≤ sid ∧ l.length ≤ i ∧ (f ≤ i + 1 ∧ f ≤ s.size) ∧ (ok = true → Stand (bl s) L l f i)) ?_ ?_
      · refine ⟨[], h.length, 0, ?_⟩
        simp only [go_sem, Nat.reduceBEq, Nat.reduceAdd, Nat.reduceMul, Nat.reduceSub, Nat.reduceLeDiff, Nat.le_refl, implies_true, Nat.reduceLT, reduceIte, decide_true, decide_false, true_and, and_true, reduceCtorEq, Nat.mul_one, Int.reduceToNat, Int.reduceLE, Int.reduceLT, Int.reduceAdd, Int.reduceSub, Int.reduceMul, Int.cast_ofNat_Int, cast_zero_int, cast_one_int, Nat.reducePow, Nat.reduceEqDiff, Nat.reduceMod, Nat.zero_add, Nat.sub_zero, Nat.add_zero]
        refine ⟨by simp [flS], by omega, fun hok => ?_⟩
        obtain ⟨h1, h2⟩ := known hok
        exact stand_init (LN hok) (by rw [← h2]; exact rep_rest (good_mem h1) (LN hok))
      · rintro i e H hi ⟨l, sid, f, e0, e4, e5, e6, P, A, hsid, hli, ⟨hf, hfs⟩, hst⟩
        have LH := P.length_le
        by_cases hlt : i < s.size
        · have hz : (i : Int) < s.size := by omega
          have hlt' : i < (bl s).length := by omega
          have hb := bl_get hlt
          obtain ⟨b, hbe⟩ : ∃ b, b = (bl s)[i] := ⟨_, rfl⟩
          have hbi : (bl s)[i]? = some b := by rw [List.getElem?_eq_getElem hlt', hbe]
          rw [← hbe] at hb
          by_cases g46 : b = 46
          · subst g46
            have q46 : (((46 : UInt8).toNat : Int) != 46) = false := rfl
            have w1 : IntKind.i64.wrap ((i : Int) + 1) = ((i + 1 : Nat) : Int) := by rw [wrap64 (by omega)]; rfl
            have w2 : IntKind.i64.wrap ((i : Int) + 2) = ((i + 2 : Nat) : Int) := by rw [wrap64 (by omega)]; rfl
            simp only [go_sem, Nat.reduceBEq, Nat.reduceAdd, Nat.reduceMul, Nat.reduceSub, Nat.reduceLeDiff, Nat.le_refl, implies_true, Nat.reduceLT, reduceIte, decide_true, decide_false, true_and, and_true, reduceCtorEq, Nat.mul_one, Int.reduceToNat, Int.reduceLE, Int.reduceLT, Int.reduceAdd, Int.reduceSub, Int.reduceMul, Int.cast_ofNat_Int, cast_zero_int, cast_one_int, Nat.reducePow, Nat.reduceEqDiff, Nat.reduceMod, Nat.zero_add, Nat.sub_zero, Nat.add_zero, e0, e4, e5, e6, hz, hb, q46, w1, show (0 : Int) ≤ (f : Int) by omega, show (0 : Int) ≤ ((i + 1 : Nat) : Int) by omega, Int.toNat_natCast, show i + 1 ≤ s.size by omega, hf]
            have hdot : ok = true → ∃ k, ∃ hk : k < L.length, l = L.take k ∧ s.extract f (i + 1) = supB L[k] ∧ supOk L[k] ∧ Stand (bl s) L (L.take (k + 1)) (if i + 2 < s.size then i + 2 else s.size) (i + 1) := fun hok => by
              have gm := good_mem (known hok).1
              obtain ⟨k, hk, k1, k2, k3⟩ := stand_dot gm hf (hst hok) hbi
              rw [bl_len] at k3
              exact ⟨k, hk, k1, bl_ext (by rw [bl_extract]; exact k2), gm _ (List.getElem_mem _), k3⟩
            obtain ⟨arg, harg⟩ : ∃ arg, s.extract f (i + 1) = arg := ⟨_, rfl⟩
            have za : arg.size ≤ 10000000 := by rw [← harg, ByteArray.size_extract]; omega
            rw [harg]
            rw [harg] at hdot
            obtain ⟨ok2, x2, hx2, hL2⟩ : ∃ ok2 x2, IsPS arg ok2 x2 ∧ (ok = true → ok2 = true ∧ ∃ k, ∃ hk : k < L.length, l = L.take k ∧ x2 = L[k] ∧ Stand (bl s) L (L.take (k + 1)) (if i + 2 < s.size then i + 2 else s.size) (i + 1)) := by
              by_cases hok : ok = true
              · obtain ⟨k, hk, k1, k2, k3, k4⟩ := hdot hok
                exact ⟨true, L[k], .inl ⟨rfl, k3, k2.symm⟩, fun _ => ⟨rfl, k, hk, k1, rfl, k4⟩⟩
              · obtain ⟨o, x, h1⟩ := IsPS.ex arg
                exact ⟨o, x, h1, fun h => absurd h hok⟩
            refine ⟨by kernel_rfl, (c_sParseSupply arg ok2 x2 za hx2).use (fun _ m => m) ?_⟩
            rintro _ H2 ⟨rfl, P2⟩
            have L2 := P2.length_le
            have A2 : hget H2 sid = _ := (hget_prefix P2 (hget_lt A)).trans A
            have sl2 := hget_lt A2
            cases ok2
            · obtain ⟨rfl, rfl⟩ := hx.non (fun hok => by cases (hL2 hok).1)
              simp only [go_sem, Nat.reduceBEq, Nat.reduceAdd, Nat.reduceMul, Nat.reduceSub, Nat.reduceLeDiff, Nat.le_refl, implies_true, Nat.reduceLT, reduceIte, decide_true, decide_false, true_and, and_true, reduceCtorEq, Nat.mul_one, Int.reduceToNat, Int.reduceLE, Int.reduceLT, Int.reduceAdd, Int.reduceSub, Int.reduceMul, Int.cast_ofNat_Int, cast_zero_int, cast_one_int, Nat.reducePow, Nat.reduceEqDiff, Nat.reduceMod, Nat.zero_add, Nat.sub_zero, Nat.add_zero, e0, e4, e5, e6, hz, ag3, own_ge (show h.length ≤ H2.length by omega), hget_set_newW, set_newW, Bool.not_false]
              exact ⟨⟨_, rfl, .inr ⟨rfl, _, rfl⟩⟩, (P.trans P2).trans (List.prefix_append _ _)⟩
            · simp only [go_sem, Nat.reduceBEq, Nat.reduceAdd, Nat.reduceMul, Nat.reduceSub, Nat.reduceLeDiff, Nat.le_refl, implies_true, Nat.reduceLT, reduceIte, decide_true, decide_false, true_and, and_true, reduceCtorEq, Nat.mul_one, Int.reduceToNat, Int.reduceLE, Int.reduceLT, Int.reduceAdd, Int.reduceSub, Int.reduceMul, Int.cast_ofNat_Int, cast_zero_int, cast_one_int, Nat.reducePow, Nat.reduceEqDiff, Nat.reduceMod, Nat.zero_add, Nat.sub_zero, Nat.add_zero, e0, e4, e5, e6, hz, ag3, own_ge (show h.length ≤ H2.length by omega), hget_set_newW, set_newW, hget_new, Bool.not_true, A2, self_get A2, flS_len, own_ge hsid, w2]
              refine ⟨by omega, by omega, ?_⟩
              refine ⟨by kernel_rfl, (c_l1LeastX _ _).use (fun _ m => m) ?_⟩
              rintro _ _ ⟨rfl, rfl⟩
              have hmin : (if ((i + 2 : Nat) : Int) < (s.size : Int) then ((i + 2 : Nat) : Int) else (s.size : Int)) = ((if i + 2 < s.size then i + 2 else s.size : Nat) : Int) := by
                by_cases g : i + 2 < s.size
                · rw [if_pos g, if_pos (by omega)]
                · rw [if_neg g, if_neg (by omega)]
              rw [hmin]
              try simp only [go_sem, Nat.reduceBEq, Nat.reduceAdd, Nat.reduceMul, Nat.reduceSub, Nat.reduceLeDiff, Nat.le_refl, implies_true, Nat.reduceLT, reduceIte, decide_true, decide_false, true_and, and_true, reduceCtorEq, Nat.mul_one, Int.reduceToNat, Int.reduceLE, Int.reduceLT, Int.reduceAdd, Int.reduceSub, Int.reduceMul, Int.cast_ofNat_Int, cast_zero_int, cast_one_int, Nat.reducePow, Nat.reduceEqDiff, Nat.reduceMod, Nat.zero_add, Nat.sub_zero, Nat.add_zero, e0, e4, e5, e6, hz]
              refine ⟨hlt, l ++ [x2], H2.length + 2, if i + 2 < s.size then i + 2 else s.size, by rw [snoc_lenS], rfl, by rw [wrap64 (by omega)]; rfl, (pre_setW ((P.trans P2).trans (List.prefix_append _ _)) hsid).trans (List.prefix_append _ _), ?_, by omega, by rw [snoc_lenS]; omega, by split <;> omega, fun hok => ?_⟩
              · rw [flS_snoc]
                exact hget_at_len (by simp)
              · obtain ⟨_, k, hk, k1, k2, k3⟩ := hL2 hok
                rw [k1, k2, show L.take k ++ [L[k]] = L.take (k + 1) by rw [List.take_add_one, List.getElem?_eq_getElem hk]; rfl]
                exact k3
          · have q46 : ((b.toNat : Int) != 46) = true := by
              rw [bne_iff_ne]; intro hh; exact g46 (UInt8.toNat_inj.1 (Int.ofNat.inj hh))
            simp only [go_sem, Nat.reduceBEq, Nat.reduceAdd, Nat.reduceMul, Nat.reduceSub, Nat.reduceLeDiff, Nat.le_refl, implies_true, Nat.reduceLT, reduceIte, decide_true, decide_false, true_and, and_true, reduceCtorEq, Nat.mul_one, Int.reduceToNat, Int.reduceLE, Int.reduceLT, Int.reduceAdd, Int.reduceSub, Int.reduceMul, Int.cast_ofNat_Int, cast_zero_int, cast_one_int, Nat.reducePow, Nat.reduceEqDiff, Nat.reduceMod, Nat.zero_add, Nat.sub_zero, Nat.add_zero, e0, e4, e5, e6, hz, hb, q46]
            refine ⟨hlt, l, sid, f, rfl, rfl, by rw [wrap64 (by omega)]; rfl, P, A, hsid, by omega, by omega, fun hok => ?_⟩
            exact stand_skip hf (hst hok) hbi g46
        · obtain rfl : i = s.size := by omega
          simp only [go_sem, Nat.reduceBEq, Nat.reduceAdd, Nat.reduceMul, Nat.reduceSub, Nat.reduceLeDiff, Nat.le_refl, implies_true, Nat.reduceLT, reduceIte, decide_true, decide_false, true_and, and_true, reduceCtorEq, Nat.mul_one, Int.reduceToNat, Int.reduceLE, Int.reduceLT, Int.reduceAdd, Int.reduceSub, Int.reduceMul, Int.cast_ofNat_Int, cast_zero_int, cast_one_int, Nat.reducePow, Nat.reduceEqDiff, Nat.reduceMod, Nat.zero_add, Nat.sub_zero, Nat.add_zero, e0, e4, e5, e6, show ¬ (s.size : Int) < s.size by omega]
          have fr : FR h.length H.length 3 H (.slice (some ⟨sid, 0, none⟩) l.length 0) (l.map sup) := ⟨sid, by rw [List.length_map], hsid, hget_lt A, A, fun r hr => by obtain ⟨x, _, rfl⟩ := List.mem_map.1 hr; rfl⟩
          have lL : ok = true → l = L := fun hok => by
            have := hst hok
            rw [← bl_len] at this
            exact stand_end (good_mem (known hok).1) this
          have shut : ¬ (supGood l ∧ reportS l = s) → ok = false ∧ L = [] := fun g => hx.non fun hok => by
            have e := lL hok
            exact g (by rw [e]; exact known hok)
          refine ⟨by kernel_rfl, (c_l25Good _ l fr.sl (by omega)).use (fun _ m => m) ?_⟩
          rintro _ H4 ⟨rfl, P4⟩
          have nz : ¬ (s.size : Int) < s.size := by omega
          by_cases g1 : supGood l
          · simp only [go_sem, Nat.reduceBEq, Nat.reduceAdd, Nat.reduceMul, Nat.reduceSub, Nat.reduceLeDiff, Nat.le_refl, implies_true, Nat.reduceLT, reduceIte, decide_true, decide_false, true_and, and_true, reduceCtorEq, Nat.mul_one, Int.reduceToNat, Int.reduceLE, Int.reduceLT, Int.reduceAdd, Int.reduceSub, Int.reduceMul, Int.cast_ofNat_Int, cast_zero_int, cast_one_int, Nat.reducePow, Nat.reduceEqDiff, Nat.reduceMod, Nat.zero_add, Nat.sub_zero, Nat.add_zero, e0, e4, e6, nz, decide_eq_true g1, Bool.not_true]
            refine ⟨by kernel_rfl, (c_l25Tell _ l (fr.mono P4).sl g1).use (fun _ m => m) ?_⟩
            rintro _ H5 ⟨rfl, P5⟩
            by_cases g2 : reportS l = s
            · have q2 : ((reportS l).toList == s.toList) = true := by rw [g2]; exact beq_self_eq_true _
              obtain ⟨rfl, rfl⟩ : ok = true ∧ l = L := by
                rcases hx with ⟨h1, _⟩ | ⟨_, _, h3⟩
                · exact ⟨h1, lL h1⟩
                · exact absurd ⟨l, g1, g2⟩ h3
              simp only [go_sem, Nat.reduceBEq, Nat.reduceAdd, Nat.reduceMul, Nat.reduceSub, Nat.reduceLeDiff, Nat.le_refl, implies_true, Nat.reduceLT, reduceIte, decide_true, decide_false, true_and, and_true, reduceCtorEq, Nat.mul_one, Int.reduceToNat, Int.reduceLE, Int.reduceLT, Int.reduceAdd, Int.reduceSub, Int.reduceMul, Int.cast_ofNat_Int, cast_zero_int, cast_one_int, Nat.reducePow, Nat.reduceEqDiff, Nat.reduceMod, Nat.zero_add, Nat.sub_zero, Nat.add_zero, e0, e4, e6, nz, decide_eq_true g1, Bool.not_true, q2]
              exact ⟨⟨_, rfl, .inl (FR.wide' (fr.mono (P4.trans P5)) (P4.trans P5).length_le)⟩, P.trans (P4.trans P5)⟩
            · have q2 : ((reportS l).toList == s.toList) = false := by rw [toList_eq]; exact decide_eq_false g2
              obtain ⟨rfl, rfl⟩ := shut (fun h => g2 h.2)
              simp only [go_sem, Nat.reduceBEq, Nat.reduceAdd, Nat.reduceMul, Nat.reduceSub, Nat.reduceLeDiff, Nat.le_refl, implies_true, Nat.reduceLT, reduceIte, decide_true, decide_false, true_and, and_true, reduceCtorEq, Nat.mul_one, Int.reduceToNat, Int.reduceLE, Int.reduceLT, Int.reduceAdd, Int.reduceSub, Int.reduceMul, Int.cast_ofNat_Int, cast_zero_int, cast_one_int, Nat.reducePow, Nat.reduceEqDiff, Nat.reduceMod, Nat.zero_add, Nat.sub_zero, Nat.add_zero, e0, e4, e6, nz, decide_eq_true g1, Bool.not_true, Bool.not_false, q2]
              exact ⟨⟨_, rfl, .inr ⟨rfl, _, rfl⟩⟩, (P.trans (P4.trans P5)).trans (List.prefix_append _ _)⟩
          · obtain ⟨rfl, rfl⟩ := shut (fun h => g1 h.1)
            simp only [go_sem, Nat.reduceBEq, Nat.reduceAdd, Nat.reduceMul, Nat.reduceSub, Nat.reduceLeDiff, Nat.le_refl, implies_true, Nat.reduceLT, reduceIte, decide_true, decide_false, true_and, and_true, reduceCtorEq, Nat.mul_one, Int.reduceToNat, Int.reduceLE, Int.reduceLT, Int.reduceAdd, Int.reduceSub, Int.reduceMul, Int.cast_ofNat_Int, cast_zero_int, cast_one_int, Nat.reducePow, Nat.reduceEqDiff, Nat.reduceMod, Nat.zero_add, Nat.sub_zero, Nat.add_zero, e0, e4, e6, nz, decide_eq_false g1, Bool.not_false]
            exact ⟨⟨_, rfl, .inr ⟨rfl, _, rfl⟩⟩, (P.trans P4).trans (List.prefix_append _ _)⟩
    · obtain ⟨rfl, rfl⟩ := hx.non fun hok => by
        obtain ⟨h1, h2⟩ := known hok
        exact g600 (by rw [← h2]; exact rep_small h1)
      simp only [go_sem, Nat.reduceBEq, Nat.reduceAdd, Nat.reduceMul, Nat.reduceSub, Nat.reduceLeDiff, Nat.le_refl, implies_true, Nat.reduceLT, reduceIte, decide_true, decide_false, true_and, and_true, reduceCtorEq, Nat.mul_one, Int.reduceToNat, Int.reduceLE, Int.reduceLT, Int.reduceAdd, Int.reduceSub, Int.reduceMul, Int.cast_ofNat_Int, cast_zero_int, cast_one_int, Nat.reducePow, Nat.reduceEqDiff, Nat.reduceMod, Nat.zero_add, Nat.sub_zero, Nat.add_zero, q, show (600 : Int) < s.size by omega]
      exact ⟨_, rfl, .inr ⟨rfl, _, rfl⟩⟩
theorem isPR_len {s : ByteArray} {ok : Bool} {L : List Sup} (h : IsPR s ok L) : L.length ≤ 8 := by
  rcases h with ⟨_, h2, _⟩ | ⟨_, h2, _⟩
  · exact supGood_len h2
  · rw [h2]; exact Nat.zero_le _
theorem l_ParseReport {G : List (Nat × Nat)} (pw : PowAt G h) (mx : MaxAt G h) (s : ByteArray) (hs : s.size ≤ 9223372036854775807) : vCall G Tryd.prog M 3 [.string s] h (fun r h' => r = .bool true) := by
  obtain ⟨ok, L, hx⟩ := IsPR.ex s
  have hL := isPR_len hx
  refine body_of mo Tryd.func3 rfl (by kernel_rfl) (Nat.le_of_ble_eq_true (by kernel_rfl)) rfl ?_
  by_cases h1 : (1048576 : Int) < s.size
  · simp only [go_sem, Nat.reduceBEq, Nat.reduceAdd, Nat.reduceMul, Nat.reduceSub, Nat.reduceLeDiff, Nat.le_refl, implies_true, Nat.reduceLT, reduceIte, decide_true, decide_false, true_and, and_true, reduceCtorEq, Nat.mul_one, Int.reduceToNat, Int.reduceLE, Int.reduceLT, Int.reduceAdd, Int.reduceSub, Int.reduceMul, Int.cast_ofNat_Int, cast_zero_int, cast_one_int, Nat.reducePow, Nat.reduceEqDiff, Nat.reduceMod, Nat.zero_add, Nat.sub_zero, Nat.add_zero, h1]
  · simp only [go_sem, Nat.reduceBEq, Nat.reduceAdd, Nat.reduceMul, Nat.reduceSub, Nat.reduceLeDiff, Nat.le_refl, implies_true, Nat.reduceLT, reduceIte, decide_true, decide_false, true_and, and_true, reduceCtorEq, Nat.mul_one, Int.reduceToNat, Int.reduceLE, Int.reduceLT, Int.reduceAdd, Int.reduceSub, Int.reduceMul, Int.cast_ofNat_Int, cast_zero_int, cast_one_int, Nat.reducePow, Nat.reduceEqDiff, Nat.reduceMod, Nat.zero_add, Nat.sub_zero, Nat.add_zero, h1]
    refine ⟨by kernel_rfl, ((c_sParseReport s ok L (by omega) hx).addG).use (fun _ m => m) ?_⟩
    rintro _ H1 ⟨⟨w0, rfl, sw⟩, P1⟩
    try simp only [go_sem, Nat.reduceBEq, Nat.reduceAdd, Nat.reduceMul, Nat.reduceSub, Nat.reduceLeDiff, Nat.le_refl, implies_true, Nat.reduceLT, reduceIte, decide_true, decide_false, true_and, and_true, reduceCtorEq, Nat.mul_one, Int.reduceToNat, Int.reduceLE, Int.reduceLT, Int.reduceAdd, Int.reduceSub, Int.reduceMul, Int.cast_ofNat_Int, cast_zero_int, cast_one_int, Nat.reducePow, Nat.reduceEqDiff, Nat.reduceMod, Nat.zero_add, Nat.sub_zero, Nat.add_zero, h1]
    refine ⟨by kernel_rfl, (c_ParseReport (pw.mono P1) (mx.mono P1) s ok L (by omega) hx).use (fun _ m => m) ?_⟩
    rintro _ H2 ⟨⟨g0, rfl, sg⟩, P2⟩
    have L1 := P1.length_le
    have L2 := P2.length_le
    try simp only [go_sem, Nat.reduceBEq, Nat.reduceAdd, Nat.reduceMul, Nat.reduceSub, Nat.reduceLeDiff, Nat.le_refl, implies_true, Nat.reduceLT, reduceIte, decide_true, decide_false, true_and, and_true, reduceCtorEq, Nat.mul_one, Int.reduceToNat, Int.reduceLE, Int.reduceLT, Int.reduceAdd, Int.reduceSub, Int.reduceMul, Int.cast_ofNat_Int, cast_zero_int, cast_one_int, Nat.reducePow, Nat.reduceEqDiff, Nat.reduceMod, Nat.zero_add, Nat.sub_zero, Nat.add_zero, h1]
    refine ⟨by kernel_rfl, ((c_eqSupplyS g0 w0 L sg.sl (sw.mono P2).sl (by omega)).addG).use (fun _ m => m) ?_⟩
    rintro _ H3 ⟨rfl, P3⟩
    simp only [go_sem, Nat.reduceBEq, Nat.reduceAdd, Nat.reduceMul, Nat.reduceSub, Nat.reduceLeDiff, Nat.le_refl, implies_true, Nat.reduceLT, reduceIte, decide_true, decide_false, true_and, and_true, reduceCtorEq, Nat.mul_one, Int.reduceToNat, Int.reduceLE, Int.reduceLT, Int.reduceAdd, Int.reduceSub, Int.reduceMul, Int.cast_ofNat_Int, cast_zero_int, cast_one_int, Nat.reducePow, Nat.reduceEqDiff, Nat.reduceMod, Nat.zero_add, Nat.sub_zero, Nat.add_zero, h1, bne_self_eq_false, Bool.not_true]
    refine ⟨by kernel_rfl, ((c_markQ g0 L (sg.mono P3) (fun i a b => Or.inl (by omega)) 1 (by omega) (by omega)).addG).use (fun _ m => m) ?_⟩
    rintro _ H4 ⟨rfl, sg4, ag4⟩
    have L3 := P3.length_le
    have sw4 := (sw.mono (P2.trans P3)).agr ag4 (by omega)
    have Q4 : h <+: H4 := agr_preW ((P1.trans P2).trans P3) ag4 (by omega)
    try simp only [go_sem, Nat.reduceBEq, Nat.reduceAdd, Nat.reduceMul, Nat.reduceSub, Nat.reduceLeDiff, Nat.le_refl, implies_true, Nat.reduceLT, reduceIte, decide_true, decide_false, true_and, and_true, reduceCtorEq, Nat.mul_one, Int.reduceToNat, Int.reduceLE, Int.reduceLT, Int.reduceAdd, Int.reduceSub, Int.reduceMul, Int.cast_ofNat_Int, cast_zero_int, cast_one_int, Nat.reducePow, Nat.reduceEqDiff, Nat.reduceMod, Nat.zero_add, Nat.sub_zero, Nat.add_zero, h1]
    refine ⟨by kernel_rfl, ((c_heldSupplyS g0 L.length 1 (by omega) sg4.sl (by omega)).addG).use (fun _ m => m) ?_⟩
    rintro _ H5 ⟨rfl, P5⟩
    have n1 : ¬ (1 + 3 * (L.length : Int) < 0) := by omega
    simp only [go_sem, Nat.reduceBEq, Nat.reduceAdd, Nat.reduceMul, Nat.reduceSub, Nat.reduceLeDiff, Nat.le_refl, implies_true, Nat.reduceLT, reduceIte, decide_true, decide_false, true_and, and_true, reduceCtorEq, Nat.mul_one, Int.reduceToNat, Int.reduceLE, Int.reduceLT, Int.reduceAdd, Int.reduceSub, Int.reduceMul, Int.cast_ofNat_Int, cast_zero_int, cast_one_int, Nat.reducePow, Nat.reduceEqDiff, Nat.reduceMod, Nat.zero_add, Nat.sub_zero, Nat.add_zero, h1, n1, bne_self_eq_false]
    refine ⟨by kernel_rfl, (c_ParseReport (pw.mono (Q4.trans P5)) (mx.mono (Q4.trans P5)) s ok L (by omega) hx).use (fun _ m => m) ?_⟩
    rintro _ H6 ⟨⟨g1, rfl, sh⟩, P6⟩
    try simp only [go_sem, Nat.reduceBEq, Nat.reduceAdd, Nat.reduceMul, Nat.reduceSub, Nat.reduceLeDiff, Nat.le_refl, implies_true, Nat.reduceLT, reduceIte, decide_true, decide_false, true_and, and_true, reduceCtorEq, Nat.mul_one, Int.reduceToNat, Int.reduceLE, Int.reduceLT, Int.reduceAdd, Int.reduceSub, Int.reduceMul, Int.cast_ofNat_Int, cast_zero_int, cast_one_int, Nat.reducePow, Nat.reduceEqDiff, Nat.reduceMod, Nat.zero_add, Nat.sub_zero, Nat.add_zero, h1, n1]
    refine ⟨by kernel_rfl, ((c_eqSupplyS g1 w0 L sh.sl (sw4.mono (P5.trans P6)).sl (by omega)).addG).use (fun _ m => m) ?_⟩
    rintro _ H7 ⟨rfl, P7⟩
    simp only [go_sem, Nat.reduceBEq, Nat.reduceAdd, Nat.reduceMul, Nat.reduceSub, Nat.reduceLeDiff, Nat.le_refl, implies_true, Nat.reduceLT, reduceIte, decide_true, decide_false, true_and, and_true, reduceCtorEq, Nat.mul_one, Int.reduceToNat, Int.reduceLE, Int.reduceLT, Int.reduceAdd, Int.reduceSub, Int.reduceMul, Int.cast_ofNat_Int, cast_zero_int, cast_one_int, Nat.reducePow, Nat.reduceEqDiff, Nat.reduceMod, Nat.zero_add, Nat.sub_zero, Nat.add_zero, h1, n1, bne_self_eq_false, Bool.not_true]
    refine ⟨by kernel_rfl, ((c_heldSupplyS g0 L.length 1 (by omega) (sg4.mono (P5.trans (P6.trans P7))).sl (by omega)).addG).use (fun _ m => m) ?_⟩
    rintro _ H8 ⟨rfl, P8⟩
    simp only [go_sem, Nat.reduceBEq, Nat.reduceAdd, Nat.reduceMul, Nat.reduceSub, Nat.reduceLeDiff, Nat.le_refl, implies_true, Nat.reduceLT, reduceIte, decide_true, decide_false, true_and, and_true, reduceCtorEq, Nat.mul_one, Int.reduceToNat, Int.reduceLE, Int.reduceLT, Int.reduceAdd, Int.reduceSub, Int.reduceMul, Int.cast_ofNat_Int, cast_zero_int, cast_one_int, Nat.reducePow, Nat.reduceEqDiff, Nat.reduceMod, Nat.zero_add, Nat.sub_zero, Nat.add_zero, h1, n1, bne_self_eq_false]
end
theorem a_FnExactParseReport (m : Int) (h : Heap) (a : List Value) (hp : glHM m <+: h) (ft : FitsAll h [.str] a) : vCall glGM Tryd.prog (fun _ => False) 3 a h (fun r _ => r = .bool true) := by
  obtain ⟨v, vs, rfl, f, g⟩ := ft.cons
  obtain rfl := g.nil
  obtain ⟨s, hse, hs⟩ := f
  obtain rfl : v = .string s := by simpa using hse
  obtain ⟨p, q⟩ := glHM_at hp
  exact l_ParseReport p q s (Nat.le_trans hs (by decide))
theorem glob_metR {W : World} (h : laidMetH Tryd.prog Rows.fnExactParseReportRow.laid W) (hs : W.ShapedOpen Tryd.prog) : ∃ m, HRel glGM (globP (glLM m) glNM) (glHM m) W ∧ allRo (glHM m) := by
  rw [MakeChecks.laidMetH_plain _ _ _ (by kernel_rfl)] at h
  have h3 : laidMet Tryd.prog ((_, Lib.tabData .u64 Lib.pow10Tab) :: _) W := laidMet.tail (laidMet.tail h)
  have t := Lib.tabIs_of_head (g := 3) (t := 111) (e := 60) (n := 20) (by kernel_rfl) (by kernel_rfl) (by kernel_rfl) (by kernel_rfl) (by kernel_rfl) (by kernel_rfl) h3
  obtain ⟨m, hm⟩ := max_met hs
  refine ⟨m, ?_⟩
  rw [← globGM m]
  refine glob_rel ?_ ?_
  · intro x hx
    simp only [glLM, List.mem_cons, List.not_mem_nil, or_false] at hx
    rcases hx with rfl | rfl <;> exact ⟨Nat.le_of_ble_eq_true rfl, rfl⟩
  · intro i l e
    unfold glLM at e
    rw [List.lookup_cons] at e
    split at e
    · rename_i hi
      obtain rfl : i = 3 := by simpa using hi
      cases e
      exact ⟨powV_plain, var_cells (by kernel_rfl) t⟩
    · rw [List.lookup_cons] at e
      split at e
      · rename_i hi
        obtain rfl : i = 0 := by simpa using hi
        cases e
        exact ⟨fun v hv => by rw [List.mem_singleton.1 hv]; exact .int _ _, hm⟩
      · simp at e
end Go.Proofs.YtfolkgkcaiaifaaDoor
