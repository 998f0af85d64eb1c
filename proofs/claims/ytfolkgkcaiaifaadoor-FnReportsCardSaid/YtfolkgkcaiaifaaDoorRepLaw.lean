
/- The law about reports. No condition. -/
import Derived.Test.YtfolkgkcaiaifaaDoorDRep
import Derived.Test.YtfolkgkcaiaifaaDoorPRepL
import Derived.Test.YtfolkgkcaiaifaaDoorShares
import Derived.Test.YtfolkgkcaiaifaaDoorH3
namespace Go.Proofs.YtfolkgkcaiaifaaDoor
open Go.HH Go.Proofs
set_option linter.unusedSimpArgs false
set_option linter.unusedVariables false

theorem isPN_len {s : ByteArray} {ok : Bool} {L : List Int} (h : IsPN s ok L) : L.length ≤ 8 := by
  rcases h with ⟨_, h2, _⟩ | ⟨_, h2, _⟩
  · exact rising_len h2
  · rw [h2]; exact Nat.zero_le _
theorem hget_prefixR {h H : Heap} {x : Blk} (hp : h ++ [x] <+: H) : hget H h.length = some x := by rw [hget_prefix hp (by simp)]; exact hget_new
theorem told_two {a c : ByteArray} {g e : Bool} (h : Value.tuple #[.string a, .bool g] = .tuple #[.string c, .bool e]) : a = c := by
  injection h with h
  have := congrArg (fun x : Array Value => x[0]?) h
  simpa using this
theorem supTV_told (x : Int × Int × Int) : ∃ s pk y, supTV x.1 x.2.1 x.2.2 = .tuple #[.string s, .bool (decide (supplyOk x.1 x.2.1 x.2.2))] ∧ s.size ≤ 100 ∧ IsPS s pk y ∧ (supplyOk x.1 x.2.1 x.2.2 → pk = true ∧ y = x) := by
  obtain ⟨s, ok, hs, zs⟩ := supTV_size x.1 x.2.1 x.2.2
  by_cases g : supplyOk x.1 x.2.1 x.2.2
  · rw [supTV, if_pos g] at hs
    have e := told_two hs
    exact ⟨s, true, x, by rw [supTV, if_pos g, e, decide_eq_true g], zs, .inl ⟨rfl, g, e⟩, fun _ => ⟨rfl, rfl⟩⟩
  · rw [supTV, if_neg g] at hs
    have e := told_two hs
    obtain ⟨pk, y, hp⟩ := IsPS.ex s
    exact ⟨s, pk, y, by rw [supTV, if_neg g, e, decide_eq_false g], zs, hp, fun h => absurd h g⟩
theorem repV_told (l : List Sup) : ∃ s pk y, repV l = .tuple #[.string s, .bool (decide (supGood l))] ∧ s.size ≤ 1000 ∧ IsPR s pk y ∧ (supGood l → pk = true ∧ y = l) := by
  obtain ⟨s, ok, hs, zs⟩ := repV_size l
  by_cases g : supGood l
  · rw [repV, if_pos g] at hs
    have e := told_two hs
    exact ⟨s, true, l, by rw [repV, if_pos g, e, decide_eq_true g], zs, .inl ⟨rfl, g, e⟩, fun _ => ⟨rfl, rfl⟩⟩
  · rw [repV, if_neg g] at hs
    have e := told_two hs
    obtain ⟨pk, y, hp⟩ := IsPR.ex s
    exact ⟨s, pk, y, by rw [repV, if_neg g, e, decide_eq_false g], zs, hp, fun h => absurd h g⟩
theorem nodeV_told (l : List Int) : ∃ s pk y, nodeV l = .tuple #[.string s, .bool (decide (rising l 1 8))] ∧ s.size ≤ 100 ∧ IsPN s pk y ∧ (rising l 1 8 → pk = true ∧ y = l) := by
  obtain ⟨s, ok, hs, zs⟩ := nodeV_size l
  by_cases g : rising l 1 8
  · rw [nodeV, if_pos g] at hs
    have e := told_two hs
    exact ⟨s, true, l, by rw [nodeV, if_pos g, e, decide_eq_true g], zs, .inl ⟨rfl, g, e⟩, fun _ => ⟨rfl, rfl⟩⟩
  · rw [nodeV, if_neg g] at hs
    have e := told_two hs
    obtain ⟨pk, y, hp⟩ := IsPN.ex s
    exact ⟨s, pk, y, by rw [nodeV, if_neg g, e, decide_eq_false g], zs, hp, fun h => absurd h g⟩
section
variable {h : Heap} {M : Nat → Prop}
theorem c_rIntsR {n m : Nat} (v w : Value) (l : List Int) (s : AI n h v l) (s' : AI m h w l) (hmax : l.length ≤ 1048576) : vCall [] Tryd.prog M 27 [v, w] h (fun r h' => r = .bool true ∧ h = h') := by
  obtain ⟨a, rfl⟩ := s.len
  obtain ⟨b, rfl⟩ := s'.len
  refine body_of mo Tryd.func27 rfl (by kernel_rfl) (Nat.le_of_ble_eq_true (by kernel_rfl)) rfl ?_
  simp only [go_sem, Nat.reduceBEq, Nat.reduceAdd, Nat.reduceMul, Nat.reduceSub, Nat.reduceLeDiff, Nat.le_refl, implies_true, Nat.reduceLT, reduceIte, decide_true, decide_false, true_and, and_true, reduceCtorEq, Nat.mul_one, Int.reduceToNat, Int.reduceLE, Int.reduceLT, Int.reduceAdd, Int.reduceSub, Int.reduceMul, Int.cast_ofNat_Int, cast_zero_int, cast_one_int, Nat.reducePow, Nat.reduceEqDiff, Nat.reduceMod, Nat.zero_add, Nat.sub_zero, Nat.add_zero]
  refine vLoop.count mo l.length (fun i e h' => e 0 = .slice a l.length 0 ∧ e 1 = .slice b l.length 0 ∧ e 5 = .int .i64 i ∧ h' = h) ?_ ?_
  · simp only [go_sem, Nat.reduceBEq, Nat.reduceAdd, Nat.reduceMul, Nat.reduceSub, Nat.reduceLeDiff, Nat.le_refl, implies_true, Nat.reduceLT, reduceIte, decide_true, decide_false, true_and, and_true, reduceCtorEq, Nat.mul_one, Int.reduceToNat, Int.reduceLE, Int.reduceLT, Int.reduceAdd, Int.reduceSub, Int.reduceMul, Int.cast_ofNat_Int, cast_zero_int, cast_one_int, Nat.reducePow, Nat.reduceEqDiff, Nat.reduceMod, Nat.zero_add, Nat.sub_zero, Nat.add_zero]
    try simp
  · rintro i e _ hi ⟨e0, e1, e3, rfl⟩
    simp only [go_sem, Nat.reduceBEq, Nat.reduceAdd, Nat.reduceMul, Nat.reduceSub, Nat.reduceLeDiff, Nat.le_refl, implies_true, Nat.reduceLT, reduceIte, decide_true, decide_false, true_and, and_true, reduceCtorEq, Nat.mul_one, Int.reduceToNat, Int.reduceLE, Int.reduceLT, Int.reduceAdd, Int.reduceSub, Int.reduceMul, Int.cast_ofNat_Int, cast_zero_int, cast_one_int, Nat.reducePow, Nat.reduceEqDiff, Nat.reduceMod, Nat.zero_add, Nat.sub_zero, Nat.add_zero, e0, e1, e3]
    refine .intro (fun h1 => ?_) (fun h1 => ?_)
    · have hlt : i < l.length := by simpa using h1
      obtain ⟨id, off, k, hv, _, _, hk, hd, _, hb, _, hat⟩ := s.at (by omega)
      obtain rfl : a = some ⟨id, off, none⟩ := by simpa using hv
      obtain ⟨id2, off2, k2, hv2, _, _, hk2, hd2, _, hb2, _, hat2⟩ := s'.at (by omega)
      obtain rfl : b = some ⟨id2, off2, none⟩ := by simpa using hv2
      have hz : (i : Int) < l.length := by omega
      simp only [go_sem, Nat.reduceBEq, Nat.reduceAdd, Nat.reduceMul, Nat.reduceSub, Nat.reduceLeDiff, Nat.le_refl, implies_true, Nat.reduceLT, reduceIte, decide_true, decide_false, true_and, and_true, reduceCtorEq, Nat.mul_one, Int.reduceToNat, Int.reduceLE, Int.reduceLT, Int.reduceAdd, Int.reduceSub, Int.reduceMul, Int.cast_ofNat_Int, cast_zero_int, cast_one_int, Nat.reducePow, Nat.reduceEqDiff, Nat.reduceMod, Nat.zero_add, Nat.sub_zero, Nat.add_zero, e0, e1, e3, hk, hk2, hd, hd2, hz, hat _ hlt, hat2 _ hlt]
      try exact ⟨hlt, by rw [wrap64 (by omega)]; rfl⟩
    · simp only [go_sem, Nat.reduceBEq, Nat.reduceAdd, Nat.reduceMul, Nat.reduceSub, Nat.reduceLeDiff, Nat.le_refl, implies_true, Nat.reduceLT, reduceIte, decide_true, decide_false, true_and, and_true, reduceCtorEq, Nat.mul_one, Int.reduceToNat, Int.reduceLE, Int.reduceLT, Int.reduceAdd, Int.reduceSub, Int.reduceMul, Int.cast_ofNat_Int, cast_zero_int, cast_one_int, Nat.reducePow, Nat.reduceEqDiff, Nat.reduceMod, Nat.zero_add, Nat.sub_zero, Nat.add_zero, e0, e1, e3]
set_option maxRecDepth 20000 in
set_option maxHeartbeats 8000000 in
theorem l_FnReports (pw : PowAt glGM h) (mx : MaxAt glGM h) (b : Option Addr) (n : Nat) (hc : CodeOk h b n) : vCall glGM Tryd.prog M 4 [.slice b n 0] h (fun r _ => r = .bool true) := by
  refine body_of mo Tryd.func4 rfl (by kernel_rfl) (Nat.le_of_ble_eq_true (by kernel_rfl)) rfl ?_
  simp only [go_sem, Nat.reduceBEq, Nat.reduceAdd, Nat.reduceMul, Nat.reduceSub, Nat.reduceLeDiff, Nat.le_refl, implies_true, Nat.reduceLT, reduceIte, decide_true, decide_false, true_and, and_true, reduceCtorEq, Nat.mul_one, Int.reduceToNat, Int.reduceLE, Int.reduceLT, Int.reduceAdd, Int.reduceSub, Int.reduceMul, Int.cast_ofNat_Int, cast_zero_int, cast_one_int, Nat.reducePow, Nat.reduceEqDiff, Nat.reduceMod, Nat.zero_add, Nat.sub_zero, Nat.add_zero]
  refine ⟨by kernel_rfl, ((c_rBigW b n).addG).use (fun _ m => m) ?_⟩
  rintro _ _ ⟨rfl, rfl⟩
  by_cases hb : (65536 : Int) < n
  · simp only [go_sem, Nat.reduceBEq, Nat.reduceAdd, Nat.reduceMul, Nat.reduceSub, Nat.reduceLeDiff, Nat.le_refl, implies_true, Nat.reduceLT, reduceIte, decide_true, decide_false, true_and, and_true, reduceCtorEq, Nat.mul_one, Int.reduceToNat, Int.reduceLE, Int.reduceLT, Int.reduceAdd, Int.reduceSub, Int.reduceMul, Int.cast_ofNat_Int, cast_zero_int, cast_one_int, Nat.reducePow, Nat.reduceEqDiff, Nat.reduceMod, Nat.zero_add, Nat.sub_zero, Nat.add_zero, decide_eq_true hb]
  simp only [go_sem, Nat.reduceBEq, Nat.reduceAdd, Nat.reduceMul, Nat.reduceSub, Nat.reduceLeDiff, Nat.le_refl, implies_true, Nat.reduceLT, reduceIte, decide_true, decide_false, true_and, and_true, reduceCtorEq, Nat.mul_one, Int.reduceToNat, Int.reduceLE, Int.reduceLT, Int.reduceAdd, Int.reduceSub, Int.reduceMul, Int.cast_ofNat_Int, cast_zero_int, cast_one_int, Nat.reducePow, Nat.reduceEqDiff, Nat.reduceMod, Nat.zero_add, Nat.sub_zero, Nat.add_zero, decide_eq_false hb]
  refine ⟨by kernel_rfl, ((c_DrawSupplyText b n hc).addG).use (fun _ m => m) ?_⟩
  rintro _ H1 ⟨⟨xa, xb, xc, rfl⟩, P1⟩
  obtain ⟨x, hxe⟩ : ∃ x : Int × Int × Int, x = (xa, xb, xc) := ⟨_, rfl⟩
  obtain ⟨rfl, rfl, rfl⟩ : x.1 = xa ∧ x.2.1 = xb ∧ x.2.2 = xc := by rw [hxe]; exact ⟨rfl, rfl, rfl⟩
  clear hxe
  obtain ⟨s, pk, y, hs, zs, hpm, hrel⟩ := supTV_told x
  have L1 := P1.length_le
  simp only [go_sem, Nat.reduceBEq, Nat.reduceAdd, Nat.reduceMul, Nat.reduceSub, Nat.reduceLeDiff, Nat.le_refl, implies_true, Nat.reduceLT, reduceIte, decide_true, decide_false, true_and, and_true, reduceCtorEq, Nat.mul_one, Int.reduceToNat, Int.reduceLE, Int.reduceLT, Int.reduceAdd, Int.reduceSub, Int.reduceMul, Int.cast_ofNat_Int, cast_zero_int, cast_one_int, Nat.reducePow, Nat.reduceEqDiff, Nat.reduceMod, Nat.zero_add, Nat.sub_zero, Nat.add_zero, own_ge (show h.length ≤ H1.length by omega), hget_set_newW, set_newW, hget_new]
  refine ⟨by kernel_rfl, (c_SupplyText (pw.mono (P1.trans (List.prefix_append _ _))) x.1 x.2.1 x.2.2).use (fun _ m => m) ?_⟩
  rintro _ H2 ⟨rfl, P2⟩
  have b2 := hget_prefixR P2
  rw [hs]
  simp only [go_sem, Nat.reduceBEq, Nat.reduceAdd, Nat.reduceMul, Nat.reduceSub, Nat.reduceLeDiff, Nat.le_refl, implies_true, Nat.reduceLT, reduceIte, decide_true, decide_false, true_and, and_true, reduceCtorEq, Nat.mul_one, Int.reduceToNat, Int.reduceLE, Int.reduceLT, Int.reduceAdd, Int.reduceSub, Int.reduceMul, Int.cast_ofNat_Int, cast_zero_int, cast_one_int, Nat.reducePow, Nat.reduceEqDiff, Nat.reduceMod, Nat.zero_add, Nat.sub_zero, Nat.add_zero, b2]
  refine ⟨by kernel_rfl, ((c_sSupplyText x.1 x.2.1 x.2.2).addG).use (fun _ m => m) ?_⟩
  rintro _ H3 ⟨rfl, P3⟩
  have b3 : hget H3 H1.length = _ := (hget_prefix P3 (hget_lt b2)).trans b2
  rw [hs]
  simp only [go_sem, Nat.reduceBEq, Nat.reduceAdd, Nat.reduceMul, Nat.reduceSub, Nat.reduceLeDiff, Nat.le_refl, implies_true, Nat.reduceLT, reduceIte, decide_true, decide_false, true_and, and_true, reduceCtorEq, Nat.mul_one, Int.reduceToNat, Int.reduceLE, Int.reduceLT, Int.reduceAdd, Int.reduceSub, Int.reduceMul, Int.cast_ofNat_Int, cast_zero_int, cast_one_int, Nat.reducePow, Nat.reduceEqDiff, Nat.reduceMod, Nat.zero_add, Nat.sub_zero, Nat.add_zero, b3, eqsS, Bool.not_true, bne_self_eq_false]
  refine ⟨by kernel_rfl, ((c_IsValidSupply x.1 x.2.1 x.2.2).addG).use (fun _ m => m) ?_⟩
  rintro _ H4 ⟨rfl, P4⟩
  have b4 : hget H4 H1.length = _ := (hget_prefix P4 (hget_lt b3)).trans b3
  simp only [go_sem, Nat.reduceBEq, Nat.reduceAdd, Nat.reduceMul, Nat.reduceSub, Nat.reduceLeDiff, Nat.le_refl, implies_true, Nat.reduceLT, reduceIte, decide_true, decide_false, true_and, and_true, reduceCtorEq, Nat.mul_one, Int.reduceToNat, Int.reduceLE, Int.reduceLT, Int.reduceAdd, Int.reduceSub, Int.reduceMul, Int.cast_ofNat_Int, cast_zero_int, cast_one_int, Nat.reducePow, Nat.reduceEqDiff, Nat.reduceMod, Nat.zero_add, Nat.sub_zero, Nat.add_zero, b4, eqsS, Bool.not_true, bne_self_eq_false]
  have Q4 : h <+: H4 := P1.trans ((List.prefix_append _ _).trans (P2.trans (P3.trans P4)))
  refine ⟨by kernel_rfl, (c_ParseSupply (pw.mono Q4) (mx.mono Q4) s pk y (by omega) hpm).use (fun _ m => m) ?_⟩
  rintro _ H5 ⟨rfl, P5⟩
  have b5 : hget H5 H1.length = _ := (hget_prefix P5 (hget_lt b4)).trans b4
  have Q5 := Q4.trans P5
  have L5 := Q5.length_le
  have Q6 : h <+: H5 ++ [⟨[.int .i64 y.1, .int .i64 y.2.1, .int .i64 y.2.2], 3, .rw⟩] := Q5.trans (List.prefix_append _ _)
  by_cases gx : supplyOk x.1 x.2.1 x.2.2
  · obtain ⟨rfl, rfl⟩ := hrel gx
    have dx : decide (supplyOk y.1 y.2.1 y.2.2) = true := decide_eq_true gx
    simp only [go_sem, Nat.reduceBEq, Nat.reduceAdd, Nat.reduceMul, Nat.reduceSub, Nat.reduceLeDiff, Nat.le_refl, implies_true, Nat.reduceLT, reduceIte, decide_true, decide_false, true_and, and_true, reduceCtorEq, Nat.mul_one, Int.reduceToNat, Int.reduceLE, Int.reduceLT, Int.reduceAdd, Int.reduceSub, Int.reduceMul, Int.cast_ofNat_Int, cast_zero_int, cast_one_int, Nat.reducePow, Nat.reduceEqDiff, Nat.reduceMod, Nat.zero_add, Nat.sub_zero, Nat.add_zero, dx, ag3, own_ge (show h.length ≤ H5.length by omega), hget_set_newW, set_newW, hget_new, self_get b5, bne_self_eq_false, beq_self_eq_true, Bool.and_self, Bool.not_true]
    refine ⟨by kernel_rfl, ((c_DrawParseSupply b n (hc.mono Q6)).addG).use (fun _ m => m) ?_⟩
    rintro _ H7 ⟨⟨t, rfl, zt⟩, P7⟩
    have Q7 := Q6.trans P7
    obtain ⟨ok2, x2, hx2⟩ := IsPS.ex t
    try simp only [go_sem, Nat.reduceBEq, Nat.reduceAdd, Nat.reduceMul, Nat.reduceSub, Nat.reduceLeDiff, Nat.le_refl, implies_true, Nat.reduceLT, reduceIte, decide_true, decide_false, true_and, and_true, reduceCtorEq, Nat.mul_one, Int.reduceToNat, Int.reduceLE, Int.reduceLT, Int.reduceAdd, Int.reduceSub, Int.reduceMul, Int.cast_ofNat_Int, cast_zero_int, cast_one_int, Nat.reducePow, Nat.reduceEqDiff, Nat.reduceMod, Nat.zero_add, Nat.sub_zero, Nat.add_zero, dx]
    refine ⟨by kernel_rfl, (c_ParseSupply (pw.mono Q7) (mx.mono Q7) t ok2 x2 (by omega) hx2).use (fun _ m => m) ?_⟩
    rintro _ H8 ⟨rfl, P8⟩
    have Q8 := Q7.trans P8
    have L8 := Q8.length_le
    simp only [go_sem, Nat.reduceBEq, Nat.reduceAdd, Nat.reduceMul, Nat.reduceSub, Nat.reduceLeDiff, Nat.le_refl, implies_true, Nat.reduceLT, reduceIte, decide_true, decide_false, true_and, and_true, reduceCtorEq, Nat.mul_one, Int.reduceToNat, Int.reduceLE, Int.reduceLT, Int.reduceAdd, Int.reduceSub, Int.reduceMul, Int.cast_ofNat_Int, cast_zero_int, cast_one_int, Nat.reducePow, Nat.reduceEqDiff, Nat.reduceMod, Nat.zero_add, Nat.sub_zero, Nat.add_zero, dx, ag3, own_ge (show h.length ≤ H8.length by omega), hget_set_newW, set_newW, hget_new]
    refine ⟨by kernel_rfl, ((c_sParseSupply t ok2 x2 (by omega) hx2).addG).use (fun _ m => m) ?_⟩
    rintro _ H9 ⟨rfl, P9⟩
    have b9 := hget_prefixR P9
    have Q9 := Q8.trans ((List.prefix_append _ _).trans P9)
    have L9 := Q9.length_le
    simp only [go_sem, Nat.reduceBEq, Nat.reduceAdd, Nat.reduceMul, Nat.reduceSub, Nat.reduceLeDiff, Nat.le_refl, implies_true, Nat.reduceLT, reduceIte, decide_true, decide_false, true_and, and_true, reduceCtorEq, Nat.mul_one, Int.reduceToNat, Int.reduceLE, Int.reduceLT, Int.reduceAdd, Int.reduceSub, Int.reduceMul, Int.cast_ofNat_Int, cast_zero_int, cast_one_int, Nat.reducePow, Nat.reduceEqDiff, Nat.reduceMod, Nat.zero_add, Nat.sub_zero, Nat.add_zero, dx, ag3, own_ge (show h.length ≤ H9.length by omega), hget_set_newW, set_newW, hget_new, self_get b9, b9, bne_self_eq_false, beq_self_eq_true, Bool.and_self, Bool.not_true]
    have Q9a : h <+: H9 ++ [⟨[.int .i64 x2.1, .int .i64 x2.2.1, .int .i64 x2.2.2], 3, .rw⟩] := Q9.trans (List.prefix_append _ _)
    refine ⟨by kernel_rfl, ((c_DrawReportText b n (hc.mono Q9a)).addG).use (fun _ m => m) ?_⟩
    rintro v HA ⟨⟨l, fl, hl⟩, PA⟩
    have QA := Q9a.trans PA
    obtain ⟨va, rfl⟩ := Sl.len3 fl.sl
    try simp only [go_sem, Nat.reduceBEq, Nat.reduceAdd, Nat.reduceMul, Nat.reduceSub, Nat.reduceLeDiff, Nat.le_refl, implies_true, Nat.reduceLT, reduceIte, decide_true, decide_false, true_and, and_true, reduceCtorEq, Nat.mul_one, Int.reduceToNat, Int.reduceLE, Int.reduceLT, Int.reduceAdd, Int.reduceSub, Int.reduceMul, Int.cast_ofNat_Int, cast_zero_int, cast_one_int, Nat.reducePow, Nat.reduceEqDiff, Nat.reduceMod, Nat.zero_add, Nat.sub_zero, Nat.add_zero, dx]
    refine ⟨by kernel_rfl, (c_ReportText (pw.mono QA) _ l fl.sl (by omega)).use (fun _ m => m) ?_⟩
    rintro _ HB ⟨rfl, PB⟩
    have QB := QA.trans PB
    obtain ⟨s5, pk5, y5, hs5, zs5, hx5, hr5⟩ := repV_told l
    have zl5 := isPR_len hx5
    rw [hs5]
    try simp only [go_sem, Nat.reduceBEq, Nat.reduceAdd, Nat.reduceMul, Nat.reduceSub, Nat.reduceLeDiff, Nat.le_refl, implies_true, Nat.reduceLT, reduceIte, decide_true, decide_false, true_and, and_true, reduceCtorEq, Nat.mul_one, Int.reduceToNat, Int.reduceLE, Int.reduceLT, Int.reduceAdd, Int.reduceSub, Int.reduceMul, Int.cast_ofNat_Int, cast_zero_int, cast_one_int, Nat.reducePow, Nat.reduceEqDiff, Nat.reduceMod, Nat.zero_add, Nat.sub_zero, Nat.add_zero, dx]
    refine ⟨by kernel_rfl, ((c_sReportText _ l (fl.mono PB).sl (by omega)).addG).use (fun _ m => m) ?_⟩
    rintro _ HC ⟨rfl, PC⟩
    have QC := QB.trans PC
    rw [hs5]
    simp only [go_sem, Nat.reduceBEq, Nat.reduceAdd, Nat.reduceMul, Nat.reduceSub, Nat.reduceLeDiff, Nat.le_refl, implies_true, Nat.reduceLT, reduceIte, decide_true, decide_false, true_and, and_true, reduceCtorEq, Nat.mul_one, Int.reduceToNat, Int.reduceLE, Int.reduceLT, Int.reduceAdd, Int.reduceSub, Int.reduceMul, Int.cast_ofNat_Int, cast_zero_int, cast_one_int, Nat.reducePow, Nat.reduceEqDiff, Nat.reduceMod, Nat.zero_add, Nat.sub_zero, Nat.add_zero, dx, eqsS, Bool.not_true, bne_self_eq_false]
    refine ⟨by kernel_rfl, (c_ParseReport (pw.mono QC) (mx.mono QC) s5 pk5 y5 (by omega) hx5).use (fun _ m => m) ?_⟩
    rintro _ HD ⟨⟨w5, rfl, g5⟩, PD⟩
    by_cases c5 : supGood l
    · obtain ⟨rfl, rfl⟩ := hr5 c5
      simp only [go_sem, Nat.reduceBEq, Nat.reduceAdd, Nat.reduceMul, Nat.reduceSub, Nat.reduceLeDiff, Nat.le_refl, implies_true, Nat.reduceLT, reduceIte, decide_true, decide_false, true_and, and_true, reduceCtorEq, Nat.mul_one, Int.reduceToNat, Int.reduceLE, Int.reduceLT, Int.reduceAdd, Int.reduceSub, Int.reduceMul, Int.cast_ofNat_Int, cast_zero_int, cast_one_int, Nat.reducePow, Nat.reduceEqDiff, Nat.reduceMod, Nat.zero_add, Nat.sub_zero, Nat.add_zero, dx, decide_eq_true c5, Bool.not_true]
      refine ⟨by kernel_rfl, ((c_rSupplies _ _ _ g5.sl (fl.mono ((PB.trans PC).trans PD)).sl (by omega)).addG).use (fun _ m => m) ?_⟩
      rintro _ _ ⟨rfl, rfl⟩
      simp only [go_sem, Nat.reduceBEq, Nat.reduceAdd, Nat.reduceMul, Nat.reduceSub, Nat.reduceLeDiff, Nat.le_refl, implies_true, Nat.reduceLT, reduceIte, decide_true, decide_false, true_and, and_true, reduceCtorEq, Nat.mul_one, Int.reduceToNat, Int.reduceLE, Int.reduceLT, Int.reduceAdd, Int.reduceSub, Int.reduceMul, Int.cast_ofNat_Int, cast_zero_int, cast_one_int, Nat.reducePow, Nat.reduceEqDiff, Nat.reduceMod, Nat.zero_add, Nat.sub_zero, Nat.add_zero, dx, decide_eq_true c5, Bool.not_true]
      have QR := QC.trans PD
      refine ⟨by kernel_rfl, ((c_DrawParseReport b n (hc.mono QR)).addG).use (fun _ m => m) ?_⟩
      rintro _ R1 ⟨⟨t3, rfl, zt3⟩, C1⟩
      have QR1 := QR.trans C1
      obtain ⟨ok3, l3, hx3⟩ := IsPR.ex t3
      have zl3 := isPR_len hx3
      try simp only [go_sem, Nat.reduceBEq, Nat.reduceAdd, Nat.reduceMul, Nat.reduceSub, Nat.reduceLeDiff, Nat.le_refl, implies_true, Nat.reduceLT, reduceIte, decide_true, decide_false, true_and, and_true, reduceCtorEq, Nat.mul_one, Int.reduceToNat, Int.reduceLE, Int.reduceLT, Int.reduceAdd, Int.reduceSub, Int.reduceMul, Int.cast_ofNat_Int, cast_zero_int, cast_one_int, Nat.reducePow, Nat.reduceEqDiff, Nat.reduceMod, Nat.zero_add, Nat.sub_zero, Nat.add_zero, dx]
      refine ⟨by kernel_rfl, (c_ParseReport (pw.mono QR1) (mx.mono QR1) t3 ok3 l3 (by omega) hx3).use (fun _ m => m) ?_⟩
      rintro _ R2 ⟨⟨w3, rfl, f3⟩, C2⟩
      try simp only [go_sem, Nat.reduceBEq, Nat.reduceAdd, Nat.reduceMul, Nat.reduceSub, Nat.reduceLeDiff, Nat.le_refl, implies_true, Nat.reduceLT, reduceIte, decide_true, decide_false, true_and, and_true, reduceCtorEq, Nat.mul_one, Int.reduceToNat, Int.reduceLE, Int.reduceLT, Int.reduceAdd, Int.reduceSub, Int.reduceMul, Int.cast_ofNat_Int, cast_zero_int, cast_one_int, Nat.reducePow, Nat.reduceEqDiff, Nat.reduceMod, Nat.zero_add, Nat.sub_zero, Nat.add_zero, dx]
      refine ⟨by kernel_rfl, ((c_sParseReport t3 ok3 l3 (by omega) hx3).addG).use (fun _ m => m) ?_⟩
      rintro _ R3 ⟨⟨w3b, rfl, f3b⟩, C3⟩
      simp only [go_sem, Nat.reduceBEq, Nat.reduceAdd, Nat.reduceMul, Nat.reduceSub, Nat.reduceLeDiff, Nat.le_refl, implies_true, Nat.reduceLT, reduceIte, decide_true, decide_false, true_and, and_true, reduceCtorEq, Nat.mul_one, Int.reduceToNat, Int.reduceLE, Int.reduceLT, Int.reduceAdd, Int.reduceSub, Int.reduceMul, Int.cast_ofNat_Int, cast_zero_int, cast_one_int, Nat.reducePow, Nat.reduceEqDiff, Nat.reduceMod, Nat.zero_add, Nat.sub_zero, Nat.add_zero, dx, bne_self_eq_false]
      refine ⟨by kernel_rfl, ((c_rSupplies _ _ l3 (f3.mono C3).sl f3b.sl (by omega)).addG).use (fun _ m => m) ?_⟩
      rintro _ _ ⟨rfl, rfl⟩
      simp only [go_sem, Nat.reduceBEq, Nat.reduceAdd, Nat.reduceMul, Nat.reduceSub, Nat.reduceLeDiff, Nat.le_refl, implies_true, Nat.reduceLT, reduceIte, decide_true, decide_false, true_and, and_true, reduceCtorEq, Nat.mul_one, Int.reduceToNat, Int.reduceLE, Int.reduceLT, Int.reduceAdd, Int.reduceSub, Int.reduceMul, Int.cast_ofNat_Int, cast_zero_int, cast_one_int, Nat.reducePow, Nat.reduceEqDiff, Nat.reduceMod, Nat.zero_add, Nat.sub_zero, Nat.add_zero, dx, bne_self_eq_false, Bool.not_true]
      have QN := QR1.trans (C2.trans C3)
      refine ⟨by kernel_rfl, ((c_DrawNodeList b n (hc.mono QN)).addG).use (fun _ m => m) ?_⟩
      rintro v6 N1 ⟨⟨l6, f6, hl6⟩, D1⟩
      have QN1 := QN.trans D1
      try simp only [go_sem, Nat.reduceBEq, Nat.reduceAdd, Nat.reduceMul, Nat.reduceSub, Nat.reduceLeDiff, Nat.le_refl, implies_true, Nat.reduceLT, reduceIte, decide_true, decide_false, true_and, and_true, reduceCtorEq, Nat.mul_one, Int.reduceToNat, Int.reduceLE, Int.reduceLT, Int.reduceAdd, Int.reduceSub, Int.reduceMul, Int.cast_ofNat_Int, cast_zero_int, cast_one_int, Nat.reducePow, Nat.reduceEqDiff, Nat.reduceMod, Nat.zero_add, Nat.sub_zero, Nat.add_zero, dx]
      refine ⟨by kernel_rfl, ((c_NodeList v6 l6 (f6.si (Nat.le_refl _)) (by omega)).addG).use (fun _ m => m) ?_⟩
      rintro _ N2 ⟨rfl, D2⟩
      obtain ⟨s6, pk6, y6, hs6, zs6, hx6, hr6⟩ := nodeV_told l6
      have zl6 := isPN_len hx6
      rw [hs6]
      try simp only [go_sem, Nat.reduceBEq, Nat.reduceAdd, Nat.reduceMul, Nat.reduceSub, Nat.reduceLeDiff, Nat.le_refl, implies_true, Nat.reduceLT, reduceIte, decide_true, decide_false, true_and, and_true, reduceCtorEq, Nat.mul_one, Int.reduceToNat, Int.reduceLE, Int.reduceLT, Int.reduceAdd, Int.reduceSub, Int.reduceMul, Int.cast_ofNat_Int, cast_zero_int, cast_one_int, Nat.reducePow, Nat.reduceEqDiff, Nat.reduceMod, Nat.zero_add, Nat.sub_zero, Nat.add_zero, dx]
      refine ⟨by kernel_rfl, ((c_sNodeList v6 l6 (FI.si (f6.mono D2) D2.length_le) (by omega)).addG).use (fun _ m => m) ?_⟩
      rintro _ N3 ⟨rfl, D3⟩
      rw [hs6]
      simp only [go_sem, Nat.reduceBEq, Nat.reduceAdd, Nat.reduceMul, Nat.reduceSub, Nat.reduceLeDiff, Nat.le_refl, implies_true, Nat.reduceLT, reduceIte, decide_true, decide_false, true_and, and_true, reduceCtorEq, Nat.mul_one, Int.reduceToNat, Int.reduceLE, Int.reduceLT, Int.reduceAdd, Int.reduceSub, Int.reduceMul, Int.cast_ofNat_Int, cast_zero_int, cast_one_int, Nat.reducePow, Nat.reduceEqDiff, Nat.reduceMod, Nat.zero_add, Nat.sub_zero, Nat.add_zero, dx, eqsS, Bool.not_true, bne_self_eq_false]
      refine ⟨by kernel_rfl, ((c_ParseNodeList s6 pk6 y6 (by omega) hx6).addG).use (fun _ m => m) ?_⟩
      rintro _ N4 ⟨⟨w6, rfl, g6⟩, D4⟩
      by_cases c6 : rising l6 1 8
      · obtain ⟨rfl, rfl⟩ := hr6 c6
        simp only [go_sem, Nat.reduceBEq, Nat.reduceAdd, Nat.reduceMul, Nat.reduceSub, Nat.reduceLeDiff, Nat.le_refl, implies_true, Nat.reduceLT, reduceIte, decide_true, decide_false, true_and, and_true, reduceCtorEq, Nat.mul_one, Int.reduceToNat, Int.reduceLE, Int.reduceLT, Int.reduceAdd, Int.reduceSub, Int.reduceMul, Int.cast_ofNat_Int, cast_zero_int, cast_one_int, Nat.reducePow, Nat.reduceEqDiff, Nat.reduceMod, Nat.zero_add, Nat.sub_zero, Nat.add_zero, dx, decide_eq_true c6, Bool.not_true]
        refine ⟨by kernel_rfl, ((c_rIntsR _ _ _ g6.ai (f6.mono ((D2.trans D3).trans D4)).ai (by omega)).addG).use (fun _ m => m) ?_⟩
        rintro _ _ ⟨rfl, rfl⟩
        simp only [go_sem, Nat.reduceBEq, Nat.reduceAdd, Nat.reduceMul, Nat.reduceSub, Nat.reduceLeDiff, Nat.le_refl, implies_true, Nat.reduceLT, reduceIte, decide_true, decide_false, true_and, and_true, reduceCtorEq, Nat.mul_one, Int.reduceToNat, Int.reduceLE, Int.reduceLT, Int.reduceAdd, Int.reduceSub, Int.reduceMul, Int.cast_ofNat_Int, cast_zero_int, cast_one_int, Nat.reducePow, Nat.reduceEqDiff, Nat.reduceMod, Nat.zero_add, Nat.sub_zero, Nat.add_zero, dx, decide_eq_true c6, Bool.not_true]
        have QP := QN1.trans ((D2.trans D3).trans D4)
        refine ⟨by kernel_rfl, ((c_DrawParseNodeList b n (hc.mono QP)).addG).use (fun _ m => m) ?_⟩
        rintro _ K1 ⟨⟨t4, rfl, zt4⟩, E1⟩
        have QK1 := QP.trans E1
        obtain ⟨ok4, l4, hx4⟩ := IsPN.ex t4
        have zl4 := isPN_len hx4
        try simp only [go_sem, Nat.reduceBEq, Nat.reduceAdd, Nat.reduceMul, Nat.reduceSub, Nat.reduceLeDiff, Nat.le_refl, implies_true, Nat.reduceLT, reduceIte, decide_true, decide_false, true_and, and_true, reduceCtorEq, Nat.mul_one, Int.reduceToNat, Int.reduceLE, Int.reduceLT, Int.reduceAdd, Int.reduceSub, Int.reduceMul, Int.cast_ofNat_Int, cast_zero_int, cast_one_int, Nat.reducePow, Nat.reduceEqDiff, Nat.reduceMod, Nat.zero_add, Nat.sub_zero, Nat.add_zero, dx]
        refine ⟨by kernel_rfl, ((c_ParseNodeList t4 ok4 l4 (by omega) hx4).addG).use (fun _ m => m) ?_⟩
        rintro _ K2 ⟨⟨w4, rfl, f4⟩, E2⟩
        try simp only [go_sem, Nat.reduceBEq, Nat.reduceAdd, Nat.reduceMul, Nat.reduceSub, Nat.reduceLeDiff, Nat.le_refl, implies_true, Nat.reduceLT, reduceIte, decide_true, decide_false, true_and, and_true, reduceCtorEq, Nat.mul_one, Int.reduceToNat, Int.reduceLE, Int.reduceLT, Int.reduceAdd, Int.reduceSub, Int.reduceMul, Int.cast_ofNat_Int, cast_zero_int, cast_one_int, Nat.reducePow, Nat.reduceEqDiff, Nat.reduceMod, Nat.zero_add, Nat.sub_zero, Nat.add_zero, dx]
        refine ⟨by kernel_rfl, ((c_sParseNodeList t4 ok4 l4 (by omega) hx4).addG).use (fun _ m => m) ?_⟩
        rintro _ K3 ⟨⟨w5, rfl, f5⟩, E3⟩
        simp only [go_sem, Nat.reduceBEq, Nat.reduceAdd, Nat.reduceMul, Nat.reduceSub, Nat.reduceLeDiff, Nat.le_refl, implies_true, Nat.reduceLT, reduceIte, decide_true, decide_false, true_and, and_true, reduceCtorEq, Nat.mul_one, Int.reduceToNat, Int.reduceLE, Int.reduceLT, Int.reduceAdd, Int.reduceSub, Int.reduceMul, Int.cast_ofNat_Int, cast_zero_int, cast_one_int, Nat.reducePow, Nat.reduceEqDiff, Nat.reduceMod, Nat.zero_add, Nat.sub_zero, Nat.add_zero, dx, beq_self_eq_true]
        refine ⟨by kernel_rfl, ((c_rIntsR _ _ l4 (f4.mono E3).ai f5.ai (by omega)).addG).use (fun _ m => m) ?_⟩
        rintro _ _ ⟨rfl, rfl⟩
        simp only [go_sem, Nat.reduceBEq, Nat.reduceAdd, Nat.reduceMul, Nat.reduceSub, Nat.reduceLeDiff, Nat.le_refl, implies_true, Nat.reduceLT, reduceIte, decide_true, decide_false, true_and, and_true, reduceCtorEq, Nat.mul_one, Int.reduceToNat, Int.reduceLE, Int.reduceLT, Int.reduceAdd, Int.reduceSub, Int.reduceMul, Int.cast_ofNat_Int, cast_zero_int, cast_one_int, Nat.reducePow, Nat.reduceEqDiff, Nat.reduceMod, Nat.zero_add, Nat.sub_zero, Nat.add_zero, dx, beq_self_eq_true]
      · simp only [go_sem, Nat.reduceBEq, Nat.reduceAdd, Nat.reduceMul, Nat.reduceSub, Nat.reduceLeDiff, Nat.le_refl, implies_true, Nat.reduceLT, reduceIte, decide_true, decide_false, true_and, and_true, reduceCtorEq, Nat.mul_one, Int.reduceToNat, Int.reduceLE, Int.reduceLT, Int.reduceAdd, Int.reduceSub, Int.reduceMul, Int.cast_ofNat_Int, cast_zero_int, cast_one_int, Nat.reducePow, Nat.reduceEqDiff, Nat.reduceMod, Nat.zero_add, Nat.sub_zero, Nat.add_zero, dx, decide_eq_false c6]
        have QP := QN1.trans ((D2.trans D3).trans D4)
        refine ⟨by kernel_rfl, ((c_DrawParseNodeList b n (hc.mono QP)).addG).use (fun _ m => m) ?_⟩
        rintro _ K1 ⟨⟨t4, rfl, zt4⟩, E1⟩
        have QK1 := QP.trans E1
        obtain ⟨ok4, l4, hx4⟩ := IsPN.ex t4
        have zl4 := isPN_len hx4
        try simp only [go_sem, Nat.reduceBEq, Nat.reduceAdd, Nat.reduceMul, Nat.reduceSub, Nat.reduceLeDiff, Nat.le_refl, implies_true, Nat.reduceLT, reduceIte, decide_true, decide_false, true_and, and_true, reduceCtorEq, Nat.mul_one, Int.reduceToNat, Int.reduceLE, Int.reduceLT, Int.reduceAdd, Int.reduceSub, Int.reduceMul, Int.cast_ofNat_Int, cast_zero_int, cast_one_int, Nat.reducePow, Nat.reduceEqDiff, Nat.reduceMod, Nat.zero_add, Nat.sub_zero, Nat.add_zero, dx]
        refine ⟨by kernel_rfl, ((c_ParseNodeList t4 ok4 l4 (by omega) hx4).addG).use (fun _ m => m) ?_⟩
        rintro _ K2 ⟨⟨w4, rfl, f4⟩, E2⟩
        try simp only [go_sem, Nat.reduceBEq, Nat.reduceAdd, Nat.reduceMul, Nat.reduceSub, Nat.reduceLeDiff, Nat.le_refl, implies_true, Nat.reduceLT, reduceIte, decide_true, decide_false, true_and, and_true, reduceCtorEq, Nat.mul_one, Int.reduceToNat, Int.reduceLE, Int.reduceLT, Int.reduceAdd, Int.reduceSub, Int.reduceMul, Int.cast_ofNat_Int, cast_zero_int, cast_one_int, Nat.reducePow, Nat.reduceEqDiff, Nat.reduceMod, Nat.zero_add, Nat.sub_zero, Nat.add_zero, dx]
        refine ⟨by kernel_rfl, ((c_sParseNodeList t4 ok4 l4 (by omega) hx4).addG).use (fun _ m => m) ?_⟩
        rintro _ K3 ⟨⟨w5, rfl, f5⟩, E3⟩
        simp only [go_sem, Nat.reduceBEq, Nat.reduceAdd, Nat.reduceMul, Nat.reduceSub, Nat.reduceLeDiff, Nat.le_refl, implies_true, Nat.reduceLT, reduceIte, decide_true, decide_false, true_and, and_true, reduceCtorEq, Nat.mul_one, Int.reduceToNat, Int.reduceLE, Int.reduceLT, Int.reduceAdd, Int.reduceSub, Int.reduceMul, Int.cast_ofNat_Int, cast_zero_int, cast_one_int, Nat.reducePow, Nat.reduceEqDiff, Nat.reduceMod, Nat.zero_add, Nat.sub_zero, Nat.add_zero, dx, beq_self_eq_true]
        refine ⟨by kernel_rfl, ((c_rIntsR _ _ l4 (f4.mono E3).ai f5.ai (by omega)).addG).use (fun _ m => m) ?_⟩
        rintro _ _ ⟨rfl, rfl⟩
        simp only [go_sem, Nat.reduceBEq, Nat.reduceAdd, Nat.reduceMul, Nat.reduceSub, Nat.reduceLeDiff, Nat.le_refl, implies_true, Nat.reduceLT, reduceIte, decide_true, decide_false, true_and, and_true, reduceCtorEq, Nat.mul_one, Int.reduceToNat, Int.reduceLE, Int.reduceLT, Int.reduceAdd, Int.reduceSub, Int.reduceMul, Int.cast_ofNat_Int, cast_zero_int, cast_one_int, Nat.reducePow, Nat.reduceEqDiff, Nat.reduceMod, Nat.zero_add, Nat.sub_zero, Nat.add_zero, dx, beq_self_eq_true]
    · simp only [go_sem, Nat.reduceBEq, Nat.reduceAdd, Nat.reduceMul, Nat.reduceSub, Nat.reduceLeDiff, Nat.le_refl, implies_true, Nat.reduceLT, reduceIte, decide_true, decide_false, true_and, and_true, reduceCtorEq, Nat.mul_one, Int.reduceToNat, Int.reduceLE, Int.reduceLT, Int.reduceAdd, Int.reduceSub, Int.reduceMul, Int.cast_ofNat_Int, cast_zero_int, cast_one_int, Nat.reducePow, Nat.reduceEqDiff, Nat.reduceMod, Nat.zero_add, Nat.sub_zero, Nat.add_zero, dx, decide_eq_false c5]
      have QR := QC.trans PD
      refine ⟨by kernel_rfl, ((c_DrawParseReport b n (hc.mono QR)).addG).use (fun _ m => m) ?_⟩
      rintro _ R1 ⟨⟨t3, rfl, zt3⟩, C1⟩
      have QR1 := QR.trans C1
      obtain ⟨ok3, l3, hx3⟩ := IsPR.ex t3
      have zl3 := isPR_len hx3
      try simp only [go_sem, Nat.reduceBEq, Nat.reduceAdd, Nat.reduceMul, Nat.reduceSub, Nat.reduceLeDiff, Nat.le_refl, implies_true, Nat.reduceLT, reduceIte, decide_true, decide_false, true_and, and_true, reduceCtorEq, Nat.mul_one, Int.reduceToNat, Int.reduceLE, Int.reduceLT, Int.reduceAdd, Int.reduceSub, Int.reduceMul, Int.cast_ofNat_Int, cast_zero_int, cast_one_int, Nat.reducePow, Nat.reduceEqDiff, Nat.reduceMod, Nat.zero_add, Nat.sub_zero, Nat.add_zero, dx]
      refine ⟨by kernel_rfl, (c_ParseReport (pw.mono QR1) (mx.mono QR1) t3 ok3 l3 (by omega) hx3).use (fun _ m => m) ?_⟩
      rintro _ R2 ⟨⟨w3, rfl, f3⟩, C2⟩
      try simp only [go_sem, Nat.reduceBEq, Nat.reduceAdd, Nat.reduceMul, Nat.reduceSub, Nat.reduceLeDiff, Nat.le_refl, implies_true, Nat.reduceLT, reduceIte, decide_true, decide_false, true_and, and_true, reduceCtorEq, Nat.mul_one, Int.reduceToNat, Int.reduceLE, Int.reduceLT, Int.reduceAdd, Int.reduceSub, Int.reduceMul, Int.cast_ofNat_Int, cast_zero_int, cast_one_int, Nat.reducePow, Nat.reduceEqDiff, Nat.reduceMod, Nat.zero_add, Nat.sub_zero, Nat.add_zero, dx]
      refine ⟨by kernel_rfl, ((c_sParseReport t3 ok3 l3 (by omega) hx3).addG).use (fun _ m => m) ?_⟩
      rintro _ R3 ⟨⟨w3b, rfl, f3b⟩, C3⟩
      simp only [go_sem, Nat.reduceBEq, Nat.reduceAdd, Nat.reduceMul, Nat.reduceSub, Nat.reduceLeDiff, Nat.le_refl, implies_true, Nat.reduceLT, reduceIte, decide_true, decide_false, true_and, and_true, reduceCtorEq, Nat.mul_one, Int.reduceToNat, Int.reduceLE, Int.reduceLT, Int.reduceAdd, Int.reduceSub, Int.reduceMul, Int.cast_ofNat_Int, cast_zero_int, cast_one_int, Nat.reducePow, Nat.reduceEqDiff, Nat.reduceMod, Nat.zero_add, Nat.sub_zero, Nat.add_zero, dx, bne_self_eq_false]
      refine ⟨by kernel_rfl, ((c_rSupplies _ _ l3 (f3.mono C3).sl f3b.sl (by omega)).addG).use (fun _ m => m) ?_⟩
      rintro _ _ ⟨rfl, rfl⟩
      simp only [go_sem, Nat.reduceBEq, Nat.reduceAdd, Nat.reduceMul, Nat.reduceSub, Nat.reduceLeDiff, Nat.le_refl, implies_true, Nat.reduceLT, reduceIte, decide_true, decide_false, true_and, and_true, reduceCtorEq, Nat.mul_one, Int.reduceToNat, Int.reduceLE, Int.reduceLT, Int.reduceAdd, Int.reduceSub, Int.reduceMul, Int.cast_ofNat_Int, cast_zero_int, cast_one_int, Nat.reducePow, Nat.reduceEqDiff, Nat.reduceMod, Nat.zero_add, Nat.sub_zero, Nat.add_zero, dx, bne_self_eq_false, Bool.not_true]
      have QN := QR1.trans (C2.trans C3)
      refine ⟨by kernel_rfl, ((c_DrawNodeList b n (hc.mono QN)).addG).use (fun _ m => m) ?_⟩
      rintro v6 N1 ⟨⟨l6, f6, hl6⟩, D1⟩
      have QN1 := QN.trans D1
      try simp only [go_sem, Nat.reduceBEq, Nat.reduceAdd, Nat.reduceMul, Nat.reduceSub, Nat.reduceLeDiff, Nat.le_refl, implies_true, Nat.reduceLT, reduceIte, decide_true, decide_false, true_and, and_true, reduceCtorEq, Nat.mul_one, Int.reduceToNat, Int.reduceLE, Int.reduceLT, Int.reduceAdd, Int.reduceSub, Int.reduceMul, Int.cast_ofNat_Int, cast_zero_int, cast_one_int, Nat.reducePow, Nat.reduceEqDiff, Nat.reduceMod, Nat.zero_add, Nat.sub_zero, Nat.add_zero, dx]
      refine ⟨by kernel_rfl, ((c_NodeList v6 l6 (f6.si (Nat.le_refl _)) (by omega)).addG).use (fun _ m => m) ?_⟩
      rintro _ N2 ⟨rfl, D2⟩
      obtain ⟨s6, pk6, y6, hs6, zs6, hx6, hr6⟩ := nodeV_told l6
      have zl6 := isPN_len hx6
      rw [hs6]
      try simp only [go_sem, Nat.reduceBEq, Nat.reduceAdd, Nat.reduceMul, Nat.reduceSub, Nat.reduceLeDiff, Nat.le_refl, implies_true, Nat.reduceLT, reduceIte, decide_true, decide_false, true_and, and_true, reduceCtorEq, Nat.mul_one, Int.reduceToNat, Int.reduceLE, Int.reduceLT, Int.reduceAdd, Int.reduceSub, Int.reduceMul, Int.cast_ofNat_Int, cast_zero_int, cast_one_int, Nat.reducePow, Nat.reduceEqDiff, Nat.reduceMod, Nat.zero_add, Nat.sub_zero, Nat.add_zero, dx]
      refine ⟨by kernel_rfl, ((c_sNodeList v6 l6 (FI.si (f6.mono D2) D2.length_le) (by omega)).addG).use (fun _ m => m) ?_⟩
      rintro _ N3 ⟨rfl, D3⟩
      rw [hs6]
      simp only [go_sem, Nat.reduceBEq, Nat.reduceAdd, Nat.reduceMul, Nat.reduceSub, Nat.reduceLeDiff, Nat.le_refl, implies_true, Nat.reduceLT, reduceIte, decide_true, decide_false, true_and, and_true, reduceCtorEq, Nat.mul_one, Int.reduceToNat, Int.reduceLE, Int.reduceLT, Int.reduceAdd, Int.reduceSub, Int.reduceMul, Int.cast_ofNat_Int, cast_zero_int, cast_one_int, Nat.reducePow, Nat.reduceEqDiff, Nat.reduceMod, Nat.zero_add, Nat.sub_zero, Nat.add_zero, dx, eqsS, Bool.not_true, bne_self_eq_false]
      refine ⟨by kernel_rfl, ((c_ParseNodeList s6 pk6 y6 (by omega) hx6).addG).use (fun _ m => m) ?_⟩
      rintro _ N4 ⟨⟨w6, rfl, g6⟩, D4⟩
      by_cases c6 : rising l6 1 8
      · obtain ⟨rfl, rfl⟩ := hr6 c6
        simp only [go_sem, Nat.reduceBEq, Nat.reduceAdd, Nat.reduceMul, Nat.reduceSub, Nat.reduceLeDiff, Nat.le_refl, implies_true, Nat.reduceLT, reduceIte, decide_true, decide_false, true_and, and_true, reduceCtorEq, Nat.mul_one, Int.reduceToNat, Int.reduceLE, Int.reduceLT, Int.reduceAdd, Int.reduceSub, Int.reduceMul, Int.cast_ofNat_Int, cast_zero_int, cast_one_int, Nat.reducePow, Nat.reduceEqDiff, Nat.reduceMod, Nat.zero_add, Nat.sub_zero, Nat.add_zero, dx, decide_eq_true c6, Bool.not_true]
        refine ⟨by kernel_rfl, ((c_rIntsR _ _ _ g6.ai (f6.mono ((D2.trans D3).trans D4)).ai (by omega)).addG).use (fun _ m => m) ?_⟩
        rintro _ _ ⟨rfl, rfl⟩
        simp only [go_sem, Nat.reduceBEq, Nat.reduceAdd, Nat.reduceMul, Nat.reduceSub, Nat.reduceLeDiff, Nat.le_refl, implies_true, Nat.reduceLT, reduceIte, decide_true, decide_false, true_and, and_true, reduceCtorEq, Nat.mul_one, Int.reduceToNat, Int.reduceLE, Int.reduceLT, Int.reduceAdd, Int.reduceSub, Int.reduceMul, Int.cast_ofNat_Int, cast_zero_int, cast_one_int, Nat.reducePow, Nat.reduceEqDiff, Nat.reduceMod, Nat.zero_add, Nat.sub_zero, Nat.add_zero, dx, decide_eq_true c6, Bool.not_true]
        have QP := QN1.trans ((D2.trans D3).trans D4)
        refine ⟨by kernel_rfl, ((c_DrawParseNodeList b n (hc.mono QP)).addG).use (fun _ m => m) ?_⟩
        rintro _ K1 ⟨⟨t4, rfl, zt4⟩, E1⟩
        have QK1 := QP.trans E1
        obtain ⟨ok4, l4, hx4⟩ := IsPN.ex t4
        have zl4 := isPN_len hx4
        try simp only [go_sem, Nat.reduceBEq, Nat.reduceAdd, Nat.reduceMul, Nat.reduceSub, Nat.reduceLeDiff, Nat.le_refl, implies_true, Nat.reduceLT, reduceIte, decide_true, decide_false, true_and, and_true, reduceCtorEq, Nat.mul_one, Int.reduceToNat, Int.reduceLE, Int.reduceLT, Int.reduceAdd, Int.reduceSub, Int.reduceMul, Int.cast_ofNat_Int, cast_zero_int, cast_one_int, Nat.reducePow, Nat.reduceEqDiff, Nat.reduceMod, Nat.zero_add, Nat.sub_zero, Nat.add_zero, dx]
        refine ⟨by kernel_rfl, ((c_ParseNodeList t4 ok4 l4 (by omega) hx4).addG).use (fun _ m => m) ?_⟩
        rintro _ K2 ⟨⟨w4, rfl, f4⟩, E2⟩
        try simp only [go_sem, Nat.reduceBEq, Nat.reduceAdd, Nat.reduceMul, Nat.reduceSub, Nat.reduceLeDiff, Nat.le_refl, implies_true, Nat.reduceLT, reduceIte, decide_true, decide_false, true_and, and_true, reduceCtorEq, Nat.mul_one, Int.reduceToNat, Int.reduceLE, Int.reduceLT, Int.reduceAdd, Int.reduceSub, Int.reduceMul, Int.cast_ofNat_Int, cast_zero_int, cast_one_int, Nat.reducePow, Nat.reduceEqDiff, Nat.reduceMod, Nat.zero_add, Nat.sub_zero, Nat.add_zero, dx]
        refine ⟨by kernel_rfl, ((c_sParseNodeList t4 ok4 l4 (by omega) hx4).addG).use (fun _ m => m) ?_⟩
        rintro _ K3 ⟨⟨w5, rfl, f5⟩, E3⟩
        simp only [go_sem, Nat.reduceBEq, Nat.reduceAdd, Nat.reduceMul, Nat.reduceSub, Nat.reduceLeDiff, Nat.le_refl, implies_true, Nat.reduceLT, reduceIte, decide_true, decide_false, true_and, and_true, reduceCtorEq, Nat.mul_one, Int.reduceToNat, Int.reduceLE, Int.reduceLT, Int.reduceAdd, Int.reduceSub, Int.reduceMul, Int.cast_ofNat_Int, cast_zero_int, cast_one_int, Nat.reducePow, Nat.reduceEqDiff, Nat.reduceMod, Nat.zero_add, Nat.sub_zero, Nat.add_zero, dx, beq_self_eq_true]
        refine ⟨by kernel_rfl, ((c_rIntsR _ _ l4 (f4.mono E3).ai f5.ai (by omega)).addG).use (fun _ m => m) ?_⟩
        rintro _ _ ⟨rfl, rfl⟩
        simp only [go_sem, Nat.reduceBEq, Nat.reduceAdd, Nat.reduceMul, Nat.reduceSub, Nat.reduceLeDiff, Nat.le_refl, implies_true, Nat.reduceLT, reduceIte, decide_true, decide_false, true_and, and_true, reduceCtorEq, Nat.mul_one, Int.reduceToNat, Int.reduceLE, Int.reduceLT, Int.reduceAdd, Int.reduceSub, Int.reduceMul, Int.cast_ofNat_Int, cast_zero_int, cast_one_int, Nat.reducePow, Nat.reduceEqDiff, Nat.reduceMod, Nat.zero_add, Nat.sub_zero, Nat.add_zero, dx, beq_self_eq_true]
      · simp only [go_sem, Nat.reduceBEq, Nat.reduceAdd, Nat.reduceMul, Nat.reduceSub, Nat.reduceLeDiff, Nat.le_refl, implies_true, Nat.reduceLT, reduceIte, decide_true, decide_false, true_and, and_true, reduceCtorEq, Nat.mul_one, Int.reduceToNat, Int.reduceLE, Int.reduceLT, Int.reduceAdd, Int.reduceSub, Int.reduceMul, Int.cast_ofNat_Int, cast_zero_int, cast_one_int, Nat.reducePow, Nat.reduceEqDiff, Nat.reduceMod, Nat.zero_add, Nat.sub_zero, Nat.add_zero, dx, decide_eq_false c6]
        have QP := QN1.trans ((D2.trans D3).trans D4)
        refine ⟨by kernel_rfl, ((c_DrawParseNodeList b n (hc.mono QP)).addG).use (fun _ m => m) ?_⟩
        rintro _ K1 ⟨⟨t4, rfl, zt4⟩, E1⟩
        have QK1 := QP.trans E1
        obtain ⟨ok4, l4, hx4⟩ := IsPN.ex t4
        have zl4 := isPN_len hx4
        try simp only [go_sem, Nat.reduceBEq, Nat.reduceAdd, Nat.reduceMul, Nat.reduceSub, Nat.reduceLeDiff, Nat.le_refl, implies_true, Nat.reduceLT, reduceIte, decide_true, decide_false, true_and, and_true, reduceCtorEq, Nat.mul_one, Int.reduceToNat, Int.reduceLE, Int.reduceLT, Int.reduceAdd, Int.reduceSub, Int.reduceMul, Int.cast_ofNat_Int, cast_zero_int, cast_one_int, Nat.reducePow, Nat.reduceEqDiff, Nat.reduceMod, Nat.zero_add, Nat.sub_zero, Nat.add_zero, dx]
        refine ⟨by kernel_rfl, ((c_ParseNodeList t4 ok4 l4 (by omega) hx4).addG).use (fun _ m => m) ?_⟩
        rintro _ K2 ⟨⟨w4, rfl, f4⟩, E2⟩
        try simp only [go_sem, Nat.reduceBEq, Nat.reduceAdd, Nat.reduceMul, Nat.reduceSub, Nat.reduceLeDiff, Nat.le_refl, implies_true, Nat.reduceLT, reduceIte, decide_true, decide_false, true_and, and_true, reduceCtorEq, Nat.mul_one, Int.reduceToNat, Int.reduceLE, Int.reduceLT, Int.reduceAdd, Int.reduceSub, Int.reduceMul, Int.cast_ofNat_Int, cast_zero_int, cast_one_int, Nat.reducePow, Nat.reduceEqDiff, Nat.reduceMod, Nat.zero_add, Nat.sub_zero, Nat.add_zero, dx]
        refine ⟨by kernel_rfl, ((c_sParseNodeList t4 ok4 l4 (by omega) hx4).addG).use (fun _ m => m) ?_⟩
        rintro _ K3 ⟨⟨w5, rfl, f5⟩, E3⟩
        simp only [go_sem, Nat.reduceBEq, Nat.reduceAdd, Nat.reduceMul, Nat.reduceSub, Nat.reduceLeDiff, Nat.le_refl, implies_true, Nat.reduceLT, reduceIte, decide_true, decide_false, true_and, and_true, reduceCtorEq, Nat.mul_one, Int.reduceToNat, Int.reduceLE, Int.reduceLT, Int.reduceAdd, Int.reduceSub, Int.reduceMul, Int.cast_ofNat_Int, cast_zero_int, cast_one_int, Nat.reducePow, Nat.reduceEqDiff, Nat.reduceMod, Nat.zero_add, Nat.sub_zero, Nat.add_zero, dx, beq_self_eq_true]
        refine ⟨by kernel_rfl, ((c_rIntsR _ _ l4 (f4.mono E3).ai f5.ai (by omega)).addG).use (fun _ m => m) ?_⟩
        rintro _ _ ⟨rfl, rfl⟩
        simp only [go_sem, Nat.reduceBEq, Nat.reduceAdd, Nat.reduceMul, Nat.reduceSub, Nat.reduceLeDiff, Nat.le_refl, implies_true, Nat.reduceLT, reduceIte, decide_true, decide_false, true_and, and_true, reduceCtorEq, Nat.mul_one, Int.reduceToNat, Int.reduceLE, Int.reduceLT, Int.reduceAdd, Int.reduceSub, Int.reduceMul, Int.cast_ofNat_Int, cast_zero_int, cast_one_int, Nat.reducePow, Nat.reduceEqDiff, Nat.reduceMod, Nat.zero_add, Nat.sub_zero, Nat.add_zero, dx, beq_self_eq_true]
  · have dx : decide (supplyOk x.1 x.2.1 x.2.2) = false := decide_eq_false gx
    simp only [go_sem, Nat.reduceBEq, Nat.reduceAdd, Nat.reduceMul, Nat.reduceSub, Nat.reduceLeDiff, Nat.le_refl, implies_true, Nat.reduceLT, reduceIte, decide_true, decide_false, true_and, and_true, reduceCtorEq, Nat.mul_one, Int.reduceToNat, Int.reduceLE, Int.reduceLT, Int.reduceAdd, Int.reduceSub, Int.reduceMul, Int.cast_ofNat_Int, cast_zero_int, cast_one_int, Nat.reducePow, Nat.reduceEqDiff, Nat.reduceMod, Nat.zero_add, Nat.sub_zero, Nat.add_zero, dx, ag3, own_ge (show h.length ≤ H5.length by omega), hget_set_newW, set_newW, hget_new]
    refine ⟨by kernel_rfl, ((c_DrawParseSupply b n (hc.mono Q6)).addG).use (fun _ m => m) ?_⟩
    rintro _ H7 ⟨⟨t, rfl, zt⟩, P7⟩
    have Q7 := Q6.trans P7
    obtain ⟨ok2, x2, hx2⟩ := IsPS.ex t
    try simp only [go_sem, Nat.reduceBEq, Nat.reduceAdd, Nat.reduceMul, Nat.reduceSub, Nat.reduceLeDiff, Nat.le_refl, implies_true, Nat.reduceLT, reduceIte, decide_true, decide_false, true_and, and_true, reduceCtorEq, Nat.mul_one, Int.reduceToNat, Int.reduceLE, Int.reduceLT, Int.reduceAdd, Int.reduceSub, Int.reduceMul, Int.cast_ofNat_Int, cast_zero_int, cast_one_int, Nat.reducePow, Nat.reduceEqDiff, Nat.reduceMod, Nat.zero_add, Nat.sub_zero, Nat.add_zero, dx]
    refine ⟨by kernel_rfl, (c_ParseSupply (pw.mono Q7) (mx.mono Q7) t ok2 x2 (by omega) hx2).use (fun _ m => m) ?_⟩
    rintro _ H8 ⟨rfl, P8⟩
    have Q8 := Q7.trans P8
    have L8 := Q8.length_le
    simp only [go_sem, Nat.reduceBEq, Nat.reduceAdd, Nat.reduceMul, Nat.reduceSub, Nat.reduceLeDiff, Nat.le_refl, implies_true, Nat.reduceLT, reduceIte, decide_true, decide_false, true_and, and_true, reduceCtorEq, Nat.mul_one, Int.reduceToNat, Int.reduceLE, Int.reduceLT, Int.reduceAdd, Int.reduceSub, Int.reduceMul, Int.cast_ofNat_Int, cast_zero_int, cast_one_int, Nat.reducePow, Nat.reduceEqDiff, Nat.reduceMod, Nat.zero_add, Nat.sub_zero, Nat.add_zero, dx, ag3, own_ge (show h.length ≤ H8.length by omega), hget_set_newW, set_newW, hget_new]
    refine ⟨by kernel_rfl, ((c_sParseSupply t ok2 x2 (by omega) hx2).addG).use (fun _ m => m) ?_⟩
    rintro _ H9 ⟨rfl, P9⟩
    have b9 := hget_prefixR P9
    have Q9 := Q8.trans ((List.prefix_append _ _).trans P9)
    have L9 := Q9.length_le
    simp only [go_sem, Nat.reduceBEq, Nat.reduceAdd, Nat.reduceMul, Nat.reduceSub, Nat.reduceLeDiff, Nat.le_refl, implies_true, Nat.reduceLT, reduceIte, decide_true, decide_false, true_and, and_true, reduceCtorEq, Nat.mul_one, Int.reduceToNat, Int.reduceLE, Int.reduceLT, Int.reduceAdd, Int.reduceSub, Int.reduceMul, Int.cast_ofNat_Int, cast_zero_int, cast_one_int, Nat.reducePow, Nat.reduceEqDiff, Nat.reduceMod, Nat.zero_add, Nat.sub_zero, Nat.add_zero, dx, ag3, own_ge (show h.length ≤ H9.length by omega), hget_set_newW, set_newW, hget_new, self_get b9, b9, bne_self_eq_false, beq_self_eq_true, Bool.and_self, Bool.not_true]
    have Q9a : h <+: H9 ++ [⟨[.int .i64 x2.1, .int .i64 x2.2.1, .int .i64 x2.2.2], 3, .rw⟩] := Q9.trans (List.prefix_append _ _)
    refine ⟨by kernel_rfl, ((c_DrawReportText b n (hc.mono Q9a)).addG).use (fun _ m => m) ?_⟩
    rintro v HA ⟨⟨l, fl, hl⟩, PA⟩
    have QA := Q9a.trans PA
    obtain ⟨va, rfl⟩ := Sl.len3 fl.sl
    try simp only [go_sem, Nat.reduceBEq, Nat.reduceAdd, Nat.reduceMul, Nat.reduceSub, Nat.reduceLeDiff, Nat.le_refl, implies_true, Nat.reduceLT, reduceIte, decide_true, decide_false, true_and, and_true, reduceCtorEq, Nat.mul_one, Int.reduceToNat, Int.reduceLE, Int.reduceLT, Int.reduceAdd, Int.reduceSub, Int.reduceMul, Int.cast_ofNat_Int, cast_zero_int, cast_one_int, Nat.reducePow, Nat.reduceEqDiff, Nat.reduceMod, Nat.zero_add, Nat.sub_zero, Nat.add_zero, dx]
    refine ⟨by kernel_rfl, (c_ReportText (pw.mono QA) _ l fl.sl (by omega)).use (fun _ m => m) ?_⟩
    rintro _ HB ⟨rfl, PB⟩
    have QB := QA.trans PB
    obtain ⟨s5, pk5, y5, hs5, zs5, hx5, hr5⟩ := repV_told l
    have zl5 := isPR_len hx5
    rw [hs5]
    try simp only [go_sem, Nat.reduceBEq, Nat.reduceAdd, Nat.reduceMul, Nat.reduceSub, Nat.reduceLeDiff, Nat.le_refl, implies_true, Nat.reduceLT, reduceIte, decide_true, decide_false, true_and, and_true, reduceCtorEq, Nat.mul_one, Int.reduceToNat, Int.reduceLE, Int.reduceLT, Int.reduceAdd, Int.reduceSub, Int.reduceMul, Int.cast_ofNat_Int, cast_zero_int, cast_one_int, Nat.reducePow, Nat.reduceEqDiff, Nat.reduceMod, Nat.zero_add, Nat.sub_zero, Nat.add_zero, dx]
    refine ⟨by kernel_rfl, ((c_sReportText _ l (fl.mono PB).sl (by omega)).addG).use (fun _ m => m) ?_⟩
    rintro _ HC ⟨rfl, PC⟩
    have QC := QB.trans PC
    rw [hs5]
    simp only [go_sem, Nat.reduceBEq, Nat.reduceAdd, Nat.reduceMul, Nat.reduceSub, Nat.reduceLeDiff, Nat.le_refl, implies_true, Nat.reduceLT, reduceIte, decide_true, decide_false, true_and, and_true, reduceCtorEq, Nat.mul_one, Int.reduceToNat, Int.reduceLE, Int.reduceLT, Int.reduceAdd, Int.reduceSub, Int.reduceMul, Int.cast_ofNat_Int, cast_zero_int, cast_one_int, Nat.reducePow, Nat.reduceEqDiff, Nat.reduceMod, Nat.zero_add, Nat.sub_zero, Nat.add_zero, dx, eqsS, Bool.not_true, bne_self_eq_false]
    refine ⟨by kernel_rfl, (c_ParseReport (pw.mono QC) (mx.mono QC) s5 pk5 y5 (by omega) hx5).use (fun _ m => m) ?_⟩
    rintro _ HD ⟨⟨w5, rfl, g5⟩, PD⟩
    by_cases c5 : supGood l
    · obtain ⟨rfl, rfl⟩ := hr5 c5
      simp only [go_sem, Nat.reduceBEq, Nat.reduceAdd, Nat.reduceMul, Nat.reduceSub, Nat.reduceLeDiff, Nat.le_refl, implies_true, Nat.reduceLT, reduceIte, decide_true, decide_false, true_and, and_true, reduceCtorEq, Nat.mul_one, Int.reduceToNat, Int.reduceLE, Int.reduceLT, Int.reduceAdd, Int.reduceSub, Int.reduceMul, Int.cast_ofNat_Int, cast_zero_int, cast_one_int, Nat.reducePow, Nat.reduceEqDiff, Nat.reduceMod, Nat.zero_add, Nat.sub_zero, Nat.add_zero, dx, decide_eq_true c5, Bool.not_true]
      refine ⟨by kernel_rfl, ((c_rSupplies _ _ _ g5.sl (fl.mono ((PB.trans PC).trans PD)).sl (by omega)).addG).use (fun _ m => m) ?_⟩
      rintro _ _ ⟨rfl, rfl⟩
      simp only [go_sem, Nat.reduceBEq, Nat.reduceAdd, Nat.reduceMul, Nat.reduceSub, Nat.reduceLeDiff, Nat.le_refl, implies_true, Nat.reduceLT, reduceIte, decide_true, decide_false, true_and, and_true, reduceCtorEq, Nat.mul_one, Int.reduceToNat, Int.reduceLE, Int.reduceLT, Int.reduceAdd, Int.reduceSub, Int.reduceMul, Int.cast_ofNat_Int, cast_zero_int, cast_one_int, Nat.reducePow, Nat.reduceEqDiff, Nat.reduceMod, Nat.zero_add, Nat.sub_zero, Nat.add_zero, dx, decide_eq_true c5, Bool.not_true]
      have QR := QC.trans PD
      refine ⟨by kernel_rfl, ((c_DrawParseReport b n (hc.mono QR)).addG).use (fun _ m => m) ?_⟩
      rintro _ R1 ⟨⟨t3, rfl, zt3⟩, C1⟩
      have QR1 := QR.trans C1
      obtain ⟨ok3, l3, hx3⟩ := IsPR.ex t3
      have zl3 := isPR_len hx3
      try simp only [go_sem, Nat.reduceBEq, Nat.reduceAdd, Nat.reduceMul, Nat.reduceSub, Nat.reduceLeDiff, Nat.le_refl, implies_true, Nat.reduceLT, reduceIte, decide_true, decide_false, true_and, and_true, reduceCtorEq, Nat.mul_one, Int.reduceToNat, Int.reduceLE, Int.reduceLT, Int.reduceAdd, Int.reduceSub, Int.reduceMul, Int.cast_ofNat_Int, cast_zero_int, cast_one_int, Nat.reducePow, Nat.reduceEqDiff, Nat.reduceMod, Nat.zero_add, Nat.sub_zero, Nat.add_zero, dx]
      refine ⟨by kernel_rfl, (c_ParseReport (pw.mono QR1) (mx.mono QR1) t3 ok3 l3 (by omega) hx3).use (fun _ m => m) ?_⟩
      rintro _ R2 ⟨⟨w3, rfl, f3⟩, C2⟩
      try simp only [go_sem, Nat.reduceBEq, Nat.reduceAdd, Nat.reduceMul, Nat.reduceSub, Nat.reduceLeDiff, Nat.le_refl, implies_true, Nat.reduceLT, reduceIte, decide_true, decide_false, true_and, and_true, reduceCtorEq, Nat.mul_one, Int.reduceToNat, Int.reduceLE, Int.reduceLT, Int.reduceAdd, Int.reduceSub, Int.reduceMul, Int.cast_ofNat_Int, cast_zero_int, cast_one_int, Nat.reducePow, Nat.reduceEqDiff, Nat.reduceMod, Nat.zero_add, Nat.sub_zero, Nat.add_zero, dx]
      refine ⟨by kernel_rfl, ((c_sParseReport t3 ok3 l3 (by omega) hx3).addG).use (fun _ m => m) ?_⟩
      rintro _ R3 ⟨⟨w3b, rfl, f3b⟩, C3⟩
      simp only [go_sem, Nat.reduceBEq, Nat.reduceAdd, Nat.reduceMul, Nat.reduceSub, Nat.reduceLeDiff, Nat.le_refl, implies_true, Nat.reduceLT, reduceIte, decide_true, decide_false, true_and, and_true, reduceCtorEq, Nat.mul_one, Int.reduceToNat, Int.reduceLE, Int.reduceLT, Int.reduceAdd, Int.reduceSub, Int.reduceMul, Int.cast_ofNat_Int, cast_zero_int, cast_one_int, Nat.reducePow, Nat.reduceEqDiff, Nat.reduceMod, Nat.zero_add, Nat.sub_zero, Nat.add_zero, dx, bne_self_eq_false]
      refine ⟨by kernel_rfl, ((c_rSupplies _ _ l3 (f3.mono C3).sl f3b.sl (by omega)).addG).use (fun _ m => m) ?_⟩
      rintro _ _ ⟨rfl, rfl⟩
      simp only [go_sem, Nat.reduceBEq, Nat.reduceAdd, Nat.reduceMul, Nat.reduceSub, Nat.reduceLeDiff, Nat.le_refl, implies_true, Nat.reduceLT, reduceIte, decide_true, decide_false, true_and, and_true, reduceCtorEq, Nat.mul_one, Int.reduceToNat, Int.reduceLE, Int.reduceLT, Int.reduceAdd, Int.reduceSub, Int.reduceMul, Int.cast_ofNat_Int, cast_zero_int, cast_one_int, Nat.reducePow, Nat.reduceEqDiff, Nat.reduceMod, Nat.zero_add, Nat.sub_zero, Nat.add_zero, dx, bne_self_eq_false, Bool.not_true]
      have QN := QR1.trans (C2.trans C3)
      refine ⟨by kernel_rfl, ((c_DrawNodeList b n (hc.mono QN)).addG).use (fun _ m => m) ?_⟩
      rintro v6 N1 ⟨⟨l6, f6, hl6⟩, D1⟩
      have QN1 := QN.trans D1
      try simp only [go_sem, Nat.reduceBEq, Nat.reduceAdd, Nat.reduceMul, Nat.reduceSub, Nat.reduceLeDiff, Nat.le_refl, implies_true, Nat.reduceLT, reduceIte, decide_true, decide_false, true_and, and_true, reduceCtorEq, Nat.mul_one, Int.reduceToNat, Int.reduceLE, Int.reduceLT, Int.reduceAdd, Int.reduceSub, Int.reduceMul, Int.cast_ofNat_Int, cast_zero_int, cast_one_int, Nat.reducePow, Nat.reduceEqDiff, Nat.reduceMod, Nat.zero_add, Nat.sub_zero, Nat.add_zero, dx]
      refine ⟨by kernel_rfl, ((c_NodeList v6 l6 (f6.si (Nat.le_refl _)) (by omega)).addG).use (fun _ m => m) ?_⟩
      rintro _ N2 ⟨rfl, D2⟩
      obtain ⟨s6, pk6, y6, hs6, zs6, hx6, hr6⟩ := nodeV_told l6
      have zl6 := isPN_len hx6
      rw [hs6]
      try simp only [go_sem, Nat.reduceBEq, Nat.reduceAdd, Nat.reduceMul, Nat.reduceSub, Nat.reduceLeDiff, Nat.le_refl, implies_true, Nat.reduceLT, reduceIte, decide_true, decide_false, true_and, and_true, reduceCtorEq, Nat.mul_one, Int.reduceToNat, Int.reduceLE, Int.reduceLT, Int.reduceAdd, Int.reduceSub, Int.reduceMul, Int.cast_ofNat_Int, cast_zero_int, cast_one_int, Nat.reducePow, Nat.reduceEqDiff, Nat.reduceMod, Nat.zero_add, Nat.sub_zero, Nat.add_zero, dx]
      refine ⟨by kernel_rfl, ((c_sNodeList v6 l6 (FI.si (f6.mono D2) D2.length_le) (by omega)).addG).use (fun _ m => m) ?_⟩
      rintro _ N3 ⟨rfl, D3⟩
      rw [hs6]
      simp only [go_sem, Nat.reduceBEq, Nat.reduceAdd, Nat.reduceMul, Nat.reduceSub, Nat.reduceLeDiff, Nat.le_refl, implies_true, Nat.reduceLT, reduceIte, decide_true, decide_false, true_and, and_true, reduceCtorEq, Nat.mul_one, Int.reduceToNat, Int.reduceLE, Int.reduceLT, Int.reduceAdd, Int.reduceSub, Int.reduceMul, Int.cast_ofNat_Int, cast_zero_int, cast_one_int, Nat.reducePow, Nat.reduceEqDiff, Nat.reduceMod, Nat.zero_add, Nat.sub_zero, Nat.add_zero, dx, eqsS, Bool.not_true, bne_self_eq_false]
      refine ⟨by kernel_rfl, ((c_ParseNodeList s6 pk6 y6 (by omega) hx6).addG).use (fun _ m => m) ?_⟩
      rintro _ N4 ⟨⟨w6, rfl, g6⟩, D4⟩
      by_cases c6 : rising l6 1 8
      · obtain ⟨rfl, rfl⟩ := hr6 c6
        simp only [go_sem, Nat.reduceBEq, Nat.reduceAdd, Nat.reduceMul, Nat.reduceSub, Nat.reduceLeDiff, Nat.le_refl, implies_true, Nat.reduceLT, reduceIte, decide_true, decide_false, true_and, and_true, reduceCtorEq, Nat.mul_one, Int.reduceToNat, Int.reduceLE, Int.reduceLT, Int.reduceAdd, Int.reduceSub, Int.reduceMul, Int.cast_ofNat_Int, cast_zero_int, cast_one_int, Nat.reducePow, Nat.reduceEqDiff, Nat.reduceMod, Nat.zero_add, Nat.sub_zero, Nat.add_zero, dx, decide_eq_true c6, Bool.not_true]
        refine ⟨by kernel_rfl, ((c_rIntsR _ _ _ g6.ai (f6.mono ((D2.trans D3).trans D4)).ai (by omega)).addG).use (fun _ m => m) ?_⟩
        rintro _ _ ⟨rfl, rfl⟩
        simp only [go_sem, Nat.reduceBEq, Nat.reduceAdd, Nat.reduceMul, Nat.reduceSub, Nat.reduceLeDiff, Nat.le_refl, implies_true, Nat.reduceLT, reduceIte, decide_true, decide_false, true_and, and_true, reduceCtorEq, Nat.mul_one, Int.reduceToNat, Int.reduceLE, Int.reduceLT, Int.reduceAdd, Int.reduceSub, Int.reduceMul, Int.cast_ofNat_Int, cast_zero_int, cast_one_int, Nat.reducePow, Nat.reduceEqDiff, Nat.reduceMod, Nat.zero_add, Nat.sub_zero, Nat.add_zero, dx, decide_eq_true c6, Bool.not_true]
        have QP := QN1.trans ((D2.trans D3).trans D4)
        refine ⟨by kernel_rfl, ((c_DrawParseNodeList b n (hc.mono QP)).addG).use (fun _ m => m) ?_⟩
        rintro _ K1 ⟨⟨t4, rfl, zt4⟩, E1⟩
        have QK1 := QP.trans E1
        obtain ⟨ok4, l4, hx4⟩ := IsPN.ex t4
        have zl4 := isPN_len hx4
        try simp only [go_sem, Nat.reduceBEq, Nat.reduceAdd, Nat.reduceMul, Nat.reduceSub, Nat.reduceLeDiff, Nat.le_refl, implies_true, Nat.reduceLT, reduceIte, decide_true, decide_false, true_and, and_true, reduceCtorEq, Nat.mul_one, Int.reduceToNat, Int.reduceLE, Int.reduceLT, Int.reduceAdd, Int.reduceSub, Int.reduceMul, Int.cast_ofNat_Int, cast_zero_int, cast_one_int, Nat.reducePow, Nat.reduceEqDiff, Nat.reduceMod, Nat.zero_add, Nat.sub_zero, Nat.add_zero, dx]
        refine ⟨by kernel_rfl, ((c_ParseNodeList t4 ok4 l4 (by omega) hx4).addG).use (fun _ m => m) ?_⟩
        rintro _ K2 ⟨⟨w4, rfl, f4⟩, E2⟩
        try simp only [go_sem, Nat.reduceBEq, Nat.reduceAdd, Nat.reduceMul, Nat.reduceSub, Nat.reduceLeDiff, Nat.le_refl, implies_true, Nat.reduceLT, reduceIte, decide_true, decide_false, true_and, and_true, reduceCtorEq, Nat.mul_one, Int.reduceToNat, Int.reduceLE, Int.reduceLT, Int.reduceAdd, Int.reduceSub, Int.reduceMul, Int.cast_ofNat_Int, cast_zero_int, cast_one_int, Nat.reducePow, Nat.reduceEqDiff, Nat.reduceMod, Nat.zero_add, Nat.sub_zero, Nat.add_zero, dx]
        refine ⟨by kernel_rfl, ((c_sParseNodeList t4 ok4 l4 (by omega) hx4).addG).use (fun _ m => m) ?_⟩
        rintro _ K3 ⟨⟨w5, rfl, f5⟩, E3⟩
        simp only [go_sem, Nat.reduceBEq, Nat.reduceAdd, Nat.reduceMul, Nat.reduceSub, Nat.reduceLeDiff, Nat.le_refl, implies_true, Nat.reduceLT, reduceIte, decide_true, decide_false, true_and, and_true, reduceCtorEq, Nat.mul_one, Int.reduceToNat, Int.reduceLE, Int.reduceLT, Int.reduceAdd, Int.reduceSub, Int.reduceMul, Int.cast_ofNat_Int, cast_zero_int, cast_one_int, Nat.reducePow, Nat.reduceEqDiff, Nat.reduceMod, Nat.zero_add, Nat.sub_zero, Nat.add_zero, dx, beq_self_eq_true]
        refine ⟨by kernel_rfl, ((c_rIntsR _ _ l4 (f4.mono E3).ai f5.ai (by omega)).addG).use (fun _ m => m) ?_⟩
        rintro _ _ ⟨rfl, rfl⟩
        simp only [go_sem, Nat.reduceBEq, Nat.reduceAdd, Nat.reduceMul, Nat.reduceSub, Nat.reduceLeDiff, Nat.le_refl, implies_true, Nat.reduceLT, reduceIte, decide_true, decide_false, true_and, and_true, reduceCtorEq, Nat.mul_one, Int.reduceToNat, Int.reduceLE, Int.reduceLT, Int.reduceAdd, Int.reduceSub, Int.reduceMul, Int.cast_ofNat_Int, cast_zero_int, cast_one_int, Nat.reducePow, Nat.reduceEqDiff, Nat.reduceMod, Nat.zero_add, Nat.sub_zero, Nat.add_zero, dx, beq_self_eq_true]
      · simp only [go_sem, Nat.reduceBEq, Nat.reduceAdd, Nat.reduceMul, Nat.reduceSub, Nat.reduceLeDiff, Nat.le_refl, implies_true, Nat.reduceLT, reduceIte, decide_true, decide_false, true_and, and_true, reduceCtorEq, Nat.mul_one, Int.reduceToNat, Int.reduceLE, Int.reduceLT, Int.reduceAdd, Int.reduceSub, Int.reduceMul, Int.cast_ofNat_Int, cast_zero_int, cast_one_int, Nat.reducePow, Nat.reduceEqDiff, Nat.reduceMod, Nat.zero_add, Nat.sub_zero, Nat.add_zero, dx, decide_eq_false c6]
        have QP := QN1.trans ((D2.trans D3).trans D4)
        refine ⟨by kernel_rfl, ((c_DrawParseNodeList b n (hc.mono QP)).addG).use (fun _ m => m) ?_⟩
        rintro _ K1 ⟨⟨t4, rfl, zt4⟩, E1⟩
        have QK1 := QP.trans E1
        obtain ⟨ok4, l4, hx4⟩ := IsPN.ex t4
        have zl4 := isPN_len hx4
        try simp only [go_sem, Nat.reduceBEq, Nat.reduceAdd, Nat.reduceMul, Nat.reduceSub, Nat.reduceLeDiff, Nat.le_refl, implies_true, Nat.reduceLT, reduceIte, decide_true, decide_false, true_and, and_true, reduceCtorEq, Nat.mul_one, Int.reduceToNat, Int.reduceLE, Int.reduceLT, Int.reduceAdd, Int.reduceSub, Int.reduceMul, Int.cast_ofNat_Int, cast_zero_int, cast_one_int, Nat.reducePow, Nat.reduceEqDiff, Nat.reduceMod, Nat.zero_add, Nat.sub_zero, Nat.add_zero, dx]
        refine ⟨by kernel_rfl, ((c_ParseNodeList t4 ok4 l4 (by omega) hx4).addG).use (fun _ m => m) ?_⟩
        rintro _ K2 ⟨⟨w4, rfl, f4⟩, E2⟩
        try simp only [go_sem, Nat.reduceBEq, Nat.reduceAdd, Nat.reduceMul, Nat.reduceSub, Nat.reduceLeDiff, Nat.le_refl, implies_true, Nat.reduceLT, reduceIte, decide_true, decide_false, true_and, and_true, reduceCtorEq, Nat.mul_one, Int.reduceToNat, Int.reduceLE, Int.reduceLT, Int.reduceAdd, Int.reduceSub, Int.reduceMul, Int.cast_ofNat_Int, cast_zero_int, cast_one_int, Nat.reducePow, Nat.reduceEqDiff, Nat.reduceMod, Nat.zero_add, Nat.sub_zero, Nat.add_zero, dx]
        refine ⟨by kernel_rfl, ((c_sParseNodeList t4 ok4 l4 (by omega) hx4).addG).use (fun _ m => m) ?_⟩
        rintro _ K3 ⟨⟨w5, rfl, f5⟩, E3⟩
        simp only [go_sem, Nat.reduceBEq, Nat.reduceAdd, Nat.reduceMul, Nat.reduceSub, Nat.reduceLeDiff, Nat.le_refl, implies_true, Nat.reduceLT, reduceIte, decide_true, decide_false, true_and, and_true, reduceCtorEq, Nat.mul_one, Int.reduceToNat, Int.reduceLE, Int.reduceLT, Int.reduceAdd, Int.reduceSub, Int.reduceMul, Int.cast_ofNat_Int, cast_zero_int, cast_one_int, Nat.reducePow, Nat.reduceEqDiff, Nat.reduceMod, Nat.zero_add, Nat.sub_zero, Nat.add_zero, dx, beq_self_eq_true]
        refine ⟨by kernel_rfl, ((c_rIntsR _ _ l4 (f4.mono E3).ai f5.ai (by omega)).addG).use (fun _ m => m) ?_⟩
        rintro _ _ ⟨rfl, rfl⟩
        simp only [go_sem, Nat.reduceBEq, Nat.reduceAdd, Nat.reduceMul, Nat.reduceSub, Nat.reduceLeDiff, Nat.le_refl, implies_true, Nat.reduceLT, reduceIte, decide_true, decide_false, true_and, and_true, reduceCtorEq, Nat.mul_one, Int.reduceToNat, Int.reduceLE, Int.reduceLT, Int.reduceAdd, Int.reduceSub, Int.reduceMul, Int.cast_ofNat_Int, cast_zero_int, cast_one_int, Nat.reducePow, Nat.reduceEqDiff, Nat.reduceMod, Nat.zero_add, Nat.sub_zero, Nat.add_zero, dx, beq_self_eq_true]
    · simp only [go_sem, Nat.reduceBEq, Nat.reduceAdd, Nat.reduceMul, Nat.reduceSub, Nat.reduceLeDiff, Nat.le_refl, implies_true, Nat.reduceLT, reduceIte, decide_true, decide_false, true_and, and_true, reduceCtorEq, Nat.mul_one, Int.reduceToNat, Int.reduceLE, Int.reduceLT, Int.reduceAdd, Int.reduceSub, Int.reduceMul, Int.cast_ofNat_Int, cast_zero_int, cast_one_int, Nat.reducePow, Nat.reduceEqDiff, Nat.reduceMod, Nat.zero_add, Nat.sub_zero, Nat.add_zero, dx, decide_eq_false c5]
      have QR := QC.trans PD
      refine ⟨by kernel_rfl, ((c_DrawParseReport b n (hc.mono QR)).addG).use (fun _ m => m) ?_⟩
      rintro _ R1 ⟨⟨t3, rfl, zt3⟩, C1⟩
      have QR1 := QR.trans C1
      obtain ⟨ok3, l3, hx3⟩ := IsPR.ex t3
      have zl3 := isPR_len hx3
      try simp only [go_sem, Nat.reduceBEq, Nat.reduceAdd, Nat.reduceMul, Nat.reduceSub, Nat.reduceLeDiff, Nat.le_refl, implies_true, Nat.reduceLT, reduceIte, decide_true, decide_false, true_and, and_true, reduceCtorEq, Nat.mul_one, Int.reduceToNat, Int.reduceLE, Int.reduceLT, Int.reduceAdd, Int.reduceSub, Int.reduceMul, Int.cast_ofNat_Int, cast_zero_int, cast_one_int, Nat.reducePow, Nat.reduceEqDiff, Nat.reduceMod, Nat.zero_add, Nat.sub_zero, Nat.add_zero, dx]
      refine ⟨by kernel_rfl, (c_ParseReport (pw.mono QR1) (mx.mono QR1) t3 ok3 l3 (by omega) hx3).use (fun _ m => m) ?_⟩
      rintro _ R2 ⟨⟨w3, rfl, f3⟩, C2⟩
      try simp only [go_sem, Nat.reduceBEq, Nat.reduceAdd, Nat.reduceMul, Nat.reduceSub, Nat.reduceLeDiff, Nat.le_refl, implies_true, Nat.reduceLT, reduceIte, decide_true, decide_false, true_and, and_true, reduceCtorEq, Nat.mul_one, Int.reduceToNat, Int.reduceLE, Int.reduceLT, Int.reduceAdd, Int.reduceSub, Int.reduceMul, Int.cast_ofNat_Int, cast_zero_int, cast_one_int, Nat.reducePow, Nat.reduceEqDiff, Nat.reduceMod, Nat.zero_add, Nat.sub_zero, Nat.add_zero, dx]
      refine ⟨by kernel_rfl, ((c_sParseReport t3 ok3 l3 (by omega) hx3).addG).use (fun _ m => m) ?_⟩
      rintro _ R3 ⟨⟨w3b, rfl, f3b⟩, C3⟩
      simp only [go_sem, Nat.reduceBEq, Nat.reduceAdd, Nat.reduceMul, Nat.reduceSub, Nat.reduceLeDiff, Nat.le_refl, implies_true, Nat.reduceLT, reduceIte, decide_true, decide_false, true_and, and_true, reduceCtorEq, Nat.mul_one, Int.reduceToNat, Int.reduceLE, Int.reduceLT, Int.reduceAdd, Int.reduceSub, Int.reduceMul, Int.cast_ofNat_Int, cast_zero_int, cast_one_int, Nat.reducePow, Nat.reduceEqDiff, Nat.reduceMod, Nat.zero_add, Nat.sub_zero, Nat.add_zero, dx, bne_self_eq_false]
      refine ⟨by kernel_rfl, ((c_rSupplies _ _ l3 (f3.mono C3).sl f3b.sl (by omega)).addG).use (fun _ m => m) ?_⟩
      rintro _ _ ⟨rfl, rfl⟩
      simp only [go_sem, Nat.reduceBEq, Nat.reduceAdd, Nat.reduceMul, Nat.reduceSub, Nat.reduceLeDiff, Nat.le_refl, implies_true, Nat.reduceLT, reduceIte, decide_true, decide_false, true_and, and_true, reduceCtorEq, Nat.mul_one, Int.reduceToNat, Int.reduceLE, Int.reduceLT, Int.reduceAdd, Int.reduceSub, Int.reduceMul, Int.cast_ofNat_Int, cast_zero_int, cast_one_int, Nat.reducePow, Nat.reduceEqDiff, Nat.reduceMod, Nat.zero_add, Nat.sub_zero, Nat.add_zero, dx, bne_self_eq_false, Bool.not_true]
      have QN := QR1.trans (C2.trans C3)
      refine ⟨by kernel_rfl, ((c_DrawNodeList b n (hc.mono QN)).addG).use (fun _ m => m) ?_⟩
      rintro v6 N1 ⟨⟨l6, f6, hl6⟩, D1⟩
      have QN1 := QN.trans D1
      try simp only [go_sem, Nat.reduceBEq, Nat.reduceAdd, Nat.reduceMul, Nat.reduceSub, Nat.reduceLeDiff, Nat.le_refl, implies_true, Nat.reduceLT, reduceIte, decide_true, decide_false, true_and, and_true, reduceCtorEq, Nat.mul_one, Int.reduceToNat, Int.reduceLE, Int.reduceLT, Int.reduceAdd, Int.reduceSub, Int.reduceMul, Int.cast_ofNat_Int, cast_zero_int, cast_one_int, Nat.reducePow, Nat.reduceEqDiff, Nat.reduceMod, Nat.zero_add, Nat.sub_zero, Nat.add_zero, dx]
      refine ⟨by kernel_rfl, ((c_NodeList v6 l6 (f6.si (Nat.le_refl _)) (by omega)).addG).use (fun _ m => m) ?_⟩
      rintro _ N2 ⟨rfl, D2⟩
      obtain ⟨s6, pk6, y6, hs6, zs6, hx6, hr6⟩ := nodeV_told l6
      have zl6 := isPN_len hx6
      rw [hs6]
      try simp only [go_sem, Nat.reduceBEq, Nat.reduceAdd, Nat.reduceMul, Nat.reduceSub, Nat.reduceLeDiff, Nat.le_refl, implies_true, Nat.reduceLT, reduceIte, decide_true, decide_false, true_and, and_true, reduceCtorEq, Nat.mul_one, Int.reduceToNat, Int.reduceLE, Int.reduceLT, Int.reduceAdd, Int.reduceSub, Int.reduceMul, Int.cast_ofNat_Int, cast_zero_int, cast_one_int, Nat.reducePow, Nat.reduceEqDiff, Nat.reduceMod, Nat.zero_add, Nat.sub_zero, Nat.add_zero, dx]
      refine ⟨by kernel_rfl, ((c_sNodeList v6 l6 (FI.si (f6.mono D2) D2.length_le) (by omega)).addG).use (fun _ m => m) ?_⟩
      rintro _ N3 ⟨rfl, D3⟩
      rw [hs6]
      simp only [go_sem, Nat.reduceBEq, Nat.reduceAdd, Nat.reduceMul, Nat.reduceSub, Nat.reduceLeDiff, Nat.le_refl, implies_true, Nat.reduceLT, reduceIte, decide_true, decide_false, true_and, and_true, reduceCtorEq, Nat.mul_one, Int.reduceToNat, Int.reduceLE, Int.reduceLT, Int.reduceAdd, Int.reduceSub, Int.reduceMul, Int.cast_ofNat_Int, cast_zero_int, cast_one_int, Nat.reducePow, Nat.reduceEqDiff, Nat.reduceMod, Nat.zero_add, Nat.sub_zero, Nat.add_zero, dx, eqsS, Bool.not_true, bne_self_eq_false]
      refine ⟨by kernel_rfl, ((c_ParseNodeList s6 pk6 y6 (by omega) hx6).addG).use (fun _ m => m) ?_⟩
      rintro _ N4 ⟨⟨w6, rfl, g6⟩, D4⟩
      by_cases c6 : rising l6 1 8
      · obtain ⟨rfl, rfl⟩ := hr6 c6
        simp only [go_sem, Nat.reduceBEq, Nat.reduceAdd, Nat.reduceMul, Nat.reduceSub, Nat.reduceLeDiff, Nat.le_refl, implies_true, Nat.reduceLT, reduceIte, decide_true, decide_false, true_and, and_true, reduceCtorEq, Nat.mul_one, Int.reduceToNat, Int.reduceLE, Int.reduceLT, Int.reduceAdd, Int.reduceSub, Int.reduceMul, Int.cast_ofNat_Int, cast_zero_int, cast_one_int, Nat.reducePow, Nat.reduceEqDiff, Nat.reduceMod, Nat.zero_add, Nat.sub_zero, Nat.add_zero, dx, decide_eq_true c6, Bool.not_true]
        refine ⟨by kernel_rfl, ((c_rIntsR _ _ _ g6.ai (f6.mono ((D2.trans D3).trans D4)).ai (by omega)).addG).use (fun _ m => m) ?_⟩
        rintro _ _ ⟨rfl, rfl⟩
        simp only [go_sem, Nat.reduceBEq, Nat.reduceAdd, Nat.reduceMul, Nat.reduceSub, Nat.reduceLeDiff, Nat.le_refl, implies_true, Nat.reduceLT, reduceIte, decide_true, decide_false, true_and, and_true, reduceCtorEq, Nat.mul_one, Int.reduceToNat, Int.reduceLE, Int.reduceLT, Int.reduceAdd, Int.reduceSub, Int.reduceMul, Int.cast_ofNat_Int, cast_zero_int, cast_one_int, Nat.reducePow, Nat.reduceEqDiff, Nat.reduceMod, Nat.zero_add, Nat.sub_zero, Nat.add_zero, dx, decide_eq_true c6, Bool.not_true]
        have QP := QN1.trans ((D2.trans D3).trans D4)
        refine ⟨by kernel_rfl, ((c_DrawParseNodeList b n (hc.mono QP)).addG).use (fun _ m => m) ?_⟩
        rintro _ K1 ⟨⟨t4, rfl, zt4⟩, E1⟩
        have QK1 := QP.trans E1
        obtain ⟨ok4, l4, hx4⟩ := IsPN.ex t4
        have zl4 := isPN_len hx4
        try simp only [go_sem, Nat.reduceBEq, Nat.reduceAdd, Nat.reduceMul, Nat.reduceSub, Nat.reduceLeDiff, Nat.le_refl, implies_true, Nat.reduceLT, reduceIte, decide_true, decide_false, true_and, and_true, reduceCtorEq, Nat.mul_one, Int.reduceToNat, Int.reduceLE, Int.reduceLT, Int.reduceAdd, Int.reduceSub, Int.reduceMul, Int.cast_ofNat_Int, cast_zero_int, cast_one_int, Nat.reducePow, Nat.reduceEqDiff, Nat.reduceMod, Nat.zero_add, Nat.sub_zero, Nat.add_zero, dx]
        refine ⟨by kernel_rfl, ((c_ParseNodeList t4 ok4 l4 (by omega) hx4).addG).use (fun _ m => m) ?_⟩
        rintro _ K2 ⟨⟨w4, rfl, f4⟩, E2⟩
        try simp only [go_sem, Nat.reduceBEq, Nat.reduceAdd, Nat.reduceMul, Nat.reduceSub, Nat.reduceLeDiff, Nat.le_refl, implies_true, Nat.reduceLT, reduceIte, decide_true, decide_false, true_and, and_true, reduceCtorEq, Nat.mul_one, Int.reduceToNat, Int.reduceLE, Int.reduceLT, Int.reduceAdd, Int.reduceSub, Int.reduceMul, Int.cast_ofNat_Int, cast_zero_int, cast_one_int, Nat.reducePow, Nat.reduceEqDiff, Nat.reduceMod, Nat.zero_add, Nat.sub_zero, Nat.add_zero, dx]
        refine ⟨by kernel_rfl, ((c_sParseNodeList t4 ok4 l4 (by omega) hx4).addG).use (fun _ m => m) ?_⟩
        rintro _ K3 ⟨⟨w5, rfl, f5⟩, E3⟩
        simp only [go_sem, Nat.reduceBEq, Nat.reduceAdd, Nat.reduceMul, Nat.reduceSub, Nat.reduceLeDiff, Nat.le_refl, implies_true, Nat.reduceLT, reduceIte, decide_true, decide_false, true_and, and_true, reduceCtorEq, Nat.mul_one, Int.reduceToNat, Int.reduceLE, Int.reduceLT, Int.reduceAdd, Int.reduceSub, Int.reduceMul, Int.cast_ofNat_Int, cast_zero_int, cast_one_int, Nat.reducePow, Nat.reduceEqDiff, Nat.reduceMod, Nat.zero_add, Nat.sub_zero, Nat.add_zero, dx, beq_self_eq_true]
        refine ⟨by kernel_rfl, ((c_rIntsR _ _ l4 (f4.mono E3).ai f5.ai (by omega)).addG).use (fun _ m => m) ?_⟩
        rintro _ _ ⟨rfl, rfl⟩
        simp only [go_sem, Nat.reduceBEq, Nat.reduceAdd, Nat.reduceMul, Nat.reduceSub, Nat.reduceLeDiff, Nat.le_refl, implies_true, Nat.reduceLT, reduceIte, decide_true, decide_false, true_and, and_true, reduceCtorEq, Nat.mul_one, Int.reduceToNat, Int.reduceLE, Int.reduceLT, Int.reduceAdd, Int.reduceSub, Int.reduceMul, Int.cast_ofNat_Int, cast_zero_int, cast_one_int, Nat.reducePow, Nat.reduceEqDiff, Nat.reduceMod, Nat.zero_add, Nat.sub_zero, Nat.add_zero, dx, beq_self_eq_true]
      · simp only [go_sem, Nat.reduceBEq, Nat.reduceAdd, Nat.reduceMul, Nat.reduceSub, Nat.reduceLeDiff, Nat.le_refl, implies_true, Nat.reduceLT, reduceIte, decide_true, decide_false, true_and, and_true, reduceCtorEq, Nat.mul_one, Int.reduceToNat, Int.reduceLE, Int.reduceLT, Int.reduceAdd, Int.reduceSub, Int.reduceMul, Int.cast_ofNat_Int, cast_zero_int, cast_one_int, Nat.reducePow, Nat.reduceEqDiff, Nat.reduceMod, Nat.zero_add, Nat.sub_zero, Nat.add_zero, dx, decide_eq_false c6]
        have QP := QN1.trans ((D2.trans D3).trans D4)
        refine ⟨by kernel_rfl, ((c_DrawParseNodeList b n (hc.mono QP)).addG).use (fun _ m => m) ?_⟩
        rintro _ K1 ⟨⟨t4, rfl, zt4⟩, E1⟩
        have QK1 := QP.trans E1
        obtain ⟨ok4, l4, hx4⟩ := IsPN.ex t4
        have zl4 := isPN_len hx4
        try simp only [go_sem, Nat.reduceBEq, Nat.reduceAdd, Nat.reduceMul, Nat.reduceSub, Nat.reduceLeDiff, Nat.le_refl, implies_true, Nat.reduceLT, reduceIte, decide_true, decide_false, true_and, and_true, reduceCtorEq, Nat.mul_one, Int.reduceToNat, Int.reduceLE, Int.reduceLT, Int.reduceAdd, Int.reduceSub, Int.reduceMul, Int.cast_ofNat_Int, cast_zero_int, cast_one_int, Nat.reducePow, Nat.reduceEqDiff, Nat.reduceMod, Nat.zero_add, Nat.sub_zero, Nat.add_zero, dx]
        refine ⟨by kernel_rfl, ((c_ParseNodeList t4 ok4 l4 (by omega) hx4).addG).use (fun _ m => m) ?_⟩
        rintro _ K2 ⟨⟨w4, rfl, f4⟩, E2⟩
        try simp only [go_sem, Nat.reduceBEq, Nat.reduceAdd, Nat.reduceMul, Nat.reduceSub, Nat.reduceLeDiff, Nat.le_refl, implies_true, Nat.reduceLT, reduceIte, decide_true, decide_false, true_and, and_true, reduceCtorEq, Nat.mul_one, Int.reduceToNat, Int.reduceLE, Int.reduceLT, Int.reduceAdd, Int.reduceSub, Int.reduceMul, Int.cast_ofNat_Int, cast_zero_int, cast_one_int, Nat.reducePow, Nat.reduceEqDiff, Nat.reduceMod, Nat.zero_add, Nat.sub_zero, Nat.add_zero, dx]
        refine ⟨by kernel_rfl, ((c_sParseNodeList t4 ok4 l4 (by omega) hx4).addG).use (fun _ m => m) ?_⟩
        rintro _ K3 ⟨⟨w5, rfl, f5⟩, E3⟩
        simp only [go_sem, Nat.reduceBEq, Nat.reduceAdd, Nat.reduceMul, Nat.reduceSub, Nat.reduceLeDiff, Nat.le_refl, implies_true, Nat.reduceLT, reduceIte, decide_true, decide_false, true_and, and_true, reduceCtorEq, Nat.mul_one, Int.reduceToNat, Int.reduceLE, Int.reduceLT, Int.reduceAdd, Int.reduceSub, Int.reduceMul, Int.cast_ofNat_Int, cast_zero_int, cast_one_int, Nat.reducePow, Nat.reduceEqDiff, Nat.reduceMod, Nat.zero_add, Nat.sub_zero, Nat.add_zero, dx, beq_self_eq_true]
        refine ⟨by kernel_rfl, ((c_rIntsR _ _ l4 (f4.mono E3).ai f5.ai (by omega)).addG).use (fun _ m => m) ?_⟩
        rintro _ _ ⟨rfl, rfl⟩
        simp only [go_sem, Nat.reduceBEq, Nat.reduceAdd, Nat.reduceMul, Nat.reduceSub, Nat.reduceLeDiff, Nat.le_refl, implies_true, Nat.reduceLT, reduceIte, decide_true, decide_false, true_and, and_true, reduceCtorEq, Nat.mul_one, Int.reduceToNat, Int.reduceLE, Int.reduceLT, Int.reduceAdd, Int.reduceSub, Int.reduceMul, Int.cast_ofNat_Int, cast_zero_int, cast_one_int, Nat.reducePow, Nat.reduceEqDiff, Nat.reduceMod, Nat.zero_add, Nat.sub_zero, Nat.add_zero, dx, beq_self_eq_true]
end
theorem a_FnReports (m : Int) (h : Heap) (a : List Value) (hp : glHM m <+: h) (ft : FitsAll h [.slice (.int .u8)] a) : vCall glGM Tryd.prog (fun _ => False) 4 a h (fun r _ => r = .bool true) := by
  obtain ⟨v, vs, rfl, f, g⟩ := ft.cons
  obtain rfl := g.nil
  obtain ⟨b, n, rfl, hc⟩ := Fits.code f
  obtain ⟨p, q⟩ := glHM_at hp
  exact l_FnReports p q b n hc
end Go.Proofs.YtfolkgkcaiaifaaDoor
