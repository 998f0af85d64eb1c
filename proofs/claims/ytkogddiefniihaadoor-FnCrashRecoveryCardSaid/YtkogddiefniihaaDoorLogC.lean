
/- A log that a crash cuts: what both programs return. No condition. -/
import Derived.Test.YtkogddiefniihaaDoorLogW
import Derived.Test.YtkogddiefniihaaDoorH3
namespace Go.Proofs.YtkogddiefniihaaDoor
open Go.HH Go.Proofs
set_option linter.unusedSimpArgs false
set_option linter.unusedVariables false

/-- Pending bytes of which the last one is torn. -/
def tearL (l : BL) (torn : Bool) : BL := if torn = true ∧ 0 < l.length then l.set (l.length - 1) (255 - l.getD (l.length - 1) 0) else l
def crashV (D P : ByteArray) (n keep : Int) (torn : Bool) : Value := if logOk (bl D) (bl P) n ∧ (0 ≤ keep ∧ keep ≤ P.size) then .tuple #[.string (D ++ mkB (tearL ((bl P).take keep.toNat) torn)), .bool true] else .tuple #[.string ⟨#[]⟩, .bool false]
theorem bytesV_len (s : ByteArray) : (bytesV s).length = s.size := by simp [bytesV]
theorem wrapU8 {n : Int} (h : 0 ≤ n ∧ n ≤ 255) : IntKind.u8.wrap n = n :=
  IntWalk.u8_in n h
theorem tear_len (l : BL) (torn : Bool) : (tearL l torn).length = l.length := by unfold tearL; split <;> simp

section
variable {G : List (Nat × Nat)} {h : Heap} {M : Nat → Prop}
theorem c_CrashLog (pw : PowAt G h) (D P : ByteArray) (n keep : Int) (torn : Bool) (hz : D.size + P.size ≤ 9000000) : vCall G Tryd.prog M 27 [.agg #[.string D, .string P, .int .i64 n], .int .i64 keep, .bool torn] h (fun r h' => r = crashV D P n keep torn ∧ h <+: h') := by
  have lP := bl_len P
  refine body_of mo Tryd.func27 rfl (by kernel_rfl) (Nat.le_of_ble_eq_true (by kernel_rfl)) rfl ?_
  simp only [go_sem, Nat.reduceBEq, Nat.reduceAdd, Nat.reduceMul, Nat.reduceSub, Nat.reduceLeDiff, Nat.le_refl, implies_true, Nat.reduceLT, reduceIte, decide_true, decide_false, true_and, and_true, reduceCtorEq, Nat.mul_one, Int.reduceToNat, Int.reduceLE, Int.reduceLT, Int.reduceAdd, Int.reduceSub, Int.reduceMul, Int.cast_ofNat_Int, cast_zero_int, cast_one_int, Nat.reducePow, Nat.reduceEqDiff, Nat.reduceMod, Nat.zero_add, Nat.sub_zero, Nat.add_zero]
  refine ⟨by kernel_rfl, (c_IsValidLog (pw.mono (by simp)) D P n hz).use (fun _ m => m) ?_⟩
  rintro _ _ ⟨rfl, ⟨t, rfl⟩⟩
  by_cases g : logOk (bl D) (bl P) n
  · simp only [go_sem, Nat.reduceBEq, Nat.reduceAdd, Nat.reduceMul, Nat.reduceSub, Nat.reduceLeDiff, Nat.le_refl, implies_true, Nat.reduceLT, reduceIte, decide_true, decide_false, true_and, and_true, reduceCtorEq, Nat.mul_one, Int.reduceToNat, Int.reduceLE, Int.reduceLT, Int.reduceAdd, Int.reduceSub, Int.reduceMul, Int.cast_ofNat_Int, cast_zero_int, cast_one_int, Nat.reducePow, Nat.reduceEqDiff, Nat.reduceMod, Nat.zero_add, Nat.sub_zero, Nat.add_zero, decb g]
    refine ⟨by kernel_rfl, ((c_inside _ _ _).addG).use (fun _ m => m) ?_⟩
    rintro _ _ ⟨rfl, rfl⟩
    by_cases g2 : (0 : Int) ≤ keep ∧ keep ≤ P.size
    · obtain ⟨k, rfl⟩ := Int.eq_ofNat_of_zero_le g2.1
      have hk : k ≤ P.size := by omega
      obtain ⟨s, hs⟩ : ∃ s, s = P.extract 0 k := ⟨_, rfl⟩
      have sz : s.size = k := by rw [hs, ByteArray.size_extract]; omega
      have bls : bl s = (bl P).take k := by rw [hs, bl_extract]; rfl
      have z0 : (0 : Int) ≤ (k : Nat) := by omega
      have z1 : ((k : Nat) : Int) ≤ P.size := g2.2
      simp only [go_sem, Nat.reduceBEq, Nat.reduceAdd, Nat.reduceMul, Nat.reduceSub, Nat.reduceLeDiff, Nat.le_refl, implies_true, Nat.reduceLT, reduceIte, decide_true, decide_false, true_and, and_true, reduceCtorEq, Nat.mul_one, Int.reduceToNat, Int.reduceLE, Int.reduceLT, Int.reduceAdd, Int.reduceSub, Int.reduceMul, Int.cast_ofNat_Int, cast_zero_int, cast_one_int, Nat.reducePow, Nat.reduceEqDiff, Nat.reduceMod, Nat.zero_add, Nat.sub_zero, Nat.add_zero, decb g, z0, z1, hk, Int.toNat_natCast, ← hs, sz]
      have fin : crashV D P n (k : Nat) torn = .tuple #[.string (D ++ mkB (tearL (bl s) torn)), .bool true] := by rw [crashV, if_pos ⟨g, g2⟩, Int.toNat_natCast, bls]
      have lt := tear_len (bl s) torn
      rw [bl_len, sz] at lt
      have a1 : hBin .add (.string D) (.string (mkB (tearL (bl s) torn))) = some (.string (D ++ mkB (tearL (bl s) torn))) := adds (by rw [mkB_size, lt]; omega)
      rcases Nat.eq_zero_or_pos k with k0 | k0
      · subst k0
        have bn : bl s = [] := List.eq_nil_of_length_eq_zero (by rw [bl_len, sz])
        have e1 : tearL (bl s) torn = [] := by rw [bn]; unfold tearL; split <;> rfl
        have e2 : (mkB []) = (⟨#[]⟩ : ByteArray) := rfl
        rw [e1, e2] at a1 fin
        cases torn
        · simp only [go_sem, Nat.reduceBEq, Nat.reduceAdd, Nat.reduceMul, Nat.reduceSub, Nat.reduceLeDiff, Nat.le_refl, implies_true, Nat.reduceLT, reduceIte, decide_true, decide_false, true_and, and_true, reduceCtorEq, Nat.mul_one, Int.reduceToNat, Int.reduceLE, Int.reduceLT, Int.reduceAdd, Int.reduceSub, Int.reduceMul, Int.cast_ofNat_Int, cast_zero_int, cast_one_int, Nat.reducePow, Nat.reduceEqDiff, Nat.reduceMod, Nat.zero_add, Nat.sub_zero, Nat.add_zero, decb g, z0, z1, hk, Int.toNat_natCast, ← hs, sz, a1, fin]
          exact fin.symm
        · simp only [go_sem, Nat.reduceBEq, Nat.reduceAdd, Nat.reduceMul, Nat.reduceSub, Nat.reduceLeDiff, Nat.le_refl, implies_true, Nat.reduceLT, reduceIte, decide_true, decide_false, true_and, and_true, reduceCtorEq, Nat.mul_one, Int.reduceToNat, Int.reduceLE, Int.reduceLT, Int.reduceAdd, Int.reduceSub, Int.reduceMul, Int.cast_ofNat_Int, cast_zero_int, cast_one_int, Nat.reducePow, Nat.reduceEqDiff, Nat.reduceMod, Nat.zero_add, Nat.sub_zero, Nat.add_zero, decb g, z0, z1, hk, Int.toNat_natCast, ← hs, sz, a1, fin]
          exact fin.symm
      · have g4 : (0 : Int) < (k : Nat) := by omega
        have e2 : List.take k (List.map u8v (tearL (bl s) torn)) = List.map u8v (tearL (bl s) torn) := List.take_of_length_le (by rw [List.length_map, lt]; exact Nat.le_refl _)
        have e3 : strOfV (List.map u8v (tearL (bl s) torn)) = some (mkB (tearL (bl s) torn)) := strOfV_bytes _
        have l3 : (List.map u8v (tearL (bl s) torn)).length = k := by rw [List.length_map, lt]
        cases torn
        · have e1 : bytesV s = List.map u8v (tearL (bl s) false) := rfl
          simp only [go_sem, Nat.reduceBEq, Nat.reduceAdd, Nat.reduceMul, Nat.reduceSub, Nat.reduceLeDiff, Nat.le_refl, implies_true, Nat.reduceLT, reduceIte, decide_true, decide_false, true_and, and_true, reduceCtorEq, Nat.mul_one, Int.reduceToNat, Int.reduceLE, Int.reduceLT, Int.reduceAdd, Int.reduceSub, Int.reduceMul, Int.cast_ofNat_Int, cast_zero_int, cast_one_int, Nat.reducePow, Nat.reduceEqDiff, Nat.reduceMod, Nat.zero_add, Nat.sub_zero, Nat.add_zero, decb g, z0, z1, hk, Int.toNat_natCast, ← hs, sz, g4, onCv_more k0, e1, e2, e3, l3, a1, fin]
          try all_goals first | exact rfl | exact ⟨rfl, rfl⟩ | exact List.prefix_append _ _ | exact ⟨rfl, List.prefix_append _ _⟩ | assumption | exact ⟨rfl, by assumption⟩ | exact List.prefix_rfl | exact ⟨rfl, List.prefix_rfl⟩ | exact List.IsPrefix.trans (by assumption) (by assumption) | exact ⟨rfl, List.IsPrefix.trans (by assumption) (by assumption)⟩
          all_goals omega
        · have w1 : IntKind.i64.wrap (((k : Nat) : Int) - 1) = ((k - 1 : Nat) : Int) := by rw [wrap64 (by omega)]; omega
          have hlt : k - 1 < (bl s).length := by rw [bl_len, sz]; omega
          have hcell : (bytesV s)[k - 1]? = some (.int .u8 ((bl s)[k - 1].toNat : Nat)) := by
            rw [bytesV, List.getElem?_map, show s.data.toList = bl s from rfl, List.getElem?_eq_getElem hlt]; rfl
          have b0 := u8_ofNat (bl s)[k - 1]
          have w2 : IntKind.u8.wrap (255 - (((bl s)[k - 1].toNat : Nat) : Int)) = ((255 - (bl s)[k - 1]).toNat : Nat) := by
            rw [UInt8.toNat_sub_of_le _ _ (by rw [UInt8.le_iff_toNat_le]; show _ ≤ 255; omega)]
            show IntKind.u8.wrap _ = ((255 - (bl s)[k - 1].toNat : Nat) : Int)
            have : (255 : Int) - (((bl s)[k - 1].toNat : Nat) : Int) = ((255 - (bl s)[k - 1].toNat : Nat) : Int) := by omega
            rw [this]
            exact wrapU8 (by omega)
          have q1 : ((k - 1 : Nat) : Int) < (k : Nat) := by omega
          have q2 : (0 : Int) ≤ ((k - 1 : Nat) : Int) := by omega
          have q3 : k - 1 + 1 ≤ k := by omega
          have e1 : setRange (bytesV s) (k - 1) [.int .u8 ((255 - (bl s)[k - 1]).toNat : Nat)] = List.map u8v (tearL (bl s) true) := by
            rw [← setRange_one (by rw [bytesV_len, sz]; omega), tearL, if_pos ⟨rfl, by omega⟩, List.map_set, bl_len, sz, List.getD, List.getElem?_eq_getElem hlt]; rfl
          simp only [go_sem, Nat.reduceBEq, Nat.reduceAdd, Nat.reduceMul, Nat.reduceSub, Nat.reduceLeDiff, Nat.le_refl, implies_true, Nat.reduceLT, reduceIte, decide_true, decide_false, true_and, and_true, reduceCtorEq, Nat.mul_one, Int.reduceToNat, Int.reduceLE, Int.reduceLT, Int.reduceAdd, Int.reduceSub, Int.reduceMul, Int.cast_ofNat_Int, cast_zero_int, cast_one_int, Nat.reducePow, Nat.reduceEqDiff, Nat.reduceMod, Nat.zero_add, Nat.sub_zero, Nat.add_zero, decb g, z0, z1, hk, Int.toNat_natCast, ← hs, sz, g4, w1, hcell, w2, q1, q2, q3, bytesV_len, onCv_more k0, e1, e2, e3, l3, a1, fin]
          try all_goals first | exact rfl | exact ⟨rfl, rfl⟩ | exact List.prefix_append _ _ | exact ⟨rfl, List.prefix_append _ _⟩ | assumption | exact ⟨rfl, by assumption⟩ | exact List.prefix_rfl | exact ⟨rfl, List.prefix_rfl⟩ | exact List.IsPrefix.trans (by assumption) (by assumption) | exact ⟨rfl, List.IsPrefix.trans (by assumption) (by assumption)⟩
          all_goals omega
    · simp only [go_sem, Nat.reduceBEq, Nat.reduceAdd, Nat.reduceMul, Nat.reduceSub, Nat.reduceLeDiff, Nat.le_refl, implies_true, Nat.reduceLT, reduceIte, decide_true, decide_false, true_and, and_true, reduceCtorEq, Nat.mul_one, Int.reduceToNat, Int.reduceLE, Int.reduceLT, Int.reduceAdd, Int.reduceSub, Int.reduceMul, Int.cast_ofNat_Int, cast_zero_int, cast_one_int, Nat.reducePow, Nat.reduceEqDiff, Nat.reduceMod, Nat.zero_add, Nat.sub_zero, Nat.add_zero, decb g, dect g2]
      rw [crashV, if_neg (fun hh => g2 hh.2)]
      try all_goals first | exact rfl | exact ⟨rfl, rfl⟩ | exact List.prefix_append _ _ | exact ⟨rfl, List.prefix_append _ _⟩ | assumption | exact ⟨rfl, by assumption⟩ | exact List.prefix_rfl | exact ⟨rfl, List.prefix_rfl⟩ | exact List.IsPrefix.trans (by assumption) (by assumption) | exact ⟨rfl, List.IsPrefix.trans (by assumption) (by assumption)⟩
  · simp only [go_sem, Nat.reduceBEq, Nat.reduceAdd, Nat.reduceMul, Nat.reduceSub, Nat.reduceLeDiff, Nat.le_refl, implies_true, Nat.reduceLT, reduceIte, decide_true, decide_false, true_and, and_true, reduceCtorEq, Nat.mul_one, Int.reduceToNat, Int.reduceLE, Int.reduceLT, Int.reduceAdd, Int.reduceSub, Int.reduceMul, Int.cast_ofNat_Int, cast_zero_int, cast_one_int, Nat.reducePow, Nat.reduceEqDiff, Nat.reduceMod, Nat.zero_add, Nat.sub_zero, Nat.add_zero, dect g]
    rw [crashV, if_neg (fun hh => g hh.1)]
    try all_goals first | exact rfl | exact ⟨rfl, rfl⟩ | exact List.prefix_append _ _ | exact ⟨rfl, List.prefix_append _ _⟩ | assumption | exact ⟨rfl, by assumption⟩ | exact List.prefix_rfl | exact ⟨rfl, List.prefix_rfl⟩ | exact List.IsPrefix.trans (by assumption) (by assumption) | exact ⟨rfl, List.IsPrefix.trans (by assumption) (by assumption)⟩
theorem c_sCrashLog (D P : ByteArray) (n keep : Int) (torn : Bool) (hz : D.size + P.size ≤ 9000000) : vCall [] Tryd.prog M 26 [.agg #[.string D, .string P, .int .i64 n], .int .i64 keep, .bool torn] h (fun r h' => r = crashV D P n keep torn ∧ h <+: h') := by
  have lP := bl_len P
  refine body_of mo Tryd.func26 rfl (by kernel_rfl) (Nat.le_of_ble_eq_true (by kernel_rfl)) rfl ?_
  simp only [go_sem, Nat.reduceBEq, Nat.reduceAdd, Nat.reduceMul, Nat.reduceSub, Nat.reduceLeDiff, Nat.le_refl, implies_true, Nat.reduceLT, reduceIte, decide_true, decide_false, true_and, and_true, reduceCtorEq, Nat.mul_one, Int.reduceToNat, Int.reduceLE, Int.reduceLT, Int.reduceAdd, Int.reduceSub, Int.reduceMul, Int.cast_ofNat_Int, cast_zero_int, cast_one_int, Nat.reducePow, Nat.reduceEqDiff, Nat.reduceMod, Nat.zero_add, Nat.sub_zero, Nat.add_zero]
  refine ⟨by kernel_rfl, (c_l27Log D P n hz).use (fun _ m => m) ?_⟩
  rintro _ _ ⟨rfl, ⟨t, rfl⟩⟩
  by_cases g : logOk (bl D) (bl P) n
  · simp only [go_sem, Nat.reduceBEq, Nat.reduceAdd, Nat.reduceMul, Nat.reduceSub, Nat.reduceLeDiff, Nat.le_refl, implies_true, Nat.reduceLT, reduceIte, decide_true, decide_false, true_and, and_true, reduceCtorEq, Nat.mul_one, Int.reduceToNat, Int.reduceLE, Int.reduceLT, Int.reduceAdd, Int.reduceSub, Int.reduceMul, Int.cast_ofNat_Int, cast_zero_int, cast_one_int, Nat.reducePow, Nat.reduceEqDiff, Nat.reduceMod, Nat.zero_add, Nat.sub_zero, Nat.add_zero, decb g]
    refine ⟨by kernel_rfl, (c_l1In _ _ _).use (fun _ m => m) ?_⟩
    rintro _ _ ⟨rfl, rfl⟩
    by_cases g2 : (0 : Int) ≤ keep ∧ keep ≤ P.size
    · obtain ⟨k, rfl⟩ := Int.eq_ofNat_of_zero_le g2.1
      have hk : k ≤ P.size := by omega
      obtain ⟨s, hs⟩ : ∃ s, s = P.extract 0 k := ⟨_, rfl⟩
      have sz : s.size = k := by rw [hs, ByteArray.size_extract]; omega
      have bls : bl s = (bl P).take k := by rw [hs, bl_extract]; rfl
      have z0 : (0 : Int) ≤ (k : Nat) := by omega
      have z1 : ((k : Nat) : Int) ≤ P.size := g2.2
      simp only [go_sem, Nat.reduceBEq, Nat.reduceAdd, Nat.reduceMul, Nat.reduceSub, Nat.reduceLeDiff, Nat.le_refl, implies_true, Nat.reduceLT, reduceIte, decide_true, decide_false, true_and, and_true, reduceCtorEq, Nat.mul_one, Int.reduceToNat, Int.reduceLE, Int.reduceLT, Int.reduceAdd, Int.reduceSub, Int.reduceMul, Int.cast_ofNat_Int, cast_zero_int, cast_one_int, Nat.reducePow, Nat.reduceEqDiff, Nat.reduceMod, Nat.zero_add, Nat.sub_zero, Nat.add_zero, decb g, z0, z1, hk, Int.toNat_natCast, ← hs, sz]
      have fin : crashV D P n (k : Nat) torn = .tuple #[.string (D ++ mkB (tearL (bl s) torn)), .bool true] := by rw [crashV, if_pos ⟨g, g2⟩, Int.toNat_natCast, bls]
      have lt := tear_len (bl s) torn
      rw [bl_len, sz] at lt
      have a1 : hBin .add (.string D) (.string (mkB (tearL (bl s) torn))) = some (.string (D ++ mkB (tearL (bl s) torn))) := adds (by rw [mkB_size, lt]; omega)
      rcases Nat.eq_zero_or_pos k with k0 | k0
      · subst k0
        have bn : bl s = [] := List.eq_nil_of_length_eq_zero (by rw [bl_len, sz])
        have e1 : tearL (bl s) torn = [] := by rw [bn]; unfold tearL; split <;> rfl
        have e2 : (mkB []) = (⟨#[]⟩ : ByteArray) := rfl
        rw [e1, e2] at a1 fin
        cases torn
        · simp only [go_sem, Nat.reduceBEq, Nat.reduceAdd, Nat.reduceMul, Nat.reduceSub, Nat.reduceLeDiff, Nat.le_refl, implies_true, Nat.reduceLT, reduceIte, decide_true, decide_false, true_and, and_true, reduceCtorEq, Nat.mul_one, Int.reduceToNat, Int.reduceLE, Int.reduceLT, Int.reduceAdd, Int.reduceSub, Int.reduceMul, Int.cast_ofNat_Int, cast_zero_int, cast_one_int, Nat.reducePow, Nat.reduceEqDiff, Nat.reduceMod, Nat.zero_add, Nat.sub_zero, Nat.add_zero, decb g, z0, z1, hk, Int.toNat_natCast, ← hs, sz, a1, fin]
          exact fin.symm
        · simp only [go_sem, Nat.reduceBEq, Nat.reduceAdd, Nat.reduceMul, Nat.reduceSub, Nat.reduceLeDiff, Nat.le_refl, implies_true, Nat.reduceLT, reduceIte, decide_true, decide_false, true_and, and_true, reduceCtorEq, Nat.mul_one, Int.reduceToNat, Int.reduceLE, Int.reduceLT, Int.reduceAdd, Int.reduceSub, Int.reduceMul, Int.cast_ofNat_Int, cast_zero_int, cast_one_int, Nat.reducePow, Nat.reduceEqDiff, Nat.reduceMod, Nat.zero_add, Nat.sub_zero, Nat.add_zero, decb g, z0, z1, hk, Int.toNat_natCast, ← hs, sz, a1, fin]
          exact fin.symm
      · have g4 : (0 : Int) < (k : Nat) := by omega
        have e2 : List.take k (List.map u8v (tearL (bl s) torn)) = List.map u8v (tearL (bl s) torn) := List.take_of_length_le (by rw [List.length_map, lt]; exact Nat.le_refl _)
        have e3 : strOfV (List.map u8v (tearL (bl s) torn)) = some (mkB (tearL (bl s) torn)) := strOfV_bytes _
        have l3 : (List.map u8v (tearL (bl s) torn)).length = k := by rw [List.length_map, lt]
        cases torn
        · have e1 : bytesV s = List.map u8v (tearL (bl s) false) := rfl
          simp only [go_sem, Nat.reduceBEq, Nat.reduceAdd, Nat.reduceMul, Nat.reduceSub, Nat.reduceLeDiff, Nat.le_refl, implies_true, Nat.reduceLT, reduceIte, decide_true, decide_false, true_and, and_true, reduceCtorEq, Nat.mul_one, Int.reduceToNat, Int.reduceLE, Int.reduceLT, Int.reduceAdd, Int.reduceSub, Int.reduceMul, Int.cast_ofNat_Int, cast_zero_int, cast_one_int, Nat.reducePow, Nat.reduceEqDiff, Nat.reduceMod, Nat.zero_add, Nat.sub_zero, Nat.add_zero, decb g, z0, z1, hk, Int.toNat_natCast, ← hs, sz, g4, onCv_more k0, e1, e2, e3, l3, a1, fin]
          try all_goals first | exact rfl | exact ⟨rfl, rfl⟩ | exact List.prefix_append _ _ | exact ⟨rfl, List.prefix_append _ _⟩ | assumption | exact ⟨rfl, by assumption⟩ | exact List.prefix_rfl | exact ⟨rfl, List.prefix_rfl⟩ | exact List.IsPrefix.trans (by assumption) (by assumption) | exact ⟨rfl, List.IsPrefix.trans (by assumption) (by assumption)⟩
          all_goals omega
        · have w1 : IntKind.i64.wrap (((k : Nat) : Int) - 1) = ((k - 1 : Nat) : Int) := by rw [wrap64 (by omega)]; omega
          have hlt : k - 1 < (bl s).length := by rw [bl_len, sz]; omega
          have hcell : (bytesV s)[k - 1]? = some (.int .u8 ((bl s)[k - 1].toNat : Nat)) := by
            rw [bytesV, List.getElem?_map, show s.data.toList = bl s from rfl, List.getElem?_eq_getElem hlt]; rfl
          have b0 := u8_ofNat (bl s)[k - 1]
          have w2 : IntKind.u8.wrap (255 - (((bl s)[k - 1].toNat : Nat) : Int)) = ((255 - (bl s)[k - 1]).toNat : Nat) := by
            rw [UInt8.toNat_sub_of_le _ _ (by rw [UInt8.le_iff_toNat_le]; show _ ≤ 255; omega)]
            show IntKind.u8.wrap _ = ((255 - (bl s)[k - 1].toNat : Nat) : Int)
            have : (255 : Int) - (((bl s)[k - 1].toNat : Nat) : Int) = ((255 - (bl s)[k - 1].toNat : Nat) : Int) := by omega
            rw [this]
            exact wrapU8 (by omega)
          have q1 : ((k - 1 : Nat) : Int) < (k : Nat) := by omega
          have q2 : (0 : Int) ≤ ((k - 1 : Nat) : Int) := by omega
          have q3 : k - 1 + 1 ≤ k := by omega
          have e1 : setRange (bytesV s) (k - 1) [.int .u8 ((255 - (bl s)[k - 1]).toNat : Nat)] = List.map u8v (tearL (bl s) true) := by
            rw [← setRange_one (by rw [bytesV_len, sz]; omega), tearL, if_pos ⟨rfl, by omega⟩, List.map_set, bl_len, sz, List.getD, List.getElem?_eq_getElem hlt]; rfl
          simp only [go_sem, Nat.reduceBEq, Nat.reduceAdd, Nat.reduceMul, Nat.reduceSub, Nat.reduceLeDiff, Nat.le_refl, implies_true, Nat.reduceLT, reduceIte, decide_true, decide_false, true_and, and_true, reduceCtorEq, Nat.mul_one, Int.reduceToNat, Int.reduceLE, Int.reduceLT, Int.reduceAdd, Int.reduceSub, Int.reduceMul, Int.cast_ofNat_Int, cast_zero_int, cast_one_int, Nat.reducePow, Nat.reduceEqDiff, Nat.reduceMod, Nat.zero_add, Nat.sub_zero, Nat.add_zero, decb g, z0, z1, hk, Int.toNat_natCast, ← hs, sz, g4, w1, hcell, w2, q1, q2, q3, bytesV_len, onCv_more k0, e1, e2, e3, l3, a1, fin]
          try all_goals first | exact rfl | exact ⟨rfl, rfl⟩ | exact List.prefix_append _ _ | exact ⟨rfl, List.prefix_append _ _⟩ | assumption | exact ⟨rfl, by assumption⟩ | exact List.prefix_rfl | exact ⟨rfl, List.prefix_rfl⟩ | exact List.IsPrefix.trans (by assumption) (by assumption) | exact ⟨rfl, List.IsPrefix.trans (by assumption) (by assumption)⟩
          all_goals omega
    · simp only [go_sem, Nat.reduceBEq, Nat.reduceAdd, Nat.reduceMul, Nat.reduceSub, Nat.reduceLeDiff, Nat.le_refl, implies_true, Nat.reduceLT, reduceIte, decide_true, decide_false, true_and, and_true, reduceCtorEq, Nat.mul_one, Int.reduceToNat, Int.reduceLE, Int.reduceLT, Int.reduceAdd, Int.reduceSub, Int.reduceMul, Int.cast_ofNat_Int, cast_zero_int, cast_one_int, Nat.reducePow, Nat.reduceEqDiff, Nat.reduceMod, Nat.zero_add, Nat.sub_zero, Nat.add_zero, decb g, dect g2]
      rw [crashV, if_neg (fun hh => g2 hh.2)]
      try all_goals first | exact rfl | exact ⟨rfl, rfl⟩ | exact List.prefix_append _ _ | exact ⟨rfl, List.prefix_append _ _⟩ | assumption | exact ⟨rfl, by assumption⟩ | exact List.prefix_rfl | exact ⟨rfl, List.prefix_rfl⟩ | exact List.IsPrefix.trans (by assumption) (by assumption) | exact ⟨rfl, List.IsPrefix.trans (by assumption) (by assumption)⟩
  · simp only [go_sem, Nat.reduceBEq, Nat.reduceAdd, Nat.reduceMul, Nat.reduceSub, Nat.reduceLeDiff, Nat.le_refl, implies_true, Nat.reduceLT, reduceIte, decide_true, decide_false, true_and, and_true, reduceCtorEq, Nat.mul_one, Int.reduceToNat, Int.reduceLE, Int.reduceLT, Int.reduceAdd, Int.reduceSub, Int.reduceMul, Int.cast_ofNat_Int, cast_zero_int, cast_one_int, Nat.reducePow, Nat.reduceEqDiff, Nat.reduceMod, Nat.zero_add, Nat.sub_zero, Nat.add_zero, dect g]
    rw [crashV, if_neg (fun hh => g hh.1)]
    try all_goals first | exact rfl | exact ⟨rfl, rfl⟩ | exact List.prefix_append _ _ | exact ⟨rfl, List.prefix_append _ _⟩ | assumption | exact ⟨rfl, by assumption⟩ | exact List.prefix_rfl | exact ⟨rfl, List.prefix_rfl⟩ | exact List.IsPrefix.trans (by assumption) (by assumption) | exact ⟨rfl, List.IsPrefix.trans (by assumption) (by assumption)⟩
end
end Go.Proofs.YtkogddiefniihaaDoor
