
/- Draws of texts, records and logs: some value of bounded size, and nothing else is changed. No condition. -/
import Derived.Test.YtkogddiefniihaaDoorDraw
import Derived.Test.YtkogddiefniihaaDoorLogF
import Derived.Test.YtkogddiefniihaaDoorH3
namespace Go.Proofs.YtkogddiefniihaaDoor
open Go.HH Go.Proofs
set_option linter.unusedSimpArgs false
set_option linter.unusedVariables false

def isS (K : Nat) : Value → Bool
  | .string s => decide (s.size ≤ K)
  | _ => false
theorem isS_at {K : Nat} {l : List Value} (hl : l.all (isS K) = true) {i : Nat} (hi : i < l.length) : ∃ s : ByteArray, l[i]? = some (.string s) ∧ s.size ≤ K := by
  have h := List.all_eq_true.1 hl l[i] (List.getElem_mem hi)
  rw [List.getElem?_eq_getElem hi]
  unfold isS at h
  split at h
  · rename_i s e; exact ⟨s, by rw [e], by simpa using h⟩
  · cases h

/-- A block of cells beside a cursor, and the block for the result. -/
structure Gst (h H : Heap) (id n : Nat) (a : Option Addr) (B b2 b3 : Nat) (z2 : Blk) (cs : List Value) (sz : Nat) : Prop where
  st : St H id n a B
  out : Agr id (id + 1) h H
  r : hget H b2 = some z2
  b : hget H b3 = some ⟨cs, sz, .rw⟩
  low : h.length ≤ b2 ∧ b2 < b3 ∧ id < h.length
section
variable {h H H' : Heap} {id n B B' b2 b3 sz : Nat} {a : Option Addr} {z2 : Blk} {cs cs' : List Value}
theorem Gst.step (s : Gst h H id n a B b2 b3 z2 cs sz) (s' : St H' id n a B') (g : Agr id (id + 1) H H') : Gst h H' id n a B' b2 b3 z2 cs sz := by
  have h1 := s.low
  exact ⟨s', s.out.trans g, agr_get g s.r (by omega), agr_get g s.b (by omega), h1⟩
theorem Gst.grow (s : Gst h H id n a B b2 b3 z2 cs sz) (t : Heap) : Gst h (H ++ t) id n a B b2 b3 z2 cs sz := s.step (s.st.app t) Agr.app
theorem Gst.more (s : Gst h H id n a B b2 b3 z2 cs sz) (hB : B ≤ B') : Gst h H id n a B' b2 b3 z2 cs sz := ⟨s.st.more hB, s.out, s.r, s.b, s.low⟩
theorem Gst.put (s : Gst h H id n a B b2 b3 z2 cs sz) (cs' : List Value) : Gst h (H.set b3 ⟨cs', sz, .rw⟩) id n a B b2 b3 z2 cs' sz := by
  have h1 := s.low
  exact ⟨s.st.set s.b rfl (by omega), ⟨by simpa using s.out.1, fun i h2 h3 => by rw [hget_set_ne (by omega)]; exact s.out.2 i h2 h3⟩, by rw [hget_set_ne (by omega)]; exact s.r, hget_set_same (hget_lt s.b), h1⟩
theorem Gst.done (s : Gst h H id n a B b2 b3 z2 cs sz) (hz : z2.st = .rw) (c : Blk) : St (H.set b2 c) id n a B ∧ Agr id (id + 1) h (H.set b2 c) := by
  have h1 := s.low
  exact ⟨s.st.set s.r hz (by omega), ⟨by simpa using s.out.1, fun i h2 h3 => by rw [hget_set_ne (by omega)]; exact s.out.2 i h2 h3⟩⟩
end
theorem pre_ofD {h H : Heap} (hl : h.length ≤ H.length) (hi : ∀ i, i < h.length → hget H i = hget h i) : h <+: H := by
  rw [List.prefix_iff_eq_take]
  refine List.ext_getElem (by simp; omega) fun i h1 h2 => ?_
  have := hi i h1
  unfold hget at this
  rw [List.getElem?_eq_getElem h1, List.getElem?_eq_getElem (by omega)] at this
  simpa using (Option.some.inj this).symm
theorem agr_pre {h h0 H : Heap} {lo hi : Nat} (hp : h <+: h0) (g : Agr lo hi h0 H) (hl : h.length ≤ lo) : h <+: H :=
  pre_ofD (by have := g.1; have := hp.length_le; omega) fun i hi => by
    have h1 := hp.length_le
    rw [g.2 i (by omega) (by omega)]; exact hget_prefix hp hi
theorem pre_set {h H : Heap} {j : Nat} {b : Blk} (hp : h <+: H) (hj : h.length ≤ j) : h <+: H.set j b :=
  pre_ofD (by simpa using hp.length_le) fun i hi => by rw [hget_set_ne (by omega)]; exact hget_prefix hp hi

section
variable {H : Heap} {M : Nat → Prop}

set_option maxRecDepth 8000 in
theorem d_of {id n B : Nat} {a : Option Addr} (K j cnt : Nat) (b : Blk) (s : St H id n a B) (hM : M id) (hj : hget H j = some b) (hstr : b.cells.all (isS K) = true) (hd : b.st = .rw) (hcnt : cnt ≤ b.cells.length) (hne : j ≠ id) (hl : 0 < cnt) (hmax : cnt ≤ 1000) (hB : B ≤ 1000000) :
    vCall [] Tryd.prog M 86 [.pointer (some ⟨id, 0, none⟩), .slice (some ⟨j, 0, none⟩) cnt 0] H (fun r H' => (∃ s : ByteArray, r = .string s ∧ s.size ≤ K) ∧ St H' id n a (B + 2) ∧ Agr id (id + 1) H H') := by
  have hid := s.lt
  refine body_of mo Tryd.func86 rfl (by kernel_rfl) (Nat.le_of_ble_eq_true (by kernel_rfl)) rfl ?_
  simp only [go_sem, Nat.reduceBEq, Nat.reduceAdd, Nat.reduceMul, Nat.reduceSub, Nat.reduceLeDiff, Nat.le_refl, implies_true, Nat.reduceLT, reduceIte, decide_true, decide_false, true_and, and_true, reduceCtorEq, Nat.mul_one, Int.reduceToNat, Int.reduceLE, Int.reduceLT, Int.reduceAdd, Int.reduceSub, Int.reduceMul, Int.cast_ofNat_Int, cast_zero_int, cast_one_int, Nat.reducePow, Nat.reduceEqDiff, Nat.reduceMod, Nat.zero_add, Nat.sub_zero, Nat.add_zero]
  refine ⟨by kernel_rfl, (d_pick _ s (Or.inr hM) hB).use (fun _ m => m) ?_⟩
  rintro _ H' ⟨⟨m, rfl, m0, m1⟩, s', g⟩
  have hi : m.toNat < cnt := by omega
  have hz : m < (cnt : Int) := by omega
  obtain ⟨x, hx, hk⟩ := isS_at hstr (Nat.lt_of_lt_of_le hi hcnt)
  have hg := agr_get g hj (by omega)
  have hd2 : b.st ≠ .dead := by rw [hd]; simp
  simp only [go_sem, Nat.reduceBEq, Nat.reduceAdd, Nat.reduceMul, Nat.reduceSub, Nat.reduceLeDiff, Nat.le_refl, implies_true, Nat.reduceLT, reduceIte, decide_true, decide_false, true_and, and_true, reduceCtorEq, Nat.mul_one, Int.reduceToNat, Int.reduceLE, Int.reduceLT, Int.reduceAdd, Int.reduceSub, Int.reduceMul, Int.cast_ofNat_Int, cast_zero_int, cast_one_int, Nat.reducePow, Nat.reduceEqDiff, Nat.reduceMod, Nat.zero_add, Nat.sub_zero, Nat.add_zero, hg, m0, hz, hx, hd2]
  exact ⟨⟨x, rfl, hk⟩, s', g⟩
theorem d_ofL {id n B : Nat} {a : Option Addr} (K : Nat) (l : List Value) (cnt : Nat) (s : St H id n a B) (hM : M id) (hstr : l.all (isS K) = true) (hcnt : cnt ≤ l.length) (hl : 0 < cnt) (hmax : cnt ≤ 1000) (hB : B ≤ 1000000) :
    vCall [] Tryd.prog M 86 [.pointer (some ⟨id, 0, none⟩), .slice (some ⟨H.length, 0, none⟩) cnt 0] (H ++ [⟨l, 1, .rw⟩]) (fun r H' => (∃ s : ByteArray, r = .string s ∧ s.size ≤ K) ∧ St H' id n a (B + 2) ∧ Agr id (id + 1) H H' ∧ H.length + 1 ≤ H'.length) := by
  have h1 := s.lt
  obtain ⟨r, H', hr, hm, c, g⟩ := d_of (M := M) K H.length cnt ⟨l, 1, .rw⟩ (s.app [⟨l, 1, .rw⟩]) hM hget_new hstr rfl hcnt (by omega) hl hmax hB
  exact ⟨r, H', hr, hm, c, Agr.app.trans g, by have := g.1; simpa using this⟩

theorem cut_size (s : ByteArray) (i j : Nat) (h1 : i ≤ j) (h2 : j ≤ s.size) : (s.extract i j).size = j - i := by rw [ByteArray.size_extract]; omega
set_option maxRecDepth 8000 in
theorem d_spoilt {id n B : Nat} {a : Option Addr} (t w : ByteArray) (s : St H id n a B) (hM : M id) (ht : t.size ≤ 1000000) (hw : 0 < w.size ∧ w.size ≤ 1000) (hB : B ≤ 1000000 - 6) :
    vCall [] Tryd.prog M 70 [.pointer (some ⟨id, 0, none⟩), .string t, .string w] H (fun r H' => (∃ s : ByteArray, r = .string s ∧ s.size ≤ t.size + 1) ∧ St H' id n a (B + 6) ∧ Agr id (id + 1) H H') := by
  refine body_of mo Tryd.func70 rfl (by kernel_rfl) (Nat.le_of_ble_eq_true (by kernel_rfl)) rfl ?_
  by_cases h0 : t.size = 0
  · have e0 : (t.toList == (⟨#[]⟩ : ByteArray).toList) = true := by
      rw [toList_eq]
      refine decide_eq_true (bl_ext ?_)
      rw [List.eq_nil_of_length_eq_zero (l := bl t) (by rw [bl_len]; exact h0)]; rfl
    simp only [go_sem, Nat.reduceBEq, Nat.reduceAdd, Nat.reduceMul, Nat.reduceSub, Nat.reduceLeDiff, Nat.le_refl, implies_true, Nat.reduceLT, reduceIte, decide_true, decide_false, true_and, and_true, reduceCtorEq, Nat.mul_one, Int.reduceToNat, Int.reduceLE, Int.reduceLT, Int.reduceAdd, Int.reduceSub, Int.reduceMul, Int.cast_ofNat_Int, cast_zero_int, cast_one_int, Nat.reducePow, Nat.reduceEqDiff, Nat.reduceMod, Nat.zero_add, Nat.sub_zero, Nat.add_zero, e0, show 1 ≤ w.size by omega]
    exact ⟨⟨w.extract 0 1, rfl, by rw [cut_size _ _ _ (by omega) (by omega)]; omega⟩, s.more (by omega), Agr.refl⟩
  · have e0 : (t.toList == (⟨#[]⟩ : ByteArray).toList) = false := by
      rw [toList_eq]
      exact decide_eq_false fun e => h0 (by rw [e]; rfl)
    simp only [go_sem, Nat.reduceBEq, Nat.reduceAdd, Nat.reduceMul, Nat.reduceSub, Nat.reduceLeDiff, Nat.le_refl, implies_true, Nat.reduceLT, reduceIte, decide_true, decide_false, true_and, and_true, reduceCtorEq, Nat.mul_one, Int.reduceToNat, Int.reduceLE, Int.reduceLT, Int.reduceAdd, Int.reduceSub, Int.reduceMul, Int.cast_ofNat_Int, cast_zero_int, cast_one_int, Nat.reducePow, Nat.reduceEqDiff, Nat.reduceMod, Nat.zero_add, Nat.sub_zero, Nat.add_zero, e0]
    refine ⟨by kernel_rfl, (d_pick _ s (Or.inr hM) (by omega)).use (fun _ m => m) ?_⟩
    rintro _ H1 ⟨⟨i0, rfl, i00, i01⟩, s1, g1⟩
    obtain ⟨i, rfl⟩ := Int.eq_ofNat_of_zero_le i00
    have hi : i < t.size := by omega
    try simp only [go_sem, Nat.reduceBEq, Nat.reduceAdd, Nat.reduceMul, Nat.reduceSub, Nat.reduceLeDiff, Nat.le_refl, implies_true, Nat.reduceLT, reduceIte, decide_true, decide_false, true_and, and_true, reduceCtorEq, Nat.mul_one, Int.reduceToNat, Int.reduceLE, Int.reduceLT, Int.reduceAdd, Int.reduceSub, Int.reduceMul, Int.cast_ofNat_Int, cast_zero_int, cast_one_int, Nat.reducePow, Nat.reduceEqDiff, Nat.reduceMod, Nat.zero_add, Nat.sub_zero, Nat.add_zero, e0]
    refine ⟨by kernel_rfl, (d_pick _ s1 (Or.inr hM) (by omega)).use (fun _ m => m) ?_⟩
    rintro _ H2 ⟨⟨j0, rfl, j00, j01⟩, s2, g2⟩
    obtain ⟨j, rfl⟩ := Int.eq_ofNat_of_zero_le j00
    have hj : j < w.size := by omega
    have zw : (w.extract j w.size).size = w.size - j := cut_size _ _ _ (by omega) (Nat.le_refl _)
    have z0 : (0 : Int) ≤ (j : Nat) := by omega
    simp only [go_sem, Nat.reduceBEq, Nat.reduceAdd, Nat.reduceMul, Nat.reduceSub, Nat.reduceLeDiff, Nat.le_refl, implies_true, Nat.reduceLT, reduceIte, decide_true, decide_false, true_and, and_true, reduceCtorEq, Nat.mul_one, Int.reduceToNat, Int.reduceLE, Int.reduceLT, Int.reduceAdd, Int.reduceSub, Int.reduceMul, Int.cast_ofNat_Int, cast_zero_int, cast_one_int, Nat.reducePow, Nat.reduceEqDiff, Nat.reduceMod, Nat.zero_add, Nat.sub_zero, Nat.add_zero, e0, z0, Int.toNat_natCast, show j ≤ w.size by omega, zw, show 1 ≤ w.size - j by omega]
    refine ⟨by kernel_rfl, (d_pick _ s2 (Or.inr hM) (by omega)).use (fun _ m => m) ?_⟩
    rintro _ H3 ⟨⟨k, rfl, k0, k1⟩, s3, g3⟩
    obtain ⟨u, hu⟩ : ∃ u, u = (w.extract j w.size).extract 0 1 := ⟨_, rfl⟩
    have zu : u.size = 1 := by rw [hu, cut_size _ _ _ (by omega) (by omega)]
    have g := (g1.trans g2).trans g3
    have z1 := cut_size t 0 i (by omega) (by omega)
    have z2 := cut_size t i t.size (by omega) (by omega)
    have z3 := cut_size t (i + 1) t.size (by omega) (by omega)
    have b0 : (0 : Int) ≤ (i : Nat) := by omega
    have b1 : i ≤ t.size := by omega
    have b2 : (0 : Int) ≤ ((i + 1 : Nat) : Int) := by omega
    have b3 : i + 1 ≤ t.size := by omega
    have w1 : IntKind.i64.wrap ((i : Int) + 1) = ((i + 1 : Nat) : Int) := by rw [wrap64 (by omega)]; omega
    have a1 : hBin .add (.string (t.extract 0 i)) (.string u) = some (.string (t.extract 0 i ++ u)) := adds (by omega)
    have a2 : hBin .add (.string (t.extract 0 i ++ u)) (.string (t.extract i t.size)) = some (.string (t.extract 0 i ++ u ++ t.extract i t.size)) := adds (by rw [ByteArray.size_append]; omega)
    have a3 : hBin .add (.string (t.extract 0 i ++ u)) (.string (t.extract (i + 1) t.size)) = some (.string (t.extract 0 i ++ u ++ t.extract (i + 1) t.size)) := adds (by rw [ByteArray.size_append]; omega)
    have a4 : hBin .add (.string (t.extract 0 i)) (.string (t.extract (i + 1) t.size)) = some (.string (t.extract 0 i ++ t.extract (i + 1) t.size)) := adds (by omega)
    by_cases q1 : k = 0
    · simp only [go_sem, Nat.reduceBEq, Nat.reduceAdd, Nat.reduceMul, Nat.reduceSub, Nat.reduceLeDiff, Nat.le_refl, implies_true, Nat.reduceLT, reduceIte, decide_true, decide_false, true_and, and_true, reduceCtorEq, Nat.mul_one, Int.reduceToNat, Int.reduceLE, Int.reduceLT, Int.reduceAdd, Int.reduceSub, Int.reduceMul, Int.cast_ofNat_Int, cast_zero_int, cast_one_int, Nat.reducePow, Nat.reduceEqDiff, Nat.reduceMod, Nat.zero_add, Nat.sub_zero, Nat.add_zero, e0, show (k == 0) = true by simpa using q1, ← hu, b0, b1, Int.toNat_natCast, a1, a2]
      refine ⟨by omega, ⟨_, rfl, ?_⟩, s3, g⟩
      simp only [ByteArray.size_append]; omega
    · have q2 : (k == 0) = false := by simpa using q1
      by_cases q3 : k = 1
      · simp only [go_sem, Nat.reduceBEq, Nat.reduceAdd, Nat.reduceMul, Nat.reduceSub, Nat.reduceLeDiff, Nat.le_refl, implies_true, Nat.reduceLT, reduceIte, decide_true, decide_false, true_and, and_true, reduceCtorEq, Nat.mul_one, Int.reduceToNat, Int.reduceLE, Int.reduceLT, Int.reduceAdd, Int.reduceSub, Int.reduceMul, Int.cast_ofNat_Int, cast_zero_int, cast_one_int, Nat.reducePow, Nat.reduceEqDiff, Nat.reduceMod, Nat.zero_add, Nat.sub_zero, Nat.add_zero, e0, q2, show (k == 1) = true by simpa using q3, ← hu, b0, b1, b2, b3, w1, Int.toNat_natCast, a1, a3]
        refine ⟨by omega, ⟨_, rfl, ?_⟩, s3, g⟩
        simp only [ByteArray.size_append]; omega
      · simp only [go_sem, Nat.reduceBEq, Nat.reduceAdd, Nat.reduceMul, Nat.reduceSub, Nat.reduceLeDiff, Nat.le_refl, implies_true, Nat.reduceLT, reduceIte, decide_true, decide_false, true_and, and_true, reduceCtorEq, Nat.mul_one, Int.reduceToNat, Int.reduceLE, Int.reduceLT, Int.reduceAdd, Int.reduceSub, Int.reduceMul, Int.cast_ofNat_Int, cast_zero_int, cast_one_int, Nat.reducePow, Nat.reduceEqDiff, Nat.reduceMod, Nat.zero_add, Nat.sub_zero, Nat.add_zero, e0, q2, show (k == 1) = false by simpa using q3, ← hu, b0, b1, b2, b3, w1, Int.toNat_natCast, a4]
        refine ⟨by omega, ⟨_, rfl, ?_⟩, s3, g⟩
        simp only [ByteArray.size_append]; omega
end
end Go.Proofs.YtkogddiefniihaaDoor
