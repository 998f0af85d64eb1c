
/- An archive from its runs. No condition. -/
import Derived.Test.YtjgekhahklidcaaNest
namespace Go.Proofs.Ytjgekhahklidcaa
open Go.HH
set_option linter.unusedSimpArgs false
set_option linter.unusedVariables false

def valsU (L : List (List Int)) (i : Nat) : List Int := ((L.take i).map fun r => List.replicate (r.getD 1 0).toNat (r.getD 0 0)).flatten
theorem valsU_succ {L : List (List Int)} {i : Nat} (hi : i < L.length) {x y : Int} (hr : L[i] = [x, y]) : valsU L (i + 1) = valsU L i ++ List.replicate y.toNat x := by
  rw [valsU, valsU, List.take_add_one, List.getElem?_eq_getElem hi, hr]
  simp
/-- A run may follow the ones before it. -/
def okAt (L : List (List Int)) (i : Nat) : Prop := (L.getD i []).length = 2 ∧ (1 ≤ (L.getD i []).getD 1 0 ∧ (L.getD i []).getD 1 0 ≤ 30 - (valsU L i).length) ∧ ¬ (0 < i ∧ (L.getD (i - 1) []).getD 0 0 = (L.getD i []).getD 0 0)
instance {L : List (List Int)} {i : Nat} : Decidable (okAt L i) := by unfold okAt; infer_instance
def unpOk (f : Int) (L : List (List Int)) : Prop := (∀ i, i < L.length → okAt L i) ∧ arGood f (valsU L L.length)
instance {f : Int} {L : List (List Int)} : Decidable (unpOk f L) := by unfold unpOk; infer_instance
theorem unpOk_not {f : Int} {L : List (List Int)} {i : Nat} (hi : i < L.length) (h : ¬ okAt L i) : ¬ unpOk f L := fun hh => h (hh.1 i hi)
theorem okAt_len {L : List (List Int)} {i : Nat} (hi : i < L.length) (h : okAt L i) : ∃ x y, L[i] = [x, y] := by
  have : (L.getD i []).length = 2 := h.1
  rw [show L.getD i [] = L[i] by simp [List.getD, hi]] at this
  match L[i], this with
  | [x, y], _ => exact ⟨x, y, rfl⟩

/-- Where the numbers lie that an archive's cell has gathered. -/
def Wh (lo p : Nat) (H : Heap) (a : Option Addr) (l : List Int) : Prop := (a = none ∧ l = []) ∨ ∃ id, a = some ⟨id, 0, none⟩ ∧ id ≠ p ∧ lo ≤ id ∧ hget H id = some ⟨l.map iv, 1, .rw⟩
theorem Wh.fi {lo p : Nat} {H : Heap} {a : Option Addr} {l : List Int} (s : Wh lo p H a l) {k : Nat} (hk : k = l.length) : FI lo H.length H (.slice a k 0) l := by
  subst hk
  rcases s with ⟨rfl, rfl⟩ | ⟨id, rfl, _, h2, h3⟩
  · exact .nil
  · exact .at h2 (hget_lt h3) h3
theorem wh_app {lo p : Nat} {H : Heap} {C : Blk} {id : Nat} {l : List Int} {x : Int} {b C' X : Blk} (hp : hget H p = some C) (h1 : id ≠ p) (hlo : lo ≤ H.length) :
    Wh lo p (((H ++ [X]).set id b ++ [(⟨l.map iv ++ [.int .i64 x], 1, .rw⟩ : Blk)]).set p C') (some ⟨H.length + 1, 0, none⟩) (l ++ [x]) :=
  Or.inr ⟨H.length + 1, rfl, app_ne (u := H) hp, by omega, by rw [List.map_append]; exact app_new (u := H) (c := p) hp⟩
theorem wh_app0 {lo p : Nat} {H : Heap} {C : Blk} {x : Int} {C' X : Blk} (hp : hget H p = some C) (hlo : lo ≤ H.length) :
    Wh lo p ((H ++ [X, (⟨[.int .i64 x], 1, .rw⟩ : Blk)]).set p C') (some ⟨H.length + 1, 0, none⟩) [x] :=
  Or.inr ⟨H.length + 1, rfl, app_ne (u := H) hp, by omega, app_new0 (u := H) (c := p) hp⟩

theorem put_keep {H x y : Heap} {oid p c : Nat} {b C' : Blk} (hc : c < H.length) (h1 : oid ≠ c) (h2 : p ≠ c) : hget (((H ++ x).set oid b ++ y).set p C') c = hget H c := by
  unfold hget
  rw [List.getElem?_set_ne h2, List.getElem?_append_left (by simp; omega), List.getElem?_set_ne h1, List.getElem?_append_left hc]
theorem put_keep0 {H x : Heap} {p c : Nat} {C' : Blk} (hc : c < H.length) (h2 : p ≠ c) : hget ((H ++ x).set p C') c = hget H c := by
  unfold hget
  rw [List.getElem?_set_ne h2, List.getElem?_append_left hc]
theorem put_pre {h X : Heap} {p : Nat} {b : Blk} (hp : h <+: X) (h2 : h.length ≤ p) : h <+: X.set p b := by
  obtain ⟨t, rfl⟩ := hp
  rw [List.set_append_right _ _ h2]; exact List.prefix_append _ _
theorem okAt_iff {L : List (List Int)} {i : Nat} (hi : i < L.length) {x y : Int} (hr : L[i] = [x, y]) : okAt L i ↔ (1 ≤ y ∧ y ≤ 30 - ((valsU L i).length : Int)) ∧ ¬ (0 < i ∧ (L.getD (i - 1) []).getD 0 0 = x) := by
  unfold okAt
  rw [show L.getD i [] = L[i] by simp [List.getD, hi], hr]
  simp

section
variable {h : Heap} {M : Nat → Prop}

theorem c_UnpackArchive {n : Nat} (f : Int) (v : Value) (L : List (List Int)) (s : AS n h v L) (hmax : L.length + tot L L.length ≤ 1048576) : vCall [] Try.prog M 23 [.int .i64 f, v] h (fun r h' =>
    (∃ w, r = .tuple #[w, .bool (decide (unpOk f L))] ∧ FA h.length h'.length h' w (if unpOk f L then f else 0) (if unpOk f L then valsU L L.length else [])) ∧ h <+: h') := by
  obtain ⟨a, rfl⟩ := s.len
  refine body_of mo Try.func23 rfl (by kernel_rfl) (Nat.le_of_ble_eq_true (by kernel_rfl)) rfl ?_
  simp only [go_sem, Nat.reduceBEq, Nat.reduceAdd, Nat.reduceMul, Nat.reduceSub, Nat.reduceLeDiff, Nat.le_refl, implies_true, Nat.reduceLT, reduceIte, decide_true, decide_false, true_and, and_true, reduceCtorEq, Nat.mul_one, Int.reduceToNat, Int.reduceLE, Int.reduceLT, Int.reduceAdd, Int.reduceSub, Int.reduceMul, Int.cast_ofNat_Int, cast_zero_int, cast_one_int, Nat.reducePow, Nat.reduceEqDiff, Nat.reduceMod, Nat.zero_add, Nat.sub_zero, Nat.add_zero]
  refine vLoop.count mo L.length (fun i e H => ∃ (b : Option Addr), e 1 = .slice a L.length 0 ∧ e 4 = .pointer (some ⟨h.length, 0, none⟩) ∧ e 6 = .pointer (some ⟨h.length + 2, 0, none⟩) ∧ e 12 = .slice a L.length 0 ∧ e 13 = .int .i64 L.length ∧ e 14 = .int .i64 i ∧
      h <+: H ∧ hget H h.length = some ⟨[.int .i64 0, .slice none 0 0], 2, .rw⟩ ∧ hget H (h.length + 2) = some ⟨[.int .i64 f, .slice b (valsU L i).length 0], 2, .rw⟩ ∧ Wh (h.length + 1) (h.length + 2) H b (valsU L i) ∧ (∀ j, j < i → okAt L j) ∧ (valsU L i).length ≤ 30) ?_ ?_
  · exact ⟨some ⟨h.length + 1, 0, none⟩, rfl, rfl, rfl, rfl, rfl, rfl, by simp, by simp [hget], by simp [hget, valsU], .inr ⟨h.length + 1, rfl, by omega, by omega, by simp [hget, valsU]⟩, fun j hj => absurd hj (by omega), by simp [valsU]⟩
  · rintro i e H hi ⟨b, e1, e4, e6, e12, e13, e14, hpre, hc0, hc2, hW, hok, hb⟩
    have hs : ∀ t b, hget ((H ++ t).set h.length b) h.length = some b := fun t b => hget_set_same (by have := hget_lt hc0; simp; omega)
    have hs0 : ∀ b, hget (H.set h.length b) h.length = some b := fun b => hget_set_same (hget_lt hc0)
    simp only [go_sem, Nat.reduceBEq, Nat.reduceAdd, Nat.reduceMul, Nat.reduceSub, Nat.reduceLeDiff, Nat.le_refl, implies_true, Nat.reduceLT, reduceIte, decide_true, decide_false, true_and, and_true, reduceCtorEq, Nat.mul_one, Int.reduceToNat, Int.reduceLE, Int.reduceLT, Int.reduceAdd, Int.reduceSub, Int.reduceMul, Int.cast_ofNat_Int, cast_zero_int, cast_one_int, Nat.reducePow, Nat.reduceEqDiff, Nat.reduceMod, Nat.zero_add, Nat.sub_zero, Nat.add_zero, e1, e12, e13, e14]
    refine .intro (fun h1 => ?_) (fun h1 => ?_)
    · have hlt : i < L.length := by simpa using h1
      have hz : (i : Int) < L.length := by omega
      obtain ⟨id, off, k, hv, _, _, hk0, hd, _, hat⟩ := s.at (Nat.zero_lt_of_lt hlt)
      obtain rfl : a = some ⟨id, off, none⟩ := by simpa using hv
      have hk : hget H id = some k := by rw [hget_prefix hpre (hget_lt hk0)]; exact hk0
      obtain ⟨w, hw, sw⟩ := hat i hlt
      obtain ⟨aw, rfl⟩ := sw.len
      have hg : L.getD i [] = L[i] := by simp [List.getD, hlt]
      have stop : ∀ T : Heap, h <+: T → ¬ okAt L i → (∃ w, Value.tuple #[.agg #[.int .i64 0, .slice none 0 0], .bool false] = .tuple #[w, .bool (decide (unpOk f L))] ∧ FA h.length T.length T w (if unpOk f L then f else 0) (if unpOk f L then valsU L L.length else [])) ∧ h <+: T := fun T hT hn => by
        have hn' := unpOk_not (f := f) hlt hn
        exact ⟨⟨_, by rw [decide_eq_false hn'], _, by rw [if_neg hn'], by rw [if_neg hn']; exact .nil⟩, hT⟩
      simp only [go_sem, Nat.reduceBEq, Nat.reduceAdd, Nat.reduceMul, Nat.reduceSub, Nat.reduceLeDiff, Nat.le_refl, implies_true, Nat.reduceLT, reduceIte, decide_true, decide_false, true_and, and_true, reduceCtorEq, Nat.mul_one, Int.reduceToNat, Int.reduceLE, Int.reduceLT, Int.reduceAdd, Int.reduceSub, Int.reduceMul, Int.cast_ofNat_Int, cast_zero_int, cast_one_int, Nat.reducePow, Nat.reduceEqDiff, Nat.reduceMod, Nat.zero_add, Nat.sub_zero, Nat.add_zero, e1, e12, e13, e14, hz, hk, hd, hw]
      by_cases h2 : L[i].length = 2
      · obtain ⟨x, y, hr⟩ : ∃ x y, L[i] = [x, y] := by
          match L[i], h2 with
          | [x, y], _ => exact ⟨x, y, rfl⟩
        rw [hr] at sw
        obtain ⟨id2, off2, k2, hv2, _, _, hk20, hd2, _, _, _, hat2⟩ := sw.at (by simp)
        obtain rfl : aw = some ⟨id2, off2, none⟩ := by
          simp only [hr, Value.slice.injEq, and_true] at hv2; exact hv2
        have hk2 : hget H id2 = some k2 := by rw [hget_prefix hpre (hget_lt hk20)]; exact hk20
        have a0 := hat2 0 (by simp)
        have a1 := hat2 1 (by simp)
        simp only [List.getElem_cons_zero, List.getElem_cons_succ, Nat.add_zero] at a0 a1
        have w0 : IntKind.i64.wrap (30 - ((valsU L i).length : Int)) = 30 - (valsU L i).length := wrap64 (by omega)
        have q2 : ((L[i].length : Int) != 2) = false := by rw [h2]; rfl
        have hiff := okAt_iff hlt hr
        simp only [go_sem, Nat.reduceBEq, Nat.reduceAdd, Nat.reduceMul, Nat.reduceSub, Nat.reduceLeDiff, Nat.le_refl, implies_true, Nat.reduceLT, reduceIte, decide_true, decide_false, true_and, and_true, reduceCtorEq, Nat.mul_one, Int.reduceToNat, Int.reduceLE, Int.reduceLT, Int.reduceAdd, Int.reduceSub, Int.reduceMul, Int.cast_ofNat_Int, cast_zero_int, cast_one_int, Nat.reducePow, Nat.reduceEqDiff, Nat.reduceMod, Nat.zero_add, Nat.sub_zero, Nat.add_zero, q2, h2, hk2, hd2, a0, a1, e6, hc2, w0]
        refine ⟨by kernel_rfl, (c_inside _ _ _).use (fun _ m => m) ?_⟩
        rintro _ _ ⟨rfl, rfl⟩
        by_cases h3 : 1 ≤ y ∧ y ≤ 30 - ((valsU L i).length : Int)
        · by_cases hi0 : i = 0
          · have hokI : okAt L i := hiff.2 ⟨h3, fun hh => absurd hh.1 (by omega)⟩
            simp only [go_sem, Nat.reduceBEq, Nat.reduceAdd, Nat.reduceMul, Nat.reduceSub, Nat.reduceLeDiff, Nat.le_refl, implies_true, Nat.reduceLT, reduceIte, decide_true, decide_false, true_and, and_true, reduceCtorEq, Nat.mul_one, Int.reduceToNat, Int.reduceLE, Int.reduceLT, Int.reduceAdd, Int.reduceSub, Int.reduceMul, Int.cast_ofNat_Int, cast_zero_int, cast_one_int, Nat.reducePow, Nat.reduceEqDiff, Nat.reduceMod, Nat.zero_add, Nat.sub_zero, Nat.add_zero, q2, h2, decb h3, hk2, hd2, a1, a0, e12, e13, e14, e4, e6, show ¬ (0 : Int) < (i : Int) by omega]
            refine vLoop.count mo y.toNat (fun m e' H' => ∃ b', e' 1 = .slice (some ⟨id, off, none⟩) L.length 0 ∧ e' 4 = .pointer (some ⟨h.length, 0, none⟩) ∧ e' 6 = .pointer (some ⟨h.length + 2, 0, none⟩) ∧ e' 8 = .slice (some ⟨id2, off2, none⟩) 2 0 ∧ e' 12 = .slice (some ⟨id, off, none⟩) L.length 0 ∧ e' 13 = .int .i64 L.length ∧ e' 14 = .int .i64 i ∧ e' 53 = .int .i64 y ∧ e' 54 = .int .i64 m ∧
                h <+: H' ∧ hget H' h.length = some ⟨[.int .i64 0, .slice none 0 0], 2, .rw⟩ ∧ hget H' (h.length + 2) = some ⟨[.int .i64 f, .slice b' ((valsU L i).length + m) 0], 2, .rw⟩ ∧ Wh (h.length + 1) (h.length + 2) H' b' (valsU L i ++ List.replicate m x)) ?_ ?_
            · exact ⟨b, e1, e4, e6, rfl, e12, e13, e14, rfl, rfl, hpre, hc0, hc2, by simpa using hW⟩
            · rintro m e' H' hm ⟨b', e1', e4', e6', e8', e12', e13', e14', e53', e54', hpre', hc0', hc2', hW'⟩
              have hlen : (valsU L i ++ List.replicate m x).length = (valsU L i).length + m := by simp
              simp only [go_sem, Nat.reduceBEq, Nat.reduceAdd, Nat.reduceMul, Nat.reduceSub, Nat.reduceLeDiff, Nat.le_refl, implies_true, Nat.reduceLT, reduceIte, decide_true, decide_false, true_and, and_true, reduceCtorEq, Nat.mul_one, Int.reduceToNat, Int.reduceLE, Int.reduceLT, Int.reduceAdd, Int.reduceSub, Int.reduceMul, Int.cast_ofNat_Int, cast_zero_int, cast_one_int, Nat.reducePow, Nat.reduceEqDiff, Nat.reduceMod, Nat.zero_add, Nat.sub_zero, Nat.add_zero, e53', e54']
              refine .intro (fun h6 => ?_) (fun h6 => ?_)
              · have hmy : (m : Int) < y := by simpa using h6
                have hk' : hget H' id = some k := by rw [hget_prefix hpre' (hget_lt hk0)]; exact hk0
                have hk2' : hget H' id2 = some k2 := by rw [hget_prefix hpre' (hget_lt hk20)]; exact hk20
                have hl2 := hget_lt hc2'
                have hrep : valsU L i ++ List.replicate (m + 1) x = (valsU L i ++ List.replicate m x) ++ [x] := by rw [List.append_assoc, List.replicate_succ']
                rcases hW' with ⟨rfl, hnil⟩ | ⟨oid, rfl, w1, w2, w3⟩
                · have hlen0 : (valsU L i).length + m = 0 := by rw [← hlen, hnil]; rfl
                  rw [hlen0] at hc2'
                  have hc2n : ∀ t, hget (H' ++ t) (h.length + 2) = _ := fun t => (hget_prefix (List.prefix_append _ t) (hget_lt hc2')).trans hc2'
                  simp only [go_sem, Nat.reduceBEq, Nat.reduceAdd, Nat.reduceMul, Nat.reduceSub, Nat.reduceLeDiff, Nat.le_refl, implies_true, Nat.reduceLT, reduceIte, decide_true, decide_false, true_and, and_true, reduceCtorEq, Nat.mul_one, Int.reduceToNat, Int.reduceLE, Int.reduceLT, Int.reduceAdd, Int.reduceSub, Int.reduceMul, Int.cast_ofNat_Int, cast_zero_int, cast_one_int, Nat.reducePow, Nat.reduceEqDiff, Nat.reduceMod, Nat.zero_add, Nat.sub_zero, Nat.add_zero, e1', e4', e6', e8', e12', e13', e14', e53', e54', hc2', hk2', hd2, a0, hc2n]
                  refine ⟨by omega, _, by rw [wrap64 (by omega)]; rfl, put_pre (hpre'.trans (List.prefix_append _ _)) (by omega), by rw [put_keep0 (hget_lt hc0') (by omega)]; exact hc0', by rw [show (valsU L i).length + (m + 1) = 1 by omega]; exact hget_set_same (by simp; omega), ?_⟩
                  rw [hrep, hnil]
                  exact wh_app0 hc2' (by omega)
                · have w3n : ∀ t, hget (H' ++ t) oid = _ := fun t => (hget_prefix (List.prefix_append _ t) (hget_lt w3)).trans w3
                  have hc2k : ∀ x b y, hget ((H' ++ x).set oid b ++ y) (h.length + 2) = _ := fun x b y => app_keep (u := H') hc2' w1 x y
                  have hown : own h.length M oid := Or.inl (by omega)
                  simp only [go_sem, Nat.reduceBEq, Nat.reduceAdd, Nat.reduceMul, Nat.reduceSub, Nat.reduceLeDiff, Nat.le_refl, implies_true, Nat.reduceLT, reduceIte, decide_true, decide_false, true_and, and_true, reduceCtorEq, Nat.mul_one, Int.reduceToNat, Int.reduceLE, Int.reduceLT, Int.reduceAdd, Int.reduceSub, Int.reduceMul, Int.cast_ofNat_Int, cast_zero_int, cast_one_int, Nat.reducePow, Nat.reduceEqDiff, Nat.reduceMod, Nat.zero_add, Nat.sub_zero, Nat.add_zero, e1', e4', e6', e8', e12', e13', e14', e53', e54', hc2', hk2', hd2, a0, w3, w3n, hc2k, hown, List.length_map, hlen, show (valsU L i).length + m + 1 ≤ 9223372036854775807 by omega, show ((valsU L i).length + m + 1) * 8 ≤ 140737488355328 by omega]
                  refine ⟨by omega, _, by rw [wrap64 (by omega)]; rfl, put_pre ((put_pre (hpre'.trans (List.prefix_append _ _)) (by omega)).trans (List.prefix_append _ _)) (by omega), by rw [put_keep (hget_lt hc0') (by omega) (by omega)]; exact hc0', hget_set_same (by simp; omega), ?_⟩
                  rw [hrep]
                  exact wh_app hc2' w1 (by omega)
              · obtain rfl : m = y.toNat := by have : ¬ (m : Int) < y := by simpa using h6
                                               omega
                have hvs := valsU_succ hlt hr
                simp only [go_sem, Nat.reduceBEq, Nat.reduceAdd, Nat.reduceMul, Nat.reduceSub, Nat.reduceLeDiff, Nat.le_refl, implies_true, Nat.reduceLT, reduceIte, decide_true, decide_false, true_and, and_true, reduceCtorEq, Nat.mul_one, Int.reduceToNat, Int.reduceLE, Int.reduceLT, Int.reduceAdd, Int.reduceSub, Int.reduceMul, Int.cast_ofNat_Int, cast_zero_int, cast_one_int, Nat.reducePow, Nat.reduceEqDiff, Nat.reduceMod, Nat.zero_add, Nat.sub_zero, Nat.add_zero, e1', e4', e6', e12', e13', e14']
                refine ⟨hlt, b', by rw [wrap64 (by omega)]; rfl, hpre', hc0', by rw [hvs, hlen]; exact hc2', by rw [hvs]; exact hW', fun j hj => ?_, by rw [hvs, hlen]; omega⟩
                by_cases hj' : j = i
                · rw [hj']; exact hokI
                · exact hok j (by omega)
          · have hp : i - 1 < L.length := by omega
            obtain ⟨x', y', hr'⟩ := okAt_len hp (hok (i - 1) (by omega))
            obtain ⟨w', hw', sw'⟩ := hat (i - 1) hp
            obtain ⟨aw', rfl⟩ := sw'.len
            rw [hr'] at sw' hw'
            obtain ⟨id3, off3, k3, hv3, _, _, hk30, hd3, _, _, _, hat3⟩ := sw'.at (by simp)
            obtain rfl : aw' = some ⟨id3, off3, none⟩ := by
              simp only [Value.slice.injEq, and_true] at hv3; exact hv3
            have hk3 : hget H id3 = some k3 := by rw [hget_prefix hpre (hget_lt hk30)]; exact hk30
            have b0 := hat3 0 (by simp)
            simp only [List.getElem_cons_zero, Nat.add_zero] at b0
            have q4 : IntKind.i64.wrap ((i : Int) - 1) = ((i - 1 : Nat) : Int) := by rw [wrap64 (by omega)]; omega
            have q5 : ((i - 1 : Nat) : Int) < L.length := by omega
            have hgp : (L.getD (i - 1) []).getD 0 0 = x' := by rw [show L.getD (i - 1) [] = L[i - 1] by simp [List.getD, hp], hr']; rfl
            simp only [go_sem, Nat.reduceBEq, Nat.reduceAdd, Nat.reduceMul, Nat.reduceSub, Nat.reduceLeDiff, Nat.le_refl, implies_true, Nat.reduceLT, reduceIte, decide_true, decide_false, true_and, and_true, reduceCtorEq, Nat.mul_one, Int.reduceToNat, Int.reduceLE, Int.reduceLT, Int.reduceAdd, Int.reduceSub, Int.reduceMul, Int.cast_ofNat_Int, cast_zero_int, cast_one_int, Nat.reducePow, Nat.reduceEqDiff, Nat.reduceMod, Nat.zero_add, Nat.sub_zero, Nat.add_zero, q2, h2, decb h3, hk, hd, hw', hk2, hd2, a1, a0, hk3, hd3, b0, e1, e12, e13, e14, e4, e6, q4, q5, List.length_cons, List.length_nil, show (0 : Int) < (i : Int) by omega]
            by_cases h5 : x' = x
            · simp only [go_sem, Nat.reduceBEq, Nat.reduceAdd, Nat.reduceMul, Nat.reduceSub, Nat.reduceLeDiff, Nat.le_refl, implies_true, Nat.reduceLT, reduceIte, decide_true, decide_false, true_and, and_true, reduceCtorEq, Nat.mul_one, Int.reduceToNat, Int.reduceLE, Int.reduceLT, Int.reduceAdd, Int.reduceSub, Int.reduceMul, Int.cast_ofNat_Int, cast_zero_int, cast_one_int, Nat.reducePow, Nat.reduceEqDiff, Nat.reduceMod, Nat.zero_add, Nat.sub_zero, Nat.add_zero, show (x' == x) = true by simpa using h5, q2, h2, e4, e6, hc0, hs0]
              exact stop _ (put_pre hpre (by omega)) fun hh => (hiff.1 hh).2 ⟨by omega, hgp.trans h5⟩
            · have hokI : okAt L i := hiff.2 ⟨h3, fun hh => h5 (by rw [← hgp]; exact hh.2)⟩
              simp only [go_sem, Nat.reduceBEq, Nat.reduceAdd, Nat.reduceMul, Nat.reduceSub, Nat.reduceLeDiff, Nat.le_refl, implies_true, Nat.reduceLT, reduceIte, decide_true, decide_false, true_and, and_true, reduceCtorEq, Nat.mul_one, Int.reduceToNat, Int.reduceLE, Int.reduceLT, Int.reduceAdd, Int.reduceSub, Int.reduceMul, Int.cast_ofNat_Int, cast_zero_int, cast_one_int, Nat.reducePow, Nat.reduceEqDiff, Nat.reduceMod, Nat.zero_add, Nat.sub_zero, Nat.add_zero, show (x' == x) = false by simpa using h5, q2, h2, hk2, hd2, a1, a0, e12, e13, e14, e4, e6]
              refine vLoop.count mo y.toNat (fun m e' H' => ∃ b', e' 1 = .slice (some ⟨id, off, none⟩) L.length 0 ∧ e' 4 = .pointer (some ⟨h.length, 0, none⟩) ∧ e' 6 = .pointer (some ⟨h.length + 2, 0, none⟩) ∧ e' 8 = .slice (some ⟨id2, off2, none⟩) 2 0 ∧ e' 12 = .slice (some ⟨id, off, none⟩) L.length 0 ∧ e' 13 = .int .i64 L.length ∧ e' 14 = .int .i64 i ∧ e' 53 = .int .i64 y ∧ e' 54 = .int .i64 m ∧
                  h <+: H' ∧ hget H' h.length = some ⟨[.int .i64 0, .slice none 0 0], 2, .rw⟩ ∧ hget H' (h.length + 2) = some ⟨[.int .i64 f, .slice b' ((valsU L i).length + m) 0], 2, .rw⟩ ∧ Wh (h.length + 1) (h.length + 2) H' b' (valsU L i ++ List.replicate m x)) ?_ ?_
              · exact ⟨b, e1, e4, e6, rfl, e12, e13, e14, rfl, rfl, hpre, hc0, hc2, by simpa using hW⟩
              · rintro m e' H' hm ⟨b', e1', e4', e6', e8', e12', e13', e14', e53', e54', hpre', hc0', hc2', hW'⟩
                have hlen : (valsU L i ++ List.replicate m x).length = (valsU L i).length + m := by simp
                simp only [go_sem, Nat.reduceBEq, Nat.reduceAdd, Nat.reduceMul, Nat.reduceSub, Nat.reduceLeDiff, Nat.le_refl, implies_true, Nat.reduceLT, reduceIte, decide_true, decide_false, true_and, and_true, reduceCtorEq, Nat.mul_one, Int.reduceToNat, Int.reduceLE, Int.reduceLT, Int.reduceAdd, Int.reduceSub, Int.reduceMul, Int.cast_ofNat_Int, cast_zero_int, cast_one_int, Nat.reducePow, Nat.reduceEqDiff, Nat.reduceMod, Nat.zero_add, Nat.sub_zero, Nat.add_zero, e53', e54']
                refine .intro (fun h6 => ?_) (fun h6 => ?_)
                · have hmy : (m : Int) < y := by simpa using h6
                  have hk' : hget H' id = some k := by rw [hget_prefix hpre' (hget_lt hk0)]; exact hk0
                  have hk2' : hget H' id2 = some k2 := by rw [hget_prefix hpre' (hget_lt hk20)]; exact hk20
                  have hl2 := hget_lt hc2'
                  have hrep : valsU L i ++ List.replicate (m + 1) x = (valsU L i ++ List.replicate m x) ++ [x] := by rw [List.append_assoc, List.replicate_succ']
                  rcases hW' with ⟨rfl, hnil⟩ | ⟨oid, rfl, w1, w2, w3⟩
                  · have hlen0 : (valsU L i).length + m = 0 := by rw [← hlen, hnil]; rfl
                    rw [hlen0] at hc2'
                    have hc2n : ∀ t, hget (H' ++ t) (h.length + 2) = _ := fun t => (hget_prefix (List.prefix_append _ t) (hget_lt hc2')).trans hc2'
                    simp only [go_sem, Nat.reduceBEq, Nat.reduceAdd, Nat.reduceMul, Nat.reduceSub, Nat.reduceLeDiff, Nat.le_refl, implies_true, Nat.reduceLT, reduceIte, decide_true, decide_false, true_and, and_true, reduceCtorEq, Nat.mul_one, Int.reduceToNat, Int.reduceLE, Int.reduceLT, Int.reduceAdd, Int.reduceSub, Int.reduceMul, Int.cast_ofNat_Int, cast_zero_int, cast_one_int, Nat.reducePow, Nat.reduceEqDiff, Nat.reduceMod, Nat.zero_add, Nat.sub_zero, Nat.add_zero, e1', e4', e6', e8', e12', e13', e14', e53', e54', hc2', hk2', hd2, a0, hc2n]
                    refine ⟨by omega, _, by rw [wrap64 (by omega)]; rfl, put_pre (hpre'.trans (List.prefix_append _ _)) (by omega), by rw [put_keep0 (hget_lt hc0') (by omega)]; exact hc0', by rw [show (valsU L i).length + (m + 1) = 1 by omega]; exact hget_set_same (by simp; omega), ?_⟩
                    rw [hrep, hnil]
                    exact wh_app0 hc2' (by omega)
                  · have w3n : ∀ t, hget (H' ++ t) oid = _ := fun t => (hget_prefix (List.prefix_append _ t) (hget_lt w3)).trans w3
                    have hc2k : ∀ x b y, hget ((H' ++ x).set oid b ++ y) (h.length + 2) = _ := fun x b y => app_keep (u := H') hc2' w1 x y
                    have hown : own h.length M oid := Or.inl (by omega)
                    simp only [go_sem, Nat.reduceBEq, Nat.reduceAdd, Nat.reduceMul, Nat.reduceSub, Nat.reduceLeDiff, Nat.le_refl, implies_true, Nat.reduceLT, reduceIte, decide_true, decide_false, true_and, and_true, reduceCtorEq, Nat.mul_one, Int.reduceToNat, Int.reduceLE, Int.reduceLT, Int.reduceAdd, Int.reduceSub, Int.reduceMul, Int.cast_ofNat_Int, cast_zero_int, cast_one_int, Nat.reducePow, Nat.reduceEqDiff, Nat.reduceMod, Nat.zero_add, Nat.sub_zero, Nat.add_zero, e1', e4', e6', e8', e12', e13', e14', e53', e54', hc2', hk2', hd2, a0, w3, w3n, hc2k, hown, List.length_map, hlen, show (valsU L i).length + m + 1 ≤ 9223372036854775807 by omega, show ((valsU L i).length + m + 1) * 8 ≤ 140737488355328 by omega]
                    refine ⟨by omega, _, by rw [wrap64 (by omega)]; rfl, put_pre ((put_pre (hpre'.trans (List.prefix_append _ _)) (by omega)).trans (List.prefix_append _ _)) (by omega), by rw [put_keep (hget_lt hc0') (by omega) (by omega)]; exact hc0', hget_set_same (by simp; omega), ?_⟩
                    rw [hrep]
                    exact wh_app hc2' w1 (by omega)
                · obtain rfl : m = y.toNat := by have : ¬ (m : Int) < y := by simpa using h6
                                                 omega
                  have hvs := valsU_succ hlt hr
                  simp only [go_sem, Nat.reduceBEq, Nat.reduceAdd, Nat.reduceMul, Nat.reduceSub, Nat.reduceLeDiff, Nat.le_refl, implies_true, Nat.reduceLT, reduceIte, decide_true, decide_false, true_and, and_true, reduceCtorEq, Nat.mul_one, Int.reduceToNat, Int.reduceLE, Int.reduceLT, Int.reduceAdd, Int.reduceSub, Int.reduceMul, Int.cast_ofNat_Int, cast_zero_int, cast_one_int, Nat.reducePow, Nat.reduceEqDiff, Nat.reduceMod, Nat.zero_add, Nat.sub_zero, Nat.add_zero, e1', e4', e6', e12', e13', e14']
                  refine ⟨hlt, b', by rw [wrap64 (by omega)]; rfl, hpre', hc0', by rw [hvs, hlen]; exact hc2', by rw [hvs]; exact hW', fun j hj => ?_, by rw [hvs, hlen]; omega⟩
                  by_cases hj' : j = i
                  · rw [hj']; exact hokI
                  · exact hok j (by omega)
        · simp only [go_sem, Nat.reduceBEq, Nat.reduceAdd, Nat.reduceMul, Nat.reduceSub, Nat.reduceLeDiff, Nat.le_refl, implies_true, Nat.reduceLT, reduceIte, decide_true, decide_false, true_and, and_true, reduceCtorEq, Nat.mul_one, Int.reduceToNat, Int.reduceLE, Int.reduceLT, Int.reduceAdd, Int.reduceSub, Int.reduceMul, Int.cast_ofNat_Int, cast_zero_int, cast_one_int, Nat.reducePow, Nat.reduceEqDiff, Nat.reduceMod, Nat.zero_add, Nat.sub_zero, Nat.add_zero, q2, h2, dect h3, e4, hc0, hs0]
          exact stop _ (put_pre hpre (by omega)) fun hh => h3 (hiff.1 hh).1
      · simp only [go_sem, Nat.reduceBEq, Nat.reduceAdd, Nat.reduceMul, Nat.reduceSub, Nat.reduceLeDiff, Nat.le_refl, implies_true, Nat.reduceLT, reduceIte, decide_true, decide_false, true_and, and_true, reduceCtorEq, Nat.mul_one, Int.reduceToNat, Int.reduceLE, Int.reduceLT, Int.reduceAdd, Int.reduceSub, Int.reduceMul, Int.cast_ofNat_Int, cast_zero_int, cast_one_int, Nat.reducePow, Nat.reduceEqDiff, Nat.reduceMod, Nat.zero_add, Nat.sub_zero, Nat.add_zero, show ((L[i].length : Int) != 2) = true by simp; omega, e4, hc0, hs0]
        exact stop _ (put_pre hpre (by omega)) fun hh => h2 (by rw [← hg]; exact hh.1)
    · simp only [go_sem, Nat.reduceBEq, Nat.reduceAdd, Nat.reduceMul, Nat.reduceSub, Nat.reduceLeDiff, Nat.le_refl, implies_true, Nat.reduceLT, reduceIte, decide_true, decide_false, true_and, and_true, reduceCtorEq, Nat.mul_one, Int.reduceToNat, Int.reduceLE, Int.reduceLT, Int.reduceAdd, Int.reduceSub, Int.reduceMul, Int.cast_ofNat_Int, cast_zero_int, cast_one_int, Nat.reducePow, Nat.reduceEqDiff, Nat.reduceMod, Nat.zero_add, Nat.sub_zero, Nat.add_zero, e4, e6, hc2]
      obtain rfl : i = L.length := by have : ¬ i < L.length := by simpa using h1
                                      omega
      have hfi : FI (h.length + 1) H.length H (.slice b (valsU L L.length).length 0) (valsU L L.length) := hW.fi rfl
      refine ⟨by kernel_rfl, (c_asArchive _ f (valsU L L.length) ⟨_, rfl, hfi.ai⟩ (by omega)).use (fun _ m => m) ?_⟩
      rintro _ _ ⟨rfl, ⟨t, rfl⟩⟩
      have hc0' : ∀ t, hget (H ++ t) h.length = _ := fun t => (hget_prefix (List.prefix_append _ t) (hget_lt hc0)).trans hc0
      by_cases h3 : arGood f (valsU L L.length)
      · have hn : unpOk f L := ⟨hok, h3⟩
        simp only [go_sem, Nat.reduceBEq, Nat.reduceAdd, Nat.reduceMul, Nat.reduceSub, Nat.reduceLeDiff, Nat.le_refl, implies_true, Nat.reduceLT, reduceIte, decide_true, decide_false, true_and, and_true, reduceCtorEq, Nat.mul_one, Int.reduceToNat, Int.reduceLE, Int.reduceLT, Int.reduceAdd, Int.reduceSub, Int.reduceMul, Int.cast_ofNat_Int, cast_zero_int, cast_one_int, Nat.reducePow, Nat.reduceEqDiff, Nat.reduceMod, Nat.zero_add, Nat.sub_zero, Nat.add_zero, e4, if_pos h3, decb h3, hc0', hs]
        exact ⟨⟨_, by rw [decide_eq_true hn], _, by rw [if_pos hn], by rw [if_pos hn]; exact ((hfi.mono (List.prefix_append _ t)).agr (Agr.set (lo := h.length) (hi := h.length + 1) (Nat.le_refl _) (by omega)) (.inr (Nat.le_refl _))).wide (by omega) (by simp)⟩, put_pre (hpre.trans (List.prefix_append _ _)) (by omega)⟩
      · have hn : ¬ unpOk f L := fun hh => h3 hh.2
        simp only [go_sem, Nat.reduceBEq, Nat.reduceAdd, Nat.reduceMul, Nat.reduceSub, Nat.reduceLeDiff, Nat.le_refl, implies_true, Nat.reduceLT, reduceIte, decide_true, decide_false, true_and, and_true, reduceCtorEq, Nat.mul_one, Int.reduceToNat, Int.reduceLE, Int.reduceLT, Int.reduceAdd, Int.reduceSub, Int.reduceMul, Int.cast_ofNat_Int, cast_zero_int, cast_one_int, Nat.reducePow, Nat.reduceEqDiff, Nat.reduceMod, Nat.zero_add, Nat.sub_zero, Nat.add_zero, e4, if_neg h3, dect h3, hc0', hs]
        exact ⟨⟨_, by rw [decide_eq_false hn], _, by rw [if_neg hn], by rw [if_neg hn]; exact .nil⟩, put_pre (hpre.trans (List.prefix_append _ _)) (by omega)⟩

theorem c_sUnpackArchive {n : Nat} (f : Int) (v : Value) (L : List (List Int)) (s : AS n h v L) (hmax : L.length + tot L L.length ≤ 1048576) : vCall [] Try.prog M 28 [.int .i64 f, v] h (fun r h' =>
    (∃ w, r = .tuple #[w, .bool (decide (unpOk f L))] ∧ FA h.length h'.length h' w (if unpOk f L then f else 0) (if unpOk f L then valsU L L.length else [])) ∧ h <+: h') := by
  obtain ⟨a, rfl⟩ := s.len
  refine body_of mo Try.func28 rfl (by kernel_rfl) (Nat.le_of_ble_eq_true (by kernel_rfl)) rfl ?_
  simp only [go_sem, Nat.reduceBEq, Nat.reduceAdd, Nat.reduceMul, Nat.reduceSub, Nat.reduceLeDiff, Nat.le_refl, implies_true, Nat.reduceLT, reduceIte, decide_true, decide_false, true_and, and_true, reduceCtorEq, Nat.mul_one, Int.reduceToNat, Int.reduceLE, Int.reduceLT, Int.reduceAdd, Int.reduceSub, Int.reduceMul, Int.cast_ofNat_Int, cast_zero_int, cast_one_int, Nat.reducePow, Nat.reduceEqDiff, Nat.reduceMod, Nat.zero_add, Nat.sub_zero, Nat.add_zero]
  refine vLoop.count mo L.length (fun i e H => ∃ (b : Option Addr), e 1 = .slice a L.length 0 ∧ e 4 = .pointer (some ⟨h.length, 0, none⟩) ∧ e 6 = .pointer (some ⟨h.length + 1, 0, none⟩) ∧ e 7 = .int .i64 i ∧
      h <+: H ∧ hget H h.length = some ⟨[.int .i64 0, .slice none 0 0], 2, .rw⟩ ∧ hget H (h.length + 1) = some ⟨[.int .i64 f, .slice b (valsU L i).length 0], 2, .rw⟩ ∧ Wh (h.length + 1) (h.length + 1) H b (valsU L i) ∧ (∀ j, j < i → okAt L j) ∧ (valsU L i).length ≤ 30) ?_ ?_
  · exact ⟨none, rfl, rfl, rfl, rfl, by simp, by simp [hget], by simp [hget, valsU], .inl ⟨rfl, by simp [valsU]⟩, fun j hj => absurd hj (by omega), by simp [valsU]⟩
  · rintro i e H hi ⟨b, e1, e4, e6, e7, hpre, hc0, hc2, hW, hok, hb⟩
    have hs : ∀ t b, hget ((H ++ t).set h.length b) h.length = some b := fun t b => hget_set_same (by have := hget_lt hc0; simp; omega)
    have hs0 : ∀ b, hget (H.set h.length b) h.length = some b := fun b => hget_set_same (hget_lt hc0)
    simp only [go_sem, Nat.reduceBEq, Nat.reduceAdd, Nat.reduceMul, Nat.reduceSub, Nat.reduceLeDiff, Nat.le_refl, implies_true, Nat.reduceLT, reduceIte, decide_true, decide_false, true_and, and_true, reduceCtorEq, Nat.mul_one, Int.reduceToNat, Int.reduceLE, Int.reduceLT, Int.reduceAdd, Int.reduceSub, Int.reduceMul, Int.cast_ofNat_Int, cast_zero_int, cast_one_int, Nat.reducePow, Nat.reduceEqDiff, Nat.reduceMod, Nat.zero_add, Nat.sub_zero, Nat.add_zero, e1, e7]
    refine .intro (fun h1 => ?_) (fun h1 => ?_)
    · have hlt : i < L.length := by simpa using h1
      have hz : (i : Int) < L.length := by omega
      obtain ⟨id, off, k, hv, _, _, hk0, hd, _, hat⟩ := s.at (Nat.zero_lt_of_lt hlt)
      obtain rfl : a = some ⟨id, off, none⟩ := by simpa using hv
      have hk : hget H id = some k := by rw [hget_prefix hpre (hget_lt hk0)]; exact hk0
      obtain ⟨w, hw, sw⟩ := hat i hlt
      obtain ⟨aw, rfl⟩ := sw.len
      have hg : L.getD i [] = L[i] := by simp [List.getD, hlt]
      have stop : ∀ T : Heap, h <+: T → ¬ okAt L i → (∃ w, Value.tuple #[.agg #[.int .i64 0, .slice none 0 0], .bool false] = .tuple #[w, .bool (decide (unpOk f L))] ∧ FA h.length T.length T w (if unpOk f L then f else 0) (if unpOk f L then valsU L L.length else [])) ∧ h <+: T := fun T hT hn => by
        have hn' := unpOk_not (f := f) hlt hn
        exact ⟨⟨_, by rw [decide_eq_false hn'], _, by rw [if_neg hn'], by rw [if_neg hn']; exact .nil⟩, hT⟩
      simp only [go_sem, Nat.reduceBEq, Nat.reduceAdd, Nat.reduceMul, Nat.reduceSub, Nat.reduceLeDiff, Nat.le_refl, implies_true, Nat.reduceLT, reduceIte, decide_true, decide_false, true_and, and_true, reduceCtorEq, Nat.mul_one, Int.reduceToNat, Int.reduceLE, Int.reduceLT, Int.reduceAdd, Int.reduceSub, Int.reduceMul, Int.cast_ofNat_Int, cast_zero_int, cast_one_int, Nat.reducePow, Nat.reduceEqDiff, Nat.reduceMod, Nat.zero_add, Nat.sub_zero, Nat.add_zero, e1, e7, hz, hk, hd, hw]
      by_cases h2 : L[i].length = 2
      · obtain ⟨x, y, hr⟩ : ∃ x y, L[i] = [x, y] := by
          match L[i], h2 with
          | [x, y], _ => exact ⟨x, y, rfl⟩
        rw [hr] at sw
        obtain ⟨id2, off2, k2, hv2, _, _, hk20, hd2, _, _, _, hat2⟩ := sw.at (by simp)
        obtain rfl : aw = some ⟨id2, off2, none⟩ := by
          simp only [hr, Value.slice.injEq, and_true] at hv2; exact hv2
        have hk2 : hget H id2 = some k2 := by rw [hget_prefix hpre (hget_lt hk20)]; exact hk20
        have a0 := hat2 0 (by simp)
        have a1 := hat2 1 (by simp)
        simp only [List.getElem_cons_zero, List.getElem_cons_succ, Nat.add_zero] at a0 a1
        have q2 : ((L[i].length : Int) != 2) = false := by rw [h2]; rfl
        have hiff := okAt_iff hlt hr
        simp only [go_sem, Nat.reduceBEq, Nat.reduceAdd, Nat.reduceMul, Nat.reduceSub, Nat.reduceLeDiff, Nat.le_refl, implies_true, Nat.reduceLT, reduceIte, decide_true, decide_false, true_and, and_true, reduceCtorEq, Nat.mul_one, Int.reduceToNat, Int.reduceLE, Int.reduceLT, Int.reduceAdd, Int.reduceSub, Int.reduceMul, Int.cast_ofNat_Int, cast_zero_int, cast_one_int, Nat.reducePow, Nat.reduceEqDiff, Nat.reduceMod, Nat.zero_add, Nat.sub_zero, Nat.add_zero, q2, h2, hk2, hd2, a0, a1, e1, e7, hz, hk, hd, hw]
        refine ⟨by kernel_rfl, (c_l1In _ _ _).use (fun _ m => m) ?_⟩
        rintro _ _ ⟨rfl, rfl⟩
        by_cases h3 : 1 ≤ y ∧ y ≤ 30
        · by_cases hi0 : i = 0
          · have hprev : ¬ (0 < i ∧ (L.getD (i - 1) []).getD 0 0 = x) := fun hh => absurd hh.1 (by omega)
            simp only [go_sem, Nat.reduceBEq, Nat.reduceAdd, Nat.reduceMul, Nat.reduceSub, Nat.reduceLeDiff, Nat.le_refl, implies_true, Nat.reduceLT, reduceIte, decide_true, decide_false, true_and, and_true, reduceCtorEq, Nat.mul_one, Int.reduceToNat, Int.reduceLE, Int.reduceLT, Int.reduceAdd, Int.reduceSub, Int.reduceMul, Int.cast_ofNat_Int, cast_zero_int, cast_one_int, Nat.reducePow, Nat.reduceEqDiff, Nat.reduceMod, Nat.zero_add, Nat.sub_zero, Nat.add_zero, q2, h2, decb h3, hk2, hd2, a1, a0, e1, e4, e6, e7, hz, hk, hd, hw, show ¬ (0 : Int) < (i : Int) by omega]
            refine vLoop.count mo y.toNat (fun m e' H' => ∃ b', e' 1 = .slice (some ⟨id, off, none⟩) L.length 0 ∧ e' 4 = .pointer (some ⟨h.length, 0, none⟩) ∧ e' 6 = .pointer (some ⟨h.length + 1, 0, none⟩) ∧ e' 7 = .int .i64 i ∧ e' 8 = .int .i64 (y - m) ∧ (m : Int) ≤ y ∧
                h <+: H' ∧ hget H' h.length = some ⟨[.int .i64 0, .slice none 0 0], 2, .rw⟩ ∧ hget H' (h.length + 1) = some ⟨[.int .i64 f, .slice b' ((valsU L i).length + m) 0], 2, .rw⟩ ∧ Wh (h.length + 1) (h.length + 1) H' b' (valsU L i ++ List.replicate m x)) ?_ ?_
            · exact ⟨b, e1, e4, e6, e7, by simp [upd], by omega, hpre, hc0, hc2, by simpa using hW⟩
            · rintro m e' H' hm ⟨b', e1', e4', e6', e7', e8', hmy', hpre', hc0', hc2', hW'⟩
              have hlen : (valsU L i ++ List.replicate m x).length = (valsU L i).length + m := by simp
              simp only [go_sem, Nat.reduceBEq, Nat.reduceAdd, Nat.reduceMul, Nat.reduceSub, Nat.reduceLeDiff, Nat.le_refl, implies_true, Nat.reduceLT, reduceIte, decide_true, decide_false, true_and, and_true, reduceCtorEq, Nat.mul_one, Int.reduceToNat, Int.reduceLE, Int.reduceLT, Int.reduceAdd, Int.reduceSub, Int.reduceMul, Int.cast_ofNat_Int, cast_zero_int, cast_one_int, Nat.reducePow, Nat.reduceEqDiff, Nat.reduceMod, Nat.zero_add, Nat.sub_zero, Nat.add_zero, e8']
              refine .intro (fun h6 => ?_) (fun h6 => ?_)
              · have hmy : (m : Int) < y := by
                  have : 0 < y - (m : Int) := by simpa using h6
                  omega
                have hk' : hget H' id = some k := by rw [hget_prefix hpre' (hget_lt hk0)]; exact hk0
                have hk2' : hget H' id2 = some k2 := by rw [hget_prefix hpre' (hget_lt hk20)]; exact hk20
                have hl2 := hget_lt hc2'
                have hrep : valsU L i ++ List.replicate (m + 1) x = (valsU L i ++ List.replicate m x) ++ [x] := by rw [List.append_assoc, List.replicate_succ']
                rcases hW' with ⟨rfl, hnil⟩ | ⟨oid, rfl, w1, w2, w3⟩
                · have hlen0 : (valsU L i).length + m = 0 := by rw [← hlen, hnil]; rfl
                  rw [hlen0] at hc2'
                  have hc2n : ∀ t, hget (H' ++ t) (h.length + 1) = _ := fun t => (hget_prefix (List.prefix_append _ t) (hget_lt hc2')).trans hc2'
                  simp only [go_sem, Nat.reduceBEq, Nat.reduceAdd, Nat.reduceMul, Nat.reduceSub, Nat.reduceLeDiff, Nat.le_refl, implies_true, Nat.reduceLT, reduceIte, decide_true, decide_false, true_and, and_true, reduceCtorEq, Nat.mul_one, Int.reduceToNat, Int.reduceLE, Int.reduceLT, Int.reduceAdd, Int.reduceSub, Int.reduceMul, Int.cast_ofNat_Int, cast_zero_int, cast_one_int, Nat.reducePow, Nat.reduceEqDiff, Nat.reduceMod, Nat.zero_add, Nat.sub_zero, Nat.add_zero, e1', e4', e6', e7', e8', hz, hk', hd, hw, h2, hc2', hk2', hd2, a0, hc2n]
                  refine ⟨by omega, _, by rw [wrap64 (by omega)]; congr 1; omega, by omega, put_pre (hpre'.trans (List.prefix_append _ _)) (by omega), by rw [put_keep0 (hget_lt hc0') (by omega)]; exact hc0', by rw [show (valsU L i).length + (m + 1) = 1 by omega]; exact hget_set_same (by simp; omega), ?_⟩
                  rw [hrep, hnil]
                  exact wh_app0 hc2' (by omega)
                · have w3n : ∀ t, hget (H' ++ t) oid = _ := fun t => (hget_prefix (List.prefix_append _ t) (hget_lt w3)).trans w3
                  have hc2k : ∀ x b y, hget ((H' ++ x).set oid b ++ y) (h.length + 1) = _ := fun x b y => app_keep (u := H') hc2' w1 x y
                  have hown : own h.length M oid := Or.inl (by omega)
                  simp only [go_sem, Nat.reduceBEq, Nat.reduceAdd, Nat.reduceMul, Nat.reduceSub, Nat.reduceLeDiff, Nat.le_refl, implies_true, Nat.reduceLT, reduceIte, decide_true, decide_false, true_and, and_true, reduceCtorEq, Nat.mul_one, Int.reduceToNat, Int.reduceLE, Int.reduceLT, Int.reduceAdd, Int.reduceSub, Int.reduceMul, Int.cast_ofNat_Int, cast_zero_int, cast_one_int, Nat.reducePow, Nat.reduceEqDiff, Nat.reduceMod, Nat.zero_add, Nat.sub_zero, Nat.add_zero, e1', e4', e6', e7', e8', hz, hk', hd, hw, h2, hc2', hk2', hd2, a0, w3, w3n, hc2k, hown, List.length_map, hlen, show (valsU L i).length + m + 1 ≤ 9223372036854775807 by omega, show ((valsU L i).length + m + 1) * 8 ≤ 140737488355328 by omega]
                  refine ⟨by omega, _, by rw [wrap64 (by omega)]; congr 1; omega, by omega, put_pre ((put_pre (hpre'.trans (List.prefix_append _ _)) (by omega)).trans (List.prefix_append _ _)) (by omega), by rw [put_keep (hget_lt hc0') (by omega) (by omega)]; exact hc0', hget_set_same (by simp; omega), ?_⟩
                  rw [hrep]
                  exact wh_app hc2' w1 (by omega)
              · obtain rfl : m = y.toNat := by have : ¬ (0 : Int) < y - m := by simpa using h6
                                               omega
                have hvs := valsU_succ hlt hr
                have hs1 : ∀ b, hget (H'.set h.length b) h.length = some b := fun b => hget_set_same (hget_lt hc0')
                simp only [go_sem, Nat.reduceBEq, Nat.reduceAdd, Nat.reduceMul, Nat.reduceSub, Nat.reduceLeDiff, Nat.le_refl, implies_true, Nat.reduceLT, reduceIte, decide_true, decide_false, true_and, and_true, reduceCtorEq, Nat.mul_one, Int.reduceToNat, Int.reduceLE, Int.reduceLT, Int.reduceAdd, Int.reduceSub, Int.reduceMul, Int.cast_ofNat_Int, cast_zero_int, cast_one_int, Nat.reducePow, Nat.reduceEqDiff, Nat.reduceMod, Nat.zero_add, Nat.sub_zero, Nat.add_zero, e1', e4', e6', e7', hc2']
                by_cases h30 : (30 : Int) < (((valsU L i).length + y.toNat : Nat) : Int)
                · simp only [go_sem, Nat.reduceBEq, Nat.reduceAdd, Nat.reduceMul, Nat.reduceSub, Nat.reduceLeDiff, Nat.le_refl, implies_true, Nat.reduceLT, reduceIte, decide_true, decide_false, true_and, and_true, reduceCtorEq, Nat.mul_one, Int.reduceToNat, Int.reduceLE, Int.reduceLT, Int.reduceAdd, Int.reduceSub, Int.reduceMul, Int.cast_ofNat_Int, cast_zero_int, cast_one_int, Nat.reducePow, Nat.reduceEqDiff, Nat.reduceMod, Nat.zero_add, Nat.sub_zero, Nat.add_zero, h30, e4', hc0', hs1]
                  exact stop _ (put_pre hpre' (by omega)) fun hh => by have := (hiff.1 hh).1; omega
                · simp only [go_sem, Nat.reduceBEq, Nat.reduceAdd, Nat.reduceMul, Nat.reduceSub, Nat.reduceLeDiff, Nat.le_refl, implies_true, Nat.reduceLT, reduceIte, decide_true, decide_false, true_and, and_true, reduceCtorEq, Nat.mul_one, Int.reduceToNat, Int.reduceLE, Int.reduceLT, Int.reduceAdd, Int.reduceSub, Int.reduceMul, Int.cast_ofNat_Int, cast_zero_int, cast_one_int, Nat.reducePow, Nat.reduceEqDiff, Nat.reduceMod, Nat.zero_add, Nat.sub_zero, Nat.add_zero, h30, e1', e4', e6', e7']
                  refine ⟨hlt, b', by rw [wrap64 (by omega)]; rfl, hpre', hc0', by rw [hvs, hlen]; exact hc2', by rw [hvs]; exact hW', fun j hj => ?_, by rw [hvs, hlen]; omega⟩
                  by_cases hj' : j = i
                  · rw [hj']; exact hiff.2 ⟨by omega, hprev⟩
                  · exact hok j (by omega)
          · have hp : i - 1 < L.length := by omega
            obtain ⟨x', y', hr'⟩ := okAt_len hp (hok (i - 1) (by omega))
            obtain ⟨w', hw', sw'⟩ := hat (i - 1) hp
            obtain ⟨aw', rfl⟩ := sw'.len
            rw [hr'] at sw' hw'
            obtain ⟨id3, off3, k3, hv3, _, _, hk30, hd3, _, _, _, hat3⟩ := sw'.at (by simp)
            obtain rfl : aw' = some ⟨id3, off3, none⟩ := by
              simp only [Value.slice.injEq, and_true] at hv3; exact hv3
            have hk3 : hget H id3 = some k3 := by rw [hget_prefix hpre (hget_lt hk30)]; exact hk30
            have b0 := hat3 0 (by simp)
            simp only [List.getElem_cons_zero, Nat.add_zero] at b0
            have q4 : IntKind.i64.wrap ((i : Int) - 1) = ((i - 1 : Nat) : Int) := by rw [wrap64 (by omega)]; omega
            have q5 : ((i - 1 : Nat) : Int) < L.length := by omega
            have hgp : (L.getD (i - 1) []).getD 0 0 = x' := by rw [show L.getD (i - 1) [] = L[i - 1] by simp [List.getD, hp], hr']; rfl
            simp only [go_sem, Nat.reduceBEq, Nat.reduceAdd, Nat.reduceMul, Nat.reduceSub, Nat.reduceLeDiff, Nat.le_refl, implies_true, Nat.reduceLT, reduceIte, decide_true, decide_false, true_and, and_true, reduceCtorEq, Nat.mul_one, Int.reduceToNat, Int.reduceLE, Int.reduceLT, Int.reduceAdd, Int.reduceSub, Int.reduceMul, Int.cast_ofNat_Int, cast_zero_int, cast_one_int, Nat.reducePow, Nat.reduceEqDiff, Nat.reduceMod, Nat.zero_add, Nat.sub_zero, Nat.add_zero, q2, h2, decb h3, hk, hd, hw', hk2, hd2, a1, a0, hk3, hd3, b0, e1, e4, e6, e7, hz, hw, q4, q5, List.length_cons, List.length_nil, show (0 : Int) < (i : Int) by omega]
            by_cases h5 : x' = x
            · simp only [go_sem, Nat.reduceBEq, Nat.reduceAdd, Nat.reduceMul, Nat.reduceSub, Nat.reduceLeDiff, Nat.le_refl, implies_true, Nat.reduceLT, reduceIte, decide_true, decide_false, true_and, and_true, reduceCtorEq, Nat.mul_one, Int.reduceToNat, Int.reduceLE, Int.reduceLT, Int.reduceAdd, Int.reduceSub, Int.reduceMul, Int.cast_ofNat_Int, cast_zero_int, cast_one_int, Nat.reducePow, Nat.reduceEqDiff, Nat.reduceMod, Nat.zero_add, Nat.sub_zero, Nat.add_zero, show (x' == x) = true by simpa using h5, q2, h2, e4, e6, hc0, hs0]
              exact stop _ (put_pre hpre (by omega)) fun hh => (hiff.1 hh).2 ⟨by omega, hgp.trans h5⟩
            · have hprev : ¬ (0 < i ∧ (L.getD (i - 1) []).getD 0 0 = x) := fun hh => h5 (by rw [← hgp]; exact hh.2)
              simp only [go_sem, Nat.reduceBEq, Nat.reduceAdd, Nat.reduceMul, Nat.reduceSub, Nat.reduceLeDiff, Nat.le_refl, implies_true, Nat.reduceLT, reduceIte, decide_true, decide_false, true_and, and_true, reduceCtorEq, Nat.mul_one, Int.reduceToNat, Int.reduceLE, Int.reduceLT, Int.reduceAdd, Int.reduceSub, Int.reduceMul, Int.cast_ofNat_Int, cast_zero_int, cast_one_int, Nat.reducePow, Nat.reduceEqDiff, Nat.reduceMod, Nat.zero_add, Nat.sub_zero, Nat.add_zero, show (x' == x) = false by simpa using h5, q2, h2, hk2, hd2, a1, a0, e1, e4, e6, e7, hz, hk, hd, hw]
              refine vLoop.count mo y.toNat (fun m e' H' => ∃ b', e' 1 = .slice (some ⟨id, off, none⟩) L.length 0 ∧ e' 4 = .pointer (some ⟨h.length, 0, none⟩) ∧ e' 6 = .pointer (some ⟨h.length + 1, 0, none⟩) ∧ e' 7 = .int .i64 i ∧ e' 8 = .int .i64 (y - m) ∧ (m : Int) ≤ y ∧
                  h <+: H' ∧ hget H' h.length = some ⟨[.int .i64 0, .slice none 0 0], 2, .rw⟩ ∧ hget H' (h.length + 1) = some ⟨[.int .i64 f, .slice b' ((valsU L i).length + m) 0], 2, .rw⟩ ∧ Wh (h.length + 1) (h.length + 1) H' b' (valsU L i ++ List.replicate m x)) ?_ ?_
              · exact ⟨b, e1, e4, e6, e7, by simp [upd], by omega, hpre, hc0, hc2, by simpa using hW⟩
              · rintro m e' H' hm ⟨b', e1', e4', e6', e7', e8', hmy', hpre', hc0', hc2', hW'⟩
                have hlen : (valsU L i ++ List.replicate m x).length = (valsU L i).length + m := by simp
                simp only [go_sem, Nat.reduceBEq, Nat.reduceAdd, Nat.reduceMul, Nat.reduceSub, Nat.reduceLeDiff, Nat.le_refl, implies_true, Nat.reduceLT, reduceIte, decide_true, decide_false, true_and, and_true, reduceCtorEq, Nat.mul_one, Int.reduceToNat, Int.reduceLE, Int.reduceLT, Int.reduceAdd, Int.reduceSub, Int.reduceMul, Int.cast_ofNat_Int, cast_zero_int, cast_one_int, Nat.reducePow, Nat.reduceEqDiff, Nat.reduceMod, Nat.zero_add, Nat.sub_zero, Nat.add_zero, e8']
                refine .intro (fun h6 => ?_) (fun h6 => ?_)
                · have hmy : (m : Int) < y := by
                    have : 0 < y - (m : Int) := by simpa using h6
                    omega
                  have hk' : hget H' id = some k := by rw [hget_prefix hpre' (hget_lt hk0)]; exact hk0
                  have hk2' : hget H' id2 = some k2 := by rw [hget_prefix hpre' (hget_lt hk20)]; exact hk20
                  have hl2 := hget_lt hc2'
                  have hrep : valsU L i ++ List.replicate (m + 1) x = (valsU L i ++ List.replicate m x) ++ [x] := by rw [List.append_assoc, List.replicate_succ']
                  rcases hW' with ⟨rfl, hnil⟩ | ⟨oid, rfl, w1, w2, w3⟩
                  · have hlen0 : (valsU L i).length + m = 0 := by rw [← hlen, hnil]; rfl
                    rw [hlen0] at hc2'
                    have hc2n : ∀ t, hget (H' ++ t) (h.length + 1) = _ := fun t => (hget_prefix (List.prefix_append _ t) (hget_lt hc2')).trans hc2'
                    simp only [go_sem, Nat.reduceBEq, Nat.reduceAdd, Nat.reduceMul, Nat.reduceSub, Nat.reduceLeDiff, Nat.le_refl, implies_true, Nat.reduceLT, reduceIte, decide_true, decide_false, true_and, and_true, reduceCtorEq, Nat.mul_one, Int.reduceToNat, Int.reduceLE, Int.reduceLT, Int.reduceAdd, Int.reduceSub, Int.reduceMul, Int.cast_ofNat_Int, cast_zero_int, cast_one_int, Nat.reducePow, Nat.reduceEqDiff, Nat.reduceMod, Nat.zero_add, Nat.sub_zero, Nat.add_zero, e1', e4', e6', e7', e8', hz, hk', hd, hw, h2, hc2', hk2', hd2, a0, hc2n]
                    refine ⟨by omega, _, by rw [wrap64 (by omega)]; congr 1; omega, by omega, put_pre (hpre'.trans (List.prefix_append _ _)) (by omega), by rw [put_keep0 (hget_lt hc0') (by omega)]; exact hc0', by rw [show (valsU L i).length + (m + 1) = 1 by omega]; exact hget_set_same (by simp; omega), ?_⟩
                    rw [hrep, hnil]
                    exact wh_app0 hc2' (by omega)
                  · have w3n : ∀ t, hget (H' ++ t) oid = _ := fun t => (hget_prefix (List.prefix_append _ t) (hget_lt w3)).trans w3
                    have hc2k : ∀ x b y, hget ((H' ++ x).set oid b ++ y) (h.length + 1) = _ := fun x b y => app_keep (u := H') hc2' w1 x y
                    have hown : own h.length M oid := Or.inl (by omega)
                    simp only [go_sem, Nat.reduceBEq, Nat.reduceAdd, Nat.reduceMul, Nat.reduceSub, Nat.reduceLeDiff, Nat.le_refl, implies_true, Nat.reduceLT, reduceIte, decide_true, decide_false, true_and, and_true, reduceCtorEq, Nat.mul_one, Int.reduceToNat, Int.reduceLE, Int.reduceLT, Int.reduceAdd, Int.reduceSub, Int.reduceMul, Int.cast_ofNat_Int, cast_zero_int, cast_one_int, Nat.reducePow, Nat.reduceEqDiff, Nat.reduceMod, Nat.zero_add, Nat.sub_zero, Nat.add_zero, e1', e4', e6', e7', e8', hz, hk', hd, hw, h2, hc2', hk2', hd2, a0, w3, w3n, hc2k, hown, List.length_map, hlen, show (valsU L i).length + m + 1 ≤ 9223372036854775807 by omega, show ((valsU L i).length + m + 1) * 8 ≤ 140737488355328 by omega]
                    refine ⟨by omega, _, by rw [wrap64 (by omega)]; congr 1; omega, by omega, put_pre ((put_pre (hpre'.trans (List.prefix_append _ _)) (by omega)).trans (List.prefix_append _ _)) (by omega), by rw [put_keep (hget_lt hc0') (by omega) (by omega)]; exact hc0', hget_set_same (by simp; omega), ?_⟩
                    rw [hrep]
                    exact wh_app hc2' w1 (by omega)
                · obtain rfl : m = y.toNat := by have : ¬ (0 : Int) < y - m := by simpa using h6
                                                 omega
                  have hvs := valsU_succ hlt hr
                  have hs1 : ∀ b, hget (H'.set h.length b) h.length = some b := fun b => hget_set_same (hget_lt hc0')
                  simp only [go_sem, Nat.reduceBEq, Nat.reduceAdd, Nat.reduceMul, Nat.reduceSub, Nat.reduceLeDiff, Nat.le_refl, implies_true, Nat.reduceLT, reduceIte, decide_true, decide_false, true_and, and_true, reduceCtorEq, Nat.mul_one, Int.reduceToNat, Int.reduceLE, Int.reduceLT, Int.reduceAdd, Int.reduceSub, Int.reduceMul, Int.cast_ofNat_Int, cast_zero_int, cast_one_int, Nat.reducePow, Nat.reduceEqDiff, Nat.reduceMod, Nat.zero_add, Nat.sub_zero, Nat.add_zero, e1', e4', e6', e7', hc2']
                  by_cases h30 : (30 : Int) < (((valsU L i).length + y.toNat : Nat) : Int)
                  · simp only [go_sem, Nat.reduceBEq, Nat.reduceAdd, Nat.reduceMul, Nat.reduceSub, Nat.reduceLeDiff, Nat.le_refl, implies_true, Nat.reduceLT, reduceIte, decide_true, decide_false, true_and, and_true, reduceCtorEq, Nat.mul_one, Int.reduceToNat, Int.reduceLE, Int.reduceLT, Int.reduceAdd, Int.reduceSub, Int.reduceMul, Int.cast_ofNat_Int, cast_zero_int, cast_one_int, Nat.reducePow, Nat.reduceEqDiff, Nat.reduceMod, Nat.zero_add, Nat.sub_zero, Nat.add_zero, h30, e4', hc0', hs1]
                    exact stop _ (put_pre hpre' (by omega)) fun hh => by have := (hiff.1 hh).1; omega
                  · simp only [go_sem, Nat.reduceBEq, Nat.reduceAdd, Nat.reduceMul, Nat.reduceSub, Nat.reduceLeDiff, Nat.le_refl, implies_true, Nat.reduceLT, reduceIte, decide_true, decide_false, true_and, and_true, reduceCtorEq, Nat.mul_one, Int.reduceToNat, Int.reduceLE, Int.reduceLT, Int.reduceAdd, Int.reduceSub, Int.reduceMul, Int.cast_ofNat_Int, cast_zero_int, cast_one_int, Nat.reducePow, Nat.reduceEqDiff, Nat.reduceMod, Nat.zero_add, Nat.sub_zero, Nat.add_zero, h30, e1', e4', e6', e7']
                    refine ⟨hlt, b', by rw [wrap64 (by omega)]; rfl, hpre', hc0', by rw [hvs, hlen]; exact hc2', by rw [hvs]; exact hW', fun j hj => ?_, by rw [hvs, hlen]; omega⟩
                    by_cases hj' : j = i
                    · rw [hj']; exact hiff.2 ⟨by omega, hprev⟩
                    · exact hok j (by omega)
        · simp only [go_sem, Nat.reduceBEq, Nat.reduceAdd, Nat.reduceMul, Nat.reduceSub, Nat.reduceLeDiff, Nat.le_refl, implies_true, Nat.reduceLT, reduceIte, decide_true, decide_false, true_and, and_true, reduceCtorEq, Nat.mul_one, Int.reduceToNat, Int.reduceLE, Int.reduceLT, Int.reduceAdd, Int.reduceSub, Int.reduceMul, Int.cast_ofNat_Int, cast_zero_int, cast_one_int, Nat.reducePow, Nat.reduceEqDiff, Nat.reduceMod, Nat.zero_add, Nat.sub_zero, Nat.add_zero, q2, h2, dect h3, e4, hc0, hs0]
          exact stop _ (put_pre hpre (by omega)) fun hh => h3 (by have := (hiff.1 hh).1; omega)
      · simp only [go_sem, Nat.reduceBEq, Nat.reduceAdd, Nat.reduceMul, Nat.reduceSub, Nat.reduceLeDiff, Nat.le_refl, implies_true, Nat.reduceLT, reduceIte, decide_true, decide_false, true_and, and_true, reduceCtorEq, Nat.mul_one, Int.reduceToNat, Int.reduceLE, Int.reduceLT, Int.reduceAdd, Int.reduceSub, Int.reduceMul, Int.cast_ofNat_Int, cast_zero_int, cast_one_int, Nat.reducePow, Nat.reduceEqDiff, Nat.reduceMod, Nat.zero_add, Nat.sub_zero, Nat.add_zero, show ((L[i].length : Int) != 2) = true by simp; omega, e4, hc0, hs0]
        exact stop _ (put_pre hpre (by omega)) fun hh => h2 (by rw [← hg]; exact hh.1)
    · simp only [go_sem, Nat.reduceBEq, Nat.reduceAdd, Nat.reduceMul, Nat.reduceSub, Nat.reduceLeDiff, Nat.le_refl, implies_true, Nat.reduceLT, reduceIte, decide_true, decide_false, true_and, and_true, reduceCtorEq, Nat.mul_one, Int.reduceToNat, Int.reduceLE, Int.reduceLT, Int.reduceAdd, Int.reduceSub, Int.reduceMul, Int.cast_ofNat_Int, cast_zero_int, cast_one_int, Nat.reducePow, Nat.reduceEqDiff, Nat.reduceMod, Nat.zero_add, Nat.sub_zero, Nat.add_zero, e4, e6, hc2]
      obtain rfl : i = L.length := by have : ¬ i < L.length := by simpa using h1
                                      omega
      have hfi : FI (h.length + 1) H.length H (.slice b (valsU L L.length).length 0) (valsU L L.length) := hW.fi rfl
      refine ⟨by kernel_rfl, (c_l26Good _ f (valsU L L.length) ⟨_, rfl, hfi.ai⟩ (by omega)).use (fun _ m => m) ?_⟩
      rintro _ _ ⟨rfl, ⟨t, rfl⟩⟩
      have hc0' : ∀ t, hget (H ++ t) h.length = _ := fun t => (hget_prefix (List.prefix_append _ t) (hget_lt hc0)).trans hc0
      have hc2' : ∀ t, hget (H ++ t) (h.length + 1) = _ := fun t => (hget_prefix (List.prefix_append _ t) (hget_lt hc2)).trans hc2
      by_cases h3 : arGood f (valsU L L.length)
      · have hn : unpOk f L := ⟨hok, h3⟩
        simp only [go_sem, Nat.reduceBEq, Nat.reduceAdd, Nat.reduceMul, Nat.reduceSub, Nat.reduceLeDiff, Nat.le_refl, implies_true, Nat.reduceLT, reduceIte, decide_true, decide_false, true_and, and_true, reduceCtorEq, Nat.mul_one, Int.reduceToNat, Int.reduceLE, Int.reduceLT, Int.reduceAdd, Int.reduceSub, Int.reduceMul, Int.cast_ofNat_Int, cast_zero_int, cast_one_int, Nat.reducePow, Nat.reduceEqDiff, Nat.reduceMod, Nat.zero_add, Nat.sub_zero, Nat.add_zero, e4, e6, decb h3, hc0', hc2', hs]
        exact ⟨⟨_, by rw [decide_eq_true hn], _, by rw [if_pos hn], by rw [if_pos hn]; exact ((hfi.mono (List.prefix_append _ t)).agr (Agr.set (lo := h.length) (hi := h.length + 1) (Nat.le_refl _) (by omega)) (.inr (Nat.le_refl _))).wide (by omega) (by simp)⟩, put_pre (hpre.trans (List.prefix_append _ _)) (by omega)⟩
      · have hn : ¬ unpOk f L := fun hh => h3 hh.2
        simp only [go_sem, Nat.reduceBEq, Nat.reduceAdd, Nat.reduceMul, Nat.reduceSub, Nat.reduceLeDiff, Nat.le_refl, implies_true, Nat.reduceLT, reduceIte, decide_true, decide_false, true_and, and_true, reduceCtorEq, Nat.mul_one, Int.reduceToNat, Int.reduceLE, Int.reduceLT, Int.reduceAdd, Int.reduceSub, Int.reduceMul, Int.cast_ofNat_Int, cast_zero_int, cast_one_int, Nat.reducePow, Nat.reduceEqDiff, Nat.reduceMod, Nat.zero_add, Nat.sub_zero, Nat.add_zero, e4, e6, dect h3, hc0', hs]
        exact ⟨⟨_, by rw [decide_eq_false hn], _, by rw [if_neg hn], by rw [if_neg hn]; exact .nil⟩, put_pre (hpre.trans (List.prefix_append _ _)) (by omega)⟩

end

end Go.Proofs.Ytjgekhahklidcaa
