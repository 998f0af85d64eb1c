/- Texts of this claim, joined. No condition. -/
import Derived.Test.YtedidddimikjhaaGreatDoorReplayPart8
import Derived.Test.YtedidddimikjhaaGreatDoorReplayPart4
import Derived.Test.YtedidddimikjhaaGreatDoorReplayPart6
import Derived.Test.YtedidddimikjhaaGreatDoorReplayPart5
import Derived.Test.YtedidddimikjhaaGreatDoorReplayPart7
set_option linter.unusedSimpArgs false
set_option linter.unusedVariables false
namespace Go.Proofs.YtedidddimikjhaaGreatDoor
open Go.HH Go.Proofs
def sealL (l:BL):BL:=l++35::Lib.decDigits (sumL l)
theorem sealL_rec (k:Nat) (c r:BL):sealL (recL k c r)=lineL k c r:=rfl
theorem seal_len (l:BL):(sealL l).length<=l.length+7:=by
 have:=dec_len (n:=sumL l) (k:=6) (Nat.lt_trans (sumL_lt _) (by omega)) (by omega)
 simp only [sealL,List.length_append,List.length_cons]
 omega
theorem sum_step {l:BL} {i:Nat} (h:i<l.length):sumL (l.take (i+1))=(41*sumL (l.take i)+(l[i]).toNat+1)%999979:=by
 rw [List.take_add_one,List.getElem?_eq_getElem h];exact sumL_snoc _ _
def recB (k:Nat) (c r:ByteArray):ByteArray:=num k++⟨#[32]⟩++c++⟨#[64]⟩++r
theorem bl_recB (k:Nat) (c r:ByteArray):bl (recB k c r)=recL k (bl c) (bl r):=by
 have e1:bl (⟨#[32]⟩:ByteArray)= [32]:=rfl
 have e2:bl (⟨#[64]⟩:ByteArray)= [64]:=rfl
 simp only [recB,bl_app,bl_num,recL,e1,e2,List.append_assoc,List.singleton_append,List.cons_append,List.nil_append]
theorem sealB (s:ByteArray):s++⟨#[35]⟩++num (sumL (bl s))=mkB (sealL (bl s)):=by
 apply bl_ext
 have e1:bl (⟨#[35]⟩:ByteArray)= [35]:=rfl
 simp only [bl_app,bl_num,bl_mkB,sealL,e1,List.append_assoc,List.singleton_append]
theorem nlB (l:BL):mkB l++⟨#[10]⟩=mkB (l++ [10]):=by
 apply bl_ext
 have e1:bl (⟨#[10]⟩:ByteArray)= [10]:=rfl
 simp only [bl_app,bl_mkB,e1]
theorem recOk_L (c r:ByteArray):recOk c r=okL (bl c) (bl r):=by
 have:=recOk_mk (bl c) (bl r)
 rwa [mkB_bl,mkB_bl] at this
theorem adds {a b:ByteArray} (h:a.size+b.size<=9223372036854775807):hBin .add (.string a) (.string b)=some (.string (a++b)):=hBin_sadd h
section
variable {G : List (Nat × Nat)} {h : Heap} {M : Nat → Prop}
theorem c_checksum (s : ByteArray) (hmax : s.size ≤ 9223372036854775806) : vCall [] Tryz.prog M 189 [.string s] h (fun r h' => r = .int .i64 (sumL (bl s) : Nat) ∧ h = h') := by
  refine body_of mo Tryz.func189 rfl (by kernel_rfl) (Nat.le_of_ble_eq_true (by kernel_rfl)) rfl ?_
  simp only [go_sem]
  refine vLoop.count mo s.size (fun i e h' => e 0 = .string s ∧ e 4 = .int .i64 i ∧ e 3 = .int .i64 (sumL ((bl s).take i) : Nat) ∧ HeapIs h h') ?_ ?_
  · exact ⟨rfl, rfl, rfl, HeapIs.rfl⟩
  · rintro i e _ hi ⟨e0, e4, e3, hh⟩
    cases hh
    simp only [go_sem, e0, e4, e3]
    refine .intro (fun h1 => ?_) (fun h1 => ?_)
    · have hlt : i < s.size := by simpa using h1
      have hlt' : i < (bl s).length := by rw [bl_len]; exact hlt
      have hb := bl_get hlt
      have st := sum_step hlt'
      obtain ⟨b, hbe⟩ : ∃ b, b = (bl s)[i] := ⟨_, rfl⟩
      rw [← hbe] at hb st
      have hs := sumL_lt ((bl s).take i)
      have hb2 := u8_ofNat b
      obtain ⟨S, hS⟩ : ∃ S, S = sumL ((bl s).take i) := ⟨_, rfl⟩
      rw [← hS] at st hs e3
      have w1 : IntKind.i64.wrap (41 * (S : Int)) = 41 * (S : Int) := wrap64 (by omega)
      have w2 : IntKind.i64.wrap (b.toNat : Int) = b.toNat := wrap64 (by omega)
      have w3 : IntKind.i64.wrap (41 * (S : Int) + b.toNat) = 41 * (S : Int) + b.toNat := wrap64 (by omega)
      have w4 : IntKind.i64.wrap (41 * (S : Int) + b.toNat + 1) = ((41 * S + b.toNat + 1 : Nat) : Int) := by rw [wrap64 (by omega)]; omega
      have q2 : ((41 * S + b.toNat + 1 : Nat) : Int).tmod 999979 = (((41 * S + b.toNat + 1) % 999979 : Nat) : Int) := by rw [Int.tmod_eq_emod_of_nonneg (by omega)]; omega
      simp only [go_sem, e0, e4, e3, hb, w1, w2, w3, w4, hBin_rem (show (999979 : Int) ≠ 0 by omega), q2]
      exact ⟨hlt, by rw [wrap64 (by omega)]; rfl, by rw [st], HeapIs.rfl⟩
    · obtain rfl : i = s.size := by have : ¬ i < s.size := by simpa using h1
                                    omega
      simp only [go_sem, e0, e4, e3]
      rw [← bl_len, List.take_length]
theorem c_l1Sum (s : ByteArray) (hmax : s.size ≤ 9223372036854775806) : vCall [] Tryz.prog M 169 [.string s] h (fun r h' => r = .int .i64 (sumL (bl s) : Nat) ∧ h = h') := by
  refine body_of mo Tryz.func169 rfl (by kernel_rfl) (Nat.le_of_ble_eq_true (by kernel_rfl)) rfl ?_
  simp only [go_sem]
  refine vLoop.count mo s.size (fun i e h' => e 0 = .string s ∧ e 4 = .int .i64 i ∧ e 3 = .int .i64 (sumL ((bl s).take i) : Nat) ∧ HeapIs h h') ?_ ?_
  · exact ⟨rfl, rfl, rfl, HeapIs.rfl⟩
  · rintro i e _ hi ⟨e0, e4, e3, hh⟩
    cases hh
    simp only [go_sem, e0, e4, e3]
    refine .intro (fun h1 => ?_) (fun h1 => ?_)
    · have hlt : i < s.size := by simpa using h1
      have hlt' : i < (bl s).length := by rw [bl_len]; exact hlt
      have hb := bl_get hlt
      have st := sum_step hlt'
      obtain ⟨b, hbe⟩ : ∃ b, b = (bl s)[i] := ⟨_, rfl⟩
      rw [← hbe] at hb st
      have hs := sumL_lt ((bl s).take i)
      have hb2 := u8_ofNat b
      obtain ⟨S, hS⟩ : ∃ S, S = sumL ((bl s).take i) := ⟨_, rfl⟩
      rw [← hS] at st hs e3
      have w1 : IntKind.i64.wrap (41 * (S : Int)) = 41 * (S : Int) := wrap64 (by omega)
      have w2 : IntKind.i64.wrap (b.toNat : Int) = b.toNat := wrap64 (by omega)
      have w3 : IntKind.i64.wrap (41 * (S : Int) + b.toNat) = 41 * (S : Int) + b.toNat := wrap64 (by omega)
      have w4 : IntKind.i64.wrap (41 * (S : Int) + b.toNat + 1) = ((41 * S + b.toNat + 1 : Nat) : Int) := by rw [wrap64 (by omega)]; omega
      have q2 : ((41 * S + b.toNat + 1 : Nat) : Int).tmod 999979 = (((41 * S + b.toNat + 1) % 999979 : Nat) : Int) := by rw [Int.tmod_eq_emod_of_nonneg (by omega)]; omega
      simp only [go_sem, e0, e4, e3, hb, w1, w2, w3, w4, hBin_rem (show (999979 : Int) ≠ 0 by omega), q2]
      exact ⟨hlt, by rw [wrap64 (by omega)]; rfl, by rw [st], HeapIs.rfl⟩
    · obtain rfl : i = s.size := by have : ¬ i < s.size := by simpa using h1
                                    omega
      simp only [go_sem, e0, e4, e3]
      rw [← bl_len, List.take_length]
theorem c_AppendChecksum (pw:PowAt G h) (s:ByteArray) (h1:s.size<=3900) (h2:35∉bl s):vCall G Tryz.prog M 148 [.string s] h (fun r h'=>r = .tuple #[.string (mkB (sealL (bl s))), .bool true]∧h=h'):=by
 have hn:=num_size 6 (sumL (bl s)) (Nat.lt_trans (sumL_lt _) (by omega)) (by omega)
 have hz:(mkB (sealL (bl s))).size<=4000:=by have:=seal_len (bl s);rw [mkB_size];rw [bl_len] at this;omega
 have a1:hBin .add (.string s) (.string ⟨#[35]⟩)=some (.string (s++⟨#[35]⟩)):=adds (by have:(⟨#[35]⟩:ByteArray).size=1:=rfl;omega)
 have a2:hBin .add (.string (s++⟨#[35]⟩)) (.string (num (sumL (bl s))))=some (.string (mkB (sealL (bl s)))):=by
  rw [←sealB]
  refine adds ?_
  have:(⟨#[35]⟩:ByteArray).size=1:=rfl
  rw [ByteArray.size_append];omega
 refine body_of mo Tryz.func148 rfl (by kernel_rfl) (Nat.le_of_ble_eq_true (by kernel_rfl)) rfl ?_
 simp only [go_sem,show ¬((4000:Int)<s.size) by omega]
 refine ⟨by kernel_rfl,((c_Contains s 35).addG).use (fun _ m=>m) ?_⟩
 rintro _ _ ⟨rfl,rfl⟩
 simp only [go_sem,show (bl s).contains 35=false from by rw [Bool.eq_false_iff];exact fun hh=>h2 (List.contains_iff_mem.1 hh),a1]
 refine ⟨by kernel_rfl,((c_checksum s (by omega)).addG).use (fun _ m=>m) ?_⟩
 rintro _ _ ⟨rfl,rfl⟩
 try simp only [go_sem,a1]
 refine ⟨by kernel_rfl,(c_ItoaG pw (sumL (bl s)) (Nat.lt_trans (sumL_lt _) (by omega))).use (fun _ m=>m) ?_⟩
 rintro _ _ ⟨rfl,rfl⟩
 simp only [go_sem,a2,show ¬((4000:Int)<(mkB (sealL (bl s))).size) by omega]
 all_goals first|exact rfl|exact ⟨rfl,rfl⟩|exact List.prefix_append _ _|exact ⟨rfl,List.prefix_append _ _⟩|assumption|exact ⟨rfl,by assumption⟩|exact List.prefix_rfl|exact ⟨rfl,List.prefix_rfl⟩|exact List.IsPrefix.trans (by assumption) (by assumption)|exact ⟨rfl,List.IsPrefix.trans (by assumption) (by assumption)⟩
theorem c_l1Seal (s:ByteArray) (h1:s.size<=1000000):vCall [] Tryz.prog M 135 [.string s] h (fun r h'=>r = .string (mkB (sealL (bl s)))∧h=h'):=by
 have hn:=num_size 6 (sumL (bl s)) (Nat.lt_trans (sumL_lt _) (by omega)) (by omega)
 have a1:hBin .add (.string s) (.string ⟨#[35]⟩)=some (.string (s++⟨#[35]⟩)):=adds (by have:(⟨#[35]⟩:ByteArray).size=1:=rfl;omega)
 have a2:hBin .add (.string (s++⟨#[35]⟩)) (.string (num (sumL (bl s))))=some (.string (mkB (sealL (bl s)))):=by
  rw [←sealB]
  refine adds ?_
  have:(⟨#[35]⟩:ByteArray).size=1:=rfl
  rw [ByteArray.size_append];omega
 refine body_of mo Tryz.func135 rfl (by kernel_rfl) (Nat.le_of_ble_eq_true (by kernel_rfl)) rfl ?_
 simp only [go_sem,a1]
 refine ⟨by kernel_rfl,(c_l1Sum s (by omega)).use (fun _ m=>m) ?_⟩
 rintro _ _ ⟨rfl,rfl⟩
 try simp only [go_sem,a1]
 refine ⟨by kernel_rfl,(c_l1Num (sumL (bl s)) (Nat.lt_trans (sumL_lt _) (by omega))).use (fun _ m=>m) ?_⟩
 rintro _ _ ⟨rfl,rfl⟩
 simp only [go_sem,a2]
 all_goals first|exact rfl|exact ⟨rfl,rfl⟩|exact List.prefix_append _ _|exact ⟨rfl,List.prefix_append _ _⟩|assumption|exact ⟨rfl,by assumption⟩|exact List.prefix_rfl|exact ⟨rfl,List.prefix_rfl⟩|exact List.IsPrefix.trans (by assumption) (by assumption)|exact ⟨rfl,List.IsPrefix.trans (by assumption) (by assumption)⟩
theorem recOk_sizes {c r:ByteArray} (g:recOk c r=true):c.size<=160∧r.size<=200:=by
 rw [recOk_L,okL_iff] at g
 rw [bl_len,bl_len] at g
 omega
theorem line_nl (k:Nat) (c r:ByteArray) (hk:k<100) (g:recOk c r=true):hBin .add (.string (mkB (sealL (bl (recB k c r))))) (.string ⟨#[10]⟩)=some (.string (mkB (lineL k (bl c) (bl r)++ [10]))):=by
 rw [bl_recB,sealL_rec, ←nlB]
 refine adds ?_
 rw [recOk_L] at g
 have:=lineL_len g hk
 have:(⟨#[10]⟩:ByteArray).size=1:=rfl
 rw [mkB_size];omega
theorem rec_chain (k:Nat) (c r:ByteArray) (hk:k<100) (g:recOk c r=true) :
  hBin .add (.string (num k)) (.string ⟨#[32]⟩)=some (.string (num k++⟨#[32]⟩))∧hBin .add (.string (num k++⟨#[32]⟩)) (.string c)=some (.string (num k++⟨#[32]⟩++c)) ∧
  hBin .add (.string (num k++⟨#[32]⟩++c)) (.string ⟨#[64]⟩)=some (.string (num k++⟨#[32]⟩++c++⟨#[64]⟩))∧hBin .add (.string (num k++⟨#[32]⟩++c++⟨#[64]⟩)) (.string r)=some (.string (recB k c r))∧(recB k c r).size<=400:=by
 obtain ⟨g1,g2⟩:=recOk_sizes g
 have n1:=num_size 2 k (by omega) (by omega)
 have:(⟨#[32]⟩:ByteArray).size=1:=rfl
 have:(⟨#[64]⟩:ByteArray).size=1:=rfl
 refine ⟨adds ?_,adds ?_,adds ?_,adds ?_, ?_⟩<;>simp only [recB,ByteArray.size_append, *]<;>omega
theorem c_encodeRecord (pw:PowAt G h) (k:Nat) (c r:ByteArray) (hk:k<100) (g:recOk c r=true):vCall G Tryz.prog M 109 [.int .i64 k, .agg #[.string c, .string r]] h (fun v h'=>v = .string (mkB (lineL k (bl c) (bl r)++ [10]))∧h<+:h'):=by
 obtain ⟨a1,a2,a3,a4,a5⟩:=rec_chain k c r hk g
 have g':=g
 rw [recOk_L] at g'
 have no:=recL_no35 (k:=k) g'
 rw [←bl_recB] at no
 refine body_of mo Tryz.func109 rfl (by kernel_rfl) (Nat.le_of_ble_eq_true (by kernel_rfl)) rfl ?_
 simp only [go_sem]
 refine ⟨by kernel_rfl,((c_Itoa k hk).addG).use (fun _ m=>m) ?_⟩
 rintro _ _ ⟨rfl,rfl⟩
 try simp only [go_sem,a1,a2,a3,a4]
 refine ⟨by kernel_rfl,(c_AppendChecksum (pw.mono (by simp)) (recB k c r) (by omega) no).use (fun _ m=>m) ?_⟩
 rintro _ _ ⟨rfl,rfl⟩
 simp only [go_sem,line_nl k c r hk g]
 all_goals first|exact rfl|exact ⟨rfl,rfl⟩|exact List.prefix_append _ _|exact ⟨rfl,List.prefix_append _ _⟩|assumption|exact ⟨rfl,by assumption⟩|exact List.prefix_rfl|exact ⟨rfl,List.prefix_rfl⟩|exact List.IsPrefix.trans (by assumption) (by assumption)|exact ⟨rfl,List.IsPrefix.trans (by assumption) (by assumption)⟩
theorem c_l27Line (k:Nat) (c r:ByteArray) (hk:k<100) (g:recOk c r=true):vCall [] Tryz.prog M 96 [.int .i64 k, .agg #[.string c, .string r]] h (fun v h'=>v = .string (mkB (lineL k (bl c) (bl r)++ [10]))∧h<+:h'):=by
 obtain ⟨a1,a2,a3,a4,a5⟩:=rec_chain k c r hk g
 refine body_of mo Tryz.func96 rfl (by kernel_rfl) (Nat.le_of_ble_eq_true (by kernel_rfl)) rfl ?_
 simp only [go_sem]
 refine ⟨by kernel_rfl,(c_l1Num k (by omega)).use (fun _ m=>m) ?_⟩
 rintro _ _ ⟨rfl,rfl⟩
 try simp only [go_sem,a1,a2,a3,a4]
 refine ⟨by kernel_rfl,(c_l1Seal (recB k c r) (by omega)).use (fun _ m=>m) ?_⟩
 rintro _ _ ⟨rfl,rfl⟩
 simp only [go_sem,line_nl k c r hk g]
 all_goals first|exact rfl|exact ⟨rfl,rfl⟩|exact List.prefix_append _ _|exact ⟨rfl,List.prefix_append _ _⟩|assumption|exact ⟨rfl,by assumption⟩|exact List.prefix_rfl|exact ⟨rfl,List.prefix_rfl⟩|exact List.IsPrefix.trans (by assumption) (by assumption)|exact ⟨rfl,List.IsPrefix.trans (by assumption) (by assumption)⟩
def spAt (l:BL) (b:UInt8) (i:Nat):List BL×BL:=(l.take i).foldl (spl b) ([],[])
theorem spAt_succ {l:BL} {b:UInt8} {i:Nat} (h:i<l.length):spAt l b (i+1)=spl b (spAt l b i) l[i]:=by
 rw [spAt,List.take_add_one,List.getElem?_eq_getElem h,List.foldl_append];rfl
theorem new_endL {u:Heap} {K b:Blk} {j n:Nat} (hn:n=u.length):(u.set j b++ [K])[n]? = some K:=by
 subst hn
 rw [List.getElem?_append_right (by simp),List.length_set,Nat.sub_self];rfl
def strsV (xs:List BL):List Value:=xs.map fun x => .string (mkB x)
theorem strsV_app (xs ys:List BL):strsV (xs++ys)=strsV xs++strsV ys:=by simp [strsV]
theorem strsV_len (xs:List BL):(strsV xs).length=xs.length:=by simp [strsV]
theorem c_l1Split (s : ByteArray) (b : UInt8) (hmax : s.size ≤ 10000000) : vCall [] Tryz.prog M 76 [.string s, .int .u8 b.toNat] h
    (fun r h' => ∃ t j, r = .slice (some ⟨h.length + j, 0, none⟩) (splitL (bl s) b).length 0 ∧ h' = h ++ t ∧ t[j]? = some ⟨strsV (splitL (bl s) b), 1, .rw⟩) := by
  refine body_of mo Tryz.func76 rfl (by kernel_rfl) (Nat.le_of_ble_eq_true (by kernel_rfl)) rfl ?_
  simp only [go_sem]
  refine vLoop.count mo s.size (fun i e h' => ∃ (t : Heap) (j q : Nat), e 0 = .string s ∧ e 1 = .int .u8 b.toNat ∧ e 7 = .int .i64 i ∧ e 6 = .int .i64 q ∧ e 5 = .slice (some ⟨h.length + j, 0, none⟩) (spAt (bl s) b i).1.length 0 ∧
      h' = h ++ t ∧ t[j]? = some ⟨strsV (spAt (bl s) b i).1, 1, .rw⟩ ∧ q ≤ i ∧ (spAt (bl s) b i).2 = ((bl s).take i).drop q ∧ (spAt (bl s) b i).1.length ≤ i) ?_ ?_
  · exact ⟨[⟨[], 1, .rw⟩], 0, 0, rfl, rfl, rfl, rfl, rfl, rfl, rfl, Nat.le_refl _, rfl, Nat.le_refl _⟩
  · rintro i e _ hi ⟨t, j, q, e0, e1, e7, e6, e5, rfl, hj, hq, hd, hl⟩
    simp only [go_sem, e0, e1, e5, e6, e7]
    refine .intro (fun h1 => ?_) (fun h1 => ?_)
    · have hlt : i < s.size := by simpa using h1
      have hlt' : i < (bl s).length := by rw [bl_len]; exact hlt
      have hb := bl_get hlt
      have st := spAt_succ (b := b) hlt'
      simp only [go_sem, e0, e1, e5, e6, e7, hb]
      by_cases g1 : (bl s)[i] = b
      · rw [spl, if_pos g1] at st
        have ex : s.extract q i = mkB (spAt (bl s) b i).2 := by apply bl_ext; rw [bl_extract, bl_mkB, hd]
        simp only [go_sem, e0, e1, e5, e6, e7, hb, g1, beq_self_eq_true, app_old hj, strsV_len, ex]
        refine ⟨by omega, by omega, by omega, by omega, hlt, _, t.length + 1, i + 1, by rw [wrap64 (by omega)]; rfl, by rw [wrap64 (by omega)]; rfl, by rw [st, List.length_append]; rfl, rfl, ?_, by omega, ?_, by rw [st, List.length_append, List.length_singleton]; omega⟩
        · rw [st, strsV_app]; exact new_endL (by simp)
        · rw [st, List.drop_eq_nil_of_le (List.length_take_le _ _)]
      · have g2 : ((((bl s)[i]).toNat : Int) == (b.toNat : Int)) = false := by
          rw [beq_eq_false_iff_ne]; intro hh; exact g1 (UInt8.toNat_inj.1 (Int.ofNat.inj hh))
        rw [spl, if_neg g1] at st
        simp only [go_sem, e0, e1, e5, e6, e7, hb, g2]
        exact ⟨hlt, t, j, q, by rw [wrap64 (by omega)]; rfl, rfl, by rw [st], rfl, by rw [st]; exact hj, by omega, by rw [st, List.take_add_one, List.getElem?_eq_getElem hlt', List.drop_append_of_le_length (by rw [List.length_take]; omega), hd]; rfl, by rw [st]; exact Nat.le_succ_of_le hl⟩
    · obtain rfl : i = s.size := by have : ¬ i < s.size := by simpa using h1
                                    omega
      have ex : s.extract q s.size = mkB (spAt (bl s) b s.size).2 := by apply bl_ext; rw [bl_extract, bl_mkB, hd]
      have sp : splitL (bl s) b = (spAt (bl s) b s.size).1 ++ [(spAt (bl s) b s.size).2] := by rw [splitL, spAt, ← bl_len, List.take_length]
      simp only [go_sem, e0, e1, e5, e6, e7, ex, app_old hj, strsV_len]
      refine ⟨by omega, by omega, by omega, _, t.length + 1, ?_, rfl, ?_⟩
      · rw [sp, List.length_append]; rfl
      · rw [sp, strsV_app]; exact new_endL (by simp)
end
open Go.HH Go.Proofs
def oneL (k:Nat) (s:BL):Option (BL×BL):=if 10∈s∧k<60 then readL k (cutA s 10) else none
def oneV (k:Nat) (s:BL):Value:=match oneL k s with
 | some e => .tuple #[.agg #[.string (mkB e.1), .string (mkB e.2)], .int .i64 ((lineL k e.1 e.2).length+1:Nat), .bool true]
 | none => .tuple #[.agg #[.string ⟨#[]⟩, .string ⟨#[]⟩], .int .i64 0, .bool false]
theorem cutA_le (l:BL) (b:UInt8):(cutA l b).length<=l.length:=(List.takeWhile_sublist _).length_le
theorem cutB_le (l:BL) (b:UInt8):(cutB l b).length<=l.length:=by
 rw [cutB,List.length_drop]
 have:=(List.dropWhile_sublist (fun x=>x != b) (l:=l)).length_le
 omega
theorem bool_mem (s:ByteArray) (c:UInt8) (h:c∈bl s):(bl s).contains c=true:=List.contains_iff_mem.2 h
theorem bool_nmem (s:ByteArray) (c:UInt8) (h:c∉bl s):(bl s).contains c=false:=by rw [Bool.eq_false_iff];exact fun hh=>h (List.contains_iff_mem.1 hh)
section
variable {G : List (Nat × Nat)} {h : Heap} {M : Nat → Prop}
theorem c_readRecord (pw:PowAt G h) (s:ByteArray) (k:Nat) (hk:k<=60) (hs:s.size<=10000000):vCall G Tryz.prog M 122 [.string s, .int .i64 k] h (fun r h'=>r=oneV k (bl s)∧h<+:h'):=by
 have hbl:=bl_len s
 obtain ⟨line,hl⟩: ∃line,cutA (bl s) 10=line:=⟨_,rfl⟩
 obtain ⟨text,ht⟩: ∃text,cutA line 35=text:=⟨_,rfl⟩
 obtain ⟨rest,hr⟩: ∃rest,cutB text 32=rest:=⟨_,rfl⟩
 obtain ⟨c,hc⟩: ∃c,cutA rest 64=c:=⟨_,rfl⟩
 obtain ⟨r,hr2⟩: ∃r,cutB rest 64=r:=⟨_,rfl⟩
 have l1:=cutA_le (bl s) 10
 have l2:=cutA_le line 35
 have l3:=cutB_le text 32
 have l4:=cutA_le rest 64
 have l5:=cutB_le rest 64
 rw [hl] at l1
 rw [ht] at l2
 rw [hr] at l3
 rw [hc] at l4
 rw [hr2] at l5
 refine body_of mo Tryz.func122 rfl (by kernel_rfl) (Nat.le_of_ble_eq_true (by kernel_rfl)) rfl ?_
 simp only [go_sem]
 refine ⟨by kernel_rfl,(c_CutE s 10 line _ (by omega) hl rfl).use (fun _ m=>m) ?_⟩
 rintro _ _ ⟨rfl,rfl⟩
 try simp only [go_sem]
 refine ⟨by kernel_rfl,(c_CutE (mkB line) 35 text _ (by rw [mkB_size];omega) ht rfl).use (fun _ m=>m) ?_⟩
 rintro _ _ ⟨rfl,rfl⟩
 try simp only [go_sem]
 refine ⟨by kernel_rfl,(c_CutE (mkB text) 32 _ rest (by rw [mkB_size];omega) rfl hr).use (fun _ m=>m) ?_⟩
 rintro _ _ ⟨rfl,rfl⟩
 try simp only [go_sem]
 refine ⟨by kernel_rfl,(c_CutE (mkB rest) 64 c r (by rw [mkB_size];omega) hc hr2).use (fun _ m=>m) ?_⟩
 rintro _ _ ⟨rfl,rfl⟩
 have rd:readL k line=if okL c r=true∧lineL k c r=line then some (c,r) else none:=by rw [readL,ht,hr,hc,hr2]
 by_cases g1:10∈bl s
 ·simp only [go_sem,bool_mem s 10 g1]
  by_cases g2:k<60
  ·have o1:oneL k (bl s)=readL k line:=by rw [oneL,if_pos ⟨g1,g2⟩,hl]
   have k60: ¬((60:Int)<=k):=by omega
   have m10:=bool_mem s 10 g1
   simp only [go_sem,k60,m10]
   refine ⟨by kernel_rfl,((c_IsValidRecord (mkB c) (mkB r) (by rw [mkB_size];omega) (by rw [mkB_size];omega)).addG).use (fun _ m=>m) ?_⟩
   rintro _ _ ⟨rfl,⟨t,rfl⟩⟩
   rw [recOk_mk]
   cases g3:okL c r
   ·simp only [go_sem,k60,m10,g3]
    have:oneL k (bl s)=none:=by rw [o1,rd,if_neg (by simp [g3])]
    rw [oneV,this]
    all_goals first|exact rfl|exact ⟨rfl,rfl⟩|exact List.prefix_append _ _|exact ⟨rfl,List.prefix_append _ _⟩|assumption|exact ⟨rfl,by assumption⟩|exact List.prefix_rfl|exact ⟨rfl,List.prefix_rfl⟩|exact List.IsPrefix.trans (by assumption) (by assumption)|exact ⟨rfl,List.IsPrefix.trans (by assumption) (by assumption)⟩
   ·simp only [go_sem,k60,m10,g3]
    refine ⟨by kernel_rfl,(c_encodeRecord (pw.mono (by simp)) k (mkB c) (mkB r) (by omega) (by rw [recOk_mk];exact g3)).use (fun _ m=>m) ?_⟩
    rintro _ _ ⟨rfl,⟨t2,rfl⟩⟩
    rw [bl_mkB,bl_mkB]
    have a1:hBin .add (.string (mkB line)) (.string ⟨#[10]⟩)=some (.string (mkB (line++ [10]))):=by
     rw [←nlB]
     refine adds ?_
     have:(⟨#[10]⟩:ByteArray).size=1:=rfl
     rw [mkB_size];omega
    by_cases g4:lineL k c r=line
    ·have e5:(mkB (lineL k c r++ [10])).toList==(mkB (line++ [10])).toList:=by rw [g4];exact beq_self_eq_true _
     simp only [go_sem,k60,m10,g3,bl_mkB,a1,e5,mkB_size]
     have:oneL k (bl s)=some (c,r):=by rw [o1,rd,if_pos ⟨g3,g4⟩]
     rw [oneV,this,wrap64 (by omega)]
     show _=Value.tuple #[.agg #[.string (mkB c), .string (mkB r)], .int .i64 (((lineL k c r).length+1:Nat):Int), .bool true]
     rw [g4];rfl
    ·have e5:((mkB (lineL k c r++ [10])).toList==(mkB (line++ [10])).toList)=false:=by
      rw [toList_eq]
      refine decide_eq_false fun hh=>g4 ?_
      exact List.append_cancel_right (mkB_inj.1 hh)
     simp only [go_sem,k60,m10,g3,bl_mkB,a1,e5,mkB_size]
     have:oneL k (bl s)=none:=by rw [o1,rd,if_neg (fun hh=>g4 hh.2)]
     rw [oneV,this]
     all_goals first|exact rfl|exact ⟨rfl,rfl⟩|exact List.prefix_append _ _|exact ⟨rfl,List.prefix_append _ _⟩|assumption|exact ⟨rfl,by assumption⟩|exact List.prefix_rfl|exact ⟨rfl,List.prefix_rfl⟩|exact List.IsPrefix.trans (by assumption) (by assumption)|exact ⟨rfl,List.IsPrefix.trans (by assumption) (by assumption)⟩
  ·simp only [go_sem,show ((60:Int)<=k) by omega]
   have:oneL k (bl s)=none:=by rw [oneL,if_neg (fun hh=>g2 hh.2)]
   rw [oneV,this]
   all_goals first|exact rfl|exact ⟨rfl,rfl⟩|exact List.prefix_append _ _|exact ⟨rfl,List.prefix_append _ _⟩|assumption|exact ⟨rfl,by assumption⟩|exact List.prefix_rfl|exact ⟨rfl,List.prefix_rfl⟩|exact List.IsPrefix.trans (by assumption) (by assumption)|exact ⟨rfl,List.IsPrefix.trans (by assumption) (by assumption)⟩
 ·simp only [go_sem,bool_nmem s 10 g1]
  have:oneL k (bl s)=none:=by rw [oneL,if_neg (fun hh=>g1 hh.1)]
  rw [oneV,this]
  all_goals first|exact rfl|exact ⟨rfl,rfl⟩|exact List.prefix_append _ _|exact ⟨rfl,List.prefix_append _ _⟩|assumption|exact ⟨rfl,by assumption⟩|exact List.prefix_rfl|exact ⟨rfl,List.prefix_rfl⟩|exact List.IsPrefix.trans (by assumption) (by assumption)|exact ⟨rfl,List.IsPrefix.trans (by assumption) (by assumption)⟩
def recR (e:BL×BL):List Value:= [.string (mkB e.1), .string (mkB e.2)]
def recV (d:List (BL×BL)):List Value:=(d.map recR).flatten
theorem recV_len (d:List (BL×BL)):(recV d).length=d.length*2:=by
 rw [recV,flatten_len (sz:=2) (fun r hr=>by obtain ⟨e,_,rfl⟩:=List.mem_map.1 hr;rfl),List.length_map]
theorem recV_snoc (d:List (BL×BL)) (e:BL×BL):recV (d++ [e])=recV d++ [.string (mkB e.1), .string (mkB e.2)]:=by
 simp [recV,recR]
theorem oneL_some {k:Nat} {s:BL} {e:BL×BL} (h:oneL k s=some e):(10∈s∧k<60)∧readL k (cutA s 10)=some e:=by
 unfold oneL at h
 split at h
 ·rename_i g;exact ⟨g,h⟩
 ·cases h
theorem two_new {t X:Heap} {j j2:Nat} {b b2 K Y K2:Blk} (hj2:j2<t.length) :
  (((t++X).set j b++ [K,Y]).set j2 b2++ [K2])[(t++X).length]? = some K∧(((t++X).set j b++ [K,Y]).set j2 b2++ [K2])[(t++X).length+2]? = some K2:=by
 have hl:t.length<=(t++X).length:=by simp
 constructor
 ·rw [List.getElem?_append_left (by simp),List.getElem?_set_ne (by omega),List.getElem?_append_right (by simp),List.length_set,Nat.sub_self];rfl
 ·rw [List.getElem?_append_right (by simp)];simp
theorem c_readRecords (pw:PowAt G h) (s:ByteArray) (hs:s.size<=10000000):vCall G Tryz.prog M 67 [.string s] h
  (fun r h'=> ∃t j j2,r = .tuple #[.slice (some ⟨h.length+j,0,none⟩) (openL 60 0 (bl s)).length 0, .slice (some ⟨h.length+j2,0,none⟩) ((openL 60 0 (bl s)).length+1) 0]∧h'=h++t ∧
   t[j]? = some ⟨recV (openL 60 0 (bl s)),2, .rw⟩∧t[j2]? = some ⟨(endsL (openL 60 0 (bl s))).map iv,1, .rw⟩∧j≠j2):=by
 have hbl:=bl_len s
 refine body_of mo Tryz.func67 rfl (by kernel_rfl) (Nat.le_of_ble_eq_true (by kernel_rfl)) rfl ?_
 simp only [go_sem]
 refine vLoop.count mo 60 (fun i e h'=> ∃(d:List (BL×BL)) (t:Heap) (j j2:Nat),d.length=i∧AtL (bl s) d∧e 0 = .string s∧e 4 = .slice (some ⟨h.length+j,0,none⟩) d.length 0 ∧
   e 5 = .slice (some ⟨h.length+j2,0,none⟩) (d.length+1) 0∧e 6 = .int .i64 (endL 0 d:Nat)∧h'=h++t∧t[j]? = some ⟨recV d,2, .rw⟩∧t[j2]? = some ⟨(endsL d).map iv,1, .rw⟩∧j≠j2) ?_ ?_
 ·exact ⟨[],[⟨[],2, .rw⟩,⟨[.int .i64 0],1, .rw⟩],0,1,rfl,AtL.start _,rfl,rfl,rfl,rfl,rfl,rfl,rfl,by omega⟩
 ·rintro i e _ hi ⟨d,t,j,j2,rfl,at1,e0,e4,e5,e6,rfl,hj,hj2,hne⟩
  have hle:=at1.2.2
  simp only [go_sem,e0,e4,e5,e6,show endL 0 d<=s.size by omega]
  refine ⟨by kernel_rfl,(c_readRecord (pw.mono (by simp)) (s.extract (endL 0 d) s.size) d.length (by omega) (by rw [ByteArray.size_extract];omega)).use (fun _ m=>m) ?_⟩
  rintro _ _ ⟨rfl,⟨t2,rfl⟩⟩
  have ex:bl (s.extract (endL 0 d) s.size)=(bl s).drop (endL 0 d):=by rw [bl_extract, ←hbl,List.take_length]
  cases g:oneL d.length (bl (s.extract (endL 0 d) s.size)) with
  | none=>
   simp only [go_sem,e0,e4,e5,e6,oneV,g]
   rw [ex] at g
   have hd:openL 60 0 (bl s)=d:=at1.stop (fun ⟨m1,m2,m3⟩=>by rw [oneL,if_pos ⟨m1,m2⟩] at g;rw [g] at m3;cases m3)
   rw [hd]
   exact ⟨_,j,j2,rfl,rfl,app_old hj _,app_old hj2 _,hne⟩
  | some x=>
   simp only [go_sem,e0,e4,e5,e6,oneV,g,app_old hj,recV_len,app_keep hj2 hne,List.length_map,endsL_len]
   rw [ex] at g
   obtain ⟨⟨m1,m2⟩,m3⟩:=oneL_some g
   obtain ⟨s1,s2⟩:=at1.step m2 m1 m3
   have el:endL 0 (d++ [x])<=(bl s).length:=s1.2.2
   have w1:IntKind.i64.wrap ((endL 0 d:Int)+((lineL d.length x.1 x.2).length+1:Nat))=(endL 0 (d++ [x]):Nat):=by rw [wrap64 (by omega)];omega
   rw [w1]
   obtain ⟨X,hX⟩: ∃X,X=t2++ [⟨[Value.string (mkB x.1),Value.string (mkB x.2)],2, .rw⟩,⟨[Value.string (mkB x.1),Value.string (mkB x.2)],2,St.rw⟩]:=⟨_,rfl⟩
   rw [←hX]
   have lX:X.length=t2.length+2:=by rw [hX,List.length_append];rfl
   have n1:=two_new (t:=t) (X:=X) (j:=j) (j2:=j2) (b:=⟨recV d,2, .dead⟩) (b2:=⟨(endsL d).map iv,1, .dead⟩)
    (K:=⟨recV d++ [.string (mkB x.1), .string (mkB x.2)],2, .rw⟩) (Y:=⟨[.int .i64 (endL 0 (d++ [x]):Nat)],1, .rw⟩) (K2:=⟨(endsL d).map iv++ [.int .i64 (endL 0 (d++ [x]):Nat)],1, .rw⟩) (List.getElem?_eq_some_iff.1 hj2).1
   refine ⟨by omega,by omega,by omega,by omega,m2,d++ [x],_,(t++X).length,(t++X).length+2,by simp,s1, ?_, ?_,rfl,rfl, ?_, ?_,by omega⟩
   ·simp only [List.length_append,lX,List.length_singleton]
   ·simp only [List.length_set,List.length_append,List.length_singleton]
   ·rw [recV_snoc];exact n1.1
   ·rw [endsL_snoc,List.map_append];exact n1.2
end
open Go.HH Go.Proofs
theorem hget_one {h t:Heap} {b:Blk} {j:Nat}:hget (h++b::t) (h.length+1+j)=t[j]? := by rw [Nat.add_assoc,hget_app,Nat.add_comm 1 j,List.getElem?_cons_succ]
theorem hget_two {h t t2:Heap} {b:Blk} {j:Nat}:hget (h++b::(t++t2)) (h.length+(t.length+1)+j)=t2[j]? := by
 rw [Nat.add_assoc,hget_app,show t.length+1+j=(t.length+j)+1 by omega,List.getElem?_cons_succ,List.getElem?_append_right (by omega),Nat.add_sub_cancel_left]
theorem hget_mid {h t t2:Heap} {j:Nat}:hget (h++(t++t2)) (h.length+t.length+j)=t2[j]? := by
 rw [Nat.add_assoc,hget_app,List.getElem?_append_right (by omega),Nat.add_sub_cancel_left]
theorem hget_setmid {h t t2 y z:Heap} {j j2:Nat} {b K:Blk} (hj:j<t.length) (hj2:t2[j2]? = some K):hget (h++((t++(t2++y)).set j b++z)) (h.length+t.length+j2)=some K:=by
 have h2:=(List.getElem?_eq_some_iff.1 hj2).1
 rw [Nat.add_assoc,hget_app,List.getElem?_append_left (by simp;omega),List.getElem?_set_ne (by omega),List.getElem?_append_right (by omega),Nat.add_sub_cancel_left,List.getElem?_append_left h2,hj2]
theorem strsV_head {x:BL} {r:List BL}:(strsV (x::r))[0]? = some (.string (mkB x)):=rfl
section
variable {G : List (Nat × Nat)} {h : Heap} {M : Nat → Prop}
set_option maxRecDepth 100000 in
theorem c_l27Read (s:ByteArray) (k:Nat) (hk:k<=60) (hs:s.size<=1000000):vCall [] Tryz.prog M 131 [.string s, .int .i64 k] h
  (fun v h'=> ∃c r,v = .tuple #[.agg #[.string (mkB c), .string (mkB r)], .bool (readL k (bl s)).isSome]∧(∀e,readL k (bl s)=some e->e=(c,r))∧h<+:h'):=by
 have hbl:=bl_len s
 have nk:=num_size 2 k (by omega) (by omega)
 have s1:(⟨#[32]⟩:ByteArray).size=1:=rfl
 obtain ⟨ahead,ha⟩: ∃ahead,ahead=num k++⟨#[32]⟩:=⟨_,rfl⟩
 have a1:hBin .add (.string (num k)) (.string ⟨#[32]⟩)=some (.string ahead):=by rw [ha];exact adds (by omega)
 have za:ahead.size<=3:=by rw [ha,ByteArray.size_append];omega
 have bla:bl ahead=Lib.decDigits k++ [32]:=by rw [ha,bl_app,bl_num];rfl
 obtain ⟨r1,p1,p2⟩:=splitL_head (bl s) 35
 obtain ⟨text,ht⟩: ∃text,cutA (bl s) 35=text:=⟨_,rfl⟩
 have l1:=cutA_le (bl s) 35
 rw [ht] at p1 l1
 have lah:=bl_len ahead
 refine body_of mo Tryz.func131 rfl (by kernel_rfl) (Nat.le_of_ble_eq_true (by kernel_rfl)) rfl ?_
 simp only [go_sem]
 refine ⟨by kernel_rfl,(c_l1Num k (by omega)).use (fun _ m=>m) ?_⟩
 rintro _ _ ⟨rfl,rfl⟩
 simp only [go_sem,a1]
 refine ⟨by kernel_rfl,(c_l1Split s 35 (by omega)).use (fun _ m=>m) ?_⟩
 rintro _ _ ⟨t,j,rfl,rfl,hj⟩
 rw [p1] at hj
 rw [p1]
 simp only [go_sem,hget_one,hj,strsV_len,strsV_head,mkB_size]
 refine ⟨by omega, ?_⟩
 have b0:(0:Int)<=(ahead.size:Int):=by omega
 by_cases g2:bl ahead<+:text
 ·obtain ⟨rest,hrest⟩:=id g2
  have lt2:=congrArg List.length hrest
  rw [List.length_append] at lt2
  have g1: ¬((text.length:Int)<ahead.size):=by omega
  have g3:ahead.size<=text.length:=by omega
  have ex1:(mkB text).extract 0 ahead.size=ahead:=by
   apply bl_ext;rw [bl_extract,bl_mkB, ←hrest, ←lah];simp
  have ex2:(mkB text).extract ahead.size text.length=mkB rest:=by
   apply bl_ext;rw [bl_extract,bl_mkB,bl_mkB,List.take_length, ←hrest, ←lah];simp
  have hhead:cutA (bl s) 35=Lib.decDigits k++ [32]++rest:=by rw [ht, ←hrest,bla]
  obtain ⟨r2,p3,p4⟩:=splitL_head rest 64
  have l4:=cutA_le rest 64
  simp only [go_sem,hget_one,hj,strsV_len,strsV_head,mkB_size,g1,g3,ex1,beq_self_eq_true,Bool.not_true,ex2]
  refine ⟨by omega, ?_⟩
  refine ⟨by kernel_rfl,(c_l1Split (mkB rest) 64 (by rw [mkB_size];omega)).use (fun _ m=>m) ?_⟩
  rintro _ _ ⟨t2,j2,rfl,rfl,hj2⟩
  rw [bl_mkB,p3] at hj2
  rw [bl_mkB,p3]
  by_cases g4:64∈rest
  ·have l5:=cut_len g4
   have ne4:(((cutA rest 64).length:Int)==rest.length)=false:=by rw [beq_eq_false_iff_ne];omega
   have e1:IntKind.i64.wrap (((cutA rest 64).length:Int)+1)=(((cutA rest 64).length+1:Nat):Int):=by rw [wrap64 (by omega)];omega
   have ex3:(mkB rest).extract ((cutA rest 64).length+1) rest.length=mkB (cutB rest 64):=by
    have:=cutB_extract (s:=mkB rest) (c:=64) g4
    rwa [mkB_size] at this
   have b1:(0:Int)<=(((cutA rest 64).length+1:Nat):Int):=by omega
   obtain ⟨c,hc⟩: ∃c,c=cutA rest 64:=⟨_,rfl⟩
   obtain ⟨r,hr⟩: ∃r,r=cutB rest 64:=⟨_,rfl⟩
   have rd:=readL_head hhead
   rw [←hc, ←hr] at rd
   rw [←hr] at ex3 l5
   rw [←hc] at hj2 l5 ne4 e1 ex3 b1 l4
   rw [←hc]
   simp only [go_sem,hget_two,hj2,strsV_len,strsV_head,mkB_size,ne4,e1,ex3,b1,Int.toNat_natCast]
   refine ⟨by omega,by omega, ?_⟩
   refine ⟨by kernel_rfl,(c_l27Good (mkB c) (mkB r) (by rw [mkB_size];omega) (by rw [mkB_size];omega)).use (fun _ m=>m) ?_⟩
   rintro _ _ ⟨rfl,⟨t3,rfl⟩⟩
   rw [recOk_mk]
   cases g5:okL c r
   ·have no:readL k (bl s)=none:=by rw [rd,if_neg (by simp [g5])]
    simp only [go_sem,g5]
    exact ⟨c,r,by rw [no];rfl,fun e he=>by rw [no] at he;cases he⟩
   ·simp only [go_sem,g5]
    refine ⟨by kernel_rfl,(c_l27Line k (mkB c) (mkB r) (by omega) (by rw [recOk_mk];exact g5)).use (fun _ m=>m) ?_⟩
    rintro _ _ ⟨rfl,⟨t4,rfl⟩⟩
    have a2:hBin .add (.string s) (.string ⟨#[10]⟩)=some (.string (mkB (bl s++ [10]))):=by
     rw [←nlB,mkB_bl]
     refine adds ?_
     have:(⟨#[10]⟩:ByteArray).size=1:=rfl
     omega
    by_cases g6:lineL k c r=bl s
    ·have e5:(mkB (lineL k c r++ [10])).toList==(mkB (bl s++ [10])).toList:=by rw [g6];exact beq_self_eq_true _
     have yes:readL k (bl s)=some (c,r):=by rw [rd,if_pos ⟨g5,g6⟩]
     simp only [go_sem,g5,bl_mkB,a2,e5]
     exact ⟨c,r,by rw [yes];rfl,fun e he=>by rw [yes] at he;cases he;rfl⟩
    ·have e5:((mkB (lineL k c r++ [10])).toList==(mkB (bl s++ [10])).toList)=false:=by
      rw [toList_eq]
      refine decide_eq_false fun hh=>g6 ?_
      exact List.append_cancel_right (mkB_inj.1 hh)
     have no:readL k (bl s)=none:=by rw [rd,if_neg (fun hh=>g6 hh.2)]
     simp only [go_sem,g5,bl_mkB,a2,e5]
     exact ⟨c,r,by rw [no];rfl,fun e he=>by rw [no] at he;cases he⟩
  ·rw [cutA_miss g4] at hj2
   rw [cutA_miss g4]
   simp only [go_sem,hget_two,hj2,strsV_len,strsV_head,mkB_size,beq_self_eq_true]
   have no:=readL_no_at hhead g4
   exact ⟨by omega,[],[],by rw [no];rfl,fun e he=>by rw [no] at he;cases he⟩
 ·have no:readL k (bl s)=none:=readL_no_head (by rw [ht, ←bla];exact g2)
  by_cases g1:text.length<ahead.size
  ·simp only [go_sem,hget_one,hj,strsV_len,strsV_head,mkB_size,show ((text.length:Int)<ahead.size) by omega]
   exact ⟨[],[],by rw [no];rfl,fun e he=>by rw [no] at he;cases he⟩
  ·have ne:(((mkB text).extract 0 ahead.size).toList==ahead.toList)=false:=by
    rw [toList_eq]
    refine decide_eq_false fun hh=>g2 ?_
    have:=congrArg bl hh
    rw [bl_extract,bl_mkB,List.drop_zero] at this
    rw [List.prefix_iff_eq_take,lah];exact this.symm
   simp only [go_sem,hget_one,hj,strsV_len,strsV_head,mkB_size,show ¬((text.length:Int)<ahead.size) by omega,show ahead.size<=text.length by omega,ne,Bool.not_false]
   exact ⟨by omega,[],[],by rw [no];rfl,fun e he=>by rw [no] at he;cases he⟩
set_option maxRecDepth 100000 in
theorem c_l27Open (s:ByteArray) (hs:s.size<=100000):vCall [] Tryz.prog M 89 [.string s] h
  (fun r h'=> ∃t j,r = .tuple #[.slice (some ⟨h.length+j,0,none⟩) (openL 60 0 (bl s)).length 0, .int .i64 (endL 0 (openL 60 0 (bl s)):Nat)]∧h'=h++t∧t[j]? = some ⟨recV (openL 60 0 (bl s)),2, .rw⟩):=by
 have hbl:=bl_len s
 refine body_of mo Tryz.func89 rfl (by kernel_rfl) (Nat.le_of_ble_eq_true (by kernel_rfl)) rfl ?_
 simp only [go_sem]
 refine vLoop.count mo 60 (fun i e h'=> ∃(d:List (BL×BL)) (t:Heap) (j:Nat),d.length=i∧AtL (bl s) d∧e 0 = .string s∧e 4 = .slice (some ⟨h.length+j,0,none⟩) d.length 0 ∧
   e 5 = .int .i64 (endL 0 d:Nat)∧h'=h++t∧t[j]? = some ⟨recV d,2, .rw⟩) ?_ ?_
 ·exact ⟨[],[⟨[],2, .rw⟩],0,rfl,AtL.start _,rfl,rfl,rfl,rfl,rfl⟩
 ·rintro i e _ hi ⟨d,t,j,rfl,at1,e0,e4,e5,rfl,hj⟩
  have hle:=at1.2.2
  have fin:openL 60 0 (bl s)=d->∃t_1 j_1,Value.tuple #[.slice (some ⟨h.length+j,0,none⟩) d.length 0, .int .i64 (endL 0 d:Nat)]=Value.tuple #[.slice (some ⟨h.length+j_1,0,none⟩) (openL 60 0 (bl s)).length 0, .int .i64 (endL 0 (openL 60 0 (bl s)):Nat)]∧h++t=h++t_1∧t_1[j_1]? = some ⟨recV (openL 60 0 (bl s)),2, .rw⟩:=
   fun hd=>by rw [hd];exact ⟨t,j,rfl,rfl,hj⟩
  have fin': ∀x,openL 60 0 (bl s)=d->∃t_1 j_1,Value.tuple #[.slice (some ⟨h.length+j,0,none⟩) d.length 0, .int .i64 (endL 0 d:Nat)]=Value.tuple #[.slice (some ⟨h.length+j_1,0,none⟩) (openL 60 0 (bl s)).length 0, .int .i64 (endL 0 (openL 60 0 (bl s)):Nat)]∧h++(t++x)=h++t_1∧t_1[j_1]? = some ⟨recV (openL 60 0 (bl s)),2, .rw⟩:=
   fun x hd=>by rw [hd];exact ⟨t++x,j,rfl,rfl,app_old hj x⟩
  by_cases g1:endL 0 d<s.size
  ·by_cases g2:d.length<60
   ·have d1:((endL 0 d:Nat):Int)<s.size:=by omega
    have d2:(d.length:Int)<60:=by omega
    have d3:endL 0 d<=s.size:=by omega
    simp only [go_sem,e0,e4,e5,d1,d2,d3]
    refine ⟨by kernel_rfl,(c_l1Split (s.extract (endL 0 d) s.size) 10 (by rw [ByteArray.size_extract];omega)).use (fun _ m=>m) ?_⟩
    rintro _ _ ⟨t2,j2,rfl,rfl,hj2⟩
    have ex:bl (s.extract (endL 0 d) s.size)=(bl s).drop (endL 0 d):=by rw [bl_extract, ←hbl,List.take_length]
    obtain ⟨r1,p1,p2⟩:=splitL_head ((bl s).drop (endL 0 d)) 10
    rw [ex,p1] at hj2
    rw [ex,p1]
    have l1:=cutA_le ((bl s).drop (endL 0 d)) 10
    rw [List.length_drop] at l1
    obtain ⟨line,hl⟩: ∃line,line=cutA ((bl s).drop (endL 0 d)) 10:=⟨_,rfl⟩
    rw [←hl] at hj2 l1
    rw [←hl]
    simp only [go_sem,e0,e4,e5,d1,d2,d3,hget_mid,hj2,strsV_len,strsV_head]
    refine ⟨by omega, ?_⟩
    refine ⟨by kernel_rfl,(c_l27Read (mkB line) d.length (by omega) (by rw [mkB_size];omega)).use (fun _ m=>m) ?_⟩
    rintro _ _ ⟨c,r,rfl,hcr,⟨t3,rfl⟩⟩
    rw [bl_mkB] at hcr
    rw [bl_mkB]
    have stop2: ¬(10∈(bl s).drop (endL 0 d)∧d.length<60∧(readL d.length (cutA ((bl s).drop (endL 0 d)) 10)).isSome=true)->openL 60 0 (bl s)=d:=at1.stop
    rw [←hl] at stop2
    by_cases g3:r1= []
    ·have d4:((r1.length+1:Nat):Int)<2:=by rw [g3];decide
     simp only [go_sem,e0,e4,e5,d1,d2,d3,d4]
     refine fin' _ (stop2 fun ⟨m1,_,_⟩=>p2.1 g3 m1)
    ·have d4: ¬((r1.length+1:Nat):Int)<2:=by
      have:0<r1.length:=List.length_pos_iff.2 g3
      omega
     have m1:10∈(bl s).drop (endL 0 d):=by
      rcases Classical.em (10∈(bl s).drop (endL 0 d)) with m|m
      ·exact m
      ·exact absurd (p2.2 m) g3
     cases g4:readL d.length line with
     | none=>
      simp only [go_sem,e0,e4,e5,d1,d2,d3,d4,g4,Option.isSome_none]
      refine fin' _ (stop2 fun ⟨_,_,m3⟩=>by rw [g4] at m3;cases m3)
     | some x=>
      obtain rfl:=hcr x g4
      have jlt:=(List.getElem?_eq_some_iff.1 hj).1
      obtain ⟨s1,s2⟩:=at1.step g2 m1 (by rw [←hl];exact g4)
      have el:endL 0 (d++ [(c,r)])<=(bl s).length:=s1.2.2
      have s2':endL 0 (d++ [(c,r)])=endL 0 d+((lineL d.length c r).length+1):=s2
      have ll:=congrArg List.length (readL_some g4).2
      rw [ll] at l1
      have w1:IntKind.i64.wrap ((endL 0 d:Int)+(line.length:Nat))=(endL 0 d:Int)+(line.length:Nat):=wrap64 (by omega)
      have w2:IntKind.i64.wrap ((endL 0 d:Int)+(line.length:Nat)+1)=(endL 0 (d++ [(c,r)]):Nat):=by rw [wrap64 (by omega)];omega
      simp only [go_sem,e0,e4,e5,d1,d2,d3,d4,g4,hget_mid,app_old hj,recV_len,hget_setmid jlt hj2,strsV_head,mkB_size,w1,w2,Option.isSome_some]
      refine ⟨by omega,by omega,by omega,g2,d++ [(c,r)],_,t.length+(t2.length+(t3.length+2)),by simp,s1, ?_,rfl,rfl, ?_⟩
      ·simp only [List.length_append,List.length_singleton]
      ·rw [recV_snoc];exact new_endL (by simp)
   ·simp only [go_sem,e0,e4,e5,show ¬((d.length:Int)<60) by omega,show ((endL 0 d:Nat):Int)<s.size by omega]
    exact fin (at1.stop fun ⟨_,m2,_⟩=>g2 m2)
  ·simp only [go_sem,e0,e4,e5,show ¬(((endL 0 d:Nat):Int)<s.size) by omega]
   refine fin (at1.stop fun ⟨m1,_,_⟩ => ?_)
   rw [List.drop_eq_nil_of_le (by omega)] at m1
   cases m1
end
open Go.HH Go.Proofs
theorem joinDP (D P:ByteArray) (h:D.size+P.size<=9000000):hBin .add (.string D) (.string P)=some (.string (D++P)):=adds (by omega)
theorem hget_add1 {h t:Heap} {b:Blk} {j:Nat}:hget (h++b::t) (h.length+(1+j))=t[j]? := by rw [hget_app,Nat.add_comm 1 j,List.getElem?_cons_succ]
theorem ends_at {d:List (BL×BL)} {j:Nat} (h:j<d.length+1):((endsL d).map iv)[j]? = some (.int .i64 (endL 0 (d.take j):Nat)):=by
 have h2:j<(endsL d).length:=by rw [endsL_len];exact h
 rw [List.getElem?_map,List.getElem?_eq_getElem h2,endsL_at];rfl
section
variable {G : List (Nat × Nat)} {h : Heap} {M : Nat → Prop}
theorem c_IsValidLog (pw:PowAt G h) (D P:ByteArray) (n:Int) (hz:D.size+P.size<=9000000):vCall G Tryz.prog M 66 [.agg #[.string D, .string P, .int .i64 n]] h (fun r h'=>r = .bool (decide (logOk (bl D) (bl P) n))∧h<+:h'):=by
 have lD:=bl_len D
 have lP:=bl_len P
 have lDP:(bl D++bl P).length=D.size+P.size:=by rw [List.length_append,lD,lP]
 refine body_of mo Tryz.func66 rfl (by kernel_rfl) (Nat.le_of_ble_eq_true (by kernel_rfl)) rfl ?_
 simp only [go_sem,joinDP D P hz]
 refine ⟨by kernel_rfl,(c_readRecords (pw.mono (by simp)) (D++P) (by rw [ByteArray.size_append];omega)).use (fun _ m=>m) ?_⟩
 rintro _ _ ⟨t,j,j2,rfl,rfl,hj,hj2,hne⟩
 rw [bl_app] at hj hj2
 rw [bl_app]
 obtain ⟨d,hd⟩: ∃d,d=openL 60 0 (bl D++bl P):=⟨_,rfl⟩
 rw [←hd] at hj hj2
 rw [←hd]
 have eA:=ends_at (d:=d) (j:=d.length) (by omega)
 rw [List.take_length] at eA
 have dl:d.length<=60:=by rw [hd];exact openL_len 60 0 _
 have b0:(d.length:Int)<((d.length+1:Nat):Int):=by omega
 simp only [go_sem,hget_one,hj2,eA,Int.toNat_natCast,b0]
 by_cases g1:endL 0 d=D.size+P.size
 ·have ne1:(((endL 0 d:Nat):Int) != ((D.size+P.size:Nat):Int))=false:=by rw [bne_eq_false_iff_eq];omega
  by_cases g2:(d.length:Int)=n
  ·have ne2:((d.length:Int) != n)=false:=by rw [g2];exact bne_self_eq_false _
   simp only [go_sem,hget_one,hj2,eA,Int.toNat_natCast,b0,ne1,ne2]
   have okif:logOk (bl D) (bl P) n↔∃j,j<=d.length∧endL 0 (d.take j)=(bl D).length:=by
    rw [logOk, ←hd,hd,logOk_ends, ←hd,lDP]
    exact ⟨fun hh=>hh.2.1,fun hh=>⟨g1,hh,g2⟩⟩
   refine vLoop.count mo (d.length+1) (fun i e h'=>e 33 = .slice (some ⟨h.length+(1+j2),0,none⟩) (d.length+1) 0∧e 34 = .int .i64 (d.length+1:Nat)∧e 35 = .int .i64 i∧e 1 = .pointer (some ⟨h.length,0,none⟩) ∧
    h'=h++⟨[.string D, .string P, .int .i64 n],3, .rw⟩::t∧∀k,k<i->endL 0 (d.take k)≠(bl D).length) ?_ ?_
   ·simp only [go_sem]
    exact ⟨by rw [Nat.add_assoc],fun k hk=>absurd hk (by omega)⟩
   ·rintro i e _ hi ⟨e33,e34,e35,e1,rfl,hno⟩
    simp only [go_sem,e33,e34,e35,e1]
    refine .intro (fun h1 => ?_) (fun h1 => ?_)
    ·have hlt:i<d.length+1:=by have:=of_decide_eq_true h1;omega
     have hlt2:(i:Int)<((d.length+1:Nat):Int):=by omega
     simp only [go_sem,e33,e34,e35,e1,hget_add1,hj2,ends_at hlt,hlt2]
     by_cases g3:endL 0 (d.take i)=D.size
     ·have eq3:(((endL 0 (d.take i):Nat):Int)==(D.size:Int))=true:=by rw [g3];exact beq_self_eq_true _
      simp only [go_sem,e33,e34,e35,e1,hget_add1,hj2,ends_at hlt,hlt2,eq3]
      rw [decide_eq_true (okif.2 ⟨i,by omega,by rw [lD];exact g3⟩)]
      all_goals first|exact rfl|exact ⟨rfl,rfl⟩|exact List.prefix_append _ _|exact ⟨rfl,List.prefix_append _ _⟩|assumption|exact ⟨rfl,by assumption⟩|exact List.prefix_rfl|exact ⟨rfl,List.prefix_rfl⟩|exact List.IsPrefix.trans (by assumption) (by assumption)|exact ⟨rfl,List.IsPrefix.trans (by assumption) (by assumption)⟩
     ·have eq3:(((endL 0 (d.take i):Nat):Int)==(D.size:Int))=false:=by rw [beq_eq_false_iff_ne];omega
      simp only [go_sem,e33,e34,e35,e1,hget_add1,hj2,ends_at hlt,hlt2,eq3]
      refine ⟨hlt,by rw [wrap64 (by omega)];rfl,fun k hk => ?_⟩
      rcases Nat.lt_succ_iff_lt_or_eq.1 hk with h2|rfl
      ·exact hno k h2
      ·rw [lD];exact g3
    ·obtain rfl:i=d.length+1:=by have:=of_decide_eq_false h1;omega
     simp only [go_sem,e33,e34,e35,e1]
     rw [decide_eq_false (fun hh=>by obtain ⟨k,k1,k2⟩:=okif.1 hh;exact hno k (by omega) k2)]
     all_goals first|exact rfl|exact ⟨rfl,rfl⟩|exact List.prefix_append _ _|exact ⟨rfl,List.prefix_append _ _⟩|assumption|exact ⟨rfl,by assumption⟩|exact List.prefix_rfl|exact ⟨rfl,List.prefix_rfl⟩|exact List.IsPrefix.trans (by assumption) (by assumption)|exact ⟨rfl,List.IsPrefix.trans (by assumption) (by assumption)⟩
  ·have ne2:((d.length:Int) != n)=true:=by rw [bne_iff_ne];exact g2
   simp only [go_sem,hget_one,hj2,eA,Int.toNat_natCast,b0,ne1,ne2]
   rw [decide_eq_false (fun hh=>g2 (by rw [logOk, ←hd] at hh;exact hh.2.2))]
   all_goals first|exact rfl|exact ⟨rfl,rfl⟩|exact List.prefix_append _ _|exact ⟨rfl,List.prefix_append _ _⟩|assumption|exact ⟨rfl,by assumption⟩|exact List.prefix_rfl|exact ⟨rfl,List.prefix_rfl⟩|exact List.IsPrefix.trans (by assumption) (by assumption)|exact ⟨rfl,List.IsPrefix.trans (by assumption) (by assumption)⟩
 ·have ne1:(((endL 0 d:Nat):Int) != ((D.size+P.size:Nat):Int))=true:=by rw [bne_iff_ne];omega
  simp only [go_sem,hget_one,hj2,eA,Int.toNat_natCast,b0,ne1]
  rw [decide_eq_false (fun hh=>g1 (by rw [logOk, ←hd,lDP] at hh;exact hh.1))]
  all_goals first|exact rfl|exact ⟨rfl,rfl⟩|exact List.prefix_append _ _|exact ⟨rfl,List.prefix_append _ _⟩|assumption|exact ⟨rfl,by assumption⟩|exact List.prefix_rfl|exact ⟨rfl,List.prefix_rfl⟩|exact List.IsPrefix.trans (by assumption) (by assumption)|exact ⟨rfl,List.IsPrefix.trans (by assumption) (by assumption)⟩
set_option maxRecDepth 100000 in
theorem c_l27Log (D P:ByteArray) (n:Int) (hz:D.size+P.size<=9000000):vCall [] Tryz.prog M 44 [.agg #[.string D, .string P, .int .i64 n]] h (fun r h'=>r = .bool (decide (logOk (bl D) (bl P) n))∧h<+:h'):=by
 have lD:=bl_len D
 have lP:=bl_len P
 have lDP:(bl D++bl P).length=D.size+P.size:=by rw [List.length_append,lD,lP]
 have w1:IntKind.i64.wrap ((D.size:Int)+P.size)=((D.size+P.size:Nat):Int):=by rw [wrap64 (by omega)];omega
 refine body_of mo Tryz.func44 rfl (by kernel_rfl) (Nat.le_of_ble_eq_true (by kernel_rfl)) rfl ?_
 simp only [go_sem,joinDP D P hz,w1]
 by_cases g0:30000<D.size+P.size
 ·simp only [go_sem,joinDP D P hz,w1,show (30000:Int)<((D.size+P.size:Nat):Int) by omega]
  rw [decide_eq_false (fun hh=>by have:=logOk_small hh.1;rw [lDP] at this;omega)]
  all_goals first|exact rfl|exact ⟨rfl,rfl⟩|exact List.prefix_append _ _|exact ⟨rfl,List.prefix_append _ _⟩|assumption|exact ⟨rfl,by assumption⟩|exact List.prefix_rfl|exact ⟨rfl,List.prefix_rfl⟩|exact List.IsPrefix.trans (by assumption) (by assumption)|exact ⟨rfl,List.IsPrefix.trans (by assumption) (by assumption)⟩
 ·simp only [go_sem,joinDP D P hz,w1,show ¬(30000:Int)<((D.size+P.size:Nat):Int) by omega]
  refine ⟨by kernel_rfl,(c_l27Open (D++P) (by rw [ByteArray.size_append];omega)).use (fun _ m=>m) ?_⟩
  rintro _ _ ⟨t,j,rfl,rfl,hj⟩
  rw [bl_app]
  obtain ⟨d,hd⟩: ∃d,d=openL 60 0 (bl D++bl P):=⟨_,rfl⟩
  rw [←hd]
  simp only [go_sem,joinDP D P hz,w1]
  refine ⟨by kernel_rfl,(c_l27Open D (by omega)).use (fun _ m=>m) ?_⟩
  rintro _ _ ⟨t2,j2,rfl,rfl,hj2⟩
  obtain ⟨d2,hd2⟩: ∃d2,d2=openL 60 0 (bl D):=⟨_,rfl⟩
  rw [←hd2]
  have ok:logOk (bl D) (bl P) n↔endL 0 d=D.size+P.size∧endL 0 d2=D.size∧(d.length:Int)=n:=by rw [logOk, ←hd, ←hd2,lDP,lD]
  by_cases g1:endL 0 d=D.size+P.size
  ·have q1:(((endL 0 d:Nat):Int)==((D.size+P.size:Nat):Int))=true:=by rw [g1];exact beq_self_eq_true _
   by_cases g2:endL 0 d2=D.size
   ·have q2:(((endL 0 d2:Nat):Int)==(D.size:Int))=true:=by rw [g2];exact beq_self_eq_true _
    simp only [go_sem,joinDP D P hz,w1,q1,q2]
    have:(decide (logOk (bl D) (bl P) n))=((d.length:Int)==n):=by
     rw [Bool.eq_iff_iff,decide_eq_true_iff,beq_iff_eq,ok]
     exact ⟨fun hh=>hh.2.2,fun hh=>⟨g1,g2,hh⟩⟩
    rw [this]
    try all_goals first|exact rfl|exact ⟨rfl,rfl⟩|exact List.prefix_append _ _|exact ⟨rfl,List.prefix_append _ _⟩|assumption|exact ⟨rfl,by assumption⟩|exact List.prefix_rfl|exact ⟨rfl,List.prefix_rfl⟩|exact List.IsPrefix.trans (by assumption) (by assumption)|exact ⟨rfl,List.IsPrefix.trans (by assumption) (by assumption)⟩
   ·have q2:(((endL 0 d2:Nat):Int)==(D.size:Int))=false:=by rw [beq_eq_false_iff_ne];omega
    simp only [go_sem,joinDP D P hz,w1,q1,q2]
    rw [decide_eq_false (fun hh=>g2 (ok.1 hh).2.1)]
    try all_goals first|exact rfl|exact ⟨rfl,rfl⟩|exact List.prefix_append _ _|exact ⟨rfl,List.prefix_append _ _⟩|assumption|exact ⟨rfl,by assumption⟩|exact List.prefix_rfl|exact ⟨rfl,List.prefix_rfl⟩|exact List.IsPrefix.trans (by assumption) (by assumption)|exact ⟨rfl,List.IsPrefix.trans (by assumption) (by assumption)⟩
  ·have q1:(((endL 0 d:Nat):Int)==((D.size+P.size:Nat):Int))=false:=by rw [beq_eq_false_iff_ne];omega
   simp only [go_sem,joinDP D P hz,w1,q1]
   rw [decide_eq_false (fun hh=>g1 (ok.1 hh).1)]
   try all_goals first|exact rfl|exact ⟨rfl,rfl⟩|exact List.prefix_append _ _|exact ⟨rfl,List.prefix_append _ _⟩|assumption|exact ⟨rfl,by assumption⟩|exact List.prefix_rfl|exact ⟨rfl,List.prefix_rfl⟩|exact List.IsPrefix.trans (by assumption) (by assumption)|exact ⟨rfl,List.IsPrefix.trans (by assumption) (by assumption)⟩
theorem logOk_count {D P:BL} {n:Int} (h:logOk D P n):0<=n∧n<=60:=by
 have h1:=h.2.2
 have h2:=openL_len 60 0 (D++P)
 omega
def appV (D P:ByteArray) (n:Int) (c r:ByteArray):Value:=if logOk (bl D) (bl P) n∧recOk c r=true then (if n=60 then .tuple #[.agg #[.string D, .string P, .int .i64 n], .int .i64 2]
 else .tuple #[.agg #[.string D, .string (P++mkB (lineL n.toNat (bl c) (bl r)++ [10])), .int .i64 (n+1)], .int .i64 0]) else .tuple #[.agg #[.string D, .string P, .int .i64 n], .int .i64 1]
theorem line_add (P:ByteArray) (k:Nat) (c r:ByteArray) (hk:k<100) (g:recOk c r=true) (hP:P.size<=9000000):hBin .add (.string P) (.string (mkB (lineL k (bl c) (bl r)++ [10])))=some (.string (P++mkB (lineL k (bl c) (bl r)++ [10]))):=by
 rw [recOk_L] at g
 have:=lineL_len g hk
 exact adds (by rw [mkB_size,List.length_append,List.length_singleton];omega)
theorem c_AppendRecord (pw:PowAt G h) (D P:ByteArray) (n:Int) (c r:ByteArray) (hz:D.size+P.size<=9000000) (hc:c.size<=9223372036854775806) (hr:r.size<=9223372036854775806) :
  vCall G Tryz.prog M 57 [.agg #[.string D, .string P, .int .i64 n], .agg #[.string c, .string r]] h (fun v h'=>v=appV D P n c r∧h<+:h'):=by
 refine body_of mo Tryz.func57 rfl (by kernel_rfl) (Nat.le_of_ble_eq_true (by kernel_rfl)) rfl ?_
 simp only [go_sem]
 refine ⟨by kernel_rfl,(c_IsValidLog (pw.mono (by simp)) D P n hz).use (fun _ m=>m) ?_⟩
 rintro _ _ ⟨rfl,⟨t,rfl⟩⟩
 by_cases g:logOk (bl D) (bl P) n
 ·have gc:=logOk_count g
  simp only [go_sem,decb g]
  refine ⟨by kernel_rfl,((c_IsValidRecord c r hc hr).addG).use (fun _ m=>m) ?_⟩
  rintro _ _ ⟨rfl,⟨t2,rfl⟩⟩
  cases g2:recOk c r
  ·simp only [go_sem,decb g,g2]
   rw [appV,if_neg (fun hh=>by rw [g2] at hh;exact absurd hh.2 (by decide))]
   try all_goals first|exact rfl|exact ⟨rfl,rfl⟩|exact List.prefix_append _ _|exact ⟨rfl,List.prefix_append _ _⟩|assumption|exact ⟨rfl,by assumption⟩|exact List.prefix_rfl|exact ⟨rfl,List.prefix_rfl⟩|exact List.IsPrefix.trans (by assumption) (by assumption)|exact ⟨rfl,List.IsPrefix.trans (by assumption) (by assumption)⟩
  ·by_cases g3:n=60
   ·have q:(n==60)=true:=by rw [g3];rfl
    simp only [go_sem,decb g,g2,q]
    rw [appV,if_pos ⟨g,g2⟩,if_pos g3]
    try all_goals first|exact rfl|exact ⟨rfl,rfl⟩|exact List.prefix_append _ _|exact ⟨rfl,List.prefix_append _ _⟩|assumption|exact ⟨rfl,by assumption⟩|exact List.prefix_rfl|exact ⟨rfl,List.prefix_rfl⟩|exact List.IsPrefix.trans (by assumption) (by assumption)|exact ⟨rfl,List.IsPrefix.trans (by assumption) (by assumption)⟩
   ·have q:(n==60)=false:=by rw [beq_eq_false_iff_ne];exact g3
    obtain ⟨m,rfl⟩:=Int.eq_ofNat_of_zero_le gc.1
    have w1:IntKind.i64.wrap ((m:Int)+1)=(m:Int)+1:=wrap64 (by omega)
    simp only [go_sem,decb g,g2,q]
    refine ⟨by kernel_rfl,(c_encodeRecord (pw.mono (by simp)) m c r (by omega) g2).use (fun _ m=>m) ?_⟩
    rintro _ _ ⟨rfl,⟨t3,rfl⟩⟩
    simp only [go_sem,decb g,g2,q,line_add P m c r (by omega) g2 (by omega),w1]
    rw [appV,if_pos ⟨g,g2⟩,if_neg g3]
    try all_goals first|exact rfl|exact ⟨rfl,rfl⟩|exact List.prefix_append _ _|exact ⟨rfl,List.prefix_append _ _⟩|assumption|exact ⟨rfl,by assumption⟩|exact List.prefix_rfl|exact ⟨rfl,List.prefix_rfl⟩|exact List.IsPrefix.trans (by assumption) (by assumption)|exact ⟨rfl,List.IsPrefix.trans (by assumption) (by assumption)⟩
 ·simp only [go_sem,dect g]
  rw [appV,if_neg (fun hh=>g hh.1)]
  try all_goals first|exact rfl|exact ⟨rfl,rfl⟩|exact List.prefix_append _ _|exact ⟨rfl,List.prefix_append _ _⟩|assumption|exact ⟨rfl,by assumption⟩|exact List.prefix_rfl|exact ⟨rfl,List.prefix_rfl⟩|exact List.IsPrefix.trans (by assumption) (by assumption)|exact ⟨rfl,List.IsPrefix.trans (by assumption) (by assumption)⟩
theorem c_sAppendRecord (D P:ByteArray) (n:Int) (c r:ByteArray) (hz:D.size+P.size<=9000000) (hc:c.size<=9223372036854775806) (hr:r.size<=9223372036854775806) :
  vCall [] Tryz.prog M 51 [.agg #[.string D, .string P, .int .i64 n], .agg #[.string c, .string r]] h (fun v h'=>v=appV D P n c r∧h<+:h'):=by
 refine body_of mo Tryz.func51 rfl (by kernel_rfl) (Nat.le_of_ble_eq_true (by kernel_rfl)) rfl ?_
 simp only [go_sem]
 refine ⟨by kernel_rfl,(c_l27Log D P n hz).use (fun _ m=>m) ?_⟩
 rintro _ _ ⟨rfl,⟨t,rfl⟩⟩
 by_cases g:logOk (bl D) (bl P) n
 ·have gc:=logOk_count g
  simp only [go_sem,decb g]
  refine ⟨by kernel_rfl,(c_l27Good c r hc hr).use (fun _ m=>m) ?_⟩
  rintro _ _ ⟨rfl,⟨t2,rfl⟩⟩
  cases g2:recOk c r
  ·simp only [go_sem,decb g,g2]
   rw [appV,if_neg (fun hh=>by rw [g2] at hh;exact absurd hh.2 (by decide))]
   try all_goals first|exact rfl|exact ⟨rfl,rfl⟩|exact List.prefix_append _ _|exact ⟨rfl,List.prefix_append _ _⟩|assumption|exact ⟨rfl,by assumption⟩|exact List.prefix_rfl|exact ⟨rfl,List.prefix_rfl⟩|exact List.IsPrefix.trans (by assumption) (by assumption)|exact ⟨rfl,List.IsPrefix.trans (by assumption) (by assumption)⟩
  ·by_cases g3:n=60
   ·have q:(n==60)=true:=by rw [g3];rfl
    simp only [go_sem,decb g,g2,q]
    rw [appV,if_pos ⟨g,g2⟩,if_pos g3]
    try all_goals first|exact rfl|exact ⟨rfl,rfl⟩|exact List.prefix_append _ _|exact ⟨rfl,List.prefix_append _ _⟩|assumption|exact ⟨rfl,by assumption⟩|exact List.prefix_rfl|exact ⟨rfl,List.prefix_rfl⟩|exact List.IsPrefix.trans (by assumption) (by assumption)|exact ⟨rfl,List.IsPrefix.trans (by assumption) (by assumption)⟩
   ·have q:(n==60)=false:=by rw [beq_eq_false_iff_ne];exact g3
    obtain ⟨m,rfl⟩:=Int.eq_ofNat_of_zero_le gc.1
    have w1:IntKind.i64.wrap ((m:Int)+1)=(m:Int)+1:=wrap64 (by omega)
    simp only [go_sem,decb g,g2,q]
    refine ⟨by kernel_rfl,(c_l27Line m c r (by omega) g2).use (fun _ m=>m) ?_⟩
    rintro _ _ ⟨rfl,⟨t3,rfl⟩⟩
    simp only [go_sem,decb g,g2,q,line_add P m c r (by omega) g2 (by omega),w1]
    rw [appV,if_pos ⟨g,g2⟩,if_neg g3]
    try all_goals first|exact rfl|exact ⟨rfl,rfl⟩|exact List.prefix_append _ _|exact ⟨rfl,List.prefix_append _ _⟩|assumption|exact ⟨rfl,by assumption⟩|exact List.prefix_rfl|exact ⟨rfl,List.prefix_rfl⟩|exact List.IsPrefix.trans (by assumption) (by assumption)|exact ⟨rfl,List.IsPrefix.trans (by assumption) (by assumption)⟩
 ·simp only [go_sem,dect g]
  rw [appV,if_neg (fun hh=>g hh.1)]
  try all_goals first|exact rfl|exact ⟨rfl,rfl⟩|exact List.prefix_append _ _|exact ⟨rfl,List.prefix_append _ _⟩|assumption|exact ⟨rfl,by assumption⟩|exact List.prefix_rfl|exact ⟨rfl,List.prefix_rfl⟩|exact List.IsPrefix.trans (by assumption) (by assumption)|exact ⟨rfl,List.IsPrefix.trans (by assumption) (by assumption)⟩
end
open Go.HH Go.Proofs
section
variable {G : List (Nat × Nat)} {h : Heap} {M : Nat → Prop}
theorem c_toLog (D P:ByteArray) (n:Int):vCall [] Tryz.prog M 13 [.agg #[.string D, .string P, .int .i64 n]] h (fun v h'=>v = .agg #[.string D, .string P, .int .i64 n]∧h<+:h'):=by
 refine body_of mo Tryz.func13 rfl (by kernel_rfl) (Nat.le_of_ble_eq_true (by kernel_rfl)) rfl ?_
 simp only [go_sem]
 try all_goals first|exact rfl|exact ⟨rfl,rfl⟩|exact List.prefix_append _ _|exact ⟨rfl,List.prefix_append _ _⟩|assumption|exact ⟨rfl,by assumption⟩|exact List.prefix_rfl|exact ⟨rfl,List.prefix_rfl⟩|exact List.IsPrefix.trans (by assumption) (by assumption)|exact ⟨rfl,List.IsPrefix.trans (by assumption) (by assumption)⟩
theorem c_szLog (D P:ByteArray) (k n:Int) (hk:0<=k∧k<=1048576) (hD:D.size<=9223372036854775807) (hP:P.size<=9223372036854775807):vCall [] Tryz.prog M 10 [.agg #[.string D, .string P, .int .i64 n], .int .i64 k] h
  (fun v h'=>(v = .int .i64 (if k-D.size<0∨k-D.size-P.size<0 then -1 else k-D.size-P.size))∧h<+:h'):=by
 refine body_of mo Tryz.func10 rfl (by kernel_rfl) (Nat.le_of_ble_eq_true (by kernel_rfl)) rfl ?_
 simp only [go_sem]
 rw [wrap64 (show _∧_ by omega)]
 by_cases h1:k-D.size<0
 ·simp only [go_sem,h1,true_or]
  try all_goals first|exact rfl|exact ⟨rfl,rfl⟩|exact List.prefix_append _ _|exact ⟨rfl,List.prefix_append _ _⟩|assumption|exact ⟨rfl,by assumption⟩|exact List.prefix_rfl|exact ⟨rfl,List.prefix_rfl⟩|exact List.IsPrefix.trans (by assumption) (by assumption)|exact ⟨rfl,List.IsPrefix.trans (by assumption) (by assumption)⟩
 ·simp only [go_sem,h1,false_or]
  rw [wrap64 (show _∧_ by omega)]
  by_cases h2:k-D.size-P.size<0
  ·simp only [go_sem,h2,or_true]
   try all_goals first|exact rfl|exact ⟨rfl,rfl⟩|exact List.prefix_append _ _|exact ⟨rfl,List.prefix_append _ _⟩|assumption|exact ⟨rfl,by assumption⟩|exact List.prefix_rfl|exact ⟨rfl,List.prefix_rfl⟩|exact List.IsPrefix.trans (by assumption) (by assumption)|exact ⟨rfl,List.IsPrefix.trans (by assumption) (by assumption)⟩
  ·simp only [go_sem,h2,h1,or_self]
   try all_goals first|exact rfl|exact ⟨rfl,rfl⟩|exact List.prefix_append _ _|exact ⟨rfl,List.prefix_append _ _⟩|assumption|exact ⟨rfl,by assumption⟩|exact List.prefix_rfl|exact ⟨rfl,List.prefix_rfl⟩|exact List.IsPrefix.trans (by assumption) (by assumption)|exact ⟨rfl,List.IsPrefix.trans (by assumption) (by assumption)⟩
theorem c_szLogN (D P:ByteArray) (k n:Int) (hk:0<=k∧k<=1048576) (hD:D.size<=9223372036854775807) (hP:P.size<=9223372036854775807) (hno:k<D.size+P.size):vCall [] Tryz.prog M 10 [.agg #[.string D, .string P, .int .i64 n], .int .i64 k] h
  (fun v h'=>v = .int .i64 (-1)∧h<+:h'):=by
 refine (c_szLog D P k n hk hD hP).use (fun _ m=>m) ?_
 rintro _ _ ⟨rfl,hp⟩
 rw [if_pos (by omega)]
 exact ⟨rfl,hp⟩
theorem c_szLogY (D P:ByteArray) (k n:Int) (hk:0<=k∧k<=1048576) (hD:D.size<=9223372036854775807) (hP:P.size<=9223372036854775807) (hok: ¬k<D.size+P.size):vCall [] Tryz.prog M 10 [.agg #[.string D, .string P, .int .i64 n], .int .i64 k] h
  (fun v h'=>v = .int .i64 (k-D.size-P.size)∧h<+:h'):=by
 refine (c_szLog D P k n hk hD hP).use (fun _ m=>m) ?_
 rintro _ _ ⟨rfl,hp⟩
 rw [if_neg (by omega)]
 exact ⟨rfl,hp⟩
end
theorem FitV.log {h:Heap} {v:Value} (f:FitV h (.struct (.pair .str (.pair .str (.pair (.int .i64) .unit)))) v): ∃D P n,v = .agg #[.string D, .string P, .int .i64 n]∧D.size<=9223372036854775807∧P.size<=9223372036854775807:=by
 obtain ⟨cs,rfl,g⟩:=f.struct
 obtain ⟨_,_,rfl,g0,r0⟩:=g.pair
 obtain ⟨_,_,rfl,g1,r1⟩:=r0.pair
 obtain ⟨_,_,rfl,g2,r2⟩:=r1.pair
 obtain rfl:=r2.unit
 obtain ⟨D,rfl,hD⟩:=g0
 obtain ⟨P,rfl,hP⟩:=g1
 obtain ⟨n,rfl,_⟩:=g2.int
 exact ⟨D,P,n,rfl,Nat.le_trans hD (by decide),Nat.le_trans hP (by decide)⟩
open Go.HH Go.Proofs
def conOk (c:Con):Prop:=valOk c.N c.P c.V∧(1<=c.src∧c.src<=c.N)∧logOk (bl c.D) (bl c.Q) c.cnt
open Classical in
noncomputable instance {c:Con}:Decidable (conOk c):=propDecidable _
section
variable {G : List (Nat × Nat)} {h : Heap} {M : Nat → Prop}
structure ConB (c:Con):Prop where
 p:c.P.length<=9223372036854775807
 v:c.V.length<=9223372036854775807
 d:c.D.size<=9223372036854775807
 q:c.Q.size<=9223372036854775807
theorem c_IsValidConsole {n:Nat} (pw:PowAt G h) (c:Con) (wP wV:Value) (s:ConS n h c wP wV) (hes:EszC h 4 wV) (hc:conSmall c):vCall G Tryz.prog M 21 [conV c wP wV] h (fun r h'=>r = .bool (decide (conOk c))∧h<+:h'):=by
 refine body_of mo Tryz.func21 rfl (by kernel_rfl) (Nat.le_of_ble_eq_true (by kernel_rfl)) rfl ?_
 simp only [go_sem,conV]
 refine ⟨by kernel_rfl,((c_IsValidValves _ _ c.N c.P c.V (s.net.mono (by simp)) (s.v.mono (by simp)).1 (hes.mono (by simp)) hc.1 hc.2.1).addG).use (fun _ m=>m) ?_⟩
 rintro _ _ ⟨rfl,⟨t,rfl⟩⟩
 by_cases h1:valOk c.N c.P c.V
 ·simp only [go_sem,conV,decb h1]
  refine ⟨by kernel_rfl,((c_has _ _ _).addG).use (fun _ m=>m) ?_⟩
  rintro _ _ ⟨rfl,⟨t2,rfl⟩⟩
  by_cases h2:1<=c.src∧c.src<=c.N
  ·simp only [go_sem,conV,decb h1,decb h2]
   refine ⟨by kernel_rfl,(c_IsValidLog (pw.mono (by simp)) c.D c.Q c.cnt (by have:=hc.2.2;omega)).use (fun _ m=>m) ?_⟩
   rintro _ _ ⟨rfl,⟨t3,rfl⟩⟩
   by_cases h3:logOk (bl c.D) (bl c.Q) c.cnt
   ·simp only [go_sem,conV,decb h1,decb h2,decb h3]
    exact congrArg Value.bool (decide_eq_true (p:=conOk c) ⟨h1,h2,h3⟩).symm
   ·simp only [go_sem,conV,decb h1,decb h2,dect h3]
    exact congrArg Value.bool (decide_eq_false (fun hh:conOk c=>h3 hh.2.2)).symm
  ·simp only [go_sem,conV,decb h1,dect h2]
   exact congrArg Value.bool (decide_eq_false (fun hh:conOk c=>h2 hh.2.1)).symm
 ·simp only [go_sem,conV,dect h1]
  exact congrArg Value.bool (decide_eq_false (fun hh:conOk c=>h1 hh.1)).symm
theorem c_l2NodeC {n:Nat} (v:Value) (N:Int) (P:List Pip) (x:Int) (hv:NA n h v N P) (hP:P.length<=1048576):vCall [] Tryz.prog M 87 [v, .int .i64 x] h (fun r h'=>r = .bool (decide (netGood N P∧1<=x∧x<=N))∧h<+:h'):=by
 obtain ⟨w,rfl,sw⟩:=id hv
 refine body_of mo Tryz.func87 rfl (by kernel_rfl) (Nat.le_of_ble_eq_true (by kernel_rfl)) rfl ?_
 simp only [go_sem]
 refine ⟨by kernel_rfl,(c_l2Good _ N P (hv.mono (by simp)) hP).use (fun _ m=>m) ?_⟩
 rintro _ _ ⟨rfl,⟨t,rfl⟩⟩
 by_cases h1:netGood N P
 ·simp only [go_sem,decb h1]
  refine ⟨by kernel_rfl,(c_l1In _ _ _).use (fun _ m=>m) ?_⟩
  rintro _ _ ⟨rfl,rfl⟩
  simp only [go_sem,decb h1]
  simp [h1]
 ·simp only [go_sem,dect h1]
  simp [h1]
theorem c_l28Good {n:Nat} (c:Con) (wP wV:Value) (s:ConS n h c wP wV) (hc:conSmall c):vCall [] Tryz.prog M 59 [conV c wP wV] h (fun r h'=>r = .bool (decide (conOk c))∧h<+:h'):=by
 refine body_of mo Tryz.func59 rfl (by kernel_rfl) (Nat.le_of_ble_eq_true (by kernel_rfl)) rfl ?_
 simp only [go_sem,conV]
 refine ⟨by kernel_rfl,(c_l4Good _ _ c.N c.P c.V (s.net.mono (by simp)) (s.v.mono (by simp)).1 hc.1 hc.2.1).use (fun _ m=>m) ?_⟩
 rintro _ _ ⟨rfl,⟨t,rfl⟩⟩
 by_cases h1:valOk c.N c.P c.V
 ·simp only [go_sem,conV,decb h1]
  refine ⟨by kernel_rfl,(c_l2NodeC _ c.N c.P c.src (s.net.mono (by simp)) hc.1).use (fun _ m=>m) ?_⟩
  rintro _ _ ⟨rfl,⟨t2,rfl⟩⟩
  by_cases h2:netGood c.N c.P∧1<=c.src∧c.src<=c.N
  ·simp only [go_sem,conV,decb h1,decb h2]
   refine ⟨by kernel_rfl,(c_l27Log c.D c.Q c.cnt (by have:=hc.2.2;omega)).use (fun _ m=>m) ?_⟩
   rintro _ _ ⟨rfl,⟨t3,rfl⟩⟩
   by_cases h3:logOk (bl c.D) (bl c.Q) c.cnt
   ·simp only [go_sem,conV,decb h1,decb h2,decb h3]
    exact congrArg Value.bool (decide_eq_true (p:=conOk c) ⟨h1,h2.2,h3⟩).symm
   ·simp only [go_sem,conV,decb h1,decb h2,dect h3]
    exact congrArg Value.bool (decide_eq_false (fun hh:conOk c=>h3 hh.2.2)).symm
  ·simp only [go_sem,conV,decb h1,dect h2]
   exact congrArg Value.bool (decide_eq_false (fun hh:conOk c=>h2 ⟨h1.1,hh.2.1⟩)).symm
 ·simp only [go_sem,conV,dect h1]
  exact congrArg Value.bool (decide_eq_false (fun hh:conOk c=>h1 hh.1)).symm
end
theorem Fits.cons {h:Heap} {v:Value} (ft:FitV h (.struct (.pair (.struct (.pair (.int .i64) (.pair (.slice (.struct (.pair (.int .i64) (.pair (.int .i64) (.pair (.int .i64) (.pair (.int .i64) .unit)))))) .unit))) (.pair (.slice (.struct (.pair (.int .i64) (.pair (.int .i64) (.pair (.int .i64) (.pair .bool .unit)))))) (.pair (.int .i64) (.pair (.struct (.pair .str (.pair .str (.pair (.int .i64) .unit)))) .unit))))) v) :
  ∃c wP wV,v=conV c wP wV∧ConS h.length h c wP wV∧ConB c:=by
 obtain ⟨cs,rfl,f⟩:=ft.struct
 obtain ⟨c1,c2,rfl,f1,f2⟩:=f.pair
 obtain ⟨a1,a2,rfl,g1,g2⟩:=Fits.pair (show Fits h (.pair (.int .i64) (.pair (.slice (.struct (.pair (.int .i64) (.pair (.int .i64) (.pair (.int .i64) (.pair (.int .i64) .unit)))))) .unit)) c1 from f1)
 obtain ⟨N,rfl,_⟩:=g1.int
 obtain ⟨a3,a4,rfl,g3,g4⟩:=g2.pair
 obtain rfl:=g4.unit
 obtain ⟨wP,rfl,fw⟩:=Fits.oneSlice g3
 obtain ⟨rows,s,hl,hr⟩:=Fits.sb fw
 obtain ⟨P,rfl⟩:=rows_map (f:=pip) (rows:=rows) (fun r hr'=>by
  have hf:=hr r hr'
  obtain ⟨a1,a2,rfl,g1,g2⟩:=Fits.pair (show Fits h (.pair (.int .i64) (.pair (.int .i64) (.pair (.int .i64) (.pair (.int .i64) .unit)))) r from hf)
  obtain ⟨x1,rfl,_⟩:=g1.int
  obtain ⟨a3,a4,rfl,g3,g4⟩:=g2.pair
  obtain ⟨x2,rfl,_⟩:=g3.int
  obtain ⟨a5,a6,rfl,g5,g6⟩:=g4.pair
  obtain ⟨x3,rfl,_⟩:=g5.int
  obtain ⟨a7,a8,rfl,g7,g8⟩:=g6.pair
  obtain ⟨x4,rfl,_⟩:=g7.int
  obtain rfl:=g8.unit
  exact ⟨(x1,x2,x3,x4),rfl⟩)
 obtain ⟨b1,b2,rfl,k1,k2⟩:=f2.pair
 obtain ⟨wV,rfl,fv⟩:=Fits.oneSlice k1
 obtain ⟨rows,s',hl',hr⟩:=Fits.sb fv
 obtain ⟨V,rfl⟩:=rows_map (f:=vlv) (rows:=rows) (fun r hr'=>by
  have hf:=hr r hr'
  obtain ⟨a1,a2,rfl,g1,g2⟩:=Fits.pair (show Fits h (.pair (.int .i64) (.pair (.int .i64) (.pair (.int .i64) (.pair .bool .unit)))) r from hf)
  obtain ⟨x1,rfl,_⟩:=g1.int
  obtain ⟨a3,a4,rfl,g3,g4⟩:=g2.pair
  obtain ⟨x2,rfl,_⟩:=g3.int
  obtain ⟨a5,a6,rfl,g5,g6⟩:=g4.pair
  obtain ⟨x3,rfl,_⟩:=g5.int
  obtain ⟨a7,a8,rfl,g7,g8⟩:=g6.pair
  obtain ⟨x4,rfl⟩: ∃b,a7= [.bool b]:=g7
  obtain rfl:=g8.unit
  exact ⟨(x1,x2,x3,x4),rfl⟩)
 obtain ⟨b3,b4,rfl,k3,k4⟩:=k2.pair
 obtain ⟨src,rfl,_⟩:=k3.int
 obtain ⟨b5,b6,rfl,k5,k6⟩:=k4.pair
 obtain rfl:=k6.unit
 obtain ⟨d1,d2,rfl,m1,m2⟩:=Fits.pair (show Fits h (.pair .str (.pair .str (.pair (.int .i64) .unit))) b5 from k5)
 obtain ⟨D,rfl,hD⟩: ∃s:ByteArray,d1= [.string s]∧s.size<=maxLen:=m1
 obtain ⟨d3,d4,rfl,m3,m4⟩:=m2.pair
 obtain ⟨Q,rfl,hQ⟩: ∃s:ByteArray,d3= [.string s]∧s.size<=maxLen:=m3
 obtain ⟨d5,d6,rfl,m5,m6⟩:=m4.pair
 obtain ⟨cnt,rfl,_⟩:=m5.int
 obtain rfl:=m6.unit
 rw [List.length_map] at hl hl'
 exact ⟨⟨N,P,V,src,D,Q,cnt⟩,wP,wV,rfl,⟨s,s'⟩,⟨hl,hl',hD,hQ⟩⟩
open Go.HH Go.Proofs
def gl (l:List Int) (i:Nat):Int:=l.getD i 0
theorem gl_at {l:List Int} {i:Nat} (h:i<l.length):l[i]=gl l i:=by rw [gl,List.getD,List.getElem?_eq_getElem h];rfl
def insV (V:List Vlv) (v:Vlv):List Vlv:=insAt V (low (V.map fun q=>q.1) v.1) v
def isEdit (w:ByteArray):Prop:=w=w_pipe∨w=w_valve∨w=w_shut∨w=w_open∨w=w_source
instance {w:ByteArray}:Decidable (isEdit w):=inferInstanceAs (Decidable (_∨_∨_∨_∨_))
def pipOf (l:List Int):Pip:=(gl l 0,gl l 1,gl l 2,gl l 3)
def vlvOf (l:List Int):Vlv:=(gl l 0,gl l 1,gl l 2,false)
noncomputable def editR (C:Con) (w:ByteArray) (l:List Int):Option Con:=
 if w=w_pipe then (if l.length=4∧addOk C.N C.P (pipOf l) then some {C with P:=insP C.P (pipOf l)} else none)
 else if w=w_valve then (if l.length=3∧valOk C.N C.P (insV C.V (vlvOf l)) then some {C with V:=insV C.V (vlvOf l)} else none)
 else if w=w_shut∨w=w_open then (if l.length=1∧turnOk C.N C.P C.V (gl l 0) (decide (w=w_shut)) then some {C with V:=turnR C.N C.P C.V (gl l 0) (decide (w=w_shut))} else none)
 else if w=w_source then (if l.length=1∧1<=gl l 0∧gl l 0<=C.N then some {C with src:=gl l 0} else none)
 else none
noncomputable def askR (C:Con) (w:ByteArray) (l:List Int):Option (List Int):=
 if w=w_dry then (if l.length=0∧valOk C.N C.P C.V∧1<=C.src∧C.src<=C.N then some (dryL C.N C.P C.V C.src) else none)
 else if w=w_bridges then (if l.length=0∧netGood C.N C.P then some (briR C.N C.P) else none)
 else if w=w_burst then (if l.length=1 then planR C.N C.P C.V C.src (gl l 0) else none)
 else if w=w_segment then (if l.length=1∧valOk C.N C.P C.V∧0<=pidx C.P (gl l 0) then some (segL C.N C.P C.V (gl l 0)) else none)
 else if w=w_around then (if l.length=1∧valOk C.N C.P C.V∧0<=pidx C.P (gl l 0) then some (arndL C.N C.P C.V (gl l 0)) else none)
 else if w=w_way then (if l.length=2∧wayOk C.N C.P (gl l 0) (gl l 1) then some (wayR C.N C.P (gl l 0) (gl l 1)) else none)
 else none
open Go.HH Go.Proofs
theorem FQs.v2 {h t u:Heap} {a b a' b':Blk} {lo hi:Nat} {v:Value} {rows:List (List Value)} (s:FQs lo hi 4 (h++ [a,b]++t) v rows) (hl:h.length+2<=lo):FQs lo hi 4 (h++a'::b'::(t++u)) v rows:=by
 have:=(s.swapped (y:= [a',b']) hl rfl (Nat.le_refl _) (Nat.le_refl _)).mono (List.prefix_append _ u)
 simpa using this
theorem FQs.v4 {h t t2:Heap} {a b c d a' b' c' d':Blk} {lo hi:Nat} {v:Value} {rows:List (List Value)} (s:FQs lo hi 4 (h++a::b::(t++ [c,d])++t2) v rows) (hl:h.length+t.length+4<=lo):FQs lo hi 4 (h++a'::b'::(t++c'::d'::t2)) v rows:=by
 have s':FQs lo hi 4 (h++([a,b]++t++ [c,d])++t2) v rows:=by simpa using s
 have:=s'.swapped (y:= [a',b']++t++ [c',d']) (by simp;omega) (by simp) (Nat.le_refl _) (Nat.le_refl _)
 simpa using this
theorem FQs.v3 {h t t2:Heap} {a b c a' b' c':Blk} {lo hi:Nat} {v:Value} {rows:List (List Value)} (s:FQs lo hi 4 (h++a::b::(t++ [c])++t2) v rows) (hl:h.length+t.length+3<=lo):FQs lo hi 4 (h++a'::b'::(t++c'::t2)) v rows:=by
 have s':FQs lo hi 4 (h++([a,b]++t++ [c])++t2) v rows:=by simpa using s
 have:=s'.swapped (y:= [a',b']++t++ [c']) (by simp;omega) (by simp) (Nat.le_refl _) (Nat.le_refl _)
 simpa using this
section
variable {h : Heap} {M : Nat → Prop}
set_option maxRecDepth 4000 in
theorem c_changeP {n:Nat} (C:Con) (wP wV vl:Value) (l:List Int) (sP:SB n 4 h wP (C.P.map pip)) (sV:Sl h 4 wV (C.V.map vlv)) (es:EszC h 4 wV) (g:conOk C) (sl:SI h vl l) (hl:(l.length:Int)=needs w_pipe) :
  vCall [] Tryz.prog M 106 [conV C wP wV, .string w_pipe,vl] h (fun r h'=>(∃E xP xV,r = .tuple #[conV E xP xV, .bool (editR C w_pipe l).isSome]∧(oneC xP=true∧oneC xV=true)∧(∀E',editR C w_pipe l=some E'->E=E'∧ConQ h.length h'.length h' E xP xV))∧h<+:h'):=by
 obtain ⟨N,P,V,src,D,Q,cnt⟩:=C
 have hP10:P.length<=10:=g.1.1.2.2
 have hV10:V.length<=10:=g.1.2.1
 have hgn:netGood N P:=g.1.1
 simp only at sP sV es
 have o0:oneC wP=true:=by obtain ⟨a,e,_⟩:=sP.1;rw [e];rfl
 have o0v:oneC wV=true:=by obtain ⟨a,e,_⟩:=sV;rw [e];rfl
 have hv:NA n h (.agg #[.int .i64 N,wP]) N P:=⟨wP,rfl,sP⟩
 have none_ok:editR ⟨N,P,V,src,D,Q,cnt⟩ w_pipe l=none->∀(lo hi:Nat) (H:Heap) (E:Con) (xP xV:Value),oneC xP=true∧oneC xV=true->∃E₁ x y,Value.tuple #[conV E xP xV, .bool false] = .tuple #[conV E₁ x y, .bool (editR ⟨N,P,V,src,D,Q,cnt⟩ w_pipe l).isSome]∧(oneC x=true∧oneC y=true)∧(∀E',editR ⟨N,P,V,src,D,Q,cnt⟩ w_pipe l=some E'->E₁=E'∧ConQ lo hi H E₁ x y):=fun hn lo hi H E xP xV ho=>by
  refine ⟨E,xP,xV,by rw [hn];rfl,ho,fun E' he => ?_⟩
  rw [hn] at he
  cases he
 have some_ok: ∀(E:Con),editR ⟨N,P,V,src,D,Q,cnt⟩ w_pipe l=some E->∀(lo hi:Nat) (H:Heap) (xP xV:Value),ConQ lo hi H E xP xV->∃E₁ x y,Value.tuple #[conV E xP xV, .bool true] = .tuple #[conV E₁ x y, .bool (editR ⟨N,P,V,src,D,Q,cnt⟩ w_pipe l).isSome]∧(oneC x=true∧oneC y=true)∧(∀E',editR ⟨N,P,V,src,D,Q,cnt⟩ w_pipe l=some E'->E₁=E'∧ConQ lo hi H E₁ x y):=fun E he lo hi H xP xV hq=>by
  refine ⟨E,xP,xV,by rw [he];rfl,hq.one,fun E' he' => ?_⟩
  rw [he] at he'
  cases he'
  exact ⟨rfl,hq⟩
 have qp:decide (w_pipe=w_pipe)=true:=by decide
 have qv:decide (w_pipe=w_valve)=false:=by decide
 have qs:decide (w_pipe=w_shut)=false:=by decide
 have qo:decide (w_pipe=w_open)=false:=by decide
 refine body_ofR ([(4,[]),(11,[14]),(12,[]),(19,[])]) mo Tryz.func106 rfl (by kernel_rfl) (Nat.le_of_ble_eq_true (by kernel_rfl)) rfl ?_
 simp only [go_sem,conV]
 refine ⟨by kernel_rfl,(c_newConsoleX ⟨N,P,V,src,D,Q,cnt⟩ wP wV (sP.1.mono (by simp)) (sV.mono (by simp)) (Nat.le_trans hP10 (by decide)) (Nat.le_trans hV10 (by decide))).use (fun _ m=>m) ?_⟩
 rintro _ _ ⟨⟨xP,xV,rfl,hq,hX⟩,⟨t,rfl⟩⟩
 obtain ⟨o1,o2⟩:=hq.one
 obtain ⟨a0,rfl⟩:=AI.len sl
 have l4:l.length=4:=by
  have hnn:needs w_pipe=4:=by decide
  omega
 obtain ⟨idl,offl,kl,hvl,_,hkl,_,hdl,_,_,_,hat⟩:=AI.at sl (by omega)
 obtain rfl:a0=some ⟨idl,offl,none⟩:=by simpa using hvl
 have p0:=hat 0 (by omega)
 have p1:=hat 1 (by omega)
 have p2:=hat 2 (by omega)
 have p3:=hat 3 (by omega)
 rw [gl_at] at p0 p1 p2 p3
 simp only [Nat.add_zero] at p0
 simp only [go_sem,conV,toList_eq,qp,qv,qs,qo,o1,o2,beq_self_eq_true,hkl,hdl,Nat.add_zero,p0,p1,p2,p3,l4]
 refine ⟨by kernel_rfl,(c_AddPipe wP N P (pipOf l) (sP.mono (by simp)) (Nat.le_trans hP10 (by decide))).use (fun _ m=>m) ?_⟩
 rintro _ _ ⟨⟨x,rfl,fx⟩,⟨t2,rfl⟩⟩
 have ox:=fx.one
 simp only [go_sem,conV,toList_eq,qp,qv,qs,qo,o1,o2,ox,beq_self_eq_true,hkl,hdl,Nat.add_zero,p0,p1,p2,p3,l4]
 have he:editR ⟨N,P,V,src,D,Q,cnt⟩ w_pipe l=if addOk N P (pipOf l) then some ⟨N,insP P (pipOf l),V,src,D,Q,cnt⟩ else none:=by
  rw [editR,if_pos rfl]
  simp only [l4,true_and]
 by_cases c:addOk N P (pipOf l)
 ·rw [if_pos c] at he
  rw [decide_eq_true c,addN,if_pos c]
  rw [addR,if_pos c] at fx
  obtain ⟨a,b,x',y',hh,_,vq⟩:=hq.p
  refine some_ok ⟨N,insP P (pipOf l),V,src,D,Q,cnt⟩ he _ _ _ x xV ⟨_,_,x',y', ?_,fx.v4 ?_,vq.v2 ?_⟩
  all_goals (simp at hh ⊢;try omega)
 ·rw [if_neg c] at he
  rw [decide_eq_false c]
  exact none_ok he _ _ _ ⟨addN N P (pipOf l),[],[],src,D,Q,cnt⟩ x xV ⟨ox,o2⟩
set_option maxRecDepth 4000 in
theorem c_changeS {n:Nat} (C:Con) (wP wV vl:Value) (l:List Int) (sP:SB n 4 h wP (C.P.map pip)) (sV:Sl h 4 wV (C.V.map vlv)) (es:EszC h 4 wV) (g:conOk C) (sl:SI h vl l) (hl:(l.length:Int)=needs w_source) :
  vCall [] Tryz.prog M 106 [conV C wP wV, .string w_source,vl] h (fun r h'=>(∃E xP xV,r = .tuple #[conV E xP xV, .bool (editR C w_source l).isSome]∧(oneC xP=true∧oneC xV=true)∧(∀E',editR C w_source l=some E'->E=E'∧ConQ h.length h'.length h' E xP xV))∧h<+:h'):=by
 obtain ⟨N,P,V,src,D,Q,cnt⟩:=C
 have hP10:P.length<=10:=g.1.1.2.2
 have hV10:V.length<=10:=g.1.2.1
 have hgn:netGood N P:=g.1.1
 simp only at sP sV es
 have o0:oneC wP=true:=by obtain ⟨a,e,_⟩:=sP.1;rw [e];rfl
 have o0v:oneC wV=true:=by obtain ⟨a,e,_⟩:=sV;rw [e];rfl
 have hv:NA n h (.agg #[.int .i64 N,wP]) N P:=⟨wP,rfl,sP⟩
 have none_ok:editR ⟨N,P,V,src,D,Q,cnt⟩ w_source l=none->∀(lo hi:Nat) (H:Heap) (E:Con) (xP xV:Value),oneC xP=true∧oneC xV=true->∃E₁ x y,Value.tuple #[conV E xP xV, .bool false] = .tuple #[conV E₁ x y, .bool (editR ⟨N,P,V,src,D,Q,cnt⟩ w_source l).isSome]∧(oneC x=true∧oneC y=true)∧(∀E',editR ⟨N,P,V,src,D,Q,cnt⟩ w_source l=some E'->E₁=E'∧ConQ lo hi H E₁ x y):=fun hn lo hi H E xP xV ho=>by
  refine ⟨E,xP,xV,by rw [hn];rfl,ho,fun E' he => ?_⟩
  rw [hn] at he
  cases he
 have some_ok: ∀(E:Con),editR ⟨N,P,V,src,D,Q,cnt⟩ w_source l=some E->∀(lo hi:Nat) (H:Heap) (xP xV:Value),ConQ lo hi H E xP xV->∃E₁ x y,Value.tuple #[conV E xP xV, .bool true] = .tuple #[conV E₁ x y, .bool (editR ⟨N,P,V,src,D,Q,cnt⟩ w_source l).isSome]∧(oneC x=true∧oneC y=true)∧(∀E',editR ⟨N,P,V,src,D,Q,cnt⟩ w_source l=some E'->E₁=E'∧ConQ lo hi H E₁ x y):=fun E he lo hi H xP xV hq=>by
  refine ⟨E,xP,xV,by rw [he];rfl,hq.one,fun E' he' => ?_⟩
  rw [he] at he'
  cases he'
  exact ⟨rfl,hq⟩
 have qp:decide (w_source=w_pipe)=false:=by decide
 have qv:decide (w_source=w_valve)=false:=by decide
 have qs:decide (w_source=w_shut)=false:=by decide
 have qo:decide (w_source=w_open)=false:=by decide
 refine body_ofR ([(4,[]),(11,[14]),(12,[]),(19,[])]) mo Tryz.func106 rfl (by kernel_rfl) (Nat.le_of_ble_eq_true (by kernel_rfl)) rfl ?_
 simp only [go_sem,conV]
 refine ⟨by kernel_rfl,(c_newConsoleX ⟨N,P,V,src,D,Q,cnt⟩ wP wV (sP.1.mono (by simp)) (sV.mono (by simp)) (Nat.le_trans hP10 (by decide)) (Nat.le_trans hV10 (by decide))).use (fun _ m=>m) ?_⟩
 rintro _ _ ⟨⟨xP,xV,rfl,hq,hX⟩,⟨t,rfl⟩⟩
 obtain ⟨o1,o2⟩:=hq.one
 obtain ⟨a0,rfl⟩:=AI.len sl
 have l4:l.length=1:=by
  have hnn:needs w_source=1:=by decide
  omega
 obtain ⟨idl,offl,kl,hvl,_,hkl,_,hdl,_,_,_,hat⟩:=AI.at sl (by omega)
 obtain rfl:a0=some ⟨idl,offl,none⟩:=by simpa using hvl
 have p0:=hat 0 (by omega)
 rw [gl_at] at p0
 simp only [Nat.add_zero] at p0
 simp only [go_sem,conV,toList_eq,qp,qv,qs,qo,o1,o2,beq_self_eq_true,hkl,hdl,Nat.add_zero,p0,l4]
 refine ⟨by kernel_rfl,(c_has N wP (gl l 0)).use (fun _ m=>m) ?_⟩
 rintro _ _ ⟨rfl,⟨t2,rfl⟩⟩
 simp only [go_sem,conV,toList_eq,qp,qv,qs,qo,o1,o2,beq_self_eq_true,hkl,hdl,Nat.add_zero,p0,l4]
 have he:editR ⟨N,P,V,src,D,Q,cnt⟩ w_source l=if 1<=gl l 0∧gl l 0<=N then some ⟨N,P,V,gl l 0,D,Q,cnt⟩ else none:=by
  rw [editR,if_neg (by decide),if_neg (by decide),if_neg (by decide),if_pos rfl]
  simp only [l4,true_and]
 by_cases c:1<=gl l 0∧gl l 0<=N
 ·rw [if_pos c] at he
  rw [decide_eq_true c]
  obtain ⟨a,b,x',y',hh,pq,vq⟩:=hq.p
  refine some_ok ⟨N,P,V,gl l 0,D,Q,cnt⟩ he _ _ _ xP xV ⟨a,b,x',y', ?_,pq.v2 ?_,vq.v2 ?_⟩
  all_goals (simp at hh ⊢;try omega)
 ·rw [if_neg c] at he
  rw [decide_eq_false c]
  exact none_ok he _ _ _ ⟨N,[],[],gl l 0,D,Q,cnt⟩ xP xV ⟨o1,o2⟩
set_option maxRecDepth 4000 in
theorem c_changeH {n:Nat} (C:Con) (wP wV vl:Value) (l:List Int) (sP:SB n 4 h wP (C.P.map pip)) (sV:Sl h 4 wV (C.V.map vlv)) (es:EszC h 4 wV) (g:conOk C) (sl:SI h vl l) (hl:(l.length:Int)=needs w_shut) :
  vCall [] Tryz.prog M 106 [conV C wP wV, .string w_shut,vl] h (fun r h'=>(∃E xP xV,r = .tuple #[conV E xP xV, .bool (editR C w_shut l).isSome]∧(oneC xP=true∧oneC xV=true)∧(∀E',editR C w_shut l=some E'->E=E'∧ConQ h.length h'.length h' E xP xV))∧h<+:h'):=by
 obtain ⟨N,P,V,src,D,Q,cnt⟩:=C
 have hP10:P.length<=10:=g.1.1.2.2
 have hV10:V.length<=10:=g.1.2.1
 have hgn:netGood N P:=g.1.1
 simp only at sP sV es
 have o0:oneC wP=true:=by obtain ⟨a,e,_⟩:=sP.1;rw [e];rfl
 have o0v:oneC wV=true:=by obtain ⟨a,e,_⟩:=sV;rw [e];rfl
 have hv:NA n h (.agg #[.int .i64 N,wP]) N P:=⟨wP,rfl,sP⟩
 have none_ok:editR ⟨N,P,V,src,D,Q,cnt⟩ w_shut l=none->∀(lo hi:Nat) (H:Heap) (E:Con) (xP xV:Value),oneC xP=true∧oneC xV=true->∃E₁ x y,Value.tuple #[conV E xP xV, .bool false] = .tuple #[conV E₁ x y, .bool (editR ⟨N,P,V,src,D,Q,cnt⟩ w_shut l).isSome]∧(oneC x=true∧oneC y=true)∧(∀E',editR ⟨N,P,V,src,D,Q,cnt⟩ w_shut l=some E'->E₁=E'∧ConQ lo hi H E₁ x y):=fun hn lo hi H E xP xV ho=>by
  refine ⟨E,xP,xV,by rw [hn];rfl,ho,fun E' he => ?_⟩
  rw [hn] at he
  cases he
 have some_ok: ∀(E:Con),editR ⟨N,P,V,src,D,Q,cnt⟩ w_shut l=some E->∀(lo hi:Nat) (H:Heap) (xP xV:Value),ConQ lo hi H E xP xV->∃E₁ x y,Value.tuple #[conV E xP xV, .bool true] = .tuple #[conV E₁ x y, .bool (editR ⟨N,P,V,src,D,Q,cnt⟩ w_shut l).isSome]∧(oneC x=true∧oneC y=true)∧(∀E',editR ⟨N,P,V,src,D,Q,cnt⟩ w_shut l=some E'->E₁=E'∧ConQ lo hi H E₁ x y):=fun E he lo hi H xP xV hq=>by
  refine ⟨E,xP,xV,by rw [he];rfl,hq.one,fun E' he' => ?_⟩
  rw [he] at he'
  cases he'
  exact ⟨rfl,hq⟩
 have qp:decide (w_shut=w_pipe)=false:=by decide
 have qv:decide (w_shut=w_valve)=false:=by decide
 have qs:decide (w_shut=w_shut)=true:=by decide
 have qo:decide (w_shut=w_open)=false:=by decide
 refine body_ofR ([(4,[]),(11,[14]),(12,[]),(19,[])]) mo Tryz.func106 rfl (by kernel_rfl) (Nat.le_of_ble_eq_true (by kernel_rfl)) rfl ?_
 simp only [go_sem,conV]
 refine ⟨by kernel_rfl,(c_newConsoleX ⟨N,P,V,src,D,Q,cnt⟩ wP wV (sP.1.mono (by simp)) (sV.mono (by simp)) (Nat.le_trans hP10 (by decide)) (Nat.le_trans hV10 (by decide))).use (fun _ m=>m) ?_⟩
 rintro _ _ ⟨⟨xP,xV,rfl,hq,hX⟩,⟨t,rfl⟩⟩
 obtain ⟨o1,o2⟩:=hq.one
 obtain ⟨a0,rfl⟩:=AI.len sl
 have l4:l.length=1:=by
  have hnn:needs w_shut=1:=by decide
  omega
 obtain ⟨idl,offl,kl,hvl,_,hkl,_,hdl,_,_,_,hat⟩:=AI.at sl (by omega)
 obtain rfl:a0=some ⟨idl,offl,none⟩:=by simpa using hvl
 have p0:=hat 0 (by omega)
 rw [gl_at] at p0
 simp only [Nat.add_zero] at p0
 simp only [go_sem,conV,toList_eq,qp,qv,qs,qo,o1,o2,beq_self_eq_true,hkl,hdl,Nat.add_zero,p0,l4]
 refine ⟨by kernel_rfl,(c_TurnValve _ wV N P V (gl l 0) true (hv.mono (by simp)) (sV.mono (by simp)) (es.mono (by simp)) (Nat.le_trans hP10 (by decide)) (Nat.le_trans hV10 (by decide))).use (fun _ m=>m) ?_⟩
 rintro _ _ ⟨⟨x,rfl,fx⟩,⟨t2,rfl⟩⟩
 obtain ⟨xa,xn,rfl⟩: ∃a m,x = .slice a m 0:=by rcases fx with ⟨id,rfl,_⟩|⟨_,a,rfl⟩<;>exact ⟨_,_,rfl⟩
 have ox:=fx.one
 simp only [go_sem,conV,toList_eq,qp,qv,qs,qo,o1,o2,ox,beq_self_eq_true,hkl,hdl,Nat.add_zero,p0,l4]
 have he:editR ⟨N,P,V,src,D,Q,cnt⟩ w_shut l=if turnOk N P V (gl l 0) true then some ⟨N,P,turnR N P V (gl l 0) true,src,D,Q,cnt⟩ else none:=by
  rw [editR,if_neg (by decide),if_neg (by decide),if_pos (by decide),show decide (w_shut=w_shut)=true from by decide]
  simp only [l4,true_and]
 by_cases c:turnOk N P V (gl l 0) true
 ·rw [if_pos c] at he
  rw [decide_eq_true c]
  obtain ⟨a,b,x',y',hh,pq,_⟩:=hq.p
  refine some_ok ⟨N,P,turnR N P V (gl l 0) true,src,D,Q,cnt⟩ he _ _ _ xP _ ⟨a,b,_,_, ?_,pq.v2 ?_,fx.v3 ?_⟩
  all_goals (simp at hh ⊢;try omega)
 ·rw [if_neg c] at he
  rw [decide_eq_false c]
  exact none_ok he _ _ _ ⟨N,[],turnR N P V (gl l 0) true,src,D,Q,cnt⟩ xP (.slice xa xn 0) ⟨o1,ox⟩
set_option maxRecDepth 4000 in
theorem c_changeO {n:Nat} (C:Con) (wP wV vl:Value) (l:List Int) (sP:SB n 4 h wP (C.P.map pip)) (sV:Sl h 4 wV (C.V.map vlv)) (es:EszC h 4 wV) (g:conOk C) (sl:SI h vl l) (hl:(l.length:Int)=needs w_open) :
  vCall [] Tryz.prog M 106 [conV C wP wV, .string w_open,vl] h (fun r h'=>(∃E xP xV,r = .tuple #[conV E xP xV, .bool (editR C w_open l).isSome]∧(oneC xP=true∧oneC xV=true)∧(∀E',editR C w_open l=some E'->E=E'∧ConQ h.length h'.length h' E xP xV))∧h<+:h'):=by
 obtain ⟨N,P,V,src,D,Q,cnt⟩:=C
 have hP10:P.length<=10:=g.1.1.2.2
 have hV10:V.length<=10:=g.1.2.1
 have hgn:netGood N P:=g.1.1
 simp only at sP sV es
 have o0:oneC wP=true:=by obtain ⟨a,e,_⟩:=sP.1;rw [e];rfl
 have o0v:oneC wV=true:=by obtain ⟨a,e,_⟩:=sV;rw [e];rfl
 have hv:NA n h (.agg #[.int .i64 N,wP]) N P:=⟨wP,rfl,sP⟩
 have none_ok:editR ⟨N,P,V,src,D,Q,cnt⟩ w_open l=none->∀(lo hi:Nat) (H:Heap) (E:Con) (xP xV:Value),oneC xP=true∧oneC xV=true->∃E₁ x y,Value.tuple #[conV E xP xV, .bool false] = .tuple #[conV E₁ x y, .bool (editR ⟨N,P,V,src,D,Q,cnt⟩ w_open l).isSome]∧(oneC x=true∧oneC y=true)∧(∀E',editR ⟨N,P,V,src,D,Q,cnt⟩ w_open l=some E'->E₁=E'∧ConQ lo hi H E₁ x y):=fun hn lo hi H E xP xV ho=>by
  refine ⟨E,xP,xV,by rw [hn];rfl,ho,fun E' he => ?_⟩
  rw [hn] at he
  cases he
 have some_ok: ∀(E:Con),editR ⟨N,P,V,src,D,Q,cnt⟩ w_open l=some E->∀(lo hi:Nat) (H:Heap) (xP xV:Value),ConQ lo hi H E xP xV->∃E₁ x y,Value.tuple #[conV E xP xV, .bool true] = .tuple #[conV E₁ x y, .bool (editR ⟨N,P,V,src,D,Q,cnt⟩ w_open l).isSome]∧(oneC x=true∧oneC y=true)∧(∀E',editR ⟨N,P,V,src,D,Q,cnt⟩ w_open l=some E'->E₁=E'∧ConQ lo hi H E₁ x y):=fun E he lo hi H xP xV hq=>by
  refine ⟨E,xP,xV,by rw [he];rfl,hq.one,fun E' he' => ?_⟩
  rw [he] at he'
  cases he'
  exact ⟨rfl,hq⟩
 have qp:decide (w_open=w_pipe)=false:=by decide
 have qv:decide (w_open=w_valve)=false:=by decide
 have qs:decide (w_open=w_shut)=false:=by decide
 have qo:decide (w_open=w_open)=true:=by decide
 refine body_ofR ([(4,[]),(11,[14]),(12,[]),(19,[])]) mo Tryz.func106 rfl (by kernel_rfl) (Nat.le_of_ble_eq_true (by kernel_rfl)) rfl ?_
 simp only [go_sem,conV]
 refine ⟨by kernel_rfl,(c_newConsoleX ⟨N,P,V,src,D,Q,cnt⟩ wP wV (sP.1.mono (by simp)) (sV.mono (by simp)) (Nat.le_trans hP10 (by decide)) (Nat.le_trans hV10 (by decide))).use (fun _ m=>m) ?_⟩
 rintro _ _ ⟨⟨xP,xV,rfl,hq,hX⟩,⟨t,rfl⟩⟩
 obtain ⟨o1,o2⟩:=hq.one
 obtain ⟨a0,rfl⟩:=AI.len sl
 have l4:l.length=1:=by
  have hnn:needs w_open=1:=by decide
  omega
 obtain ⟨idl,offl,kl,hvl,_,hkl,_,hdl,_,_,_,hat⟩:=AI.at sl (by omega)
 obtain rfl:a0=some ⟨idl,offl,none⟩:=by simpa using hvl
 have p0:=hat 0 (by omega)
 rw [gl_at] at p0
 simp only [Nat.add_zero] at p0
 simp only [go_sem,conV,toList_eq,qp,qv,qs,qo,o1,o2,beq_self_eq_true,hkl,hdl,Nat.add_zero,p0,l4]
 refine ⟨by kernel_rfl,(c_TurnValve _ wV N P V (gl l 0) false (hv.mono (by simp)) (sV.mono (by simp)) (es.mono (by simp)) (Nat.le_trans hP10 (by decide)) (Nat.le_trans hV10 (by decide))).use (fun _ m=>m) ?_⟩
 rintro _ _ ⟨⟨x,rfl,fx⟩,⟨t2,rfl⟩⟩
 obtain ⟨xa,xn,rfl⟩: ∃a m,x = .slice a m 0:=by rcases fx with ⟨id,rfl,_⟩|⟨_,a,rfl⟩<;>exact ⟨_,_,rfl⟩
 have ox:=fx.one
 simp only [go_sem,conV,toList_eq,qp,qv,qs,qo,o1,o2,ox,beq_self_eq_true,hkl,hdl,Nat.add_zero,p0,l4]
 have he:editR ⟨N,P,V,src,D,Q,cnt⟩ w_open l=if turnOk N P V (gl l 0) false then some ⟨N,P,turnR N P V (gl l 0) false,src,D,Q,cnt⟩ else none:=by
  rw [editR,if_neg (by decide),if_neg (by decide),if_pos (by decide),show decide (w_open=w_shut)=false from by decide]
  simp only [l4,true_and]
 by_cases c:turnOk N P V (gl l 0) false
 ·rw [if_pos c] at he
  rw [decide_eq_true c]
  obtain ⟨a,b,x',y',hh,pq,_⟩:=hq.p
  refine some_ok ⟨N,P,turnR N P V (gl l 0) false,src,D,Q,cnt⟩ he _ _ _ xP _ ⟨a,b,_,_, ?_,pq.v2 ?_,fx.v3 ?_⟩
  all_goals (simp at hh ⊢;try omega)
 ·rw [if_neg c] at he
  rw [decide_eq_false c]
  exact none_ok he _ _ _ ⟨N,[],turnR N P V (gl l 0) false,src,D,Q,cnt⟩ xP (.slice xa xn 0) ⟨o1,ox⟩
end
open Go.HH Go.Proofs
theorem setT2 {h t u:Heap} {a b k:Blk} {j:Nat} (hj:j<t.length):(h++a::b::(t++u)).set (h.length+(j+1+1)) k=h++a::b::(t.set j k++u):=by
 rw [List.set_append_right _ _ (by omega),show h.length+(j+1+1)-h.length=j+1+1 by omega,List.set_cons_succ,List.set_cons_succ,List.set_append_left _ _ hj]
theorem FQs.setT {h t u:Heap} {a b a' b' k:Blk} {j x y:Nat} {v:Value} {rows:List (List Value)} (s:FQs x y 4 (h++ [a,b]++t) v rows) (hl:h.length+2<=x) (hn:h.length+(j+1+1)<x∨y<=h.length+(j+1+1)):FQs x y 4 (h++a'::b'::(t.set j k++u)) v rows:=by
 refine FQs.v2 (a:=a) (b:=b) ?_ hl
 rcases s with ⟨id,ev,g1,g2,g3,g4⟩|s
 ·refine .inl ⟨id,ev,g1,g2, ?_,g4⟩
  obtain ⟨i,rfl⟩: ∃i,id=(h++ [a,b]).length+i:=⟨id-(h.length+2),by simp;omega⟩
  rw [hget_app] at g3 ⊢
  rw [List.getElem?_set_ne (by simp at g1 g2;omega)]
  exact g3
 ·exact .inr s
theorem FQs.eszQ {lo hi sz:Nat} {h:Heap} {v:Value} {rows:List (List Value)} (s:FQs lo hi sz h v rows):EszC h sz v:=by
 rcases s with s|⟨_,a,rfl⟩
 ·exact FR.eszC s
 ·intro id o n e hn
  cases e
  omega
section
variable {h : Heap} {M : Nat → Prop}
set_option maxRecDepth 4000 in
theorem c_changeV {n:Nat} (C:Con) (wP wV vl:Value) (l:List Int) (sP:SB n 4 h wP (C.P.map pip)) (sV:Sl h 4 wV (C.V.map vlv)) (es:EszC h 4 wV) (g:conOk C) (sl:SI h vl l) (hl:(l.length:Int)=needs w_valve) :
  vCall [] Tryz.prog M 106 [conV C wP wV, .string w_valve,vl] h (fun r h'=>(∃E xP xV,r = .tuple #[conV E xP xV, .bool (editR C w_valve l).isSome]∧(oneC xP=true∧oneC xV=true)∧(∀E',editR C w_valve l=some E'->E=E'∧ConQ h.length h'.length h' E xP xV))∧h<+:h'):=by
 obtain ⟨N,P,V,src,D,Q,cnt⟩:=C
 have hP10:P.length<=10:=g.1.1.2.2
 have hV10:V.length<=10:=g.1.2.1
 have hgn:netGood N P:=g.1.1
 simp only at sP sV es
 have o0:oneC wP=true:=by obtain ⟨a,e,_⟩:=sP.1;rw [e];rfl
 have o0v:oneC wV=true:=by obtain ⟨a,e,_⟩:=sV;rw [e];rfl
 have hv:NA n h (.agg #[.int .i64 N,wP]) N P:=⟨wP,rfl,sP⟩
 have none_ok:editR ⟨N,P,V,src,D,Q,cnt⟩ w_valve l=none->∀(lo hi:Nat) (H:Heap) (E:Con) (xP xV:Value),oneC xP=true∧oneC xV=true->∃E₁ x y,Value.tuple #[conV E xP xV, .bool false] = .tuple #[conV E₁ x y, .bool (editR ⟨N,P,V,src,D,Q,cnt⟩ w_valve l).isSome]∧(oneC x=true∧oneC y=true)∧(∀E',editR ⟨N,P,V,src,D,Q,cnt⟩ w_valve l=some E'->E₁=E'∧ConQ lo hi H E₁ x y):=fun hn lo hi H E xP xV ho=>by
  refine ⟨E,xP,xV,by rw [hn];rfl,ho,fun E' he => ?_⟩
  rw [hn] at he
  cases he
 have some_ok: ∀(E:Con),editR ⟨N,P,V,src,D,Q,cnt⟩ w_valve l=some E->∀(lo hi:Nat) (H:Heap) (xP xV:Value),ConQ lo hi H E xP xV->∃E₁ x y,Value.tuple #[conV E xP xV, .bool true] = .tuple #[conV E₁ x y, .bool (editR ⟨N,P,V,src,D,Q,cnt⟩ w_valve l).isSome]∧(oneC x=true∧oneC y=true)∧(∀E',editR ⟨N,P,V,src,D,Q,cnt⟩ w_valve l=some E'->E₁=E'∧ConQ lo hi H E₁ x y):=fun E he lo hi H xP xV hq=>by
  refine ⟨E,xP,xV,by rw [he];rfl,hq.one,fun E' he' => ?_⟩
  rw [he] at he'
  cases he'
  exact ⟨rfl,hq⟩
 have qp:decide (w_valve=w_pipe)=false:=by decide
 have qv:decide (w_valve=w_valve)=true:=by decide
 have qs:decide (w_valve=w_shut)=false:=by decide
 have qo:decide (w_valve=w_open)=false:=by decide
 refine body_ofR ([(4,[]),(11,[14]),(12,[]),(19,[])]) mo Tryz.func106 rfl (by kernel_rfl) (Nat.le_of_ble_eq_true (by kernel_rfl)) rfl ?_
 simp only [go_sem,conV]
 refine ⟨by kernel_rfl,(c_newConsoleX ⟨N,P,V,src,D,Q,cnt⟩ wP wV (sP.1.mono (by simp)) (sV.mono (by simp)) (Nat.le_trans hP10 (by decide)) (Nat.le_trans hV10 (by decide))).use (fun _ m=>m) ?_⟩
 rintro _ _ ⟨⟨xP,xV,rfl,hq,hX⟩,⟨t,rfl⟩⟩
 obtain ⟨o1,o2⟩:=hq.one
 obtain ⟨a0,rfl⟩:=AI.len sl
 have l4:l.length=3:=by
  have hnn:needs w_valve=3:=by decide
  omega
 obtain ⟨idl,offl,kl,hvl,_,hkl,_,hdl,_,_,_,hat⟩:=AI.at sl (by omega)
 obtain rfl:a0=some ⟨idl,offl,none⟩:=by simpa using hvl
 have p0:=hat 0 (by omega)
 have p1:=hat 1 (by omega)
 have p2:=hat 2 (by omega)
 rw [gl_at] at p0 p1 p2
 simp only [Nat.add_zero] at p0
 have he:editR ⟨N,P,V,src,D,Q,cnt⟩ w_valve l=if valOk N P (insV V (vlvOf l)) then some ⟨N,P,insV V (vlvOf l),src,D,Q,cnt⟩ else none:=by
  rw [editR,if_neg (by decide),if_pos rfl]
  simp only [l4,true_and]
 obtain ⟨a,b,x',y',hh,pq,vq⟩:=hq.p
 simp only [List.length_append,List.length_cons,List.length_nil,Nat.zero_add,Nat.reduceAdd] at hh
 rcases vq with ⟨id,ev,b1,b2,b3,b4⟩|⟨v0,X0,ev⟩
 ·clear hX
  simp only [List.length_map] at ev
  subst ev
  obtain ⟨j,rfl⟩: ∃j,id=h.length+(j+1+1):=⟨id-h.length-2,by omega⟩
  have hjt:j<t.length:=by omega
  have HJ: ∀s:Heap,(t++s)[j]? = some ⟨(V.map vlv).flatten,4, .rw⟩:=fun s=>by
   rw [List.getElem?_append_left hjt]
   simpa [hget_app] using b3
  have vq':Sl (h++ [⟨[.int .i64 N,wP,wV, .int .i64 src, .string D, .string Q, .int .i64 cnt],7, .rw⟩,⟨[.int .i64 0, .slice none 0 0, .slice none 0 0, .int .i64 0, .string ⟨#[]⟩, .string ⟨#[]⟩, .int .i64 0],7, .rw⟩]++t) 4 (.slice (some ⟨h.length+(j+1+1),0,none⟩) V.length 0) (V.map vlv):=FR.sl ⟨_,by rw [List.length_map],b1,b2,b3,b4⟩
  simp only [go_sem,conV,toList_eq,qp,qv,qs,qo,o1,o2,beq_self_eq_true,hkl,hdl,Nat.add_zero,p0,p1,p2,l4]
  refine vLoopR.count mo V.length (fun i e h'=>Regs e [(2, .slice (some ⟨idl,offl,none⟩) 3 0),(6, .pointer (some ⟨h.length+1,0,none⟩)),(8, .pointer (some ⟨h.length+(t.length+1+1),0,none⟩)),(11, .int .i64 i)] ∧
   HeapIs h' (h++(⟨[.int .i64 N,wP,wV, .int .i64 src, .string D, .string Q, .int .i64 cnt],7, .rw⟩::⟨[.int .i64 0, .slice none 0 0, .slice none 0 0, .int .i64 0, .string ⟨#[]⟩, .string ⟨#[]⟩, .int .i64 0],7, .rw⟩::(t++ [⟨[.int .i64 N,xP, .slice (some ⟨h.length+(j+1+1),0,none⟩) V.length 0, .int .i64 src, .string D, .string Q, .int .i64 cnt],7, .rw⟩]))) ∧
   ∀(k:Nat) (hk:k<V.length),k<i->V[k].1<gl l 0) ?_ ?_
  ·exact ⟨⟨rfl,rfl,rfl,rfl,trivial⟩, .rfl,fun j _ hj=>absurd hj (by omega)⟩
  ·rintro i e _ hi ⟨⟨e2,e6,e8,e11,_⟩,rfl,hlo⟩
   have fin:(∀hi:i<V.length,¬V[i].1<gl l 0)->low (V.map fun q=>q.1) (gl l 0)=i:=fun hn=>
    low_eq (by simpa using hi) (fun j hj hji=>by rw [List.getElem_map];exact hlo j (by simpa using hj) hji) (fun hi=>by rw [List.getElem_map];exact hn (by simpa using hi))
   have hone:=oneVv V
   by_cases hlt:i<V.length
   ·have hlt':i<(V.map vlv).length:=by simpa using hlt
    have hz:(i:Int)<V.length:=by omega
    have ws:=wsucc hlt (by omega)
    obtain ⟨id2,o,k,hv',hk,hk0,hd,hb,hrow,hat2⟩:=vq'.at hlt'
    rw [List.length_map] at hv'
    obtain ⟨rfl,rfl⟩:h.length+(j+1+1)=id2∧0=o:=by simpa using hv'
    rw [b3] at hk0
    obtain rfl:_=k:=Option.some.inj hk0
    have g0:=hat2 0 (by omega)
    rw [List.getElem_map] at g0
    simp only [vlv,List.getElem?_cons_zero,Nat.add_zero,Nat.zero_add] at g0
    by_cases c:V[i].1<gl l 0
    ·simp only [go_sem,e2,e6,e8,e11,hz,hjt,HJ,hkl,hdl,p0,g0,c]
     refine ⟨hlt,⟨e2,e6,e8,congrArg _ ws,trivial⟩, .rfl,fun j hj hji => ?_⟩
     by_cases hj2:j<i
     ·exact hlo j hj hj2
     ·obtain rfl:j=i:=by omega
      exact c
    ·simp only [go_sem,e2,e6,e8,e11,hz,hjt,HJ,hkl,hdl,p0,p1,p2,g0,c,hone]
     have hlow:=fin (fun _=>c)
     clear fin
     refine ⟨by kernel_rfl,(c_insV (h.length+(j+1+1)) (h.length+(t.length+1+1+1)) V (vlvOf l) i (by omega) (by simp only [go_sem,hjt,HJ]) (.inl (by omega)) (by simp only [go_sem,vlvOf,vlv]) (by omega) (by omega)).use (fun _ m=>m) ?_⟩
     rintro _ _ ⟨rfl,hset⟩
     rw [setT2 hjt] at hset
     obtain rfl:=hset
     have hnew:insV V (vlvOf l)=insAt V i (vlvOf l):=by rw [insV,show (vlvOf l).1=gl l 0 from rfl,hlow]
     have hnl:(insV V (vlvOf l)).length=V.length+1:=by rw [hnew];exact insAt_len (by omega)
     have hz1:h.length+2<=a∧(h.length+(j+1+1)<a∨b<=h.length+(j+1+1)):=by omega
     have pq2: ∀(a' b':Blk) (u:Heap),FQs a b 4 (h++a'::b'::(t.set j ⟨(V.map vlv).flatten,4, .dead⟩++u)) xP (P.map pip):=fun a' b' u=>pq.setT hz1.1 hz1.2
     have hTl:t.length=(t.set j ⟨(V.map vlv).flatten,4, .dead⟩).length:=by rw [List.length_set]
     revert pq2 hTl
     generalize t.set j ⟨(V.map vlv).flatten,4, .dead⟩=T
     intro pq2 hTl
     simp only [hTl] at hh
     simp only [go_sem,e2,e6,e8,e11,o1,hTl]
     refine ⟨by omega, ?_⟩
     have fnew: ∀(a' b' c' d':Blk) (u:Heap),FQs (h.length+2+T.length) (h.length+(T.length+5)) 4 (h++a'::b'::(T++c'::d'::⟨((insAt V i (vlvOf l)).map vlv).flatten,4, .rw⟩::u)) (.slice (some ⟨h.length+(T.length+2+1+1),0,none⟩) (V.length+1) 0) ((insV V (vlvOf l)).map vlv):=fun a' b' c' d' u=>frG (j:=T.length+2+1+1) vlv4 (by rw [←hnew];simp) hnl.symm (by omega) (by omega)
     refine ⟨by kernel_rfl,(c_IsValidValves _ _ N P (insV V (vlvOf l)) ⟨_,rfl,FQs.sbQ (pq2 _ _ _)⟩ (fnew _ _ _ _ []).sl (FQs.eszQ (fnew _ _ _ _ [])) (Nat.le_trans hP10 (by decide)) (by omega)).use (fun _ m=>m) ?_⟩
     rintro _ _ ⟨rfl,⟨t5,rfl⟩⟩
     simp only [go_sem,e2,e6,e8,e11,o1,hTl]
     by_cases c:valOk N P (insV V (vlvOf l))
     ·rw [if_pos c] at he
      rw [decide_eq_true c]
      refine some_ok ⟨N,P,insV V (vlvOf l),src,D,Q,cnt⟩ he _ _ _ xP _ ⟨a,b,_,_, ?_,pq2 _ _ _,fnew _ _ _ _ _⟩
      all_goals omega
     ·rw [if_neg c] at he
      rw [decide_eq_false c]
      exact none_ok he _ _ _ ⟨N,[],[],src,D,Q,cnt⟩ xP (.slice (some ⟨h.length+(T.length+2+1+1),0,none⟩) (V.length+1) 0) ⟨o1,rfl⟩
   ·obtain rfl:i=V.length:=by omega
    have hlow:=fin (fun hi=>absurd hi (by omega))
    clear fin
    simp only [go_sem,e2,e6,e8,e11,show ¬((V.length:Int)<V.length) by omega,hkl,hdl,p0,p1,p2,hone]
    ·skip
     refine ⟨by kernel_rfl,(c_insV (h.length+(j+1+1)) (h.length+(t.length+1+1+1)) V (vlvOf l) V.length (by omega) (by simp only [go_sem,hjt,HJ]) (.inl (by omega)) (by simp only [go_sem,vlvOf,vlv]) (by omega) (by omega)).use (fun _ m=>m) ?_⟩
     rintro _ _ ⟨rfl,hset⟩
     rw [setT2 hjt] at hset
     obtain rfl:=hset
     have hnew:insV V (vlvOf l)=insAt V V.length (vlvOf l):=by rw [insV,show (vlvOf l).1=gl l 0 from rfl,hlow]
     have hnl:(insV V (vlvOf l)).length=V.length+1:=by rw [hnew];exact insAt_len (by omega)
     have hz1:h.length+2<=a∧(h.length+(j+1+1)<a∨b<=h.length+(j+1+1)):=by omega
     have pq2: ∀(a' b':Blk) (u:Heap),FQs a b 4 (h++a'::b'::(t.set j ⟨(V.map vlv).flatten,4, .dead⟩++u)) xP (P.map pip):=fun a' b' u=>pq.setT hz1.1 hz1.2
     have hTl:t.length=(t.set j ⟨(V.map vlv).flatten,4, .dead⟩).length:=by rw [List.length_set]
     revert pq2 hTl
     generalize t.set j ⟨(V.map vlv).flatten,4, .dead⟩=T
     intro pq2 hTl
     simp only [hTl] at hh
     simp only [go_sem,e2,e6,e8,e11,o1,hTl]
     refine ⟨by omega, ?_⟩
     have fnew: ∀(a' b' c' d':Blk) (u:Heap),FQs (h.length+2+T.length) (h.length+(T.length+5)) 4 (h++a'::b'::(T++c'::d'::⟨((insAt V V.length (vlvOf l)).map vlv).flatten,4, .rw⟩::u)) (.slice (some ⟨h.length+(T.length+2+1+1),0,none⟩) (V.length+1) 0) ((insV V (vlvOf l)).map vlv):=fun a' b' c' d' u=>frG (j:=T.length+2+1+1) vlv4 (by rw [←hnew];simp) hnl.symm (by omega) (by omega)
     refine ⟨by kernel_rfl,(c_IsValidValves _ _ N P (insV V (vlvOf l)) ⟨_,rfl,FQs.sbQ (pq2 _ _ _)⟩ (fnew _ _ _ _ []).sl (FQs.eszQ (fnew _ _ _ _ [])) (Nat.le_trans hP10 (by decide)) (by omega)).use (fun _ m=>m) ?_⟩
     rintro _ _ ⟨rfl,⟨t5,rfl⟩⟩
     simp only [go_sem,e2,e6,e8,e11,o1,hTl]
     by_cases c:valOk N P (insV V (vlvOf l))
     ·rw [if_pos c] at he
      rw [decide_eq_true c]
      refine some_ok ⟨N,P,insV V (vlvOf l),src,D,Q,cnt⟩ he _ _ _ xP _ ⟨a,b,_,_, ?_,pq2 _ _ _,fnew _ _ _ _ _⟩
      all_goals omega
     ·rw [if_neg c] at he
      rw [decide_eq_false c]
      exact none_ok he _ _ _ ⟨N,[],[],src,D,Q,cnt⟩ xP (.slice (some ⟨h.length+(T.length+2+1+1),0,none⟩) (V.length+1) 0) ⟨o1,rfl⟩
 ·obtain rfl:V= []:=List.map_eq_nil_iff.1 v0
  obtain ⟨X,rfl,hXl⟩:=hX rfl
  clear hX
  have hnew:insV [] (vlvOf l)= [vlvOf l]:=by rw [insV];rfl
  simp only [List.length_append,List.length_cons,List.length_nil,Nat.zero_add,Nat.reduceAdd] at hXl
  simp only [go_sem,conV,toList_eq,qp,qv,qs,qo,o1,o2,beq_self_eq_true,hkl,hdl,Nat.add_zero,p0,p1,p2,l4]
  refine vLoopR.count mo 0 (fun i e h'=>Regs e [(2, .slice (some ⟨idl,offl,none⟩) 3 0),(6, .pointer (some ⟨h.length+1,0,none⟩)),(8, .pointer (some ⟨h.length+(t.length+1+1),0,none⟩)),(11, .int .i64 i)] ∧
   HeapIs h' (h++(⟨[.int .i64 N,wP,wV, .int .i64 src, .string D, .string Q, .int .i64 cnt],7, .rw⟩::⟨[.int .i64 0, .slice none 0 0, .slice none 0 0, .int .i64 0, .string ⟨#[]⟩, .string ⟨#[]⟩, .int .i64 0],7, .rw⟩::(t++ [⟨[.int .i64 N,xP, .slice (some ⟨X,0,none⟩) 0 0, .int .i64 src, .string D, .string Q, .int .i64 cnt],7, .rw⟩])))) ?_ ?_
  ·exact ⟨⟨rfl,rfl,rfl,rfl,trivial⟩, .rfl⟩
  ·rintro i e _ hi ⟨⟨e2,e6,e8,e11,_⟩,rfl⟩
   obtain rfl:i=0:=by omega
   simp only [go_sem,e2,e6,e8,e11,hkl,hdl,p0,p1,p2]
   refine ⟨by kernel_rfl,(c_ins0V X (h.length+(t.length+1+1+1)) (vlvOf l) (by simp;omega) (by simp only [go_sem,vlvOf,vlv])).use (fun _ m=>m) ?_⟩
   rintro _ _ ⟨rfl,rfl⟩
   simp only [go_sem,e2,e6,e8,e11,o1]
   have pq2: ∀(a' b':Blk) (u:Heap),FQs a b 4 (h++a'::b'::(t++u)) xP (P.map pip):=fun a' b' u=>pq.v2 hh.1
   have fnew: ∀(a' b' c' d':Blk) (u:Heap),FQs (h.length+2+t.length) (h.length+(t.length+5)) 4 (h++a'::b'::(t++c'::d'::⟨vlv (vlvOf l),4, .rw⟩::u)) (.slice (some ⟨h.length+(t.length+2+1+1),0,none⟩) 1 0) ((insV [] (vlvOf l)).map vlv):=fun a' b' c' d' u=>frG (j:=t.length+2+1+1) vlv4 (by rw [hnew];simp) (by rw [hnew];rfl) (by omega) (by omega)
   refine ⟨by omega, ?_⟩
   refine ⟨by kernel_rfl,(c_IsValidValves _ _ N P (insV [] (vlvOf l)) ⟨_,rfl,FQs.sbQ (pq2 _ _ _)⟩ (fnew _ _ _ _ []).sl (FQs.eszQ (fnew _ _ _ _ [])) (Nat.le_trans hP10 (by decide)) (by rw [hnew];exact Nat.le_of_ble_eq_true rfl)).use (fun _ m=>m) ?_⟩
   rintro _ _ ⟨rfl,⟨t5,rfl⟩⟩
   simp only [go_sem,e2,e6,e8,e11,o1]
   by_cases c:valOk N P (insV [] (vlvOf l))
   ·rw [if_pos c] at he
    rw [decide_eq_true c]
    refine some_ok ⟨N,P,insV [] (vlvOf l),src,D,Q,cnt⟩ he _ _ _ xP _ ⟨a,b,_,_, ?_,pq2 _ _ _,fnew _ _ _ _ _⟩
    all_goals omega
   ·rw [if_neg c] at he
    rw [decide_eq_false c]
    exact none_ok he _ _ _ ⟨N,[],[],src,D,Q,cnt⟩ xP (.slice (some ⟨h.length+(t.length+2+1+1),0,none⟩) 1 0) ⟨o1,rfl⟩
theorem c_change {n:Nat} (C:Con) (w:ByteArray) (wP wV vl:Value) (l:List Int) (sP:SB n 4 h wP (C.P.map pip)) (sV:Sl h 4 wV (C.V.map vlv)) (es:EszC h 4 wV) (g:conOk C) (sl:SI h vl l) (hw:isEdit w) (hl:(l.length:Int)=needs w) :
  vCall [] Tryz.prog M 106 [conV C wP wV, .string w,vl] h (fun r h'=>(∃E xP xV,r = .tuple #[conV E xP xV, .bool (editR C w l).isSome]∧(oneC xP=true∧oneC xV=true)∧(∀E',editR C w l=some E'->E=E'∧ConQ h.length h'.length h' E xP xV))∧h<+:h'):=by
 rcases hw with rfl|rfl|rfl|rfl|rfl
 ·exact c_changeP C wP wV vl l sP sV es g sl hl
 ·exact c_changeV C wP wV vl l sP sV es g sl hl
 ·exact c_changeH C wP wV vl l sP sV es g sl hl
 ·exact c_changeO C wP wV vl l sP sV es g sl hl
 ·exact c_changeS C wP wV vl l sP sV es g sl hl
end
open Go.HH Go.Proofs
def isAsk (w:ByteArray):Prop:=w=w_dry∨w=w_bridges∨w=w_burst∨w=w_segment∨w=w_around∨w=w_way
instance {w:ByteArray}:Decidable (isAsk w):=inferInstanceAs (Decidable (_∨_∨_∨_∨_∨_))
section
variable {h : Heap} {M : Nat → Prop}
set_option maxRecDepth 4000 in
theorem c_answerD {n:Nat} (C:Con) (wP wV vl:Value) (l:List Int) (sP:SB n 4 h wP (C.P.map pip)) (sV:Sl h 4 wV (C.V.map vlv)) (es:EszC h 4 wV) (g:conOk C) (sl:SI h vl l) (hl:(l.length:Int)=needs w_dry) :
  vCall [] Tryz.prog M 107 [conV C wP wV, .string w_dry,vl] h (fun r h'=>(∃x,r = .tuple #[x, .bool (askR C w_dry l).isSome]∧SI h' x ((askR C w_dry l).getD []))∧h<+:h'):=by
 obtain ⟨N,P,V,src,D,Q,cnt⟩:=C
 have hP10:P.length<=1048576:=Nat.le_trans g.1.1.2.2 (by decide)
 have hV10:V.length<=1048576:=Nat.le_trans g.1.2.1 (by decide)
 simp only at sP sV es
 have o0:oneC wP=true:=by obtain ⟨a,e,_⟩:=sP.1;rw [e];rfl
 have o0v:oneC wV=true:=by obtain ⟨a,e,_⟩:=sV;rw [e];rfl
 have hv:NA n h (.agg #[.int .i64 N,wP]) N P:=⟨wP,rfl,sP⟩
 have fin: ∀(c:Prop) [Decidable c] (L:List Int) (x:Value) (H:Heap),askR ⟨N,P,V,src,D,Q,cnt⟩ w_dry l=(if c then some L else none)->(¬c->L= [])->SI H x L->∃y,Value.tuple #[x, .bool (decide c)] = .tuple #[y, .bool (askR ⟨N,P,V,src,D,Q,cnt⟩ w_dry l).isSome]∧SI H y ((askR ⟨N,P,V,src,D,Q,cnt⟩ w_dry l).getD []):=fun c _ L x H he hn hs=>by
  rw [he]
  by_cases hc:c
  ·rw [if_pos hc,decide_eq_true hc]
   exact ⟨_,rfl,hs⟩
  ·rw [if_neg hc,decide_eq_false hc]
   rw [hn hc] at hs
   exact ⟨_,rfl,hs⟩
 have q1:decide (w_dry=w_dry)=true:=by decide
 have q2:decide (w_dry=w_burst)=false:=by decide
 have q3:decide (w_dry=w_segment)=false:=by decide
 have q4:decide (w_dry=w_around)=false:=by decide
 have q5:decide (w_dry=w_way)=false:=by decide
 have lk:l.length=0:=by
  have hnn:needs w_dry=0:=by decide
  omega
 obtain ⟨a0,rfl⟩:=AI.len sl
 refine body_of mo Tryz.func107 rfl (by kernel_rfl) (Nat.le_of_ble_eq_true (by kernel_rfl)) rfl ?_
 simp only [go_sem,conV,toList_eq,q1,q2,q3,q4,q5,o0,o0v]
 refine ⟨by kernel_rfl,(c_DryNodes _ wV N P V src (hv.mono (by simp)) (sV.mono (by simp)) (es.mono (by simp)) hP10 hV10).use (fun _ m=>m) ?_⟩
 rintro _ _ ⟨⟨x,rfl,sx⟩,⟨t,rfl⟩⟩
 simp only [go_sem]
 exact fin (valOk N P V∧1<=src∧src<=N) (dryL N P V src) _ _ (by rw [askR,if_pos rfl];simp only [lk,true_and]) (fun hc=>by rw [dryL,if_neg hc]) (by first|exact sx|simpa using sx)
set_option maxRecDepth 4000 in
theorem c_answerB {n:Nat} (C:Con) (wP wV vl:Value) (l:List Int) (sP:SB n 4 h wP (C.P.map pip)) (sV:Sl h 4 wV (C.V.map vlv)) (es:EszC h 4 wV) (g:conOk C) (sl:SI h vl l) (hl:(l.length:Int)=needs w_bridges) :
  vCall [] Tryz.prog M 107 [conV C wP wV, .string w_bridges,vl] h (fun r h'=>(∃x,r = .tuple #[x, .bool (askR C w_bridges l).isSome]∧SI h' x ((askR C w_bridges l).getD []))∧h<+:h'):=by
 obtain ⟨N,P,V,src,D,Q,cnt⟩:=C
 have hP10:P.length<=1048576:=Nat.le_trans g.1.1.2.2 (by decide)
 have hV10:V.length<=1048576:=Nat.le_trans g.1.2.1 (by decide)
 simp only at sP sV es
 have o0:oneC wP=true:=by obtain ⟨a,e,_⟩:=sP.1;rw [e];rfl
 have o0v:oneC wV=true:=by obtain ⟨a,e,_⟩:=sV;rw [e];rfl
 have hv:NA n h (.agg #[.int .i64 N,wP]) N P:=⟨wP,rfl,sP⟩
 have fin: ∀(c:Prop) [Decidable c] (L:List Int) (x:Value) (H:Heap),askR ⟨N,P,V,src,D,Q,cnt⟩ w_bridges l=(if c then some L else none)->(¬c->L= [])->SI H x L->∃y,Value.tuple #[x, .bool (decide c)] = .tuple #[y, .bool (askR ⟨N,P,V,src,D,Q,cnt⟩ w_bridges l).isSome]∧SI H y ((askR ⟨N,P,V,src,D,Q,cnt⟩ w_bridges l).getD []):=fun c _ L x H he hn hs=>by
  rw [he]
  by_cases hc:c
  ·rw [if_pos hc,decide_eq_true hc]
   exact ⟨_,rfl,hs⟩
  ·rw [if_neg hc,decide_eq_false hc]
   rw [hn hc] at hs
   exact ⟨_,rfl,hs⟩
 have q1:decide (w_bridges=w_dry)=false:=by decide
 have q2:decide (w_bridges=w_burst)=false:=by decide
 have q3:decide (w_bridges=w_segment)=false:=by decide
 have q4:decide (w_bridges=w_around)=false:=by decide
 have q5:decide (w_bridges=w_way)=false:=by decide
 have lk:l.length=0:=by
  have hnn:needs w_bridges=0:=by decide
  omega
 obtain ⟨a0,rfl⟩:=AI.len sl
 refine body_of mo Tryz.func107 rfl (by kernel_rfl) (Nat.le_of_ble_eq_true (by kernel_rfl)) rfl ?_
 simp only [go_sem,conV,toList_eq,q1,q2,q3,q4,q5,o0,o0v]
 refine ⟨by kernel_rfl,(c_BridgePipes _ N P (hv.mono (by simp)) hP10).use (fun _ m=>m) ?_⟩
 rintro _ _ ⟨⟨x,rfl,sx⟩,⟨t,rfl⟩⟩
 simp only [go_sem]
 exact fin (netGood N P) (briR N P) _ _ (by rw [askR,if_neg (by decide),if_pos rfl];simp only [lk,true_and]) (fun hc=>by rw [briR,if_neg hc]) (by first|exact sx|simpa using sx)
set_option maxRecDepth 4000 in
theorem c_answerU {n:Nat} (C:Con) (wP wV vl:Value) (l:List Int) (sP:SB n 4 h wP (C.P.map pip)) (sV:Sl h 4 wV (C.V.map vlv)) (es:EszC h 4 wV) (g:conOk C) (sl:SI h vl l) (hl:(l.length:Int)=needs w_burst) :
  vCall [] Tryz.prog M 107 [conV C wP wV, .string w_burst,vl] h (fun r h'=>(∃x,r = .tuple #[x, .bool (askR C w_burst l).isSome]∧SI h' x ((askR C w_burst l).getD []))∧h<+:h'):=by
 obtain ⟨N,P,V,src,D,Q,cnt⟩:=C
 have hP10:P.length<=1048576:=Nat.le_trans g.1.1.2.2 (by decide)
 have hV10:V.length<=1048576:=Nat.le_trans g.1.2.1 (by decide)
 simp only at sP sV es
 have o0:oneC wP=true:=by obtain ⟨a,e,_⟩:=sP.1;rw [e];rfl
 have o0v:oneC wV=true:=by obtain ⟨a,e,_⟩:=sV;rw [e];rfl
 have hv:NA n h (.agg #[.int .i64 N,wP]) N P:=⟨wP,rfl,sP⟩
 have fin: ∀(c:Prop) [Decidable c] (L:List Int) (x:Value) (H:Heap),askR ⟨N,P,V,src,D,Q,cnt⟩ w_burst l=(if c then some L else none)->(¬c->L= [])->SI H x L->∃y,Value.tuple #[x, .bool (decide c)] = .tuple #[y, .bool (askR ⟨N,P,V,src,D,Q,cnt⟩ w_burst l).isSome]∧SI H y ((askR ⟨N,P,V,src,D,Q,cnt⟩ w_burst l).getD []):=fun c _ L x H he hn hs=>by
  rw [he]
  by_cases hc:c
  ·rw [if_pos hc,decide_eq_true hc]
   exact ⟨_,rfl,hs⟩
  ·rw [if_neg hc,decide_eq_false hc]
   rw [hn hc] at hs
   exact ⟨_,rfl,hs⟩
 have q1:decide (w_burst=w_dry)=false:=by decide
 have q2:decide (w_burst=w_burst)=true:=by decide
 have q3:decide (w_burst=w_segment)=false:=by decide
 have q4:decide (w_burst=w_around)=false:=by decide
 have q5:decide (w_burst=w_way)=false:=by decide
 have lk:l.length=1:=by
  have hnn:needs w_burst=1:=by decide
  omega
 obtain ⟨a0,rfl⟩:=AI.len sl
 refine body_of mo Tryz.func107 rfl (by kernel_rfl) (Nat.le_of_ble_eq_true (by kernel_rfl)) rfl ?_
 obtain ⟨idl,offl,kl,hvl,_,hkl,_,hdl,_,_,_,hat⟩:=AI.at sl (by omega)
 obtain rfl:a0=some ⟨idl,offl,none⟩:=by simpa using hvl
 have p0:=hat 0 (by omega)
 rw [gl_at] at p0
 simp only [Nat.add_zero] at p0
 simp only [go_sem,conV,toList_eq,q1,q2,q3,q4,q5,o0,o0v,hkl,hdl,p0,lk]
 refine ⟨by kernel_rfl,(c_ShortestPlan _ wV N P V src (gl l 0) (hv.mono (by simp)) (sV.mono (by simp)) (es.mono (by simp)) hP10 hV10).use (fun _ m=>m) ?_⟩
 rintro _ _ ⟨⟨x,rfl,sx⟩,⟨t,rfl⟩⟩
 simp only [go_sem]
 have e:askR ⟨N,P,V,src,D,Q,cnt⟩ w_burst l=planR N P V src (gl l 0):=by
  rw [askR,if_neg (by decide),if_neg (by decide),if_pos rfl,if_pos lk]
 rw [e]
 exact ⟨_,rfl,by first|exact sx|simpa using sx⟩
set_option maxRecDepth 4000 in
theorem c_answerS {n:Nat} (C:Con) (wP wV vl:Value) (l:List Int) (sP:SB n 4 h wP (C.P.map pip)) (sV:Sl h 4 wV (C.V.map vlv)) (es:EszC h 4 wV) (g:conOk C) (sl:SI h vl l) (hl:(l.length:Int)=needs w_segment) :
  vCall [] Tryz.prog M 107 [conV C wP wV, .string w_segment,vl] h (fun r h'=>(∃x,r = .tuple #[x, .bool (askR C w_segment l).isSome]∧SI h' x ((askR C w_segment l).getD []))∧h<+:h'):=by
 obtain ⟨N,P,V,src,D,Q,cnt⟩:=C
 have hP10:P.length<=1048576:=Nat.le_trans g.1.1.2.2 (by decide)
 have hV10:V.length<=1048576:=Nat.le_trans g.1.2.1 (by decide)
 simp only at sP sV es
 have o0:oneC wP=true:=by obtain ⟨a,e,_⟩:=sP.1;rw [e];rfl
 have o0v:oneC wV=true:=by obtain ⟨a,e,_⟩:=sV;rw [e];rfl
 have hv:NA n h (.agg #[.int .i64 N,wP]) N P:=⟨wP,rfl,sP⟩
 have fin: ∀(c:Prop) [Decidable c] (L:List Int) (x:Value) (H:Heap),askR ⟨N,P,V,src,D,Q,cnt⟩ w_segment l=(if c then some L else none)->(¬c->L= [])->SI H x L->∃y,Value.tuple #[x, .bool (decide c)] = .tuple #[y, .bool (askR ⟨N,P,V,src,D,Q,cnt⟩ w_segment l).isSome]∧SI H y ((askR ⟨N,P,V,src,D,Q,cnt⟩ w_segment l).getD []):=fun c _ L x H he hn hs=>by
  rw [he]
  by_cases hc:c
  ·rw [if_pos hc,decide_eq_true hc]
   exact ⟨_,rfl,hs⟩
  ·rw [if_neg hc,decide_eq_false hc]
   rw [hn hc] at hs
   exact ⟨_,rfl,hs⟩
 have q1:decide (w_segment=w_dry)=false:=by decide
 have q2:decide (w_segment=w_burst)=false:=by decide
 have q3:decide (w_segment=w_segment)=true:=by decide
 have q4:decide (w_segment=w_around)=false:=by decide
 have q5:decide (w_segment=w_way)=false:=by decide
 have lk:l.length=1:=by
  have hnn:needs w_segment=1:=by decide
  omega
 obtain ⟨a0,rfl⟩:=AI.len sl
 refine body_of mo Tryz.func107 rfl (by kernel_rfl) (Nat.le_of_ble_eq_true (by kernel_rfl)) rfl ?_
 obtain ⟨idl,offl,kl,hvl,_,hkl,_,hdl,_,_,_,hat⟩:=AI.at sl (by omega)
 obtain rfl:a0=some ⟨idl,offl,none⟩:=by simpa using hvl
 have p0:=hat 0 (by omega)
 rw [gl_at] at p0
 simp only [Nat.add_zero] at p0
 simp only [go_sem,conV,toList_eq,q1,q2,q3,q4,q5,o0,o0v,hkl,hdl,p0,lk]
 refine ⟨by kernel_rfl,(c_SegmentOfPipe _ wV N P V (gl l 0) (hv.mono (by simp)) (sV.mono (by simp)) (es.mono (by simp)) hP10 hV10).use (fun _ m=>m) ?_⟩
 rintro _ _ ⟨⟨x,y,rfl,sx⟩,⟨t,rfl⟩⟩
 simp only [go_sem]
 exact fin (valOk N P V∧0<=pidx P (gl l 0)) (segL N P V (gl l 0)) _ _ (by rw [askR,if_neg (by decide),if_neg (by decide),if_neg (by decide),if_pos rfl];simp only [lk,true_and]) (fun hc=>by rw [segL,if_neg hc]) (by first|exact sx|simpa using sx)
set_option maxRecDepth 4000 in
theorem c_answerA {n:Nat} (C:Con) (wP wV vl:Value) (l:List Int) (sP:SB n 4 h wP (C.P.map pip)) (sV:Sl h 4 wV (C.V.map vlv)) (es:EszC h 4 wV) (g:conOk C) (sl:SI h vl l) (hl:(l.length:Int)=needs w_around) :
  vCall [] Tryz.prog M 107 [conV C wP wV, .string w_around,vl] h (fun r h'=>(∃x,r = .tuple #[x, .bool (askR C w_around l).isSome]∧SI h' x ((askR C w_around l).getD []))∧h<+:h'):=by
 obtain ⟨N,P,V,src,D,Q,cnt⟩:=C
 have hP10:P.length<=1048576:=Nat.le_trans g.1.1.2.2 (by decide)
 have hV10:V.length<=1048576:=Nat.le_trans g.1.2.1 (by decide)
 simp only at sP sV es
 have o0:oneC wP=true:=by obtain ⟨a,e,_⟩:=sP.1;rw [e];rfl
 have o0v:oneC wV=true:=by obtain ⟨a,e,_⟩:=sV;rw [e];rfl
 have hv:NA n h (.agg #[.int .i64 N,wP]) N P:=⟨wP,rfl,sP⟩
 have fin: ∀(c:Prop) [Decidable c] (L:List Int) (x:Value) (H:Heap),askR ⟨N,P,V,src,D,Q,cnt⟩ w_around l=(if c then some L else none)->(¬c->L= [])->SI H x L->∃y,Value.tuple #[x, .bool (decide c)] = .tuple #[y, .bool (askR ⟨N,P,V,src,D,Q,cnt⟩ w_around l).isSome]∧SI H y ((askR ⟨N,P,V,src,D,Q,cnt⟩ w_around l).getD []):=fun c _ L x H he hn hs=>by
  rw [he]
  by_cases hc:c
  ·rw [if_pos hc,decide_eq_true hc]
   exact ⟨_,rfl,hs⟩
  ·rw [if_neg hc,decide_eq_false hc]
   rw [hn hc] at hs
   exact ⟨_,rfl,hs⟩
 have q1:decide (w_around=w_dry)=false:=by decide
 have q2:decide (w_around=w_burst)=false:=by decide
 have q3:decide (w_around=w_segment)=false:=by decide
 have q4:decide (w_around=w_around)=true:=by decide
 have q5:decide (w_around=w_way)=false:=by decide
 have lk:l.length=1:=by
  have hnn:needs w_around=1:=by decide
  omega
 obtain ⟨a0,rfl⟩:=AI.len sl
 refine body_of mo Tryz.func107 rfl (by kernel_rfl) (Nat.le_of_ble_eq_true (by kernel_rfl)) rfl ?_
 obtain ⟨idl,offl,kl,hvl,_,hkl,_,hdl,_,_,_,hat⟩:=AI.at sl (by omega)
 obtain rfl:a0=some ⟨idl,offl,none⟩:=by simpa using hvl
 have p0:=hat 0 (by omega)
 rw [gl_at] at p0
 simp only [Nat.add_zero] at p0
 simp only [go_sem,conV,toList_eq,q1,q2,q3,q4,q5,o0,o0v,hkl,hdl,p0,lk]
 refine ⟨by kernel_rfl,(c_ValvesAround _ wV N P V (gl l 0) (hv.mono (by simp)) (sV.mono (by simp)) (es.mono (by simp)) hP10 hV10).use (fun _ m=>m) ?_⟩
 rintro _ _ ⟨⟨x,rfl,sx⟩,⟨t,rfl⟩⟩
 simp only [go_sem]
 exact fin (valOk N P V∧0<=pidx P (gl l 0)) (arndL N P V (gl l 0)) _ _ (by rw [askR,if_neg (by decide),if_neg (by decide),if_neg (by decide),if_neg (by decide),if_pos rfl];simp only [lk,true_and]) (fun hc=>by rw [arndL,if_neg hc]) (by first|exact sx|simpa using sx)
set_option maxRecDepth 4000 in
theorem c_answerW {n:Nat} (C:Con) (wP wV vl:Value) (l:List Int) (sP:SB n 4 h wP (C.P.map pip)) (sV:Sl h 4 wV (C.V.map vlv)) (es:EszC h 4 wV) (g:conOk C) (sl:SI h vl l) (hl:(l.length:Int)=needs w_way) :
  vCall [] Tryz.prog M 107 [conV C wP wV, .string w_way,vl] h (fun r h'=>(∃x,r = .tuple #[x, .bool (askR C w_way l).isSome]∧SI h' x ((askR C w_way l).getD []))∧h<+:h'):=by
 obtain ⟨N,P,V,src,D,Q,cnt⟩:=C
 have hP10:P.length<=1048576:=Nat.le_trans g.1.1.2.2 (by decide)
 have hV10:V.length<=1048576:=Nat.le_trans g.1.2.1 (by decide)
 simp only at sP sV es
 have o0:oneC wP=true:=by obtain ⟨a,e,_⟩:=sP.1;rw [e];rfl
 have o0v:oneC wV=true:=by obtain ⟨a,e,_⟩:=sV;rw [e];rfl
 have hv:NA n h (.agg #[.int .i64 N,wP]) N P:=⟨wP,rfl,sP⟩
 have fin: ∀(c:Prop) [Decidable c] (L:List Int) (x:Value) (H:Heap),askR ⟨N,P,V,src,D,Q,cnt⟩ w_way l=(if c then some L else none)->(¬c->L= [])->SI H x L->∃y,Value.tuple #[x, .bool (decide c)] = .tuple #[y, .bool (askR ⟨N,P,V,src,D,Q,cnt⟩ w_way l).isSome]∧SI H y ((askR ⟨N,P,V,src,D,Q,cnt⟩ w_way l).getD []):=fun c _ L x H he hn hs=>by
  rw [he]
  by_cases hc:c
  ·rw [if_pos hc,decide_eq_true hc]
   exact ⟨_,rfl,hs⟩
  ·rw [if_neg hc,decide_eq_false hc]
   rw [hn hc] at hs
   exact ⟨_,rfl,hs⟩
 have q1:decide (w_way=w_dry)=false:=by decide
 have q2:decide (w_way=w_burst)=false:=by decide
 have q3:decide (w_way=w_segment)=false:=by decide
 have q4:decide (w_way=w_around)=false:=by decide
 have q5:decide (w_way=w_way)=true:=by decide
 have lk:l.length=2:=by
  have hnn:needs w_way=2:=by decide
  omega
 obtain ⟨a0,rfl⟩:=AI.len sl
 refine body_of mo Tryz.func107 rfl (by kernel_rfl) (Nat.le_of_ble_eq_true (by kernel_rfl)) rfl ?_
 obtain ⟨idl,offl,kl,hvl,_,hkl,_,hdl,_,_,_,hat⟩:=AI.at sl (by omega)
 obtain rfl:a0=some ⟨idl,offl,none⟩:=by simpa using hvl
 have p0:=hat 0 (by omega)
 rw [gl_at] at p0
 simp only [Nat.add_zero] at p0
 have p1:=hat 1 (by omega)
 rw [gl_at] at p1
 simp only [go_sem,conV,toList_eq,q1,q2,q3,q4,q5,o0,o0v,hkl,hdl,p0,p1,lk]
 refine ⟨by kernel_rfl,(c_ShortestWay _ N P (gl l 0) (gl l 1) (hv.mono (by simp)) hP10).use (fun _ m=>m) ?_⟩
 rintro _ _ ⟨⟨x,rfl,sx⟩,⟨t,rfl⟩⟩
 simp only [go_sem]
 exact fin (wayOk N P (gl l 0) (gl l 1)) (wayR N P (gl l 0) (gl l 1)) _ _ (by rw [askR,if_neg (by decide),if_neg (by decide),if_neg (by decide),if_neg (by decide),if_neg (by decide),if_pos rfl];simp only [lk,true_and]) (fun hc=>by rw [wayR,if_neg hc]) (by first|exact sx|simpa using sx)
theorem c_answer {n:Nat} (C:Con) (w:ByteArray) (wP wV vl:Value) (l:List Int) (sP:SB n 4 h wP (C.P.map pip)) (sV:Sl h 4 wV (C.V.map vlv)) (es:EszC h 4 wV) (g:conOk C) (sl:SI h vl l) (hw:isAsk w) (hl:(l.length:Int)=needs w) :
  vCall [] Tryz.prog M 107 [conV C wP wV, .string w,vl] h (fun r h'=>(∃x,r = .tuple #[x, .bool (askR C w l).isSome]∧SI h' x ((askR C w l).getD []))∧h<+:h'):=by
 rcases hw with rfl|rfl|rfl|rfl|rfl|rfl
 ·exact c_answerD C wP wV vl l sP sV es g sl hl
 ·exact c_answerB C wP wV vl l sP sV es g sl hl
 ·exact c_answerU C wP wV vl l sP sV es g sl hl
 ·exact c_answerS C wP wV vl l sP sV es g sl hl
 ·exact c_answerA C wP wV vl l sP sV es g sl hl
 ·exact c_answerW C wP wV vl l sP sV es g sl hl
end
open Go.HH Go.Proofs
def isDg (c:UInt8):Bool:=decide (48<=c.toNat∧c.toNat<=57)
def dg6 (l:BL):BL:=(l.takeWhile isDg).take 6
def valL (l:BL):Nat:=l.foldl (fun n c=>10*n+(c.toNat-48)) 0
theorem valL_snoc (l:BL) (c:UInt8):valL (l++ [c])=10*valL l+(c.toNat-48):=by rw [valL,List.foldl_append];rfl
theorem valL_lt: ∀(l:BL),(∀c∈l,isDg c=true)->valL l<10 ^ l.length:=by
 intro l
 induction hn:l.length generalizing l with
 | zero=>intro _;rw [List.eq_nil_of_length_eq_zero hn];decide
 | succ n ih=>
  intro h
  rcases List.eq_nil_or_concat l with rfl|⟨p,c,rfl⟩
  ·simp at hn
  ·rw [List.concat_eq_append] at hn h ⊢
   have h1:=ih p (by simpa using hn) (fun x hx=>h x (List.mem_append_left _ hx))
   have h2:48<=c.toNat∧c.toNat<=57:=by simpa [isDg] using h c (by simp)
   rw [valL_snoc,Nat.pow_succ]
   omega
inductive NumsR:Nat->BL->List Int->Prop
 | stop (l:BL):NumsR 0 l []
 | nil (m:Nat):NumsR m [] []
 | skip {m:Nat} {c:UInt8} {r:BL} {o:List Int}:isDg c=false->NumsR (m+1) r o->NumsR (m+1) (c::r) o
 | take {m:Nat} {c:UInt8} {r:BL} {o:List Int}:isDg c=true->NumsR m ((c::r).drop ((dg6 (c::r)).length+1)) o->NumsR (m+1) (c::r) ((valL (dg6 (c::r)):Int)::o)
theorem NumsR.len {m:Nat} {l:BL} {a:List Int} (h:NumsR m l a):a.length<=m:=by
 induction h with
 | stop l=>exact Nat.le_refl 0
 | nil m=>exact Nat.zero_le _
 | skip _ _ ih=>exact ih
 | take _ _ ih=>rw [List.length_cons];omega
theorem dec_dg (n:Nat): ∀c∈Lib.decDigits n,isDg c=true:=fun c hc=>decide_eq_true (dec_digit n c hc)
theorem dec_val: ∀n,valL (Lib.decDigits n)=n:=by
 intro n
 induction n using Nat.strongRecOn with
 | _ n ih=>
  by_cases h:n<10
  ·rw [Lib.decDigits_one h]
   show 10*0+((UInt8.ofNat (48+n)).toNat-48)=n
   simp;omega
  ·rw [show Lib.decDigits n=Lib.decDigits (n/10)++ [UInt8.ofNat (48+n%10)] by rw [Lib.decDigits,dif_neg h],valL_snoc,ih (n/10) (by omega)]
   have:n%10<10:=Nat.mod_lt _ (by omega)
   have e:(UInt8.ofNat (48+n%10)).toNat=48+n%10:=by simp;omega
   rw [e];omega
theorem dec_pos (n:Nat): ∃c r,Lib.decDigits n=c::r:=by
 by_cases h:n<10
 ·exact ⟨_,_,Lib.decDigits_one h⟩
 ·rw [show Lib.decDigits n=Lib.decDigits (n/10)++ [UInt8.ofNat (48+n%10)] by rw [Lib.decDigits,dif_neg h]]
  cases hx:Lib.decDigits (n/10) with
  | nil=>exact ⟨_,_,rfl⟩
  | cons c r=>exact ⟨_,_,rfl⟩
open Go.HH Go.Proofs
end Go.Proofs.YtedidddimikjhaaGreatDoor
