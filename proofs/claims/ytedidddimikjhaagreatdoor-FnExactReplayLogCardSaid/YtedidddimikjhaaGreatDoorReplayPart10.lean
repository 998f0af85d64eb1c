/- Texts of this claim, joined. No condition. -/
import Derived.Test.YtedidddimikjhaaGreatDoorReplayPart9
import Derived.Test.YtedidddimikjhaaGreatDoorReplayPart8
import Derived.Test.YtedidddimikjhaaGreatDoorReplayPart4
import Derived.Test.YtedidddimikjhaaGreatDoorReplayPart5
set_option linter.unusedSimpArgs false
set_option linter.unusedVariables false
namespace Go.Proofs.YtedidddimikjhaaGreatDoor
open Go.HH Go.Proofs
def zI (n:Int):ByteArray:=if n<0 then ⟨#[45]⟩++num n.natAbs else num n.toNat
theorem zI_nat (n:Nat):zI (n:Int)=num n:=by rw [zI,if_neg (by omega),Int.toNat_natCast]
theorem zI_neg {n:Nat} (h:0<n):zI (-(n:Int))=⟨#[45]⟩++num n:=by rw [zI,if_pos (by omega)];congr 2;omega
theorem bl_neg (v:Nat):bl (⟨#[45]⟩++num v)=45::Lib.decDigits v:=by simp [bl];rfl
def IsInt (s:ByteArray) (n:Int):Prop:=s=zI n ∧ -1000000<n∧n<1000000
theorem num_inj {a b:Nat} (h:num a=num b):a=b:=by
 have:=congrArg (fun x=>valL (bl x)) h
 simpa only [bl_num,dec_val] using this
theorem zI_inj {a b:Int} (h:zI a=zI b):a=b:=by
 have no: ∀v w:Nat,⟨#[45]⟩++num v≠num w:=fun v w hh=>by
  have h1:=congrArg bl hh
  rw [bl_neg,bl_num] at h1
  have:=dec_dg w 45 (by rw [←h1];simp)
  cases this
 unfold zI at h
 split at h<;>split at h
 ·have h1:=congrArg bl h
  rw [bl_neg,bl_neg] at h1
  have h2:=(List.cons.inj h1).2
  have h3:=congrArg valL h2
  rw [dec_val,dec_val] at h3
  omega
 ·exact absurd h (no _ _)
 ·exact absurd h.symm (no _ _)
 ·have:=num_inj h;omega
def ReadsI (s:ByteArray) (n:Int) (b:Bool):Prop:=(b=true->IsInt s n)∧(b=false->n=0∧∀z,¬IsInt s z)
theorem ReadsI.yes {s:ByteArray} {n:Int} (h:IsInt s n):ReadsI s n true:=⟨fun _=>h,fun h=>(by cases h)⟩
theorem ReadsI.no {s:ByteArray} (h1: ∀v:Nat,v<1000000->s=num v->False) (h2: ∀v:Nat,0<v->v<1000000->s=⟨#[45]⟩++num v->False):ReadsI s 0 false:=
 ⟨fun h=>(by cases h),fun _=>⟨rfl,fun z hz=>by
  rcases Int.lt_or_le z 0 with h|h
  ·refine h2 z.natAbs (by omega) (by have:=hz.2;omega) ?_
   rw [hz.1,zI,if_pos h]
  ·refine h1 z.toNat (by have:=hz.2;omega) ?_
   rw [hz.1,zI,if_neg (by omega)]⟩⟩
section
variable {h : Heap} {M : Nat → Prop}
theorem c_l1NumZ (n:Int) (hn : -1000000000<n∧n<1000000000):vCall [] Tryz.prog M 82 [.int .i64 n] h (fun r h'=>r = .string (zI n)∧h=h'):=by
 by_cases h0:0<=n
 ·obtain ⟨m,rfl⟩:=Int.eq_ofNat_of_zero_le h0
  have:=c_l1Num (h:=h) (M:=M) m (by omega)
  rw [zI_nat]
  exact this
 ·obtain ⟨m,hm⟩:=Int.eq_ofNat_of_zero_le (show 0 <= -n by omega)
  have w:IntKind.i64.wrap (0-n)=((m:Nat):Int):=by rw [show (0:Int)-n=m by omega];exact wrap64 (by omega)
  have zs:=num_less (n:=m) (by omega)
  have a1:hBin .add (.string ⟨#[45]⟩) (.string (num m))=some (.string (⟨#[45]⟩++num m)):=adds (by have:(⟨#[45]⟩:ByteArray).size=1:=rfl;omega)
  refine body_of mo Tryz.func82 rfl (by kernel_rfl) (Nat.le_of_ble_eq_true (by kernel_rfl)) rfl ?_
  simp only [go_sem,show n<0 by omega,w]
  refine ⟨by kernel_rfl,(c_l1Num m (by omega)).use (fun _ m=>m) ?_⟩
  rintro _ _ ⟨rfl,rfl⟩
  simp only [go_sem,a1]
  rw [show n = -(m:Int) by omega,zI_neg (by omega)]
set_option maxRecDepth 20000 in
theorem c_l1ReadI (s:ByteArray) (hs0:s.size<=10000000):vCall [] Tryz.prog M 190 [.string s] h (fun r h'=>(∃n b,r = .tuple #[.int .i64 n, .bool b]∧ReadsI s n b)∧h=h'):=by
 refine body_of mo Tryz.func190 rfl (by kernel_rfl) (Nat.le_of_ble_eq_true (by kernel_rfl)) rfl ?_
 by_cases g0:1<s.size∧(bl s)[0]? = some 45
 ·obtain ⟨g1,g2⟩:=g0
  have hb:=bl_get (s:=s) (i:=0) (by omega)
  obtain ⟨hl,g3⟩:=List.getElem?_eq_some_iff.1 g2
  rw [g3] at hb
  obtain ⟨t,ht⟩: ∃t,t=s.extract 1 s.size:=⟨_,rfl⟩
  have zT:t.size=s.size-1:=by rw [ht,ByteArray.size_extract];omega
  have hbs:bl s=45::bl t:=by
   rw [ht,bl_extract, ←bl_len,List.take_length]
   cases hx:bl s with
   | nil=>rw [hx] at hl;simp at hl
   | cons a r=>simp only [hx] at g3;simp at g3;rw [g3];rfl
  have hno: ∀v:Nat,s≠num v:=fun v hv=>by
   have h1:=dec_dg v 45 (by rw [←bl_num, ←hv,hbs];simp)
   cases h1
  have hneg: ∀v:Nat,s=⟨#[45]⟩++num v->bl t=Lib.decDigits v:=fun v hv=>by
   have h1:=congrArg bl hv
   rw [bl_neg,hbs] at h1
   exact (List.cons.inj h1).2
  have neg:(1:Int)<s.size:=by omega
  have e45:(((45:UInt8).toNat:Int)==45)=true:=rfl
  simp only [go_sem,neg,hb,e45,show 1<=s.size by omega, ←ht]
  refine ⟨by kernel_rfl,(c_l1In _ _ _).use (fun _ m=>m) ?_⟩
  rintro _ _ ⟨rfl,rfl⟩
  have zt:t.size<=9223372036854775807:=by omega
  by_cases q0:1<=t.size∧t.size<=6
  ·have q1:decide ((1:Int)<=t.size∧(t.size:Int)<=6)=true:=decide_eq_true (by omega)
   simp only [go_sem,neg, ←ht,q1]
   refine vLoop.count mo t.size (fun i e h'=>e 0 = .string s∧e 4 = .string t∧e 5 = .int .i64 (valL ((bl t).take i):Nat)∧e 6 = .int .i64 i∧HeapIs h h'∧∀c∈(bl t).take i,isDg c=true) ?_ ?_
   ·exact ⟨rfl,rfl,rfl,rfl,HeapIs.rfl,fun c hc=>by simp at hc⟩
   ·rintro i e _ hi ⟨e0,e4,e5,e6,hh,hdg⟩
    cases hh
    have pk:((bl t).take i).length=i:=by rw [List.length_take,bl_len];omega
    have vlt:=valL_lt _ hdg
    rw [pk] at vlt
    have p6:10 ^ i<=10 ^ 6:=Nat.pow_le_pow_right (by omega) (by omega)
    by_cases hlt:i<t.size
    ·have hz:(i:Int)<t.size:=by omega
     have hlt':i<(bl t).length:=by rw [bl_len];exact hlt
     have hb:=bl_get hlt
     obtain ⟨c,hce⟩: ∃c,c=(bl t)[i]:=⟨_,rfl⟩
     rw [←hce] at hb
     have hc2:(c.toNat:Int)<=255:=by have:=c.toNat_lt;omega
     have tk:(bl t).take (i+1)=(bl t).take i++ [c]:=by rw [List.take_add_one,List.getElem?_eq_getElem hlt',hce];rfl
     by_cases q2:isDg c=true
     ·have q3:48<=c.toNat∧c.toNat<=57:=by simpa [isDg] using q2
      have w1:IntKind.i64.wrap (10*((valL ((bl t).take i):Nat):Int))=10*((valL ((bl t).take i):Nat):Int):=wrap64 (by omega)
      have w2:IntKind.u8.wrap ((c.toNat:Int)-48)=((c.toNat-48:Nat):Int):=by rw [IntWalk.u8_in _ (by omega)];omega
      have w3:IntKind.i64.wrap ((c.toNat-48:Nat):Int)=((c.toNat-48:Nat):Int):=wrap64 (by omega)
      have w4:IntKind.i64.wrap (10*((valL ((bl t).take i):Nat):Int)+((c.toNat-48:Nat):Int))=((valL ((bl t).take (i+1)):Nat):Int):=by rw [wrap64 (by omega),tk,valL_snoc];omega
      simp only [go_sem,e0,e4,e5,e6,hz,hb,show ¬((c.toNat:Int)<48) by omega,show ¬((57:Int)<c.toNat) by omega,w1,w2,w3,w4]
      refine ⟨hlt,by rw [wrap64 (by omega)];rfl,HeapIs.rfl,fun x hx => ?_⟩
      rw [tk] at hx
      rcases List.mem_append.1 hx with hx|hx
      ·exact hdg x hx
      ·rw [List.mem_singleton.1 hx];exact q2
     ·have no:ReadsI s 0 false := .no (fun v _=>hno v) (fun v _ _ hs=>q2 (dec_dg v c (by rw [←hneg v hs,hce];exact List.getElem_mem _)))
      have q3: ¬(48<=c.toNat∧c.toNat<=57):=by simpa [isDg] using q2
      by_cases q5:(c.toNat:Int)<48
      ·simp only [go_sem,e0,e4,e5,e6,hz,hb,q5]
       exact ⟨_,_,rfl,no⟩
      ·simp only [go_sem,e0,e4,e5,e6,hz,hb,q5,show (57:Int)<c.toNat by omega]
       exact ⟨_,_,rfl,no⟩
    ·obtain rfl:i=t.size:=by omega
     rw [List.take_of_length_le (by rw [bl_len];exact Nat.le_refl _)] at e5 hdg vlt
     have w5:IntKind.i64.wrap (0-((valL (bl t):Nat):Int))=0-((valL (bl t):Nat):Int):=wrap64 (by omega)
     simp only [go_sem,e0,e4,e5,e6,show (t.size:Int)<s.size by omega,show ¬((t.size:Int)<t.size) by omega,w5]
     refine ⟨by kernel_rfl,(c_l1NumZ (0-((valL (bl t):Nat):Int)) (by omega)).use (fun _ m=>m) ?_⟩
     rintro _ _ ⟨rfl,rfl⟩
     obtain ⟨u,hu⟩: ∃u,u=zI (0-((valL (bl t):Nat):Int)):=⟨_,rfl⟩
     rw [←hu]
     by_cases g:u=s
     ·simp only [go_sem,e0,e4,e5,e6,show (t.size:Int)<s.size by omega,w5,show (u.toList==s.toList)=true from by rw [g];exact beq_self_eq_true _,Bool.not_true]
      exact ⟨_,_,rfl, .yes ⟨by rw [←g,hu],by omega,by omega⟩⟩
     ·simp only [go_sem,e0,e4,e5,e6,show (t.size:Int)<s.size by omega,w5,show (u.toList==s.toList)=false from by rw [toList_eq];exact decide_eq_false g,Bool.not_false]
      exact ⟨_,_,rfl, .no (fun v _=>hno v) (fun v h0 hv hs=>g (by rw [hu,hneg v hs,dec_val,show (0:Int)-((v:Nat):Int) = -(v:Int) by omega,zI_neg h0];exact hs.symm))⟩
  ·have q1:decide ((1:Int)<=t.size∧(t.size:Int)<=6)=false:=decide_eq_false (by omega)
   simp only [go_sem,neg, ←ht,q1]
   exact ⟨_,_,rfl, .no (fun v _=>hno v) (fun v h0 hv hs=>q0 (by have h1:=dec_len (k:=6) hv (by omega);have h2:=dec_pos v;rw [←bl_len,hneg v hs];obtain ⟨x,r,h3⟩:=h2;rw [h3] at h1 ⊢;simp at h1 ⊢;omega))⟩
 ·have hnn: ∀v:Nat,0<v->v<1000000->s≠⟨#[45]⟩++num v:=fun v _ _ hs=>by
   refine g0 ⟨?_,by rw [hs,bl_neg];rfl⟩
   have h1:=congrArg (fun x=>(bl x).length) hs
   simp only [bl_neg,bl_len,List.length_cons] at h1
   obtain ⟨x,r,h3⟩:=dec_pos v
   rw [h3] at h1
   simp at h1
   omega
  by_cases g1:1<s.size
  ·have g2:(bl s)[0]? ≠ some 45:=fun h=>g0 ⟨g1,h⟩
   have hb:=bl_get (s:=s) (i:=0) (by omega)
   have neg:(1:Int)<s.size:=by omega
   have e45:((((bl s)[0]'(by rw [bl_len];omega)).toNat:Int)==45)=false:=by
    rw [beq_eq_false_iff_ne]
    intro hh
    refine g2 ?_
    rw [List.getElem?_eq_getElem (by rw [bl_len];omega)]
    exact congrArg some (UInt8.toNat_inj.1 (Int.ofNat.inj hh))
   simp only [go_sem,neg,hb,e45]
   refine ⟨by kernel_rfl,(c_l1In _ _ _).use (fun _ m=>m) ?_⟩
   rintro _ _ ⟨rfl,rfl⟩
   have zt:s.size<=9223372036854775807:=by omega
   by_cases q0:1<=s.size∧s.size<=6
   ·have q1:decide ((1:Int)<=s.size∧(s.size:Int)<=6)=true:=decide_eq_true (by omega)
    simp only [go_sem,neg,hb,e45,q1]
    refine vLoop.count mo s.size (fun i e h'=>e 0 = .string s∧e 4 = .string s∧e 5 = .int .i64 (valL ((bl s).take i):Nat)∧e 6 = .int .i64 i∧HeapIs h h'∧∀c∈(bl s).take i,isDg c=true) ?_ ?_
    ·exact ⟨rfl,rfl,rfl,rfl,HeapIs.rfl,fun c hc=>by simp at hc⟩
    ·rintro i e _ hi ⟨e0,e4,e5,e6,hh,hdg⟩
     cases hh
     have pk:((bl s).take i).length=i:=by rw [List.length_take,bl_len];omega
     have vlt:=valL_lt _ hdg
     rw [pk] at vlt
     have p6:10 ^ i<=10 ^ 6:=Nat.pow_le_pow_right (by omega) (by omega)
     by_cases hlt:i<s.size
     ·have hz:(i:Int)<s.size:=by omega
      have hlt':i<(bl s).length:=by rw [bl_len];exact hlt
      have hb:=bl_get hlt
      obtain ⟨c,hce⟩: ∃c,c=(bl s)[i]:=⟨_,rfl⟩
      rw [←hce] at hb
      have hc2:(c.toNat:Int)<=255:=by have:=c.toNat_lt;omega
      have tk:(bl s).take (i+1)=(bl s).take i++ [c]:=by rw [List.take_add_one,List.getElem?_eq_getElem hlt',hce];rfl
      by_cases q2:isDg c=true
      ·have q3:48<=c.toNat∧c.toNat<=57:=by simpa [isDg] using q2
       have w1:IntKind.i64.wrap (10*((valL ((bl s).take i):Nat):Int))=10*((valL ((bl s).take i):Nat):Int):=wrap64 (by omega)
       have w2:IntKind.u8.wrap ((c.toNat:Int)-48)=((c.toNat-48:Nat):Int):=by rw [IntWalk.u8_in _ (by omega)];omega
       have w3:IntKind.i64.wrap ((c.toNat-48:Nat):Int)=((c.toNat-48:Nat):Int):=wrap64 (by omega)
       have w4:IntKind.i64.wrap (10*((valL ((bl s).take i):Nat):Int)+((c.toNat-48:Nat):Int))=((valL ((bl s).take (i+1)):Nat):Int):=by rw [wrap64 (by omega),tk,valL_snoc];omega
       simp only [go_sem,e0,e4,e5,e6,hz,hb,show ¬((c.toNat:Int)<48) by omega,show ¬((57:Int)<c.toNat) by omega,w1,w2,w3,w4]
       refine ⟨hlt,by rw [wrap64 (by omega)];rfl,HeapIs.rfl,fun x hx => ?_⟩
       rw [tk] at hx
       rcases List.mem_append.1 hx with hx|hx
       ·exact hdg x hx
       ·rw [List.mem_singleton.1 hx];exact q2
      ·have no:ReadsI s 0 false := .no (fun v hv hs=>absurd (dec_dg v c (by rw [←bl_num, ←hs,hce];exact List.getElem_mem _)) q2) hnn
       have q3: ¬(48<=c.toNat∧c.toNat<=57):=by simpa [isDg] using q2
       by_cases q5:(c.toNat:Int)<48
       ·simp only [go_sem,e0,e4,e5,e6,hz,hb,q5]
        exact ⟨_,_,rfl,no⟩
       ·simp only [go_sem,e0,e4,e5,e6,hz,hb,q5,show (57:Int)<c.toNat by omega]
        exact ⟨_,_,rfl,no⟩
     ·obtain rfl:i=s.size:=by omega
      rw [List.take_of_length_le (by rw [bl_len];exact Nat.le_refl _)] at e5 hdg vlt
      simp only [go_sem,e0,e4,e5,e6,show ¬((s.size:Int)<s.size) by omega]
      refine ⟨by kernel_rfl,(c_l1NumZ ((valL (bl s):Nat):Int) (by omega)).use (fun _ m=>m) ?_⟩
      rintro _ _ ⟨rfl,rfl⟩
      obtain ⟨u,hu⟩: ∃u,u=zI ((valL (bl s):Nat):Int):=⟨_,rfl⟩
      rw [←hu]
      rw [zI_nat] at hu
      by_cases g:u=s
      ·simp only [go_sem,e0,e4,e5,e6,show ¬((s.size:Int)<s.size) by omega,show (u.toList==s.toList)=true from by rw [g];exact beq_self_eq_true _,Bool.not_true]
       exact ⟨_,_,rfl, .yes ⟨by rw [zI_nat, ←hu];exact g.symm,by omega,by omega⟩⟩
      ·simp only [go_sem,e0,e4,e5,e6,show ¬((s.size:Int)<s.size) by omega,show (u.toList==s.toList)=false from by rw [toList_eq];exact decide_eq_false g,Bool.not_false]
       refine ⟨_,_,rfl, .no (fun v hv hs=>absurd ?_ g) hnn⟩
       rw [hu,hs,bl_num,dec_val]
   ·have q1:decide ((1:Int)<=s.size∧(s.size:Int)<=6)=false:=decide_eq_false (by omega)
    simp only [go_sem,neg,hb,e45,q1]
    exact ⟨_,_,rfl, .no (fun v hv hs=>absurd (by have h1:=dec_len (k:=6) hv (by omega);have h2:=dec_pos v;rw [hs, ←bl_len,bl_num];obtain ⟨x,r,h3⟩:=h2;rw [h3] at h1 ⊢;simp at h1 ⊢;omega) q0) hnn⟩
  ·have neg: ¬(1:Int)<s.size:=by omega
   simp only [go_sem,neg]
   refine ⟨by kernel_rfl,(c_l1In _ _ _).use (fun _ m=>m) ?_⟩
   rintro _ _ ⟨rfl,rfl⟩
   have zt:s.size<=9223372036854775807:=by omega
   by_cases q0:1<=s.size∧s.size<=6
   ·have q1:decide ((1:Int)<=s.size∧(s.size:Int)<=6)=true:=decide_eq_true (by omega)
    simp only [go_sem,neg,q1]
    refine vLoop.count mo s.size (fun i e h'=>e 0 = .string s∧e 4 = .string s∧e 5 = .int .i64 (valL ((bl s).take i):Nat)∧e 6 = .int .i64 i∧HeapIs h h'∧∀c∈(bl s).take i,isDg c=true) ?_ ?_
    ·exact ⟨rfl,rfl,rfl,rfl,HeapIs.rfl,fun c hc=>by simp at hc⟩
    ·rintro i e _ hi ⟨e0,e4,e5,e6,hh,hdg⟩
     cases hh
     have pk:((bl s).take i).length=i:=by rw [List.length_take,bl_len];omega
     have vlt:=valL_lt _ hdg
     rw [pk] at vlt
     have p6:10 ^ i<=10 ^ 6:=Nat.pow_le_pow_right (by omega) (by omega)
     by_cases hlt:i<s.size
     ·have hz:(i:Int)<s.size:=by omega
      have hlt':i<(bl s).length:=by rw [bl_len];exact hlt
      have hb:=bl_get hlt
      obtain ⟨c,hce⟩: ∃c,c=(bl s)[i]:=⟨_,rfl⟩
      rw [←hce] at hb
      have hc2:(c.toNat:Int)<=255:=by have:=c.toNat_lt;omega
      have tk:(bl s).take (i+1)=(bl s).take i++ [c]:=by rw [List.take_add_one,List.getElem?_eq_getElem hlt',hce];rfl
      by_cases q2:isDg c=true
      ·have q3:48<=c.toNat∧c.toNat<=57:=by simpa [isDg] using q2
       have w1:IntKind.i64.wrap (10*((valL ((bl s).take i):Nat):Int))=10*((valL ((bl s).take i):Nat):Int):=wrap64 (by omega)
       have w2:IntKind.u8.wrap ((c.toNat:Int)-48)=((c.toNat-48:Nat):Int):=by rw [IntWalk.u8_in _ (by omega)];omega
       have w3:IntKind.i64.wrap ((c.toNat-48:Nat):Int)=((c.toNat-48:Nat):Int):=wrap64 (by omega)
       have w4:IntKind.i64.wrap (10*((valL ((bl s).take i):Nat):Int)+((c.toNat-48:Nat):Int))=((valL ((bl s).take (i+1)):Nat):Int):=by rw [wrap64 (by omega),tk,valL_snoc];omega
       simp only [go_sem,e0,e4,e5,e6,hz,hb,show ¬((c.toNat:Int)<48) by omega,show ¬((57:Int)<c.toNat) by omega,w1,w2,w3,w4]
       refine ⟨hlt,by rw [wrap64 (by omega)];rfl,HeapIs.rfl,fun x hx => ?_⟩
       rw [tk] at hx
       rcases List.mem_append.1 hx with hx|hx
       ·exact hdg x hx
       ·rw [List.mem_singleton.1 hx];exact q2
      ·have no:ReadsI s 0 false := .no (fun v hv hs=>absurd (dec_dg v c (by rw [←bl_num, ←hs,hce];exact List.getElem_mem _)) q2) hnn
       have q3: ¬(48<=c.toNat∧c.toNat<=57):=by simpa [isDg] using q2
       by_cases q5:(c.toNat:Int)<48
       ·simp only [go_sem,e0,e4,e5,e6,hz,hb,q5]
        exact ⟨_,_,rfl,no⟩
       ·simp only [go_sem,e0,e4,e5,e6,hz,hb,q5,show (57:Int)<c.toNat by omega]
        exact ⟨_,_,rfl,no⟩
     ·obtain rfl:i=s.size:=by omega
      rw [List.take_of_length_le (by rw [bl_len];exact Nat.le_refl _)] at e5 hdg vlt
      simp only [go_sem,e0,e4,e5,e6,show ¬((s.size:Int)<s.size) by omega]
      refine ⟨by kernel_rfl,(c_l1NumZ ((valL (bl s):Nat):Int) (by omega)).use (fun _ m=>m) ?_⟩
      rintro _ _ ⟨rfl,rfl⟩
      obtain ⟨u,hu⟩: ∃u,u=zI ((valL (bl s):Nat):Int):=⟨_,rfl⟩
      rw [←hu]
      rw [zI_nat] at hu
      by_cases g:u=s
      ·simp only [go_sem,e0,e4,e5,e6,show ¬((s.size:Int)<s.size) by omega,show (u.toList==s.toList)=true from by rw [g];exact beq_self_eq_true _,Bool.not_true]
       exact ⟨_,_,rfl, .yes ⟨by rw [zI_nat, ←hu];exact g.symm,by omega,by omega⟩⟩
      ·simp only [go_sem,e0,e4,e5,e6,show ¬((s.size:Int)<s.size) by omega,show (u.toList==s.toList)=false from by rw [toList_eq];exact decide_eq_false g,Bool.not_false]
       refine ⟨_,_,rfl, .no (fun v hv hs=>absurd ?_ g) hnn⟩
       rw [hu,hs,bl_num,dec_val]
   ·have q1:decide ((1:Int)<=s.size∧(s.size:Int)<=6)=false:=decide_eq_false (by omega)
    simp only [go_sem,neg,q1]
    exact ⟨_,_,rfl, .no (fun v hv hs=>absurd (by have h1:=dec_len (k:=6) hv (by omega);have h2:=dec_pos v;rw [hs, ←bl_len,bl_num];obtain ⟨x,r,h3⟩:=h2;rw [h3] at h1 ⊢;simp at h1 ⊢;omega) q0) hnn⟩
end
open Go.HH Go.Proofs Go.RowKit Go.ChangeShapes Go.WideShapes
def rdOk (s:ByteArray):Prop:= ∃n,IsInt s n
open Classical in
noncomputable instance {s:ByteArray}:Decidable (rdOk s):=propDecidable _
noncomputable def rdN (s:ByteArray):Int:=if h:rdOk s then h.choose else 0
theorem IsInt.eq {s:ByteArray} {n:Int} (h:IsInt s n):n=rdN s:=by
 have hh:rdOk s:=⟨n,h⟩
 unfold rdN
 rw [dif_pos hh]
 exact zI_inj (h.1.symm.trans hh.choose_spec.1)
theorem ReadsI.eq {s:ByteArray} {n:Int} {b:Bool} (h:ReadsI s n b):n=rdN s∧b=decide (rdOk s):=by
 cases b with
 | true=>
  have:=h.1 rfl
  exact ⟨this.eq,(decide_eq_true (show rdOk s from ⟨n,this⟩)).symm⟩
 | false=>
  obtain ⟨h1,h2⟩:=h.2 rfl
  have hn: ¬rdOk s:=fun ⟨z,hz⟩=>h2 z hz
  exact ⟨by rw [h1,rdN,dif_neg hn],(decide_eq_false hn).symm⟩
theorem decFrom_val: ∀(l:BL) (acc:Nat),(∀c∈l,isDg c=true)->Lib.decFrom acc l=some (l.foldl (fun n c=>10*n+(c.toNat-48)) acc)
 | [],acc,_=>rfl
 | c::l,acc,h=>by
  have hc:=h c (by simp)
  have h1:48<=c.toNat∧c.toNat<=57:=by simpa [isDg] using hc
  have hd:Lib.digitVal c=some (c.toNat-48):=by
   unfold Lib.digitVal
   first|rw [if_pos h1]|(simp [h1];done)|skip
  unfold Lib.decFrom
  rw [hd]
  simp only
  rw [decFrom_val l _ (fun x hx=>h x (by simp [hx])),List.foldl_cons,Nat.mul_comm]
theorem decNat_dec (m:Nat):Lib.decNat (Lib.decDigits m)=some m:=by
 obtain ⟨c,r,h⟩:=dec_pos m
 unfold Lib.decNat
 rw [if_neg (by rw [h];simp),decFrom_val _ _ (dec_dg m)]
 exact congrArg some (dec_val m)
theorem atoi_zI (n:Int):Lib.atoi (bl (zI n))=some n:=by
 unfold zI
 split
 ·rename_i h
  rw [bl_neg]
  show (Lib.decNat (Lib.decDigits n.natAbs)).map (fun (m:Nat) => -(m:Int))=some n
  rw [decNat_dec]
  simp;omega
 ·rename_i h
  rw [bl_num]
  obtain ⟨c,r,hc⟩:=dec_pos n.toNat
  have hd:=dec_dg n.toNat c (by rw [hc];simp)
  have h1:48<=c.toNat∧c.toNat<=57:=by simpa [isDg] using hd
  have n1:(c==45)=false:=by rw [beq_eq_false_iff_ne];rintro rfl;simp at h1
  have n2:(c==43)=false:=by rw [beq_eq_false_iff_ne];rintro rfl;simp at h1
  have:=decNat_dec n.toNat
  rw [hc] at this ⊢
  show (if c==45 then _ else if c==43 then _ else _)=_
  rw [n1,n2]
  simp only [Bool.false_eq_true,if_false]
  rw [this]
  simp;omega
theorem zI_size {n:Int} (h : -1000000<n∧n<1000000):(zI n).size<=7:=by
 unfold zI
 split
 ·have:=dec_len (n:=n.natAbs) (k:=6) (by omega) (by omega)
  rw [←bl_len,bl_neg];simp;omega
 ·have:=dec_len (n:=n.toNat) (k:=6) (by omega) (by omega)
  rw [←bl_len,bl_num];omega
section
variable {h : Heap} {M : Nat → Prop} {G : List (Nat × Nat)}
theorem c_sParseInt (s:ByteArray) (hs:s.size<=10000000):vCall [] Tryz.prog M 149 [.string s] h (fun r h'=>r = .tuple #[.int .i64 (rdN s), .bool (decide (rdOk s))]∧h<+:h'):=by
 refine body_of mo Tryz.func149 rfl (by kernel_rfl) (Nat.le_of_ble_eq_true (by kernel_rfl)) rfl ?_
 simp only [go_sem]
 refine ⟨by kernel_rfl,(c_l1ReadI s hs).use (fun _ m=>m) ?_⟩
 rintro _ _ ⟨⟨n,b,rfl,hr⟩,rfl⟩
 obtain ⟨rfl,rfl⟩:=hr.eq
 simp only [go_sem]
def ErrAt (G:List (Nat×Nat)) (h:Heap):Prop:=(2,1)∈G∧∃te X,hget h 2=some ⟨[.iface te (.pointer (some ⟨X,0,none⟩))],1, .ro⟩
theorem ErrAt.mono {G:List (Nat×Nat)} {h h':Heap} (a:ErrAt G h) (hp:h<+:h'):ErrAt G h':=by
 obtain ⟨a1,te,X,g⟩:=a
 exact ⟨a1,te,X,by rw [hget_prefix hp (hget_lt g)];exact g⟩
theorem ErrAt.cell {p:Phi} {w:World} (a:ErrAt G h) (hr:HRel G p h w): ∃ev,w.cell? ⟨2,0,none⟩=some ev∧(ev = .nilIface∨∃te pe,ev = .iface te pe):=by
 obtain ⟨a1,te,X,g⟩:=a
 obtain ⟨t,e,e1,e2,e3⟩:=hr.glob _ a1
 obtain ⟨_,c,el,fr,h1,h2,h3,h4,_⟩:=hr.blk _ t _ trivial e g (fun hh=>by cases hh)
 simp only at e e1
 obtain ⟨v',b1,b2⟩:=h4 0 _ rfl
 rw [e1] at h1
 rw [e2] at b1
 refine ⟨v', ?_, ?_⟩
 ·unfold World.cell?
  simp only [h1]
  simpa using b1
 ·cases b2
  exact .inr ⟨_,_,rfl⟩
theorem c_ItoaZ (a:PowAt G h) (n:Int) (hn : -1000000<n∧n<1000000):vCall G Tryz.prog M 80 [.int .i64 n] h (fun r h'=>r = .string (zI n)∧h=h'):=by
 refine vCall_below (by rfl) rfl fun p w hr => ?_
 have:=Tryz.strconv_Itoa n (by omega) (by omega) w (var_of (l:=powV) hr (by rw [powV_len];exact a.1) powV_plain a.2 (by simp) rfl (by kernel_rfl))
 have e:(⟨(Lib.itoa n).toArray⟩:ByteArray)=zI n:=by
  unfold Lib.itoa zI
  split
  ·refine bl_ext ?_
   rw [bl_neg]
   simp [bl]
  ·rfl
 rw [e] at this
 refine this.mono ?_
 rintro e w' ⟨rfl,k,os,rfl⟩
 exact ⟨rfl,below_grow⟩
theorem vCall_belowV {G:List (Nat×Nat)} {P:Program} {M:Nat->Prop} {f:FuncId} {args:List Value} {h:Heap} {r:Value} (ha:args.all plainB=true) (hr: ∀p,VRel p r r)
  (hc: ∀p w,HRel G p h w->Calls P f args.toArray w fun e w'=>e = .returned r∧Below w.heap.size w w'):vCall G P M f args h (fun r' h'=>r'=r∧h=h'):=by
 refine ⟨r,h,fun p w vs hh hv => ?_,rfl,rfl⟩
 have:vs=args.toArray:=by
  refine Array.ext hv.1.symm (fun i h1 h2 => ?_)
  have h3:i<args.length:=by simpa using h2
  have:=(plainB_spec (List.all_eq_true.1 ha _ (List.getElem_mem h3))).eq (by simpa using hv.2 i h2 h1)
  simpa using this
 subst this
 refine (hc p w hh).mono ?_
 rintro e w' ⟨rfl,b⟩
 exact ⟨r,p,rfl,hr p,hh.kept b.size (fun k hk=>b.block k hk),Ext.of_below b⟩
theorem c_AtoiOk (s:ByteArray) (n:Int) (hs:s.size<=18) (hn:Lib.atoi (bl s)=some n):vCall G Tryz.prog M 137 [.string s] h (fun r h'=>r = .tuple #[.int .i64 n, .nilIface]∧h=h'):=by
 refine vCall_belowV (by rfl) (fun p => .tuple rfl fun i h1 h2 => ?_) fun p w hr => ?_
 ·match i,h1,h2 with
  | 0,_,_=>exact .int _ _
  | 1,_,_=>exact .nilIface
 refine (Tryz.strconv_Atoi s n hs hn w).mono ?_
 rintro e w' ⟨rfl,t,rfl⟩
 exact ⟨rfl,Lib.bytesWorld_below _ _ _⟩
theorem c_AtoiNo (a:ErrAt G h) (s:ByteArray) (hs:s.size<=18) (hn:Lib.atoi (bl s)=none):vCall G Tryz.prog M 137 [.string s] h
  (fun r h'=>(∃ty X,r = .tuple #[.int .i64 0, .iface ty (.pointer (some ⟨X,0,none⟩))])∧h<+:h'):=by
 obtain ⟨r,h',hr,rfl,rfl⟩:=vCall_err (G:=G) (P:=Tryz.prog) (M:=M) (f:=137) (args:= [.string s]) (h:=h) (r0 := .int .i64 0) (ty:=226) (by rfl) rfl fun p w hr=>by
  obtain ⟨ev,h1,h2⟩:=a.cell hr
  refine (Tryz.strconv_Atoi_err s hs hn ev w h1 h2).mono ?_
  rintro e w' ⟨N,rfl,g1,g2,g3⟩
  exact ⟨N,rfl,g1,(Array.getElem?_eq_some_iff.1 g2).1,g3⟩
 exact ⟨_,_,hr,⟨_,_,rfl⟩,List.prefix_append _ _⟩
theorem c_ParseInt (pw:PowAt G h) (er:ErrAt G h) (s:ByteArray) (hs:s.size<=10000000):vCall G Tryz.prog M 104 [.string s] h (fun r h'=>r = .tuple #[.int .i64 (rdN s), .bool (decide (rdOk s))]∧h<+:h'):=by
 have no: ¬rdOk s->rdN s=0:=fun hn=>by rw [rdN,dif_neg hn]
 have hif:ifaceT Tryz.prog 160=true:=by kernel_rfl
 refine body_of mo Tryz.func104 rfl (by kernel_rfl) (Nat.le_of_ble_eq_true (by kernel_rfl)) rfl ?_
 simp only [go_sem]
 by_cases g:7<s.size
 ·have hn: ¬rdOk s:=fun ⟨z,hz⟩=>by have:=zI_size hz.2;rw [hz.1] at g;omega
  simp only [go_sem,show (7:Int)<s.size by omega,no hn,decide_eq_false hn]
 ·simp only [go_sem,show ¬(7:Int)<s.size by omega]
  cases ha:Lib.atoi (bl s) with
  | none=>
   have hn: ¬rdOk s:=fun ⟨z,hz⟩=>by rw [hz.1,atoi_zI] at ha;cases ha
   refine ⟨by kernel_rfl,(c_AtoiNo er s (by omega) ha).use (fun _ m=>m) ?_⟩
   rintro _ _ ⟨⟨ty,X,rfl⟩,⟨t,rfl⟩⟩
   simp only [go_sem,hif,Bool.and_self,no hn,decide_eq_false hn]
   try trace_state
  | some n=>
   refine ⟨by kernel_rfl,(c_AtoiOk s n (by omega) ha).use (fun _ m=>m) ?_⟩
   rintro _ _ ⟨rfl,rfl⟩
   simp only [go_sem,hif,Bool.and_self]
   refine ⟨by kernel_rfl,((c_inside n (-999999) 999999).addG).use (fun _ m=>m) ?_⟩
   rintro _ _ ⟨rfl,rfl⟩
   by_cases hin : -999999<=n∧n<=999999
   ·simp only [go_sem,hif,Bool.and_self,decb hin]
    refine ⟨by kernel_rfl,(c_ItoaZ (pw.mono (by simp)) n (by omega)).use (fun _ m=>m) ?_⟩
    rintro _ _ ⟨rfl,rfl⟩
    by_cases he:zI n=s
    ·have hi:IsInt s n:=⟨he.symm,by omega,by omega⟩
     simp only [go_sem,hif,Bool.and_self,decb hin,show ((zI n).toList==s.toList)=true by rw [he];exact beq_self_eq_true _,decide_eq_true (show rdOk s from ⟨n,hi⟩),hi.eq.symm]
     try trace_state
    ·have hn: ¬rdOk s:=fun ⟨z,hz⟩=>he (by rw [hz.1,atoi_zI] at ha;cases ha;exact hz.1.symm)
     simp only [go_sem,hif,Bool.and_self,decb hin,show ((zI n).toList==s.toList)=false by rw [toList_eq];exact decide_eq_false he,no hn,decide_eq_false hn]
     try trace_state
   ·have hn: ¬rdOk s:=fun ⟨z,hz⟩=>hin (by rw [hz.1,atoi_zI] at ha;cases ha;have:=hz.2;omega)
    simp only [go_sem,hif,Bool.and_self,dect hin,no hn,decide_eq_false hn]
    try trace_state
end
open Go.HH Go.Proofs
theorem splitB_hit {p q:BL} {b:UInt8} (hp:b∉p):splitL (p++b::q) b=p::splitL q b:=by
 have key: ∀(l:BL) (A:List BL) (c:BL),l.foldl (spl b) (A,c)=(A++((l.foldl (spl b) ([],c)).1),(l.foldl (spl b) ([],c)).2):=by
  intro l
  induction l with
  | nil=>intro A c;simp
  | cons x r ih=>
   intro A c
   simp only [List.foldl_cons]
   by_cases hx:x=b
   ·rw [show spl b (A,c) x=(A++ [c],[]) by rw [spl,if_pos hx],show spl b ([],c) x=([]++ [c],[]) by rw [spl,if_pos hx],ih (A++ [c]) [],ih ([]++ [c]) []]
    simp
   ·rw [show spl b (A,c) x=(A,c++ [x]) by rw [spl,if_neg hx],show spl b ([],c) x=([],c++ [x]) by rw [spl,if_neg hx],ih A (c++ [x])]
 have pre: ∀(l:BL) (c:BL),b∉l->l.foldl (spl b) ([],c)=([],c++l):=by
  intro l
  induction l with
  | nil=>intro c _;simp
  | cons x r ih=>
   intro c h
   simp only [List.mem_cons,not_or] at h
   rw [List.foldl_cons,show spl b ([],c) x=([],c++ [x]) by rw [spl,if_neg (fun e=>h.1 e.symm)],ih _ h.2,List.append_assoc];rfl
 have e:(p++b::q).foldl (spl b) ([],[])=q.foldl (spl b) ([p],[]):=by
  rw [List.foldl_append,pre p [] hp,List.nil_append,List.foldl_cons,spl,if_pos rfl];rfl
 simp only [splitL,e]
 rw [key q [p] []];rfl
theorem splitB_last {p:BL} {b:UInt8} (hp:b∉p):splitL p b= [p]:=by
 obtain ⟨r,h1,h2⟩:=splitL_head p b
 rw [h1,h2.2 hp,cutA_miss hp]
def sbL (b:UInt8):Nat->BL->List BL
 | 0,l=> [l]
 | n+1,l=>cutA l b::sbL b n (cutB l b)
def sbR (b:UInt8):Nat->BL->BL
 | 0,l=>l
 | n+1,l=>sbR b n (cutB l b)
section
variable {b : UInt8}
theorem sbL_len: ∀n l,(sbL b n l).length=n+1
 | 0,_=>rfl
 | n+1,l=>by rw [sbL,List.length_cons,sbL_len n]
theorem sbR_succ: ∀n l,sbR b (n+1) l=cutB (sbR b n l) b
 | 0,_=>rfl
 | n+1,l=>by rw [sbR,sbR_succ n];rfl
theorem cutB_countB {l:BL} (h:b∈l):l.count b=(cutB l b).count b+1:=by
 have e:=(cut_mem h).1
 have n:(cutA l b).count b=0:=List.count_eq_zero.2 (cut_mem h).2
 conv=>lhs;rw [e]
 rw [List.count_append,List.count_cons,n];simp
theorem sbR_count: ∀n l,n<=l.count b->(sbR b n l).count b=l.count b-n
 | 0,l,_=>rfl
 | n+1,l,h=>by
  have hm:b∈l:=List.count_pos_iff.1 (by omega)
  have:=cutB_countB hm
  rw [sbR,sbR_count n _ (by omega)];omega
theorem idx_cutB: ∀ {l:BL},b∈l->Lib.indexByte l b=((cutA l b).length:Int)
 | [],h=>by cases h
 | x::l,h=>by
  unfold Lib.indexByte
  by_cases hb:x=b
  ·subst hb
   rw [show cutA (x::l) x= [] by rw [cutA,List.takeWhile_cons,if_neg (by simp)]]
   simp
  ·have hm:b∈l:=by rcases List.mem_cons.1 h with h|h;exact absurd h.symm hb;exact h
   have ih:=idx_cutB hm
   have e:(x==b)=false:=by simpa using hb
   rw [e,ih,show cutA (x::l) b=x::cutA l b by rw [cutA,List.takeWhile_cons,if_pos (by simpa using hb)];rfl]
   have:(((cutA l b).length:Int) == -1)=false:=by rw [beq_eq_false_iff_ne];omega
   simp [this]
theorem sbL_at: ∀(n:Nat) (l:BL) (i:Nat),i<n->(sbL b n l)[i]? = some (cutA (sbR b i l) b)
 | 0,_,i,h=>by omega
 | n+1,l,0,_=>rfl
 | n+1,l,i+1,h=>by rw [sbL,List.getElem?_cons_succ,sbL_at n _ i (by omega)];rfl
theorem sbL_last: ∀(n:Nat) (l:BL),(sbL b n l)[n]? = some (sbR b n l)
 | 0,_=>rfl
 | n+1,l=>by rw [sbL,List.getElem?_cons_succ,sbL_last n];rfl
end
theorem splitL_eq (b:UInt8): ∀(n:Nat) (l:BL),l.count b=n->splitL l b=sbL b n l
 | 0,l,h=>by rw [splitB_last (List.count_eq_zero.1 h)];rfl
 | n+1,l,h=>by
  have hm:b∈l:=List.count_pos_iff.1 (by omega)
  have h1:=cutB_countB hm
  obtain ⟨h2,h3⟩:=cut_mem hm
  conv=>lhs;rw [h2]
  rw [splitB_hit h3,splitL_eq b n _ (by omega)]
  rfl
theorem set_takeB {X:List Value} {i:Nat} {v:Value} (hi:i<X.length):(setRange X i [v]).take (i+1)=X.take i++ [v]∧(setRange X i [v]).length=X.length:=by
 have lt:(X.take i).length=i:=by rw [List.length_take];omega
 constructor
 ·rw [setRange,List.take_append_of_le_length (by rw [List.length_append,lt];exact Nat.le_refl _),List.take_of_length_le (by rw [List.length_append,lt];exact Nat.le_refl _)]
 ·simp only [setRange,List.length_append,List.length_drop,List.length_singleton,lt];omega
theorem cut_extractB {b:UInt8} {r:BL} (h:b∈r):(mkB r).extract 0 (cutA r b).length=mkB (cutA r b)∧(mkB r).extract ((cutA r b).length+1) (mkB r).size=mkB (cutB r b)∧(cutA r b).length+1<=(mkB r).size:=by
 have e:=(cut_mem h).1
 obtain ⟨A,hA⟩: ∃A,A=cutA r b:=⟨_,rfl⟩
 obtain ⟨B,hB⟩: ∃B,B=cutB r b:=⟨_,rfl⟩
 rw [←hA, ←hB] at e
 rw [←hA, ←hB,e]
 have e2:A++b::B=(A++ [b])++B:=by simp
 refine ⟨bl_ext ?_,bl_ext ?_,by rw [mkB_size];simp⟩
 ·rw [bl_extract,bl_mkB,bl_mkB,List.drop_zero,List.take_left'];rfl
 ·rw [bl_extract,bl_mkB,bl_mkB,mkB_size,List.take_length,e2,List.drop_left'];simp
section
variable {h : Heap} {M : Nat → Prop}
theorem c_IndexB (b:UInt8) (s:ByteArray) (hm:b∈bl s):vCall [] Tryz.prog M 136 [.string s, .string ⟨#[b]⟩] h (fun r h'=>r = .int .i64 ((cutA (bl s) b).length:Nat)∧h=h'):=by
 have:=vCall_plain (G:= []) (M:=M) (h:=h) (args:= [.string s, .string ⟨#[b]⟩]) (by rfl) rfl (Tryz.strings_Index_one s b)
 rw [show s.data.toList=bl s from rfl,idx_cutB hm] at this
 exact this
theorem c_CountB (b:UInt8) (s:ByteArray):vCall [] Tryz.prog M 165 [.string s, .string ⟨#[b]⟩] h (fun r h'=>r = .int .i64 ((bl s).count b:Nat)∧h=h'):=
 vCall_plain (G:= []) (M:=M) (h:=h) (args:= [.string s, .string ⟨#[b]⟩]) (by rfl) rfl (Tryz.strings_Count_one s b)
theorem c_genSplitB (b:UInt8) (s:ByteArray) (hs:s.size<=10000000):vCall [] Tryz.prog M 127 [.string s, .string ⟨#[b]⟩, .int .i64 0, .int .i64 (-1)] h
  (fun r h'=> ∃t j,r = .slice (some ⟨h.length+j,0,none⟩) ((bl s).count b+1) 0∧h'=h++t∧t[j]? = some ⟨strsV (sbL b ((bl s).count b) (bl s)),1, .rw⟩):=by
 refine body_of mo Tryz.func127 rfl (by kernel_rfl) (Nat.le_of_ble_eq_true (by kernel_rfl)) rfl ?_
 have f1:((-1:Int)==0)=false:=rfl
 have f2:((⟨#[b]⟩:ByteArray).toList==(⟨#[]⟩:ByteArray).toList)=false:=by rw [toList_eq];exact decide_eq_false (fun e=>by have:=congrArg ByteArray.size e;cases this)
 simp only [go_sem,f1,f2]
 refine ⟨by kernel_rfl,(c_CountB b s).use (fun _ m=>m) ?_⟩
 rintro _ _ ⟨rfl,rfl⟩
 have hc:(bl s).count b<=s.size:=by rw [←bl_len];exact List.count_le_length
 obtain ⟨c,hcc⟩: ∃c,c=(bl s).count b:=⟨_,rfl⟩
 rw [←hcc] at hc
 rw [←hcc]
 have w1:IntKind.i64.wrap ((c:Int)+1)=((c+1:Nat):Int):=by rw [wrap64 (by omega)];rfl
 have w2:IntKind.i64.wrap ((s.size:Int)+1)=((s.size+1:Nat):Int):=by rw [wrap64 (by omega)];rfl
 have nm: ¬(((s.size+1:Nat):Int)<((c+1:Nat):Int)):=by omega
 have w3:IntKind.i64.wrap (((c+1:Nat):Int)-1)=(c:Int):=by rw [wrap64 (by omega)];omega
 have zl:(zeros (c+1) [Value.string ⟨#[]⟩]).length=c+1:=by rw [zeros_length];simp
 simp only [go_sem,w1,w2,w3,nm,if_false,Int.toNat_natCast]
 refine ⟨by omega,by omega, ?_⟩
 refine vLoop.count mo c (fun i e h'=> ∃X:List Value,e 0 = .string (mkB (sbR b i (bl s)))∧e 1 = .string ⟨#[b]⟩∧e 2 = .int .i64 0∧e 3 = .int .i64 c∧e 9 = .slice (some ⟨h.length,0,none⟩) (c+1) 0∧e 10 = .int .i64 i ∧
  h'=h++ [⟨X,1, .rw⟩]∧X.length=c+1∧X.take i=strsV ((sbL b c (bl s)).take i)) ?_ ?_
 ·refine ⟨zeros (c+1) [Value.string ⟨#[]⟩], ?_⟩
  simp only [go_sem,sbR,mkB_bl]
  refine ⟨by rw [zeros_length];simp,by simp [strsV]⟩
 ·rintro i e _ hi ⟨X,e0,e1,e2,e3,e9,e10,rfl,hX,hT⟩
  by_cases hlt:i<c
  ·have hz:(i:Int)<c:=by omega
   have hm:b∈sbR b i (bl s):=List.count_pos_iff.1 (by rw [sbR_count i _ (by omega), ←hcc];omega)
   obtain ⟨x1,x2,x3⟩:=cut_extractB hm
   simp only [go_sem,e0,e1,e2,e3,e9,e10,hz]
   refine ⟨by kernel_rfl,(c_IndexB b (mkB (sbR b i (bl s))) hm).use (fun _ m=>m) ?_⟩
   rintro _ _ ⟨rfl,rfl⟩
   rw [bl_mkB]
   obtain ⟨q,hq⟩: ∃q,q=(cutA (sbR b i (bl s)) b).length:=⟨_,rfl⟩
   rw [←hq] at x1 x2 x3
   rw [←hq]
   have zr:(mkB (sbR b i (bl s))).size<=10000000:=by
    have: ∀n (l:BL),(sbR b n l).length<=l.length:=by
     intro n
     induction n with
     | zero=>intro l;exact Nat.le_refl _
     | succ n ih=>intro l;rw [sbR];exact Nat.le_trans (ih _) (by unfold cutB;exact Nat.le_trans (List.drop_sublist _ _).length_le (List.dropWhile_sublist _).length_le)
    have h1:=this i (bl s)
    rw [bl_len] at h1
    rw [mkB_size];omega
   have w4:IntKind.i64.wrap ((q:Int)+1)=((q+1:Nat):Int):=by rw [wrap64 (by omega)];rfl
   simp only [go_sem,e0,e1,e2,e3,e9,e10,hz,show ¬((q:Nat):Int)<0 by omega,w4,show (0:Int)<=((q+1:Nat):Int) by omega,show IntKind.i64.wrap ((q:Int)+0)=(q:Int) by rw [wrap64 (by omega)];omega,show (0:Int)<=(q:Int) by omega,show q<=(mkB (sbR b i (bl s))).size by omega,Int.toNat_natCast,x1,x2,x3,hX,show (i:Int)<((c+1:Nat):Int) by omega,show i+1<=c+1 by omega]
   obtain ⟨t1,t2⟩:=set_takeB (X:=X) (v := .string (mkB (cutA (sbR b i (bl s)) b))) (show i<X.length by omega)
   exact ⟨Nat.zero_le _,hlt,_,by rw [sbR_succ],by rw [wrap64 (by omega)];rfl,rfl,t2.trans hX,by rw [t1,hT,List.take_add_one,sbL_at c _ i hlt,strsV_app];rfl⟩
  ·obtain rfl:i=c:=by omega
   have w5:IntKind.i64.wrap ((i:Int)+1)=((i+1:Nat):Int):=by rw [wrap64 (by omega)];rfl
   simp only [go_sem,e0,e1,e2,e3,e9,e10,show ¬(i:Int)<(i:Int) by omega,hX,show (i:Int)<((i+1:Nat):Int) by omega,w5,show (0:Int)<=((i+1:Nat):Int) by omega,Int.toNat_natCast]
   obtain ⟨t1,t2⟩:=set_takeB (X:=X) (v := .string (mkB (sbR b i (bl s)))) (show i<X.length by omega)
   have t3:setRange X i [.string (mkB (sbR b i (bl s)))]=strsV (sbL b i (bl s)):=by
    rw [←List.take_of_length_le (l:=setRange X i _) (i:=i+1) (by omega),t1,hT, ←List.take_of_length_le (l:=sbL b i (bl s)) (i:=i+1) (by rw [sbL_len];exact Nat.le_refl _),List.take_take,Nat.min_eq_left (by omega),List.take_add_one,sbL_last,strsV_app];rfl
   exact ⟨_,0,rfl,rfl,by rw [t3];rfl⟩
theorem c_SplitB (b:UInt8) (s:ByteArray) (hs:s.size<=10000000):vCall [] Tryz.prog M 77 [.string s, .string ⟨#[b]⟩] h
  (fun r h'=> ∃t j,r = .slice (some ⟨h.length+j,0,none⟩) (splitL (bl s) b).length 0∧h'=h++t∧t[j]? = some ⟨strsV (splitL (bl s) b),1, .rw⟩):=by
 refine body_of mo Tryz.func77 rfl (by kernel_rfl) (Nat.le_of_ble_eq_true (by kernel_rfl)) rfl ?_
 simp only [go_sem]
 refine ⟨by kernel_rfl,(c_genSplitB b s hs).use (fun _ m=>m) ?_⟩
 rintro _ _ ⟨t,j,rfl,rfl,hj⟩
 try simp only [go_sem]
 refine ⟨t,j, ?_,rfl, ?_⟩
 ·rw [splitL_eq b _ _ rfl,sbL_len]
 ·rw [splitL_eq b _ _ rfl];exact hj
end
open Go.HH Go.Proofs
def nu (n:Int):ByteArray:=num n.toNat
theorem nu_size {n:Int} (h:0<=n∧n<100):(nu n).size<=2:=num_size 2 n.toNat (by omega) (by omega)
section
variable {G : List (Nat × Nat)} {h : Heap} {M : Nat → Prop}
theorem c_ItoaI (n:Int) (hn:0<=n∧n<100):vCall [] Tryz.prog M 80 [.int .i64 n] h (fun r h'=>r = .string (nu n)∧h=h'):=by
 obtain ⟨k,rfl⟩:=Int.eq_ofNat_of_zero_le hn.1
 exact c_Itoa k (by omega)
theorem c_l1NumI (n:Int) (hn:0<=n∧n<100):vCall [] Tryz.prog M 82 [.int .i64 n] h (fun r h'=>r = .string (nu n)∧h=h'):=by
 obtain ⟨k,rfl⟩:=Int.eq_ofNat_of_zero_le hn.1
 exact c_l1Num k (by omega)
end
open Go.HH Go.Proofs Go.RowKit
def joinB (xs:List ByteArray) (sep:ByteArray):ByteArray:=⟨(Lib.join (xs.map (·.data.toList)) sep.data.toList).toArray⟩
theorem joinB_nil (sep:ByteArray):joinB [] sep=⟨#[]⟩:=rfl
theorem joinB_one (x sep:ByteArray):joinB [x] sep=x:=by
 show (⟨(Lib.join [x.data.toList] sep.data.toList).toArray⟩:ByteArray)=x
 rw [Lib.join_one]
theorem joinB_snoc (x:ByteArray) (xs:List ByteArray) (y sep:ByteArray):joinB (x::xs++ [y]) sep=joinB (x::xs) sep++sep++y:=by
 apply bl_ext
 show (Lib.join ((x::xs++ [y]).map (·.data.toList)) sep.data.toList).toArray.toList=(joinB (x::xs) sep++sep++y).data.toList
 simp only [List.cons_append,List.map_cons,List.map_append,List.map_nil,Lib.join_cons,Lib.joinTail,joinB,ByteArray.data_append,Array.toList_append,List.flatten_append,List.flatten_cons,List.flatten_nil,List.append_nil,List.append_assoc]
theorem joinB_size {sep:ByteArray} {k:Nat}: ∀ {xs:List ByteArray},(∀x∈xs,x.size<=k)->(joinB xs sep).size<=xs.length*(k+sep.size)
 | [],_=>by rw [joinB_nil];exact Nat.zero_le _
 | [x],hx=>by rw [joinB_one];have:=hx x (by simp);rw [List.length_singleton,Nat.one_mul];omega
 | x::y::r,hx=>by
  have e:joinB (x::y::r) sep=x++sep++joinB (y::r) sep:=by
   apply bl_ext
   show (Lib.join ((x::y::r).map (·.data.toList)) sep.data.toList).toArray.toList=(x++sep++joinB (y::r) sep).data.toList
   simp only [List.map_cons,Lib.join_cons,Lib.joinTail,joinB,ByteArray.data_append,Array.toList_append,List.flatten_cons,List.append_assoc]
  have h1:=joinB_size (sep:=sep) (k:=k) (xs:=y::r) (fun z hz=>hx z (List.mem_cons_of_mem _ hz))
  have h2:=hx x (by simp)
  rw [e,ByteArray.size_append,ByteArray.size_append,List.length_cons,Nat.succ_mul]
  omega
theorem strs_flat (xs:List ByteArray):(xs.map fun x=> [Value.string x]).flatten=xs.map Value.string:=by
 induction xs with
 | nil=>rfl
 | cons y ys ih=>rw [List.map_cons,List.flatten_cons,ih];rfl
theorem Sl.strs {h:Heap} {id n:Nat} {xs ys:List ByteArray} (hg:hget h id=some ⟨xs.map Value.string,1, .rw⟩) (hy:ys=xs.take n) (hn:n=ys.length):Sl h 1 (.slice (some ⟨id,0,none⟩) n 0) (ys.map fun x=> [.string x]):=by
 refine ⟨some ⟨id,0,none⟩,by rw [List.length_map,hn],fun r hr => ?_,fun _=>⟨id,0,_,rfl,hg,by simp, ?_, ?_⟩⟩
 ·obtain ⟨x,_,rfl⟩:=List.mem_map.1 hr;rfl
 ·have:ys.length<=xs.length:=by rw [hy,List.length_take];omega
  simp only [List.length_map];omega
 ·rw [strs_flat,List.length_map,List.drop_zero, ←List.map_take,Nat.mul_one, ←hn, ←hy]
theorem c_Join {G:List (Nat×Nat)} {h:Heap} {M:Nat->Prop} (v:Value) (xs:List ByteArray) (sep:ByteArray) (s:Sl h 1 v (xs.map fun x=> [.string x])) (hN:xs.length<=1000000) (hlen:(joinB xs sep).size<=1000000000) :
  vCall G Tryz.prog M 147 [v, .string sep] h (fun r h'=>r = .string (joinB xs sep)∧h=h'):=by
 refine ⟨.string (joinB xs sep),h,fun p w vs hr ha => ?_,rfl,rfl⟩
 obtain ⟨v',rfl,hv⟩: ∃v',vs= #[v', .string sep]∧VRel p v v':=by
  have h2:vs.size=2:=ha.1.symm
  refine ⟨vs[0], ?_,ha.2 0 (by simp) (by omega)⟩
  refine Array.ext (by simpa using h2) fun i h3 h4 => ?_
  match i,h4 with
  | 0,_=>rfl
  | 1,_=>
   have:=ha.2 1 (by simp) (by omega)
   have:=(Plain.string sep).eq this
   simpa using this
 have fin: ∀w',Below w.heap.size w w'->∃v q,Ending.returned (.string (joinB xs sep))=Ending.returned v∧VRel q (.string (joinB xs sep)) v∧HRel G q h w'∧Ext M p q h h w w':=fun w' b=>
  ⟨_,p,rfl, .string _,hr.kept b.size (fun k hk=>b.block k hk),Ext.of_below b⟩
 by_cases h0:xs= []
 ·subst h0
  obtain ⟨a,rfl,_⟩:=s
  obtain ⟨a',c',rfl⟩: ∃a' c',v' = .slice a' 0 c':=by
   cases hv with
   | sliceNil=>exact ⟨_,_,rfl⟩
   | slice=>exact ⟨_,_,rfl⟩
   | sliceEmpty=>exact ⟨_,_,rfl⟩
  refine (Tryz.strings_Join_none a' c' sep w).mono ?_
  rintro e w' ⟨rfl,rfl⟩
  exact fin _ (Below.refl _ _)
 ·obtain ⟨bk,o,c,rfl,h1,h2,h3⟩:=strs_cells hr s hv h0
  refine (Tryz.strings_Join bk o c xs sep w h3 h1 (by omega) h2 ?_).mono ?_
  ·have:(joinB xs sep).size=(Lib.join (xs.map (·.data.toList)) sep.data.toList).length:=by simp [joinB,ByteArray.size]
   omega
  ·rintro e w' ⟨rfl,b⟩
   exact fin _ b
open Go.HH Go.Proofs
def blank:ByteArray:=⟨#[32]⟩
def listS (l:List Int):ByteArray:=if l= [] then ⟨#[110,111,110,101]⟩ else joinB (l.map nu) blank
theorem list_size {l:List Int} (g: ∀x∈l,0<=x∧x<100) (hl:l.length<=100) (i:Nat):(joinB ((l.take i).map nu) blank).size<=300:=by
 have h1:=joinB_size (sep:=blank) (k:=2) (xs:=(l.take i).map nu) (fun x hx=>by
  obtain ⟨y,hy,rfl⟩:=List.mem_map.1 hx
  exact nu_size (g y (List.mem_of_mem_take hy)))
 have h2:((l.take i).map nu).length<=100:=by rw [List.length_map,List.length_take];omega
 have h3:blank.size=1:=rfl
 rw [h3] at h1
 omega
section
variable {h : Heap} {M : Nat → Prop}
theorem c_listText (v:Value) (l:List Int) (s:SI h v l) (g: ∀x∈l,0<=x∧x<100) (hl:l.length<=100):vCall [] Tryz.prog M 108 [v] h (fun r h'=>r = .string (listS l)∧h<+:h'):=by
 obtain ⟨a,rfl⟩:=AI.len s
 refine body_of mo Tryz.func108 rfl (by kernel_rfl) (Nat.le_of_ble_eq_true (by kernel_rfl)) rfl ?_
 simp only [go_sem]
 by_cases l0:l= []
 ·subst l0
  simp only [go_sem]
  rfl
 ·have hpos:0<l.length:=List.length_pos_iff.2 l0
  simp only [go_sem,show ((l.length:Int)==0)=false by simp;omega]
  refine vLoop.count mo l.length (fun i e h'=> ∃(t:Heap) (j:Nat),Regs e [(3, .slice (some ⟨h.length+j,0,none⟩) i 0),(10, .slice a l.length 0),(11, .int .i64 l.length),(12, .int .i64 i)]∧HeapIs h' (h++t)∧t[j]? = some ⟨((l.take i).map nu).map Value.string,1, .rw⟩) ?_ ?_
  ·exact ⟨_,0,⟨rfl,rfl,rfl,rfl,trivial⟩, .rfl,rfl⟩
  ·rintro i e _ hi ⟨t,j,⟨e3,e10,e11,e12,_⟩,rfl,hj⟩
   simp only [go_sem,e3,e10,e11,e12]
   by_cases hlt:i<l.length
   ·have hz:(i:Int)<l.length:=by omega
    have ws:=wsucc hlt (by omega)
    obtain ⟨id,o,k,hv,_,hk,_,hd,_,_,_,hat⟩:=AI.at s (Nat.zero_lt_of_lt hlt)
    obtain rfl:a=some ⟨id,o,none⟩:=by simpa using hv
    have hx:=g _ (List.getElem_mem hlt)
    have htk:(l.take (i+1)).map nu=(l.take i).map nu++ [nu l[i]]:=by rw [List.take_succ_eq_append_getElem hlt,List.map_append];rfl
    obtain ⟨X,hX⟩: ∃X,X=(l.take i).map nu:=⟨_,rfl⟩
    have hXl:X.length=i:=by rw [hX,List.length_map,List.length_take];omega
    rw [←hX] at hj htk
    simp only [go_sem,e3,e10,e11,e12,hz,hk,hd,hat i hlt]
    refine ⟨by kernel_rfl,(c_ItoaI _ hx).use (fun _ m=>m) ?_⟩
    rintro _ _ ⟨rfl,rfl⟩
    simp only [go_sem,e3,e10,e11,e12,app_old hj,List.length_map,hXl]
    refine ⟨by omega,by omega,hlt,_,t.length+1,⟨rfl,e10,e11,congrArg _ ws,trivial⟩, .rfl, ?_⟩
    rw [htk]
    exact (new_at (by simp)).trans (by simp)
   ·obtain rfl:i=l.length:=by omega
    rw [List.take_length] at hj
    simp only [go_sem,e3,e10,e11,e12,show ¬((l.length:Int)<l.length) by omega]
    have hs:=list_size g hl l.length
    rw [List.take_length] at hs
    have sJ:Sl (h++t) 1 (.slice (some ⟨h.length+j,0,none⟩) l.length 0) ((l.map nu).map fun x=> [.string x]):=by
     have hy:l.map nu=(l.map nu).take l.length:=by rw [←List.length_map nu,List.take_length]
     exact Sl.strs (xs:=l.map nu) (ys:=l.map nu) (by rw [hget_app];exact hj) hy (by rw [List.length_map])
    refine ⟨by kernel_rfl,(c_Join _ (l.map nu) blank sJ (by rw [List.length_map];omega) (by omega)).use (fun _ m=>m) ?_⟩
    rintro _ _ ⟨rfl,rfl⟩
    simp only [go_sem]
    rw [listS,if_neg l0]
theorem c_l28List (v:Value) (l:List Int) (ok:Bool) (s:SI h v l) (g: ∀x∈l,0<=x∧x<100) (hl:l.length<=100):vCall [] Tryz.prog M 159 [v, .bool ok] h (fun r h'=>r = .string (if ok then listS l else ⟨#[63]⟩)∧h<+:h'):=by
 obtain ⟨a,rfl⟩:=AI.len s
 refine body_of mo Tryz.func159 rfl (by kernel_rfl) (Nat.le_of_ble_eq_true (by kernel_rfl)) rfl ?_
 simp only [go_sem]
 cases ok with
 | false=>
  simp only [go_sem]
  try rfl
 | true=>
  simp only [go_sem]
  by_cases l0:l= []
  ·subst l0
   simp only [go_sem]
   rfl
  ·have hpos:0<l.length:=List.length_pos_iff.2 l0
   obtain ⟨id,o,k,hv,_,hk,hk0,hd,_,_,_,hat⟩:=AI.at s hpos
   obtain rfl:a=some ⟨id,o,none⟩:=by simpa using hv
   have h00:=hat 0 hpos
   rw [Nat.add_zero] at h00
   simp only [go_sem,show ((l.length:Int)==0)=false by simp;omega,show (0:Int)<l.length by omega,hk0,hd,h00]
   refine ⟨by kernel_rfl,(c_l1NumI _ (g _ (List.getElem_mem hpos))).use (fun _ m=>m) ?_⟩
   rintro _ _ ⟨rfl,rfl⟩
   try simp only [go_sem]
   refine vLoop.count mo (l.length-1) (fun i e h'=>Regs e [(0, .slice (some ⟨id,o,none⟩) l.length 0),(5, .string (joinB ((l.take (i+1)).map nu) blank)),(6, .int .i64 ((i+1:Nat):Int))]∧HeapIs h' h) ?_ ?_
   ·refine ⟨⟨rfl, ?_,rfl,trivial⟩, .rfl⟩
    have e1:(l.take (0+1)).map nu= [nu l[0]]:=by rw [List.take_succ_eq_append_getElem hpos];rfl
    rw [e1,joinB_one];rfl
   ·rintro i e _ hi ⟨⟨e0,e5,e6,_⟩,rfl⟩
    simp only [go_sem,e0,e5,e6]
    by_cases hlt:i+1<l.length
    ·have hz:((i+1:Nat):Int)<l.length:=by omega
     have wi:=wsucc (i:=i+1) hlt (by omega)
     have hx:=g _ (List.getElem_mem hlt)
     have hs:=list_size g hl (i+1)
     have hn:=nu_size hx
     have z0:(0:Int)<=((i+1:Nat):Int):=by omega
     have htk:joinB ((l.take (i+1+1)).map nu) blank=joinB ((l.take (i+1)).map nu) blank++blank++nu l[i+1]:=by
      rw [List.take_succ_eq_append_getElem hlt,List.map_append]
      obtain ⟨x,xs,hc⟩: ∃x xs,(l.take (i+1)).map nu=x::xs:=by
       cases hc:(l.take (i+1)).map nu with
       | nil=>have:=congrArg List.length hc;rw [List.length_map,List.length_take,List.length_nil] at this;omega
       | cons x xs=>exact ⟨x,xs,rfl⟩
      rw [hc]
      exact joinB_snoc x xs (nu l[i+1]) blank
     have hbl:blank=⟨#[32]⟩:=rfl
     have a1:hBin .add (.string (joinB ((l.take (i+1)).map nu) blank)) (.string ⟨#[32]⟩)=some (.string (joinB ((l.take (i+1)).map nu) blank++blank)):=hBin_sadd (by show _+1<=_;omega)
     have a2:hBin .add (.string (joinB ((l.take (i+1)).map nu) blank++blank)) (.string (nu l[i+1]))=some (.string (joinB ((l.take (i+1)).map nu) blank++blank++nu l[i+1])):=hBin_sadd (by rw [ByteArray.size_append];show _+1+_<=_;omega)
     simp only [go_sem,e0,e5,e6,hz,z0,hk0,hd,hat (i+1) hlt,a1]
     refine ⟨by kernel_rfl,(c_l1NumI _ hx).use (fun _ m=>m) ?_⟩
     rintro _ _ ⟨rfl,rfl⟩
     simp only [go_sem,e0,e5,e6,a2]
     exact ⟨by omega,⟨e0,congrArg _ htk.symm,congrArg _ wi,trivial⟩, .rfl⟩
    ·obtain rfl:i=l.length-1:=by omega
     simp only [go_sem,e0,e5,e6,show ¬(((l.length-1+1:Nat):Int)<l.length) by omega]
     rw [listS,if_neg l0,show l.length-1+1=l.length by omega,List.take_length]
end
open Go.HH Go.Proofs
def numsOk (ws:List BL):Prop:= ∀w∈ws,rdOk (mkB w)
open Classical in
noncomputable instance {ws:List BL}:Decidable (numsOk ws):=propDecidable _
noncomputable def numsL (ws:List BL):List Int:=ws.map fun w=>rdN (mkB w)
def strR (w:BL):List Value:= [.string (mkB w)]
theorem numsL_take {ws:List BL} {i:Nat} (hi:i<ws.length):numsL (ws.take (i+1))=numsL (ws.take i)++ [rdN (mkB ws[i])]:=by
 unfold numsL
 rw [List.take_add_one,List.getElem?_eq_getElem hi,Option.toList_some,List.map_append]
 rfl
theorem numsL_len {ws:List BL} {i:Nat} (hi:i<=ws.length):(numsL (ws.take i)).length=i:=by
 unfold numsL
 rw [List.length_map,List.length_take];omega
section
variable {h : Heap} {M : Nat → Prop}
set_option maxRecDepth 4000 in
theorem c_l28Numbers (v:Value) (ws:List BL) (sw:Sl h 1 v (ws.map strR)) (hs: ∀w∈ws,(mkB w).size<=10000000) (hn:ws.length<=1048576) :
  vCall [] Tryz.prog M 113 [v] h (fun r h'=>(∃x,r = .tuple #[x, .bool (decide (numsOk ws))]∧(numsOk ws->SI h' x (numsL ws)))∧h<+:h'):=by
 obtain ⟨a,ev,_,_⟩:=id sw
 rw [List.length_map] at ev
 subst ev
 refine body_of mo Tryz.func113 rfl (by kernel_rfl) (Nat.le_of_ble_eq_true (by kernel_rfl)) rfl ?_
 simp only [go_sem]
 refine vLoop.count mo ws.length (fun i e h'=> ∃(u:Heap) (j:Nat),Regs e [(0, .slice a ws.length 0),(4, .slice (some ⟨h.length+j,0,none⟩) i 0),(5, .int .i64 i)] ∧
  HeapIs h' (h++u)∧u[j]? = some ⟨(numsL (ws.take i)).map iv,1, .rw⟩∧∀(m:Nat) (hm:m<ws.length),m<i->rdOk (mkB ws[m])) ?_ ?_
 ·exact ⟨_,0,⟨rfl,rfl,rfl,trivial⟩, .rfl,rfl,fun m _ hm=>absurd hm (by omega)⟩
 ·rintro i e _ hi ⟨u,j,⟨e0,e4,e5,_⟩,rfl,hj,hlo⟩
  by_cases hlt:i<ws.length
  ·have wi:=wsucc hlt (by omega)
   obtain ⟨id,o,k,hv',hk,_,hd,hb,hrow,hat⟩:=sw.at (i:=i) (by rw [List.length_map];exact hlt)
   rw [List.length_map] at hv'
   obtain rfl:a=some ⟨id,o,none⟩:=by simpa using hv'
   have g0:=hat 0 (by omega)
   rw [List.getElem_map] at g0
   simp only [strR,List.getElem?_cons_zero,Nat.add_zero,Nat.mul_one] at g0
   have hz:(i:Int)<ws.length:=by omega
   simp only [go_sem,e0,e4,e5,hz,hk,hd,g0]
   refine ⟨by kernel_rfl,(c_sParseInt (mkB ws[i]) (hs _ (List.getElem_mem _))).use (fun _ m=>m) ?_⟩
   rintro _ _ ⟨rfl,⟨t,rfl⟩⟩
   by_cases c:rdOk (mkB ws[i])
   ·have hlen:=numsL_len (ws:=ws) (i:=i) (by omega)
    have hjl:=(List.getElem?_eq_some_iff.1 hj).1
    simp only [go_sem,e0,e4,e5,decb c,app_old hj,List.length_map,hlen]
    refine ⟨by omega,by omega,hlt,_,u.length+(t.length+1),⟨e0,rfl,congrArg _ wi,trivial⟩, .rfl, ?_, ?_⟩
    ·rw [numsL_take hlt,List.map_append]
     exact (List.getElem?_append_right (by simp)).trans (by simp [iv])
    ·intro m hm hmi
     by_cases h2:m<i
     ·exact hlo m hm h2
     ·obtain rfl:m=i:=by omega
      exact c
   ·have nok: ¬numsOk ws:=fun hh=>c (hh _ (List.getElem_mem _))
    simp only [go_sem,e0,e4,e5,dect c]
    exact ⟨_,by rw [decide_eq_false nok],fun hh=>absurd hh nok⟩
  ·obtain rfl:i=ws.length:=by omega
   have ok:numsOk ws:=fun w hw=>by
    obtain ⟨m,hm,rfl⟩:=List.mem_iff_getElem.1 hw
    exact hlo m hm hm
   simp only [go_sem,e0,e4,e5,show ¬((ws.length:Int)<ws.length) by omega]
   refine ⟨_,by rw [decide_eq_true ok],fun _ => ?_⟩
   rw [List.take_length] at hj
   have hjl:=(List.getElem?_eq_some_iff.1 hj).1
   have:=FI.si (lo:=0) (hi:=(h++u).length) (FI.at (h:=h++u) (l:=numsL ws) (id:=h.length+j) (by omega) (by simp;omega) (by rw [hget_app];exact hj)) (Nat.le_refl _)
   simpa [numsL] using this
end
open Go.HH Go.Proofs
theorem dst_le {P:List Pip} {s:Int} {N:Nat} {v:Int} (h1:1<=v) (h2:v<=N):dst P s N v<=N:=by
 unfold dst
 split
 ·rename_i h
  exact (h.choose_spec.rng v h1 h2).2
 ·omega
theorem bst_mem {P:List Pip} {V:List Vlv} {s k:Nat}: ∀ {n:Nat} {d:List Int},bst P V s k n=some d->∀x∈d,x∈openVl V
 | 0,d,h=>by cases h
 | n+1,d,h=>by
  unfold bst at h
  split at h
  ·split at h
   ·cases h;exact choice_mem (Nat.le_refl _)
   ·rename_i d' hd'
    split at h
    ·cases h;exact choice_mem (Nat.le_refl _)
    ·cases h;exact bst_mem hd'
  ·exact bst_mem h
theorem valOk.ids {N:Int} {P:List Pip} {V:List Vlv} (g:valOk N P V): ∀v∈V,1<=v.1∧v.1<=99:=fun v hv=>by
 obtain ⟨i,hi,rfl⟩:=List.mem_iff_getElem.1 hv
 have h1:=(g.2.2 i hi).1.1
 rw [getDv hi] at h1
 exact h1
theorem openVl_ids {N:Int} {P:List Pip} {V:List Vlv} (g:valOk N P V): ∀x∈openVl V,0<=x∧x<100:=fun x hx=>by
 obtain ⟨v,hv,rfl⟩:=List.mem_map.1 hx
 have:=g.ids v (List.mem_filter.1 hv).1
 omega
def Sht (l:List Int):Prop:=(∀x∈l,0<=x∧x<100)∧l.length<=100
theorem Sht.nil:Sht []:=⟨fun x hx=>(by cases hx),by decide⟩
theorem Sht.nodes {N:Int} {f:Nat->Bool} (hN:1<=N∧N<=8):Sht (nodesOf N.toNat f):=by
 refine ⟨fun x hx => ?_,Nat.le_trans nodesOf_len (by omega)⟩
 have:=nodesOf_mem.1 hx
 omega
theorem askB {C:Con} (g:conOk C) {w:ByteArray} {l L:List Int} (h:askR C w l=some L):Sht L:=by
 have hN:=g.1.1.2.1
 have hids:=g.1.1.ids
 unfold askR at h
 split at h
 ·split at h
  ·cases h
   unfold dryL
   split
   ·exact .nodes hN
   ·exact .nil
  ·cases h
 ·split at h
  ·split at h
   ·cases h
    unfold briR
    split
    ·exact ⟨briL_ids hids,Nat.le_trans briL_len (Nat.le_trans g.1.1.2.2 (by decide))⟩
    ·exact .nil
   ·cases h
  ·split at h
   ·split at h
    ·unfold planR at h
     split at h
     ·refine ⟨fun x hx=>openVl_ids g.1 x (bst_mem h x hx), ?_⟩
      have h1:=bst_len h
      have h2:=openVl_len (V:=C.V)
      have h3:=g.1.2.1
      omega
     ·cases h
    ·cases h
   ·split at h
    ·split at h
     ·cases h
      unfold segL
      split
      ·exact .nodes hN
      ·exact .nil
     ·cases h
    ·split at h
     ·split at h
      ·cases h
       unfold arndL
       split
       ·refine ⟨fun x hx => ?_, ?_⟩
        ·obtain ⟨i,hi,rfl⟩:=List.mem_map.1 hx
         have hb:=arI_in i hi
         have hl:i.toNat<C.V.length:=by omega
         have:=g.1.ids C.V[i.toNat] (List.getElem_mem hl)
         rw [getDv hl]
         omega
        ·rw [List.length_map]
         have h3:=g.1.2.1
         exact Nat.le_trans arI_len (by omega)
       ·exact .nil
      ·cases h
     ·split at h
      ·split at h
       ·rename_i hw
        cases h
        unfold wayR
        rw [if_pos hw.2]
        refine ⟨fun x hx => ?_, ?_⟩
        ·obtain ⟨p,hp,rfl⟩:=wayL_mem _ _ _ _ x hx
         have:=hids p hp
         omega
        ·have h1:=wayL_len (P:=C.P) (dst C.P (gl l 1) C.N.toNat) (gl l 1) (dst C.P (gl l 1) C.N.toNat (gl l 0)).toNat (gl l 0)
         have h2:=dst_le (P:=C.P) (s:=gl l 1) (N:=C.N.toNat) (v:=gl l 0) hw.2.2.1.1 (by have:=hw.2.2.1.2;omega)
         omega
       ·cases h
      ·cases h
section
variable {h : Heap} {M : Nat → Prop}
theorem c_l28ListNo (v:Value):vCall [] Tryz.prog M 159 [v, .bool false] h (fun r h'=>r = .string ⟨#[63]⟩∧h<+:h'):=by
 refine body_of mo Tryz.func159 rfl (by kernel_rfl) (Nat.le_of_ble_eq_true (by kernel_rfl)) rfl ?_
 simp only [go_sem]
 try rfl
end
open Go.HH Go.Proofs
noncomputable def askT (C:Con) (w:ByteArray) (l:List Int):ByteArray:=match askR C w l with
 | some L=>listS L
 | none=>⟨#[63]⟩
section
variable {h : Heap} {M : Nat → Prop}
set_option maxRecDepth 4000 in
theorem c_l28AskD {n:Nat} (C:Con) (wP wV vl:Value) (l:List Int) (sP:SB n 4 h wP (C.P.map pip)) (sV:Sl h 4 wV (C.V.map vlv)) (esP:EszC h 4 wP) (g:conOk C) (sl:SI h vl l) :
  vCall [] Tryz.prog M 115 [conV C wP wV, .string w_dry,vl] h (fun r h'=>r = .string (askT C w_dry l)∧h<+:h'):=by
 have hB:= @askB C g w_dry l
 obtain ⟨N,P,V,src,D,Q,cnt⟩:=C
 have hP10:P.length<=1048576:=Nat.le_trans g.1.1.2.2 (by decide)
 have hV10:V.length<=1048576:=Nat.le_trans g.1.2.1 (by decide)
 simp only at sP sV esP
 have o0:oneC wP=true:=by obtain ⟨a,e,_⟩:=sP.1;rw [e];rfl
 have o0v:oneC wV=true:=by obtain ⟨a,e,_⟩:=sV;rw [e];rfl
 have hv:NA n h (.agg #[.int .i64 N,wP]) N P:=⟨wP,rfl,sP⟩
 have qa:decide (w_dry=w_dry)=true:=by decide
 have qb:decide (w_dry=w_burst)=false:=by decide
 have qc:decide (w_dry=w_segment)=false:=by decide
 have qd:decide (w_dry=w_around)=false:=by decide
 have qe:decide (w_dry=w_way)=false:=by decide
 have qf:decide (w_dry=w_bridges)=false:=by decide
 obtain ⟨a0,rfl⟩:=AI.len sl
 refine body_of mo Tryz.func115 rfl (by kernel_rfl) (Nat.le_of_ble_eq_true (by kernel_rfl)) rfl ?_
 by_cases lk:l.length=0
 case neg=>
  have he:askR ⟨N,P,V,src,D,Q,cnt⟩ w_dry l=none:=by
   rw [askR]
   repeat rw [if_neg (by decide)]
   rw [if_pos rfl]
   first|rw [if_neg lk]|rw [if_neg (fun hh=>lk hh.1)]
  have nl:((l.length:Int)==0)=false:=by rw [beq_eq_false_iff_ne];omega
  simp only [go_sem,conV,toList_eq,qa,qb,qc,qd,qe,qf,o0,o0v,nl]
  refine ⟨by kernel_rfl,(c_l28ListNo _).use (fun _ m=>m) ?_⟩
  rintro _ _ ⟨rfl,⟨t,rfl⟩⟩
  simp only [go_sem]
  rw [askT,he]
 case pos=>
  simp only [go_sem,conV,toList_eq,qa,qb,qc,qd,qe,qf,o0,o0v,lk]
  refine ⟨by kernel_rfl,(c_sDryNodes _ wV N P V src (hv.mono (by simp)) (sV.mono (by simp)) hP10 hV10).use (fun _ m=>m) ?_⟩
  rintro _ _ ⟨⟨x,rfl,sx⟩,⟨t,rfl⟩⟩
  by_cases c:valOk N P V∧1<=src∧src<=N
  ·have he:askR ⟨N,P,V,src,D,Q,cnt⟩ w_dry l=some (dryL N P V src):=by
    rw [askR,if_pos rfl,if_pos ⟨lk,c⟩]
   simp only [go_sem,decb c]
   refine ⟨by kernel_rfl,(c_l28List x (dryL N P V src) true (by first|exact sx|simpa using sx) (hB he).1 (hB he).2).use (fun _ m=>m) ?_⟩
   rintro _ _ ⟨rfl,⟨t2,rfl⟩⟩
   simp only [go_sem]
   rw [askT,he]
  ·have he:askR ⟨N,P,V,src,D,Q,cnt⟩ w_dry l=none:=by
    rw [askR,if_pos rfl,if_neg (fun hh=>c hh.2)]
   simp only [go_sem,dect c]
   refine ⟨by kernel_rfl,(c_l28ListNo _).use (fun _ m=>m) ?_⟩
   rintro _ _ ⟨rfl,⟨t2,rfl⟩⟩
   simp only [go_sem]
   rw [askT,he]
set_option maxRecDepth 4000 in
theorem c_l28AskB {n:Nat} (C:Con) (wP wV vl:Value) (l:List Int) (sP:SB n 4 h wP (C.P.map pip)) (sV:Sl h 4 wV (C.V.map vlv)) (esP:EszC h 4 wP) (g:conOk C) (sl:SI h vl l) :
  vCall [] Tryz.prog M 115 [conV C wP wV, .string w_bridges,vl] h (fun r h'=>r = .string (askT C w_bridges l)∧h<+:h'):=by
 have hB:= @askB C g w_bridges l
 obtain ⟨N,P,V,src,D,Q,cnt⟩:=C
 have hP10:P.length<=1048576:=Nat.le_trans g.1.1.2.2 (by decide)
 have hV10:V.length<=1048576:=Nat.le_trans g.1.2.1 (by decide)
 simp only at sP sV esP
 have o0:oneC wP=true:=by obtain ⟨a,e,_⟩:=sP.1;rw [e];rfl
 have o0v:oneC wV=true:=by obtain ⟨a,e,_⟩:=sV;rw [e];rfl
 have hv:NA n h (.agg #[.int .i64 N,wP]) N P:=⟨wP,rfl,sP⟩
 have qa:decide (w_bridges=w_dry)=false:=by decide
 have qb:decide (w_bridges=w_burst)=false:=by decide
 have qc:decide (w_bridges=w_segment)=false:=by decide
 have qd:decide (w_bridges=w_around)=false:=by decide
 have qe:decide (w_bridges=w_way)=false:=by decide
 have qf:decide (w_bridges=w_bridges)=true:=by decide
 obtain ⟨a0,rfl⟩:=AI.len sl
 refine body_of mo Tryz.func115 rfl (by kernel_rfl) (Nat.le_of_ble_eq_true (by kernel_rfl)) rfl ?_
 by_cases lk:l.length=0
 case neg=>
  have he:askR ⟨N,P,V,src,D,Q,cnt⟩ w_bridges l=none:=by
   rw [askR]
   repeat rw [if_neg (by decide)]
   rw [if_pos rfl]
   first|rw [if_neg lk]|rw [if_neg (fun hh=>lk hh.1)]
  have nl:((l.length:Int)==0)=false:=by rw [beq_eq_false_iff_ne];omega
  simp only [go_sem,conV,toList_eq,qa,qb,qc,qd,qe,qf,o0,o0v,nl]
  refine ⟨by kernel_rfl,(c_l28ListNo _).use (fun _ m=>m) ?_⟩
  rintro _ _ ⟨rfl,⟨t,rfl⟩⟩
  simp only [go_sem]
  rw [askT,he]
 case pos=>
  simp only [go_sem,conV,toList_eq,qa,qb,qc,qd,qe,qf,o0,o0v,lk]
  refine ⟨by kernel_rfl,(c_sBridgePipes wP N P (sP.mono (by simp)) (esP.mono (by simp)) hP10).use (fun _ m=>m) ?_⟩
  rintro _ _ ⟨⟨x,rfl,sx⟩,⟨t,rfl⟩⟩
  by_cases c:netGood N P
  ·have he:askR ⟨N,P,V,src,D,Q,cnt⟩ w_bridges l=some (briR N P):=by
    rw [askR,if_neg (by decide),if_pos rfl,if_pos ⟨lk,c⟩]
   simp only [go_sem,decb c]
   refine ⟨by kernel_rfl,(c_l28List x (briR N P) true (by first|exact sx|simpa using sx) (hB he).1 (hB he).2).use (fun _ m=>m) ?_⟩
   rintro _ _ ⟨rfl,⟨t2,rfl⟩⟩
   simp only [go_sem]
   rw [askT,he]
  ·have he:askR ⟨N,P,V,src,D,Q,cnt⟩ w_bridges l=none:=by
    rw [askR,if_neg (by decide),if_pos rfl,if_neg (fun hh=>c hh.2)]
   simp only [go_sem,dect c]
   refine ⟨by kernel_rfl,(c_l28ListNo _).use (fun _ m=>m) ?_⟩
   rintro _ _ ⟨rfl,⟨t2,rfl⟩⟩
   simp only [go_sem]
   rw [askT,he]
set_option maxRecDepth 4000 in
theorem c_l28AskU {n:Nat} (C:Con) (wP wV vl:Value) (l:List Int) (sP:SB n 4 h wP (C.P.map pip)) (sV:Sl h 4 wV (C.V.map vlv)) (esP:EszC h 4 wP) (g:conOk C) (sl:SI h vl l) :
  vCall [] Tryz.prog M 115 [conV C wP wV, .string w_burst,vl] h (fun r h'=>r = .string (askT C w_burst l)∧h<+:h'):=by
 have hB:= @askB C g w_burst l
 obtain ⟨N,P,V,src,D,Q,cnt⟩:=C
 have hP10:P.length<=1048576:=Nat.le_trans g.1.1.2.2 (by decide)
 have hV10:V.length<=1048576:=Nat.le_trans g.1.2.1 (by decide)
 simp only at sP sV esP
 have o0:oneC wP=true:=by obtain ⟨a,e,_⟩:=sP.1;rw [e];rfl
 have o0v:oneC wV=true:=by obtain ⟨a,e,_⟩:=sV;rw [e];rfl
 have hv:NA n h (.agg #[.int .i64 N,wP]) N P:=⟨wP,rfl,sP⟩
 have qa:decide (w_burst=w_dry)=false:=by decide
 have qb:decide (w_burst=w_burst)=true:=by decide
 have qc:decide (w_burst=w_segment)=false:=by decide
 have qd:decide (w_burst=w_around)=false:=by decide
 have qe:decide (w_burst=w_way)=false:=by decide
 have qf:decide (w_burst=w_bridges)=false:=by decide
 obtain ⟨a0,rfl⟩:=AI.len sl
 refine body_of mo Tryz.func115 rfl (by kernel_rfl) (Nat.le_of_ble_eq_true (by kernel_rfl)) rfl ?_
 by_cases lk:l.length=1
 case neg=>
  have he:askR ⟨N,P,V,src,D,Q,cnt⟩ w_burst l=none:=by
   rw [askR]
   repeat rw [if_neg (by decide)]
   rw [if_pos rfl]
   first|rw [if_neg lk]|rw [if_neg (fun hh=>lk hh.1)]
  have nl:((l.length:Int)==1)=false:=by rw [beq_eq_false_iff_ne];omega
  simp only [go_sem,conV,toList_eq,qa,qb,qc,qd,qe,qf,o0,o0v,nl]
  refine ⟨by kernel_rfl,(c_l28ListNo _).use (fun _ m=>m) ?_⟩
  rintro _ _ ⟨rfl,⟨t,rfl⟩⟩
  simp only [go_sem]
  rw [askT,he]
 case pos=>
  obtain ⟨idl,offl,kl,hvl,_,hkl,_,hdl,_,_,_,hat⟩:=AI.at sl (by omega)
  obtain rfl:a0=some ⟨idl,offl,none⟩:=by simpa using hvl
  have p0:=hat 0 (by omega)
  rw [gl_at] at p0
  simp only [Nat.add_zero] at p0
  simp only [go_sem,conV,toList_eq,qa,qb,qc,qd,qe,qf,o0,o0v,lk,hkl,hdl,p0]
  refine ⟨by kernel_rfl,(c_sShortestPlan _ wV N P V src (gl l 0) (hv.mono (by simp)) (sV.mono (by simp)) hP10 hV10).use (fun _ m=>m) ?_⟩
  rintro _ _ ⟨⟨x,rfl,sx⟩,⟨t,rfl⟩⟩
  have he:askR ⟨N,P,V,src,D,Q,cnt⟩ w_burst l=planR N P V src (gl l 0):=by
   rw [askR,if_neg (by decide),if_neg (by decide),if_pos rfl,if_pos lk]
  cases hc:planR N P V src (gl l 0) with
  | some L=>
   rw [hc] at sx he
   simp only [go_sem,hc]
   refine ⟨by kernel_rfl,(c_l28List x L true (by first|exact sx|simpa using sx) (hB he).1 (hB he).2).use (fun _ m=>m) ?_⟩
   rintro _ _ ⟨rfl,⟨t2,rfl⟩⟩
   simp only [go_sem]
   rw [askT,he]
  | none=>
   rw [hc] at sx he
   simp only [go_sem,hc]
   refine ⟨by kernel_rfl,(c_l28ListNo _).use (fun _ m=>m) ?_⟩
   rintro _ _ ⟨rfl,⟨t2,rfl⟩⟩
   simp only [go_sem]
   rw [askT,he]
set_option maxRecDepth 4000 in
theorem c_l28AskS {n:Nat} (C:Con) (wP wV vl:Value) (l:List Int) (sP:SB n 4 h wP (C.P.map pip)) (sV:Sl h 4 wV (C.V.map vlv)) (esP:EszC h 4 wP) (g:conOk C) (sl:SI h vl l) :
  vCall [] Tryz.prog M 115 [conV C wP wV, .string w_segment,vl] h (fun r h'=>r = .string (askT C w_segment l)∧h<+:h'):=by
 have hB:= @askB C g w_segment l
 obtain ⟨N,P,V,src,D,Q,cnt⟩:=C
 have hP10:P.length<=1048576:=Nat.le_trans g.1.1.2.2 (by decide)
 have hV10:V.length<=1048576:=Nat.le_trans g.1.2.1 (by decide)
 simp only at sP sV esP
 have o0:oneC wP=true:=by obtain ⟨a,e,_⟩:=sP.1;rw [e];rfl
 have o0v:oneC wV=true:=by obtain ⟨a,e,_⟩:=sV;rw [e];rfl
 have hv:NA n h (.agg #[.int .i64 N,wP]) N P:=⟨wP,rfl,sP⟩
 have qa:decide (w_segment=w_dry)=false:=by decide
 have qb:decide (w_segment=w_burst)=false:=by decide
 have qc:decide (w_segment=w_segment)=true:=by decide
 have qd:decide (w_segment=w_around)=false:=by decide
 have qe:decide (w_segment=w_way)=false:=by decide
 have qf:decide (w_segment=w_bridges)=false:=by decide
 obtain ⟨a0,rfl⟩:=AI.len sl
 refine body_of mo Tryz.func115 rfl (by kernel_rfl) (Nat.le_of_ble_eq_true (by kernel_rfl)) rfl ?_
 by_cases lk:l.length=1
 case neg=>
  have he:askR ⟨N,P,V,src,D,Q,cnt⟩ w_segment l=none:=by
   rw [askR]
   repeat rw [if_neg (by decide)]
   rw [if_pos rfl]
   first|rw [if_neg lk]|rw [if_neg (fun hh=>lk hh.1)]
  have nl:((l.length:Int)==1)=false:=by rw [beq_eq_false_iff_ne];omega
  simp only [go_sem,conV,toList_eq,qa,qb,qc,qd,qe,qf,o0,o0v,nl]
  refine ⟨by kernel_rfl,(c_l28ListNo _).use (fun _ m=>m) ?_⟩
  rintro _ _ ⟨rfl,⟨t,rfl⟩⟩
  simp only [go_sem]
  rw [askT,he]
 case pos=>
  obtain ⟨idl,offl,kl,hvl,_,hkl,_,hdl,_,_,_,hat⟩:=AI.at sl (by omega)
  obtain rfl:a0=some ⟨idl,offl,none⟩:=by simpa using hvl
  have p0:=hat 0 (by omega)
  rw [gl_at] at p0
  simp only [Nat.add_zero] at p0
  simp only [go_sem,conV,toList_eq,qa,qb,qc,qd,qe,qf,o0,o0v,lk,hkl,hdl,p0]
  refine ⟨by kernel_rfl,(c_sSegmentOfPipe _ wV N P V (gl l 0) (hv.mono (by simp)) (sV.mono (by simp)) hP10 hV10).use (fun _ m=>m) ?_⟩
  rintro _ _ ⟨⟨x,y,rfl,sx⟩,⟨t,rfl⟩⟩
  by_cases c:valOk N P V∧0<=pidx P (gl l 0)
  ·have he:askR ⟨N,P,V,src,D,Q,cnt⟩ w_segment l=some (segL N P V (gl l 0)):=by
    rw [askR,if_neg (by decide),if_neg (by decide),if_neg (by decide),if_pos rfl,if_pos ⟨lk,c⟩]
   simp only [go_sem,decb c]
   refine ⟨by kernel_rfl,(c_l28List x (segL N P V (gl l 0)) true (by first|exact sx|simpa using sx) (hB he).1 (hB he).2).use (fun _ m=>m) ?_⟩
   rintro _ _ ⟨rfl,⟨t2,rfl⟩⟩
   simp only [go_sem]
   rw [askT,he]
  ·have he:askR ⟨N,P,V,src,D,Q,cnt⟩ w_segment l=none:=by
    rw [askR,if_neg (by decide),if_neg (by decide),if_neg (by decide),if_pos rfl,if_neg (fun hh=>c hh.2)]
   simp only [go_sem,dect c]
   refine ⟨by kernel_rfl,(c_l28ListNo _).use (fun _ m=>m) ?_⟩
   rintro _ _ ⟨rfl,⟨t2,rfl⟩⟩
   simp only [go_sem]
   rw [askT,he]
set_option maxRecDepth 4000 in
theorem c_l28AskA {n:Nat} (C:Con) (wP wV vl:Value) (l:List Int) (sP:SB n 4 h wP (C.P.map pip)) (sV:Sl h 4 wV (C.V.map vlv)) (esP:EszC h 4 wP) (g:conOk C) (sl:SI h vl l) :
  vCall [] Tryz.prog M 115 [conV C wP wV, .string w_around,vl] h (fun r h'=>r = .string (askT C w_around l)∧h<+:h'):=by
 have hB:= @askB C g w_around l
 obtain ⟨N,P,V,src,D,Q,cnt⟩:=C
 have hP10:P.length<=1048576:=Nat.le_trans g.1.1.2.2 (by decide)
 have hV10:V.length<=1048576:=Nat.le_trans g.1.2.1 (by decide)
 simp only at sP sV esP
 have o0:oneC wP=true:=by obtain ⟨a,e,_⟩:=sP.1;rw [e];rfl
 have o0v:oneC wV=true:=by obtain ⟨a,e,_⟩:=sV;rw [e];rfl
 have hv:NA n h (.agg #[.int .i64 N,wP]) N P:=⟨wP,rfl,sP⟩
 have qa:decide (w_around=w_dry)=false:=by decide
 have qb:decide (w_around=w_burst)=false:=by decide
 have qc:decide (w_around=w_segment)=false:=by decide
 have qd:decide (w_around=w_around)=true:=by decide
 have qe:decide (w_around=w_way)=false:=by decide
 have qf:decide (w_around=w_bridges)=false:=by decide
 obtain ⟨a0,rfl⟩:=AI.len sl
 refine body_of mo Tryz.func115 rfl (by kernel_rfl) (Nat.le_of_ble_eq_true (by kernel_rfl)) rfl ?_
 by_cases lk:l.length=1
 case neg=>
  have he:askR ⟨N,P,V,src,D,Q,cnt⟩ w_around l=none:=by
   rw [askR]
   repeat rw [if_neg (by decide)]
   rw [if_pos rfl]
   first|rw [if_neg lk]|rw [if_neg (fun hh=>lk hh.1)]
  have nl:((l.length:Int)==1)=false:=by rw [beq_eq_false_iff_ne];omega
  simp only [go_sem,conV,toList_eq,qa,qb,qc,qd,qe,qf,o0,o0v,nl]
  refine ⟨by kernel_rfl,(c_l28ListNo _).use (fun _ m=>m) ?_⟩
  rintro _ _ ⟨rfl,⟨t,rfl⟩⟩
  simp only [go_sem]
  rw [askT,he]
 case pos=>
  obtain ⟨idl,offl,kl,hvl,_,hkl,_,hdl,_,_,_,hat⟩:=AI.at sl (by omega)
  obtain rfl:a0=some ⟨idl,offl,none⟩:=by simpa using hvl
  have p0:=hat 0 (by omega)
  rw [gl_at] at p0
  simp only [Nat.add_zero] at p0
  simp only [go_sem,conV,toList_eq,qa,qb,qc,qd,qe,qf,o0,o0v,lk,hkl,hdl,p0]
  refine ⟨by kernel_rfl,(c_sValvesAround _ wV N P V (gl l 0) (hv.mono (by simp)) (sV.mono (by simp)) hP10 hV10).use (fun _ m=>m) ?_⟩
  rintro _ _ ⟨⟨x,rfl,sx⟩,⟨t,rfl⟩⟩
  by_cases c:valOk N P V∧0<=pidx P (gl l 0)
  ·have he:askR ⟨N,P,V,src,D,Q,cnt⟩ w_around l=some (arndL N P V (gl l 0)):=by
    rw [askR,if_neg (by decide),if_neg (by decide),if_neg (by decide),if_neg (by decide),if_pos rfl,if_pos ⟨lk,c⟩]
   simp only [go_sem,decb c]
   refine ⟨by kernel_rfl,(c_l28List x (arndL N P V (gl l 0)) true (by first|exact sx|simpa using sx) (hB he).1 (hB he).2).use (fun _ m=>m) ?_⟩
   rintro _ _ ⟨rfl,⟨t2,rfl⟩⟩
   simp only [go_sem]
   rw [askT,he]
  ·have he:askR ⟨N,P,V,src,D,Q,cnt⟩ w_around l=none:=by
    rw [askR,if_neg (by decide),if_neg (by decide),if_neg (by decide),if_neg (by decide),if_pos rfl,if_neg (fun hh=>c hh.2)]
   simp only [go_sem,dect c]
   refine ⟨by kernel_rfl,(c_l28ListNo _).use (fun _ m=>m) ?_⟩
   rintro _ _ ⟨rfl,⟨t2,rfl⟩⟩
   simp only [go_sem]
   rw [askT,he]
set_option maxRecDepth 4000 in
theorem c_l28AskW {n:Nat} (C:Con) (wP wV vl:Value) (l:List Int) (sP:SB n 4 h wP (C.P.map pip)) (sV:Sl h 4 wV (C.V.map vlv)) (esP:EszC h 4 wP) (g:conOk C) (sl:SI h vl l) :
  vCall [] Tryz.prog M 115 [conV C wP wV, .string w_way,vl] h (fun r h'=>r = .string (askT C w_way l)∧h<+:h'):=by
 have hB:= @askB C g w_way l
 obtain ⟨N,P,V,src,D,Q,cnt⟩:=C
 have hP10:P.length<=1048576:=Nat.le_trans g.1.1.2.2 (by decide)
 have hV10:V.length<=1048576:=Nat.le_trans g.1.2.1 (by decide)
 simp only at sP sV esP
 have o0:oneC wP=true:=by obtain ⟨a,e,_⟩:=sP.1;rw [e];rfl
 have o0v:oneC wV=true:=by obtain ⟨a,e,_⟩:=sV;rw [e];rfl
 have hv:NA n h (.agg #[.int .i64 N,wP]) N P:=⟨wP,rfl,sP⟩
 have qa:decide (w_way=w_dry)=false:=by decide
 have qb:decide (w_way=w_burst)=false:=by decide
 have qc:decide (w_way=w_segment)=false:=by decide
 have qd:decide (w_way=w_around)=false:=by decide
 have qe:decide (w_way=w_way)=true:=by decide
 have qf:decide (w_way=w_bridges)=false:=by decide
 obtain ⟨a0,rfl⟩:=AI.len sl
 refine body_of mo Tryz.func115 rfl (by kernel_rfl) (Nat.le_of_ble_eq_true (by kernel_rfl)) rfl ?_
 by_cases lk:l.length=2
 case neg=>
  have he:askR ⟨N,P,V,src,D,Q,cnt⟩ w_way l=none:=by
   rw [askR]
   repeat rw [if_neg (by decide)]
   rw [if_pos rfl]
   first|rw [if_neg lk]|rw [if_neg (fun hh=>lk hh.1)]
  have nl:((l.length:Int)==2)=false:=by rw [beq_eq_false_iff_ne];omega
  simp only [go_sem,conV,toList_eq,qa,qb,qc,qd,qe,qf,o0,o0v,nl]
  refine ⟨by kernel_rfl,(c_l28ListNo _).use (fun _ m=>m) ?_⟩
  rintro _ _ ⟨rfl,⟨t,rfl⟩⟩
  simp only [go_sem]
  rw [askT,he]
 case pos=>
  obtain ⟨idl,offl,kl,hvl,_,hkl,_,hdl,_,_,_,hat⟩:=AI.at sl (by omega)
  obtain rfl:a0=some ⟨idl,offl,none⟩:=by simpa using hvl
  have p0:=hat 0 (by omega)
  have p1:=hat 1 (by omega)
  rw [gl_at] at p0 p1
  simp only [Nat.add_zero] at p0
  simp only [go_sem,conV,toList_eq,qa,qb,qc,qd,qe,qf,o0,o0v,lk,hkl,hdl,p0,p1]
  refine ⟨by kernel_rfl,(c_sShortestWay _ N P (gl l 0) (gl l 1) (hv.mono (by simp)) hP10).use (fun _ m=>m) ?_⟩
  rintro _ _ ⟨⟨x,rfl,sx⟩,⟨t,rfl⟩⟩
  by_cases c:wayOk N P (gl l 0) (gl l 1)
  ·have he:askR ⟨N,P,V,src,D,Q,cnt⟩ w_way l=some (wayR N P (gl l 0) (gl l 1)):=by
    rw [askR,if_neg (by decide),if_neg (by decide),if_neg (by decide),if_neg (by decide),if_neg (by decide),if_pos rfl,if_pos ⟨lk,c⟩]
   simp only [go_sem,decb c]
   refine ⟨by kernel_rfl,(c_l28List x (wayR N P (gl l 0) (gl l 1)) true (by first|exact sx|simpa using sx) (hB he).1 (hB he).2).use (fun _ m=>m) ?_⟩
   rintro _ _ ⟨rfl,⟨t2,rfl⟩⟩
   simp only [go_sem]
   rw [askT,he]
  ·have he:askR ⟨N,P,V,src,D,Q,cnt⟩ w_way l=none:=by
    rw [askR,if_neg (by decide),if_neg (by decide),if_neg (by decide),if_neg (by decide),if_neg (by decide),if_pos rfl,if_neg (fun hh=>c hh.2)]
   simp only [go_sem,dect c]
   refine ⟨by kernel_rfl,(c_l28ListNo _).use (fun _ m=>m) ?_⟩
   rintro _ _ ⟨rfl,⟨t2,rfl⟩⟩
   simp only [go_sem]
   rw [askT,he]
theorem c_l28AskX (C:Con) (w:ByteArray) (wP wV vl:Value) (l:List Int) (o0:oneC wP=true) (o0v:oneC wV=true) (sl:SI h vl l) (hw: ¬isAsk w) :
  vCall [] Tryz.prog M 115 [conV C wP wV, .string w,vl] h (fun r h'=>r = .string (askT C w l)∧h<+:h'):=by
 obtain ⟨N,P,V,src,D,Q,cnt⟩:=C
 simp only [isAsk,not_or] at hw
 obtain ⟨ha,hf,hb,hc,hd,he⟩:=hw
 have e:askR ⟨N,P,V,src,D,Q,cnt⟩ w l=none:=by
  rw [askR,if_neg ha,if_neg hf,if_neg hb,if_neg hc,if_neg hd,if_neg he]
 obtain ⟨a0,rfl⟩:=AI.len sl
 refine body_of mo Tryz.func115 rfl (by kernel_rfl) (Nat.le_of_ble_eq_true (by kernel_rfl)) rfl ?_
 simp only [go_sem,conV,toList_eq,dect ha,dect hb,dect hc,dect hd,dect he,dect hf,o0,o0v]
 refine ⟨by kernel_rfl,(c_l28ListNo _).use (fun _ m=>m) ?_⟩
 rintro _ _ ⟨rfl,⟨t,rfl⟩⟩
 simp only [go_sem]
 rw [askT,e]
theorem c_l28Ask {n:Nat} (C:Con) (w:ByteArray) (wP wV vl:Value) (l:List Int) (sP:SB n 4 h wP (C.P.map pip)) (sV:Sl h 4 wV (C.V.map vlv)) (esP:EszC h 4 wP) (g:conOk C) (sl:SI h vl l) :
  vCall [] Tryz.prog M 115 [conV C wP wV, .string w,vl] h (fun r h'=>r = .string (askT C w l)∧h<+:h'):=by
 by_cases hw:isAsk w
 ·rcases hw with rfl|rfl|rfl|rfl|rfl|rfl
  ·exact c_l28AskD C wP wV vl l sP sV esP g sl
  ·exact c_l28AskB C wP wV vl l sP sV esP g sl
  ·exact c_l28AskU C wP wV vl l sP sV esP g sl
  ·exact c_l28AskS C wP wV vl l sP sV esP g sl
  ·exact c_l28AskA C wP wV vl l sP sV esP g sl
  ·exact c_l28AskW C wP wV vl l sP sV esP g sl
 ·exact c_l28AskX C w wP wV vl l (by obtain ⟨a,e,_⟩:=sP.1;rw [e];rfl) (by obtain ⟨a,e,_⟩:=sV;rw [e];rfl) sl hw
end
open Go.HH Go.Proofs
abbrev w_ok:ByteArray:=⟨#[111,107]⟩
abbrev w_no:ByteArray:=⟨#[63]⟩
theorem insV_k {V:List Vlv} {v:Vlv}:low (V.map fun q=>q.1) v.1<=V.length:=by have:=low_le (l:=V.map fun q=>q.1) (x:=v.1);simpa using this
theorem vidx_mem {V:List Vlv} {id:Int} (h:0<=vidx V id): ∃q∈V,q.1=id:=by
 obtain ⟨hk,hp⟩:=idxI_at (p:=fun q:Vlv=>decide (q.1=id)) (l:=V) (k:=(vidx V id).toNat) (by unfold vidx at h ⊢;omega)
 exact ⟨_,List.getElem_mem hk,by simpa using hp⟩
theorem valOk.asc {N:Int} {P:List Pip} {V:List Vlv} (g:valOk N P V): ∀(i j:Nat) (hi:i<V.length) (hj:j<i),V[j].1<V[i].1
 | 0,j,hi,hj=>by omega
 | i+1,j,hi,hj=>by
  have h1:=(g.2.2 (i+1) hi).1.2.1 (by omega)
  rw [Nat.add_sub_cancel,getDv hi,getDv (show i<V.length by omega)] at h1
  by_cases h:j=i
  ·subst h;exact h1
  ·have:=valOk.asc g i j (by omega) (by omega)
   omega
theorem insV_find {N:Int} {P:List Pip} {V:List Vlv} {v:Vlv} (g:valOk N P (insV V v)): ∀q∈V,q.1≠v.1:=fun q hq he=>by
 have hk:=insV_k (V:=V) (v:=v)
 have hl:=insAt_len (v:=v) hk
 obtain ⟨j,hj,rfl⟩:=List.mem_iff_getElem.1 hq
 rcases Nat.lt_or_ge j (low (V.map fun q=>q.1) v.1) with h|h
 ·have:=low_lt (l:=V.map fun q=>q.1) (x:=v.1) (j:=j) (by simpa using hj) h
  rw [List.getElem_map] at this
  omega
 ·have h1:(low (V.map fun q=>q.1) v.1)<(insV V v).length:=by unfold insV;omega
  have h2:j+1<(insV V v).length:=by unfold insV;omega
  have:=g.asc (j+1) (low (V.map fun q=>q.1) v.1) h2 (by omega)
  have e1:(insV V v)[low (V.map fun q=>q.1) v.1]=v:=by
   have hh:(insV V v)[low (V.map fun q=>q.1) v.1]? = some v:=by
    unfold insV insAt
    rw [List.getElem?_append_right (by rw [List.length_take];omega),List.length_take,Nat.min_eq_left hk,Nat.sub_self,List.getElem?_cons_zero]
   rw [List.getElem?_eq_getElem h1] at hh
   exact Option.some.inj hh
  have e2:(insV V v)[j+1]=V[j]:=by
   have hh:(insV V v)[j+1]? = some V[j]:=by
    unfold insV insAt
    rw [List.getElem?_append_right (by rw [List.length_take];omega),List.length_take,Nat.min_eq_left hk]
    obtain ⟨d,hd⟩: ∃d,j+1-low (V.map fun q=>q.1) v.1=d+1:=⟨j-low (V.map fun q=>q.1) v.1,by omega⟩
    rw [hd,List.getElem?_cons_succ,List.getElem?_drop,show low (V.map fun q=>q.1) v.1+d=j by omega,List.getElem?_eq_getElem hj]
   rw [List.getElem?_eq_getElem h2] at hh
   exact Option.some.inj hh
  rw [e1,e2] at this
  omega
section
variable {h : Heap} {M : Nat → Prop}
set_option maxRecDepth 4000 in
theorem c_l28Valve {n:Nat} (C:Con) (wP wV:Value) (v:Vlv) (sP:SB n 4 h wP (C.P.map pip)) (sV:Sl h 4 wV (C.V.map vlv)) (es:EszC h 4 wV) (g:conOk C) :
  vCall [] Tryz.prog M 151 [conV C wP wV, .agg #[.int .i64 v.1, .int .i64 v.2.1, .int .i64 v.2.2.1, .bool v.2.2.2]] h
   (fun r h'=>(∃E xV,r = .tuple #[conV E wP xV, .string (if valOk C.N C.P (insV C.V v) then w_ok else w_no)]∧E=(if valOk C.N C.P (insV C.V v) then {C with V:=insV C.V v} else C)∧(valOk C.N C.P (insV C.V v)->FQs h.length h'.length 4 h' xV (E.V.map vlv))∧(¬valOk C.N C.P (insV C.V v)->xV=wV))∧h<+:h'):=by
 obtain ⟨N,P,V,src,D,Q,cnt⟩:=C
 have hP10:P.length<=1048576:=Nat.le_trans g.1.1.2.2 (by decide)
 have hV10:V.length<=10:=g.1.2.1
 simp only at sP sV es ⊢
 have o0:oneC wP=true:=by obtain ⟨a,e,_⟩:=sP.1;rw [e];rfl
 have hv:NA n h (.agg #[.int .i64 N,wP]) N P:=⟨wP,rfl,sP⟩
 obtain ⟨a,ea,_,_⟩:=id sV
 rw [List.length_map] at ea
 subst ea
 have no: ∀(lo hi:Nat) (H:Heap),¬valOk N P (insV V v)->∃E xV,Value.tuple #[conV ⟨N,P,V,src,D,Q,cnt⟩ wP (.slice a V.length 0), .string w_no] = .tuple #[conV E wP xV, .string (if valOk N P (insV V v) then w_ok else w_no)]∧E=(if valOk N P (insV V v) then { ({N:=N,P:=P,V:=V,src:=src,D:=D,Q:=Q,cnt:=cnt}:Con) with V:=insV V v} else ⟨N,P,V,src,D,Q,cnt⟩)∧(valOk N P (insV V v)->FQs lo hi 4 H xV (E.V.map vlv))∧(¬valOk N P (insV V v)->xV = .slice a V.length 0):=fun lo hi H hn=>by
  rw [if_neg hn,if_neg hn]
  exact ⟨_,_,rfl,rfl,fun hh=>absurd hh hn,fun _=>rfl⟩
 refine body_of mo Tryz.func151 rfl (by kernel_rfl) (Nat.le_of_ble_eq_true (by kernel_rfl)) rfl ?_
 simp only [go_sem,conV,o0]
 refine ⟨by kernel_rfl,(c_l4Find _ V v.1 (sV.mono (by simp)) (by omega)).use (fun _ m=>m) ?_⟩
 rintro _ _ ⟨rfl,rfl⟩
 by_cases h2:0<=vidx V v.1
 ·have nok: ¬valOk N P (insV V v):=fun hh=>by
   obtain ⟨q,hq,he⟩:=vidx_mem h2
   exact insV_find hh q hq he
  simp only [go_sem,h2,o0]
  exact no _ _ _ nok
 ·simp only [go_sem,h2,o0]
  refine vLoop.count mo V.length (fun i e h'=> ∃(t:Heap),Regs e [(2, .pointer (some ⟨h.length,0,none⟩)),(3, .pointer (some ⟨h.length+1,0,none⟩)),(4, .pointer (some ⟨h.length+2,0,none⟩)),(6, .int .i64 i)] ∧
   HeapIs h' (h++(⟨[.int .i64 N,wP, .slice a V.length 0, .int .i64 src, .string D, .string Q, .int .i64 cnt],7, .rw⟩::⟨[.int .i64 v.1, .int .i64 v.2.1, .int .i64 v.2.2.1, .bool v.2.2.2],4, .rw⟩::⟨[.int .i64 0, .slice none 0 0, .slice none 0 0, .int .i64 0, .string ⟨#[]⟩, .string ⟨#[]⟩, .int .i64 0],7, .rw⟩::t)) ∧
   ∀(j:Nat) (hj:j<V.length),j<i->V[j].1<v.1) ?_ ?_
  ·exact ⟨_,⟨rfl,rfl,rfl,rfl,trivial⟩, .rfl,fun j _ hj=>absurd hj (by omega)⟩
  ·rintro i e _ hi ⟨t,⟨e2,e3,e4,e6,_⟩,rfl,hlo⟩
   have fin:(∀hi:i<V.length,¬V[i].1<v.1)->low (V.map fun q=>q.1) v.1=i:=fun hn=>
    low_eq (by simpa using hi) (fun j hj hji=>by rw [List.getElem_map];exact hlo j (by simpa using hj) hji) (fun hi=>by rw [List.getElem_map];exact hn (by simpa using hi))
   have hins:((insV V v).map vlv).flatten=((V.take (low (V.map fun q=>q.1) v.1)).map vlv).flatten ++ .int .i64 v.1 :: .int .i64 v.2.1 :: .int .i64 v.2.2.1 :: .bool v.2.2.2::((V.drop (low (V.map fun q=>q.1) v.1)).map vlv).flatten:=by
    simp [insV,insAt,vlv]
   have hlen:(insV V v).length=V.length+1:=insAt_len insV_k
   have big:V.length*32<=140737488355328:=by omega
   by_cases hlt:i<V.length
   ·have hlt':i<(V.map vlv).length:=by simpa using hlt
    have hz:(i:Int)<V.length:=by omega
    have ws:=wsucc hlt (by omega)
    obtain ⟨id2,o,k,hv',hk,_,hd,hb,hrow,hat⟩:=sV.at hlt'
    obtain rfl:a=some ⟨id2,o,none⟩:=by simpa using hv'
    have g0:=hat 0 (by omega)
    rw [List.getElem_map] at g0
    simp only [vlv,List.getElem?_cons_zero,Nat.add_zero] at g0
    by_cases c:V[i].1<v.1
    ·simp only [go_sem,e2,e3,e4,e6,hz,hk,hd,g0,c]
     refine ⟨hlt,t,⟨e2,e3,e4,congrArg _ ws,trivial⟩, .rfl,fun j hj hji => ?_⟩
     by_cases hj2:j<i
     ·exact hlo j hj hj2
     ·obtain rfl:j=i:=by omega
      exact c
    ·have hlow:=fin (fun _=>c)
     clear fin
     rw [hlow] at hins
     simp only [go_sem,e2,e3,e4,e6,hz,hk,hd,g0,c]
     have hn:0<V.length:=by omega
     have c1:0<V.length-i:=by omega
     have hne:V.map vlv≠ []:=by intro hh;rw [List.map_eq_nil_iff] at hh;subst hh;simp at hn
     obtain ⟨id3,off,k3,ev,hk3,hd3,hbb,hfl⟩:=sV.copy hne
     rw [List.length_map] at ev hbb hfl
     obtain ⟨rfl,rfl⟩:id3=id2∧off=o:=by
      simp only [Value.slice.injEq,Option.some.injEq,Addr.mk.injEq] at ev
      omega
     obtain rfl:k=k3:=Option.some.inj ((hk []).symm.trans (hk3 []))
     obtain ⟨k4,hk4,hez⟩:=es id3 off V.length rfl (by omega)
     have hk0:=hk3 []
     rw [List.append_nil,hk4] at hk0
     cases hk0
     have f1:=rowsTake vlv4 hfl (i:=i) (by omega)
     have f2:=rowsDrop vlv4 hfl (i:=i) (by omega)
     have o1:=oneVv (V.take i)
     have o2:=oneVv (V.drop i)
     by_cases i0:i=0
     ·subst i0
      simp only [Nat.zero_mul,Nat.sub_zero,Nat.add_zero,List.drop_zero] at f2 o2
      simp only [go_sem,e2,e3,e4,e6,onSl_more hn,slId_more hn,hk3,hd3,hez,onApp_more hn,f2,o2,hn,big]
      refine ⟨by omega,by omega,by omega,by omega,by omega, ?_⟩
      refine ⟨by kernel_rfl,(c_l4Good _ _ N P (insV V v) (hv.mono (by simp)) (frG (lo:=0) (hi:=h.length+(t.length+12)) (j:=t.length+3+1+1+1) vlv4 (by first|(rw [hins];done)|(rw [hins];simp;done)|(rw [hins];simp [v0];done)|(rw [hins];simp;omega)) (by first|exact hlen.symm|(rw [hlen];omega)) (Nat.zero_le _) (by omega)).sl hP10 (by rw [hlen];omega)).use (fun _ m=>m) ?_⟩
      rintro _ _ ⟨rfl,⟨t5,rfl⟩⟩
      by_cases h3:valOk N P (insV V v)
      ·simp only [go_sem,e2,e3,e4,e6,decb h3,o0]
       rw [if_pos h3,if_pos h3]
       refine ⟨_,_,rfl,rfl,fun _=>frG (j:=t.length+3+1+1+1) vlv4 (by first|(rw [hins];done)|(rw [hins];simp;done)|(rw [hins];simp [v0];done)|(rw [hins];simp;omega)) (by first|exact hlen.symm|(rw [hlen];omega)) (by omega) (by omega),fun hh=>absurd h3 hh⟩
      ·simp only [go_sem,e2,e3,e4,e6,dect h3,o0]
       first|exact no _ _ _ h3|exact no0 _ _ _ h3|(rw [l0];exact no0 _ _ _ h3)
     ·have hip:0<i:=by omega
      simp only [go_sem,e2,e3,e4,e6,onSl_more hn,slId_more hn,hk3,hd3,hez,onApp_more hip,onApp_more c1,f1,f2,o1,o2,c1]
      have lT:(List.map vlv (List.take i V)).flatten.length=i*4:=by rw [flV,List.length_take];omega
      refine ⟨by omega,by omega,hip,by omega,by omega,by omega,by omega,by omega,by omega,by omega,by omega,by omega,by omega,by omega, ?_⟩
      refine ⟨by kernel_rfl,(c_l4Good _ _ N P (insV V v) (hv.mono (by simp)) (frG (lo:=0) (hi:=h.length+(t.length+12)) (j:=t.length+4+1+1+1) vlv4 (by first|(rw [hins];done)|(rw [hins];simp;done)|(rw [hins];simp [v0];done)|(rw [hins];simp;omega)) (by first|exact hlen.symm|(rw [hlen];omega)) (Nat.zero_le _) (by omega)).sl hP10 (by rw [hlen];omega)).use (fun _ m=>m) ?_⟩
      rintro _ _ ⟨rfl,⟨t5,rfl⟩⟩
      by_cases h3:valOk N P (insV V v)
      ·simp only [go_sem,e2,e3,e4,e6,decb h3,o0]
       rw [if_pos h3,if_pos h3]
       refine ⟨_,_,rfl,rfl,fun _=>frG (j:=t.length+4+1+1+1) vlv4 (by first|(rw [hins];done)|(rw [hins];simp;done)|(rw [hins];simp [v0];done)|(rw [hins];simp;omega)) (by first|exact hlen.symm|(rw [hlen];omega)) (by omega) (by omega),fun hh=>absurd h3 hh⟩
      ·simp only [go_sem,e2,e3,e4,e6,dect h3,o0]
       first|exact no _ _ _ h3|exact no0 _ _ _ h3|(rw [l0];exact no0 _ _ _ h3)
   ·obtain rfl:i=V.length:=by omega
    have hlow:=fin (fun hi=>absurd hi (by omega))
    clear fin
    rw [hlow] at hins
    simp only [go_sem,e2,e3,e4,e6,show ¬((V.length:Int)<V.length) by omega]
    by_cases v0:V= []
    ·have l0:V.length=0:=by simp [v0]
     have no0:=no
     rw [l0] at no0
     by_cases tt:True
     case neg=>exact absurd trivial tt
     case pos=>
      simp only [go_sem,e2,e3,e4,e6,l0]
      refine ⟨by kernel_rfl,(c_l4Good _ _ N P (insV V v) (hv.mono (by simp)) (frG (lo:=0) (hi:=h.length+(t.length+12)) (j:=t.length+2+1+1+1) vlv4 (by first|(rw [hins];done)|(rw [hins];simp;done)|(rw [hins];simp [v0];done)|(rw [hins];simp;omega)) (by first|exact hlen.symm|(rw [hlen];omega)) (Nat.zero_le _) (by omega)).sl hP10 (by rw [hlen];omega)).use (fun _ m=>m) ?_⟩
      rintro _ _ ⟨rfl,⟨t5,rfl⟩⟩
      by_cases h3:valOk N P (insV V v)
      ·simp only [go_sem,e2,e3,e4,e6,decb h3,o0]
       rw [if_pos h3,if_pos h3]
       refine ⟨_,_,rfl,rfl,fun _=>frG (j:=t.length+2+1+1+1) vlv4 (by first|(rw [hins];done)|(rw [hins];simp;done)|(rw [hins];simp [v0];done)|(rw [hins];simp;omega)) (by first|exact hlen.symm|(rw [hlen];omega)) (by omega) (by omega),fun hh=>absurd h3 hh⟩
      ·simp only [go_sem,e2,e3,e4,e6,dect h3,o0]
       first|exact no _ _ _ h3|exact no0 _ _ _ h3|(rw [l0];exact no0 _ _ _ h3)
    ·have hn:0<V.length:=List.length_pos_iff.2 v0
     have hne:V.map vlv≠ []:=by intro hh;rw [List.map_eq_nil_iff] at hh;subst hh;simp at hn
     obtain ⟨id3,off,k3,ev,hk3,hd3,hbb,hfl⟩:=sV.copy hne
     rw [List.length_map] at ev hbb hfl
     obtain rfl:a=some ⟨id3,off,none⟩:=by simpa using ev
     obtain ⟨k4,hk4,hez⟩:=es id3 off V.length rfl (by omega)
     have hk0:=hk3 []
     rw [List.append_nil,hk4] at hk0
     cases hk0
     have o1:=oneVv V
     by_cases tt:True
     case neg=>exact absurd trivial tt
     case pos=>
      simp only [go_sem,e2,e3,e4,e6,onSl_more hn,slId_more hn,hk3,hd3,hez,onApp_more hn,hfl,o1,hn,big,Nat.sub_self]
      have lT:(List.map vlv V).flatten.length=V.length*4:=by rw [flV]
      refine ⟨by omega,by omega,by omega,by omega,by omega,by omega, ?_⟩
      refine ⟨by kernel_rfl,(c_l4Good _ _ N P (insV V v) (hv.mono (by simp)) (frG (lo:=0) (hi:=h.length+(t.length+12)) (j:=t.length+3+1+1+1) vlv4 (by first|(rw [hins];done)|(rw [hins];simp;done)|(rw [hins];simp [v0];done)|(rw [hins];simp;omega)) (by first|exact hlen.symm|(rw [hlen];omega)) (Nat.zero_le _) (by omega)).sl hP10 (by rw [hlen];omega)).use (fun _ m=>m) ?_⟩
      rintro _ _ ⟨rfl,⟨t5,rfl⟩⟩
      by_cases h3:valOk N P (insV V v)
      ·simp only [go_sem,e2,e3,e4,e6,decb h3,o0]
       rw [if_pos h3,if_pos h3]
       refine ⟨_,_,rfl,rfl,fun _=>frG (j:=t.length+3+1+1+1) vlv4 (by first|(rw [hins];done)|(rw [hins];simp;done)|(rw [hins];simp [v0];done)|(rw [hins];simp;omega)) (by first|exact hlen.symm|(rw [hlen];omega)) (by omega) (by omega),fun hh=>absurd h3 hh⟩
      ·simp only [go_sem,e2,e3,e4,e6,dect h3,o0]
       first|exact no _ _ _ h3|exact no0 _ _ _ h3|(rw [l0];exact no0 _ _ _ h3)
end
open Go.HH Go.Proofs
section
variable {h : Heap} {M : Nat → Prop}
theorem c_l4TurnedF (w:Value) (V:List Vlv) (i:Nat) (sh:Bool) (sv:Sl h 4 w (V.map vlv)) (hi:i<V.length) (hV:V.length<=1000) :
  vCall [] Tryz.prog M 192 [w, .int .i64 i, .bool sh] h (fun r h'=>FQs h.length h'.length 4 h' r ((turnV V i sh).map vlv)∧h<+:h'):=by
 obtain ⟨a,ew,_,_⟩:=id sv
 rw [List.length_map] at ew
 subst ew
 have hv0:0<V.length:=by omega
 have hz:(i:Int)<V.length:=by omega
 have z0:(0:Int)<=i:=by omega
 obtain ⟨id,off,k,ev,hk,hd,hbb,hfl⟩:=sv.copy (by have:=List.length_pos_iff.1 hv0;simpa using this)
 rw [List.length_map] at ev hbb hfl
 obtain rfl:a=some ⟨id,off,none⟩:=by simpa using ev
 have hone:=oneVv V
 have hlen:=flV V
 have hT:=turnV_flat (sh:=sh) hi
 rw [flat_cut hi] at hfl hone hlen
 have hPl:((V.take i).map vlv).flatten.length=i*4:=by rw [flV,List.length_take];omega
 have hSl: ∀(r:Value) (H:Heap) (X hi:Nat),r = .slice (some ⟨X,0,none⟩) V.length 0->h.length<=X->X<hi->hget H X=some ⟨((turnV V i sh).map vlv).flatten,4, .rw⟩->FQs h.length hi 4 H r ((turnV V i sh).map vlv):=fun r H X hi e h1 h2 g=>
  .inl ⟨X,by rw [List.length_map,turnV_len];exact e,h1,h2,g,fun r hr=>by obtain ⟨x,_,rfl⟩:=List.mem_map.1 hr;rfl⟩
 obtain ⟨A,hA⟩: ∃A,A=((V.take i).map vlv).flatten:=⟨_,rfl⟩
 obtain ⟨B,hB⟩: ∃B,B=((V.drop (i+1)).map vlv).flatten:=⟨_,rfl⟩
 rw [←hA, ←hB] at hfl hone hlen hT
 rw [←hA] at hPl
 have tk:List.take 4 (List.drop (i*4) (A ++ .int .i64 V[i].1 :: .int .i64 V[i].2.1 :: .int .i64 V[i].2.2.1 :: .bool V[i].2.2.2::B))= [.int .i64 V[i].1, .int .i64 V[i].2.1, .int .i64 V[i].2.2.1, .bool V[i].2.2.2]:=by
  rw [←hPl,List.drop_left' rfl];rfl
 have st: ∀a b c d,setRange (A ++ .int .i64 V[i].1 :: .int .i64 V[i].2.1 :: .int .i64 V[i].2.2.1 :: .bool V[i].2.2.2::B) (i*4) [a,b,c,d]=A++a::b::c::d::B:=fun a b c d=>set4all hPl
 have hlb:i*4+4<=V.length*4:=by omega
 refine body_of mo Tryz.func192 rfl (by kernel_rfl) (Nat.le_of_ble_eq_true (by kernel_rfl)) rfl ?_
 simp only [go_sem,onApp_more hv0,hv0,hk,hd,hbb,hfl,hone,show V.length<=9223372036854775807 by omega,show V.length*32<=140737488355328 by omega,hz,z0,tk,hlen,hlb,st]
 have hge: ∀k:Nat,h.length<=h.length+k:=fun k=>by omega
 refine hSl _ _ _ _ rfl (hge _) (by omega) ?_
 rw [hT]
 simp only [go_sem]
theorem c_sTurnValveF {n:Nat} (v w:Value) (N:Int) (P:List Pip) (V:List Vlv) (vi:Int) (sh:Bool) (hv:NA n h v N P) (sv:Sl h 4 w (V.map vlv)) (hP:P.length<=1048576) (hV:V.length<=1048576) :
  vCall [] Tryz.prog M 152 [v,w, .int .i64 vi, .bool sh] h (fun r h'=>(∃x,r = .tuple #[x, .bool (decide (turnOk N P V vi sh))]∧FQs h.length h'.length 4 h' x ((turnR N P V vi sh).map vlv))∧h<+:h'):=by
 obtain ⟨wp,rfl,sp⟩:=id hv
 obtain ⟨a,ew,_,_⟩:=id sv
 rw [List.length_map] at ew
 subst ew
 have bad: ∀(x:Option Addr) (lo hi:Nat) (H:Heap),¬turnOk N P V vi sh->∃y,Value.tuple #[Value.slice x 0 0, .bool false] = .tuple #[y, .bool (decide (turnOk N P V vi sh))]∧FQs lo hi 4 H y ((turnR N P V vi sh).map vlv):=fun x lo hi H hn=>
  ⟨_,congrArg (fun b=>Value.tuple #[_,Value.bool b]) (decide_eq_false hn).symm,by rw [turnR,if_neg hn];exact fq0⟩
 refine body_of mo Tryz.func152 rfl (by kernel_rfl) (Nat.le_of_ble_eq_true (by kernel_rfl)) rfl ?_
 simp only [go_sem]
 refine ⟨by kernel_rfl,(c_l4Find _ V vi (sv.mono (by simp)) hV).use (fun _ m=>m) ?_⟩
 rintro _ _ ⟨rfl,rfl⟩
 simp only [go_sem]
 refine ⟨by kernel_rfl,(c_l4Good _ _ N P V (hv.mono (by simp)) (sv.mono (by simp)) hP hV).use (fun _ m=>m) ?_⟩
 rintro _ _ ⟨rfl,⟨t2,rfl⟩⟩
 by_cases h1:valOk N P V
 ·by_cases h2:vidx V vi<0
  ·simp only [go_sem,decb h1,decb h2]
   exact bad _ _ _ _ (fun hh=>by have:=hh.2.1;omega)
  ·have hk:=vidx_lt (V:=V) (id:=vi) (by omega)
   have hV10:=h1.2.1
   have hok:turnOk N P V vi sh↔(V.getD (vidx V vi).toNat vlv0).2.2.2≠sh:=⟨fun hh=>hh.2.2,fun hh=>⟨h1,by omega,hh⟩⟩
   obtain ⟨k,hk2⟩: ∃k:Nat,vidx V vi=k:=⟨(vidx V vi).toNat,by omega⟩
   have hT: ∀(_:turnOk N P V vi sh),turnR N P V vi sh=turnV V k sh:=fun hh=>by rw [turnR,if_pos hh,hk2];rfl
   rw [hk2,Int.toNat_natCast] at hok hk
   rw [getDv hk] at hok
   rw [hk2] at h2 ⊢
   have hk':k<(V.map vlv).length:=by simpa using hk
   have hz:(k:Int)<V.length:=by omega
   have z0:(0:Int)<=k:=by omega
   obtain ⟨id2,o,K,hvv,hK,_,hd,hb,hrow,hat⟩:=sv.at hk'
   obtain rfl:a=some ⟨id2,o,none⟩:=by simpa using hvv
   have g3:=hat 3 (by omega)
   rw [List.getElem_map] at g3
   simp only [vlv,List.getElem?_cons_zero,List.getElem?_cons_succ] at g3
   simp only [go_sem,decb h1,dect h2,hz,z0,hK,hd,g3,Tryz.underlying4]
   cases q:(V[k].2.2.2==sh) with
   | true=>
    simp only [go_sem,decb h1,dect h2,q]
    exact bad _ _ _ _ (fun hh=>hok.1 hh (by simpa using q))
   | false=>
    have hyes:turnOk N P V vi sh:=hok.2 (by simpa using q)
    simp only [go_sem,decb h1,dect h2,q]
    refine ⟨by kernel_rfl,(c_l4TurnedF _ V k sh (sv.mono (by simp)) hk (by omega)).use (fun _ m=>m) ?_⟩
    rintro x _ ⟨sx,⟨t3,rfl⟩⟩
    simp only [go_sem]
    rw [hT hyes]
    exact ⟨_,congrArg (fun b=>Value.tuple #[_,Value.bool b]) (decide_eq_true hyes).symm,FQs.wide (by simpa using sx) (by simp) (by simp)⟩
 ·simp only [go_sem,dect h1]
  exact bad _ _ _ _ (fun hh=>h1 hh.1)
end
open Go.HH Go.Proofs
noncomputable def editT (C:Con) (w:ByteArray) (l:List Int):ByteArray:=if (editR C w l).isSome then w_ok else w_no
theorem FQs.w4 {h t:Heap} {a b c d a' b' c' d':Blk} {lo hi:Nat} {v:Value} {rows:List (List Value)} (s:FQs lo hi 4 (h++ [a,b,c,d]++t) v rows) (hl:(h++ [a,b,c,d]).length<=lo):FQs lo hi 4 (h++a'::b'::c'::d'::t) v rows:=by
 have:=s.swapped (y:= [a',b',c',d']) (by simpa using hl) rfl (Nat.le_refl _) (Nat.le_refl _)
 simpa using this
theorem FQs.w3 {h t:Heap} {a b c a' b' c':Blk} {lo hi:Nat} {v:Value} {rows:List (List Value)} (s:FQs lo hi 4 (h++ [a,b,c]++t) v rows) (hl:(h++ [a,b,c]).length<=lo):FQs lo hi 4 (h++a'::b'::c'::t) v rows:=by
 have:=s.swapped (y:= [a',b',c']) (by simpa using hl) rfl (Nat.le_refl _) (Nat.le_refl _)
 simpa using this
def Rw (lo:Nat) (H:Heap) (w x:Value) (r0 r:List (List Value)):Prop:=(x=w∧r=r0)∨FQs lo H.length 4 H x r
theorem Rw.one {lo:Nat} {H:Heap} {w x:Value} {r0 r:List (List Value)} (s:Rw lo H w x r0 r) (o:oneC w=true):oneC x=true:=by
 rcases s with ⟨rfl,_⟩|s
 ·exact o
 ·exact s.one
section
variable {h : Heap} {M : Nat → Prop}
set_option maxRecDepth 4000 in
theorem c_l28EditP {n:Nat} (C:Con) (wP wV vl:Value) (l:List Int) (sP:SB n 4 h wP (C.P.map pip)) (sV:Sl h 4 wV (C.V.map vlv)) (esP:EszC h 4 wP) (es:EszC h 4 wV) (g:conOk C) (sl:SI h vl l) :
  vCall [] Tryz.prog M 114 [conV C wP wV, .string w_pipe,vl] h (fun r h'=>(∃E xP xV,r = .tuple #[conV E xP xV, .string (editT C w_pipe l)]∧E=(editR C w_pipe l).getD C∧Rw h.length h' wP xP (C.P.map pip) (E.P.map pip)∧Rw h.length h' wV xV (C.V.map vlv) (E.V.map vlv))∧h<+:h'):=by
 obtain ⟨N,P,V,src,D,Q,cnt⟩:=C
 have hP10:P.length<=1048576:=Nat.le_trans g.1.1.2.2 (by decide)
 have hV10:V.length<=1048576:=Nat.le_trans g.1.2.1 (by decide)
 simp only at sP sV esP es
 have o0:oneC wP=true:=by obtain ⟨a,e,_⟩:=sP.1;rw [e];rfl
 have o0v:oneC wV=true:=by obtain ⟨a,e,_⟩:=sV;rw [e];rfl
 have hv:NA n h (.agg #[.int .i64 N,wP]) N P:=⟨wP,rfl,sP⟩
 have no: ∀(H:Heap),editR ⟨N,P,V,src,D,Q,cnt⟩ w_pipe l=none->∃E xP xV,Value.tuple #[conV ⟨N,P,V,src,D,Q,cnt⟩ wP wV, .string w_no] = .tuple #[conV E xP xV, .string (editT ⟨N,P,V,src,D,Q,cnt⟩ w_pipe l)]∧E=(editR ⟨N,P,V,src,D,Q,cnt⟩ w_pipe l).getD ⟨N,P,V,src,D,Q,cnt⟩∧Rw h.length H wP xP (P.map pip) (E.P.map pip)∧Rw h.length H wV xV (V.map vlv) (E.V.map vlv):=fun H hn=>by
  rw [editT,hn]
  exact ⟨_,_,_,rfl,rfl, .inl ⟨rfl,rfl⟩, .inl ⟨rfl,rfl⟩⟩
 have yes: ∀(H:Heap) (E:Con) (xP xV:Value),editR ⟨N,P,V,src,D,Q,cnt⟩ w_pipe l=some E->Rw h.length H wP xP (P.map pip) (E.P.map pip)->Rw h.length H wV xV (V.map vlv) (E.V.map vlv)->∃E₁ yP yV,Value.tuple #[conV E xP xV, .string w_ok] = .tuple #[conV E₁ yP yV, .string (editT ⟨N,P,V,src,D,Q,cnt⟩ w_pipe l)]∧E₁=(editR ⟨N,P,V,src,D,Q,cnt⟩ w_pipe l).getD ⟨N,P,V,src,D,Q,cnt⟩∧Rw h.length H wP yP (P.map pip) (E₁.P.map pip)∧Rw h.length H wV yV (V.map vlv) (E₁.V.map vlv):=fun H E xP xV hn h1 h2=>by
  rw [editT,hn]
  exact ⟨_,_,_,rfl,rfl,h1,h2⟩
 have qp:decide (w_pipe=w_pipe)=true:=by decide
 have qv:decide (w_pipe=w_valve)=false:=by decide
 have qs:decide (w_pipe=w_shut)=false:=by decide
 have qo:decide (w_pipe=w_open)=false:=by decide
 have qr:decide (w_pipe=w_source)=false:=by decide
 obtain ⟨a0,rfl⟩:=AI.len sl
 refine body_ofR ([(4,[]),(8,[])]) mo Tryz.func114 rfl (by kernel_rfl) (Nat.le_of_ble_eq_true (by kernel_rfl)) rfl ?_
 by_cases lk:l.length=4
 case neg=>
  have he:editR ⟨N,P,V,src,D,Q,cnt⟩ w_pipe l=none:=by
   rw [editR]
   repeat rw [if_neg (by decide)]
   first|rw [if_pos rfl]|rw [if_pos (by decide)]
   rw [if_neg (fun hh=>lk hh.1)]
  have nl:((l.length:Int)==4)=false:=by rw [beq_eq_false_iff_ne];omega
  simp only [go_sem,conV,toList_eq,qp,qv,qs,qo,qr,o0,o0v,nl]
  exact no _ he
 case pos=>
  obtain ⟨idl,offl,kl,hvl,_,hkl,_,hdl,_,_,_,hat⟩:=AI.at sl (by omega)
  obtain rfl:a0=some ⟨idl,offl,none⟩:=by simpa using hvl
  have p0:=hat 0 (by omega)
  rw [gl_at] at p0
  simp only [Nat.add_zero] at p0
  have p1:=hat 1 (by omega)
  have p2:=hat 2 (by omega)
  have p3:=hat 3 (by omega)
  rw [gl_at] at p1 p2 p3
  simp only [go_sem,conV,toList_eq,qp,qv,qs,qo,qr,o0,o0v,hkl,hdl,p0,p1,p2,p3,lk]
  refine ⟨by kernel_rfl,(c_sAddPipe wP N P (pipOf l) (sP.mono (by simp)) (esP.mono (by simp)) hP10).use (fun _ m=>m) ?_⟩
  rintro _ _ ⟨⟨x,rfl,fx⟩,⟨t,rfl⟩⟩
  have ox:=fx.one
  by_cases c:addOk N P (pipOf l)
  ·have he:editR ⟨N,P,V,src,D,Q,cnt⟩ w_pipe l=some ⟨N,insP P (pipOf l),V,src,D,Q,cnt⟩:=by
    rw [editR,if_pos rfl,if_pos ⟨lk,c⟩]
   rw [addR,if_pos c] at fx
   have ea:addN N P (pipOf l)=N:=by rw [addN,if_pos c]
   simp only [go_sem,decb c,ea,o0,o0v,ox]
   exact yes _ ⟨N,insP P (pipOf l),V,src,D,Q,cnt⟩ x wV he (.inr ((FQs.w4 fx (by simp)).wide (by simp) (by simp))) (.inl ⟨rfl,rfl⟩)
  ·have he:editR ⟨N,P,V,src,D,Q,cnt⟩ w_pipe l=none:=by
    rw [editR,if_pos rfl,if_neg (fun hh=>c hh.2)]
   simp only [go_sem,dect c,o0,o0v,ox]
   exact no _ he
set_option maxRecDepth 4000 in
theorem c_l28EditS {n:Nat} (C:Con) (wP wV vl:Value) (l:List Int) (sP:SB n 4 h wP (C.P.map pip)) (sV:Sl h 4 wV (C.V.map vlv)) (esP:EszC h 4 wP) (es:EszC h 4 wV) (g:conOk C) (sl:SI h vl l) :
  vCall [] Tryz.prog M 114 [conV C wP wV, .string w_source,vl] h (fun r h'=>(∃E xP xV,r = .tuple #[conV E xP xV, .string (editT C w_source l)]∧E=(editR C w_source l).getD C∧Rw h.length h' wP xP (C.P.map pip) (E.P.map pip)∧Rw h.length h' wV xV (C.V.map vlv) (E.V.map vlv))∧h<+:h'):=by
 obtain ⟨N,P,V,src,D,Q,cnt⟩:=C
 have hP10:P.length<=1048576:=Nat.le_trans g.1.1.2.2 (by decide)
 have hV10:V.length<=1048576:=Nat.le_trans g.1.2.1 (by decide)
 simp only at sP sV esP es
 have o0:oneC wP=true:=by obtain ⟨a,e,_⟩:=sP.1;rw [e];rfl
 have o0v:oneC wV=true:=by obtain ⟨a,e,_⟩:=sV;rw [e];rfl
 have hv:NA n h (.agg #[.int .i64 N,wP]) N P:=⟨wP,rfl,sP⟩
 have no: ∀(H:Heap),editR ⟨N,P,V,src,D,Q,cnt⟩ w_source l=none->∃E xP xV,Value.tuple #[conV ⟨N,P,V,src,D,Q,cnt⟩ wP wV, .string w_no] = .tuple #[conV E xP xV, .string (editT ⟨N,P,V,src,D,Q,cnt⟩ w_source l)]∧E=(editR ⟨N,P,V,src,D,Q,cnt⟩ w_source l).getD ⟨N,P,V,src,D,Q,cnt⟩∧Rw h.length H wP xP (P.map pip) (E.P.map pip)∧Rw h.length H wV xV (V.map vlv) (E.V.map vlv):=fun H hn=>by
  rw [editT,hn]
  exact ⟨_,_,_,rfl,rfl, .inl ⟨rfl,rfl⟩, .inl ⟨rfl,rfl⟩⟩
 have yes: ∀(H:Heap) (E:Con) (xP xV:Value),editR ⟨N,P,V,src,D,Q,cnt⟩ w_source l=some E->Rw h.length H wP xP (P.map pip) (E.P.map pip)->Rw h.length H wV xV (V.map vlv) (E.V.map vlv)->∃E₁ yP yV,Value.tuple #[conV E xP xV, .string w_ok] = .tuple #[conV E₁ yP yV, .string (editT ⟨N,P,V,src,D,Q,cnt⟩ w_source l)]∧E₁=(editR ⟨N,P,V,src,D,Q,cnt⟩ w_source l).getD ⟨N,P,V,src,D,Q,cnt⟩∧Rw h.length H wP yP (P.map pip) (E₁.P.map pip)∧Rw h.length H wV yV (V.map vlv) (E₁.V.map vlv):=fun H E xP xV hn h1 h2=>by
  rw [editT,hn]
  exact ⟨_,_,_,rfl,rfl,h1,h2⟩
 have qp:decide (w_source=w_pipe)=false:=by decide
 have qv:decide (w_source=w_valve)=false:=by decide
 have qs:decide (w_source=w_shut)=false:=by decide
 have qo:decide (w_source=w_open)=false:=by decide
 have qr:decide (w_source=w_source)=true:=by decide
 obtain ⟨a0,rfl⟩:=AI.len sl
 refine body_ofR ([(4,[]),(8,[])]) mo Tryz.func114 rfl (by kernel_rfl) (Nat.le_of_ble_eq_true (by kernel_rfl)) rfl ?_
 by_cases lk:l.length=1
 case neg=>
  have he:editR ⟨N,P,V,src,D,Q,cnt⟩ w_source l=none:=by
   rw [editR]
   repeat rw [if_neg (by decide)]
   first|rw [if_pos rfl]|rw [if_pos (by decide)]
   rw [if_neg (fun hh=>lk hh.1)]
  have nl:((l.length:Int)==1)=false:=by rw [beq_eq_false_iff_ne];omega
  simp only [go_sem,conV,toList_eq,qp,qv,qs,qo,qr,o0,o0v,nl]
  exact no _ he
 case pos=>
  obtain ⟨idl,offl,kl,hvl,_,hkl,_,hdl,_,_,_,hat⟩:=AI.at sl (by omega)
  obtain rfl:a0=some ⟨idl,offl,none⟩:=by simpa using hvl
  have p0:=hat 0 (by omega)
  rw [gl_at] at p0
  simp only [Nat.add_zero] at p0
  simp only [go_sem,conV,toList_eq,qp,qv,qs,qo,qr,o0,o0v,hkl,hdl,p0,lk]
  refine ⟨by kernel_rfl,(c_l2NodeC _ N P (gl l 0) (hv.mono (by simp)) hP10).use (fun _ m=>m) ?_⟩
  rintro _ _ ⟨rfl,⟨t,rfl⟩⟩
  by_cases c:netGood N P∧1<=gl l 0∧gl l 0<=N
  ·have he:editR ⟨N,P,V,src,D,Q,cnt⟩ w_source l=some ⟨N,P,V,gl l 0,D,Q,cnt⟩:=by
    rw [editR,if_neg (by decide),if_neg (by decide),if_neg (by decide),if_pos rfl,if_pos ⟨lk,c.2⟩]
   simp only [go_sem,decb c,o0,o0v]
   exact yes _ ⟨N,P,V,gl l 0,D,Q,cnt⟩ wP wV he (.inl ⟨rfl,rfl⟩) (.inl ⟨rfl,rfl⟩)
  ·have he:editR ⟨N,P,V,src,D,Q,cnt⟩ w_source l=none:=by
    rw [editR,if_neg (by decide),if_neg (by decide),if_neg (by decide),if_pos rfl,if_neg (fun hh=>c ⟨g.1.1,hh.2⟩)]
   simp only [go_sem,dect c,o0,o0v]
   exact no _ he
set_option maxRecDepth 4000 in
theorem c_l28EditH {n:Nat} (C:Con) (wP wV vl:Value) (l:List Int) (sP:SB n 4 h wP (C.P.map pip)) (sV:Sl h 4 wV (C.V.map vlv)) (esP:EszC h 4 wP) (es:EszC h 4 wV) (g:conOk C) (sl:SI h vl l) :
  vCall [] Tryz.prog M 114 [conV C wP wV, .string w_shut,vl] h (fun r h'=>(∃E xP xV,r = .tuple #[conV E xP xV, .string (editT C w_shut l)]∧E=(editR C w_shut l).getD C∧Rw h.length h' wP xP (C.P.map pip) (E.P.map pip)∧Rw h.length h' wV xV (C.V.map vlv) (E.V.map vlv))∧h<+:h'):=by
 obtain ⟨N,P,V,src,D,Q,cnt⟩:=C
 have hP10:P.length<=1048576:=Nat.le_trans g.1.1.2.2 (by decide)
 have hV10:V.length<=1048576:=Nat.le_trans g.1.2.1 (by decide)
 simp only at sP sV esP es
 have o0:oneC wP=true:=by obtain ⟨a,e,_⟩:=sP.1;rw [e];rfl
 have o0v:oneC wV=true:=by obtain ⟨a,e,_⟩:=sV;rw [e];rfl
 have hv:NA n h (.agg #[.int .i64 N,wP]) N P:=⟨wP,rfl,sP⟩
 have no: ∀(H:Heap),editR ⟨N,P,V,src,D,Q,cnt⟩ w_shut l=none->∃E xP xV,Value.tuple #[conV ⟨N,P,V,src,D,Q,cnt⟩ wP wV, .string w_no] = .tuple #[conV E xP xV, .string (editT ⟨N,P,V,src,D,Q,cnt⟩ w_shut l)]∧E=(editR ⟨N,P,V,src,D,Q,cnt⟩ w_shut l).getD ⟨N,P,V,src,D,Q,cnt⟩∧Rw h.length H wP xP (P.map pip) (E.P.map pip)∧Rw h.length H wV xV (V.map vlv) (E.V.map vlv):=fun H hn=>by
  rw [editT,hn]
  exact ⟨_,_,_,rfl,rfl, .inl ⟨rfl,rfl⟩, .inl ⟨rfl,rfl⟩⟩
 have yes: ∀(H:Heap) (E:Con) (xP xV:Value),editR ⟨N,P,V,src,D,Q,cnt⟩ w_shut l=some E->Rw h.length H wP xP (P.map pip) (E.P.map pip)->Rw h.length H wV xV (V.map vlv) (E.V.map vlv)->∃E₁ yP yV,Value.tuple #[conV E xP xV, .string w_ok] = .tuple #[conV E₁ yP yV, .string (editT ⟨N,P,V,src,D,Q,cnt⟩ w_shut l)]∧E₁=(editR ⟨N,P,V,src,D,Q,cnt⟩ w_shut l).getD ⟨N,P,V,src,D,Q,cnt⟩∧Rw h.length H wP yP (P.map pip) (E₁.P.map pip)∧Rw h.length H wV yV (V.map vlv) (E₁.V.map vlv):=fun H E xP xV hn h1 h2=>by
  rw [editT,hn]
  exact ⟨_,_,_,rfl,rfl,h1,h2⟩
 have qp:decide (w_shut=w_pipe)=false:=by decide
 have qv:decide (w_shut=w_valve)=false:=by decide
 have qs:decide (w_shut=w_shut)=true:=by decide
 have qo:decide (w_shut=w_open)=false:=by decide
 have qr:decide (w_shut=w_source)=false:=by decide
 obtain ⟨a0,rfl⟩:=AI.len sl
 refine body_ofR ([(4,[]),(8,[])]) mo Tryz.func114 rfl (by kernel_rfl) (Nat.le_of_ble_eq_true (by kernel_rfl)) rfl ?_
 by_cases lk:l.length=1
 case neg=>
  have he:editR ⟨N,P,V,src,D,Q,cnt⟩ w_shut l=none:=by
   rw [editR]
   repeat rw [if_neg (by decide)]
   first|rw [if_pos rfl]|rw [if_pos (by decide)]
   rw [if_neg (fun hh=>lk hh.1)]
  have nl:((l.length:Int)==1)=false:=by rw [beq_eq_false_iff_ne];omega
  simp only [go_sem,conV,toList_eq,qp,qv,qs,qo,qr,o0,o0v,nl]
  exact no _ he
 case pos=>
  obtain ⟨idl,offl,kl,hvl,_,hkl,_,hdl,_,_,_,hat⟩:=AI.at sl (by omega)
  obtain rfl:a0=some ⟨idl,offl,none⟩:=by simpa using hvl
  have p0:=hat 0 (by omega)
  rw [gl_at] at p0
  simp only [Nat.add_zero] at p0
  simp only [go_sem,conV,toList_eq,qp,qv,qs,qo,qr,o0,o0v,hkl,hdl,p0,lk]
  refine ⟨by kernel_rfl,(c_sTurnValveF _ wV N P V (gl l 0) true (hv.mono (by simp)) (sV.mono (by simp)) hP10 hV10).use (fun _ m=>m) ?_⟩
  rintro _ _ ⟨⟨x,rfl,fx⟩,⟨t,rfl⟩⟩
  obtain ⟨xa,xn,rfl⟩: ∃a m,x = .slice a m 0:=by rcases fx with ⟨id,rfl,_⟩|⟨_,a,rfl⟩<;>exact ⟨_,_,rfl⟩
  by_cases c:turnOk N P V (gl l 0) true
  ·have he:editR ⟨N,P,V,src,D,Q,cnt⟩ w_shut l=some ⟨N,P,turnR N P V (gl l 0) true,src,D,Q,cnt⟩:=by
    rw [editR,if_neg (by decide),if_neg (by decide),if_pos (by decide),show decide (w_shut=w_shut)=true from by decide,if_pos ⟨lk,c⟩]
   simp only [go_sem,decb c,o0,o0v]
   exact yes _ ⟨N,P,turnR N P V (gl l 0) true,src,D,Q,cnt⟩ wP _ he (.inl ⟨rfl,rfl⟩) (.inr ((FQs.w3 fx (by simp)).wide (by simp) (by simp)))
  ·have he:editR ⟨N,P,V,src,D,Q,cnt⟩ w_shut l=none:=by
    rw [editR,if_neg (by decide),if_neg (by decide),if_pos (by decide),show decide (w_shut=w_shut)=true from by decide,if_neg (fun hh=>c hh.2)]
   simp only [go_sem,dect c,o0,o0v]
   exact no _ he
set_option maxRecDepth 4000 in
theorem c_l28EditO {n:Nat} (C:Con) (wP wV vl:Value) (l:List Int) (sP:SB n 4 h wP (C.P.map pip)) (sV:Sl h 4 wV (C.V.map vlv)) (esP:EszC h 4 wP) (es:EszC h 4 wV) (g:conOk C) (sl:SI h vl l) :
  vCall [] Tryz.prog M 114 [conV C wP wV, .string w_open,vl] h (fun r h'=>(∃E xP xV,r = .tuple #[conV E xP xV, .string (editT C w_open l)]∧E=(editR C w_open l).getD C∧Rw h.length h' wP xP (C.P.map pip) (E.P.map pip)∧Rw h.length h' wV xV (C.V.map vlv) (E.V.map vlv))∧h<+:h'):=by
 obtain ⟨N,P,V,src,D,Q,cnt⟩:=C
 have hP10:P.length<=1048576:=Nat.le_trans g.1.1.2.2 (by decide)
 have hV10:V.length<=1048576:=Nat.le_trans g.1.2.1 (by decide)
 simp only at sP sV esP es
 have o0:oneC wP=true:=by obtain ⟨a,e,_⟩:=sP.1;rw [e];rfl
 have o0v:oneC wV=true:=by obtain ⟨a,e,_⟩:=sV;rw [e];rfl
 have hv:NA n h (.agg #[.int .i64 N,wP]) N P:=⟨wP,rfl,sP⟩
 have no: ∀(H:Heap),editR ⟨N,P,V,src,D,Q,cnt⟩ w_open l=none->∃E xP xV,Value.tuple #[conV ⟨N,P,V,src,D,Q,cnt⟩ wP wV, .string w_no] = .tuple #[conV E xP xV, .string (editT ⟨N,P,V,src,D,Q,cnt⟩ w_open l)]∧E=(editR ⟨N,P,V,src,D,Q,cnt⟩ w_open l).getD ⟨N,P,V,src,D,Q,cnt⟩∧Rw h.length H wP xP (P.map pip) (E.P.map pip)∧Rw h.length H wV xV (V.map vlv) (E.V.map vlv):=fun H hn=>by
  rw [editT,hn]
  exact ⟨_,_,_,rfl,rfl, .inl ⟨rfl,rfl⟩, .inl ⟨rfl,rfl⟩⟩
 have yes: ∀(H:Heap) (E:Con) (xP xV:Value),editR ⟨N,P,V,src,D,Q,cnt⟩ w_open l=some E->Rw h.length H wP xP (P.map pip) (E.P.map pip)->Rw h.length H wV xV (V.map vlv) (E.V.map vlv)->∃E₁ yP yV,Value.tuple #[conV E xP xV, .string w_ok] = .tuple #[conV E₁ yP yV, .string (editT ⟨N,P,V,src,D,Q,cnt⟩ w_open l)]∧E₁=(editR ⟨N,P,V,src,D,Q,cnt⟩ w_open l).getD ⟨N,P,V,src,D,Q,cnt⟩∧Rw h.length H wP yP (P.map pip) (E₁.P.map pip)∧Rw h.length H wV yV (V.map vlv) (E₁.V.map vlv):=fun H E xP xV hn h1 h2=>by
  rw [editT,hn]
  exact ⟨_,_,_,rfl,rfl,h1,h2⟩
 have qp:decide (w_open=w_pipe)=false:=by decide
 have qv:decide (w_open=w_valve)=false:=by decide
 have qs:decide (w_open=w_shut)=false:=by decide
 have qo:decide (w_open=w_open)=true:=by decide
 have qr:decide (w_open=w_source)=false:=by decide
 obtain ⟨a0,rfl⟩:=AI.len sl
 refine body_ofR ([(4,[]),(8,[])]) mo Tryz.func114 rfl (by kernel_rfl) (Nat.le_of_ble_eq_true (by kernel_rfl)) rfl ?_
 by_cases lk:l.length=1
 case neg=>
  have he:editR ⟨N,P,V,src,D,Q,cnt⟩ w_open l=none:=by
   rw [editR]
   repeat rw [if_neg (by decide)]
   first|rw [if_pos rfl]|rw [if_pos (by decide)]
   rw [if_neg (fun hh=>lk hh.1)]
  have nl:((l.length:Int)==1)=false:=by rw [beq_eq_false_iff_ne];omega
  simp only [go_sem,conV,toList_eq,qp,qv,qs,qo,qr,o0,o0v,nl]
  exact no _ he
 case pos=>
  obtain ⟨idl,offl,kl,hvl,_,hkl,_,hdl,_,_,_,hat⟩:=AI.at sl (by omega)
  obtain rfl:a0=some ⟨idl,offl,none⟩:=by simpa using hvl
  have p0:=hat 0 (by omega)
  rw [gl_at] at p0
  simp only [Nat.add_zero] at p0
  simp only [go_sem,conV,toList_eq,qp,qv,qs,qo,qr,o0,o0v,hkl,hdl,p0,lk]
  refine ⟨by kernel_rfl,(c_sTurnValveF _ wV N P V (gl l 0) false (hv.mono (by simp)) (sV.mono (by simp)) hP10 hV10).use (fun _ m=>m) ?_⟩
  rintro _ _ ⟨⟨x,rfl,fx⟩,⟨t,rfl⟩⟩
  obtain ⟨xa,xn,rfl⟩: ∃a m,x = .slice a m 0:=by rcases fx with ⟨id,rfl,_⟩|⟨_,a,rfl⟩<;>exact ⟨_,_,rfl⟩
  by_cases c:turnOk N P V (gl l 0) false
  ·have he:editR ⟨N,P,V,src,D,Q,cnt⟩ w_open l=some ⟨N,P,turnR N P V (gl l 0) false,src,D,Q,cnt⟩:=by
    rw [editR,if_neg (by decide),if_neg (by decide),if_pos (by decide),show decide (w_open=w_shut)=false from by decide,if_pos ⟨lk,c⟩]
   simp only [go_sem,decb c,o0,o0v]
   exact yes _ ⟨N,P,turnR N P V (gl l 0) false,src,D,Q,cnt⟩ wP _ he (.inl ⟨rfl,rfl⟩) (.inr ((FQs.w3 fx (by simp)).wide (by simp) (by simp)))
  ·have he:editR ⟨N,P,V,src,D,Q,cnt⟩ w_open l=none:=by
    rw [editR,if_neg (by decide),if_neg (by decide),if_pos (by decide),show decide (w_open=w_shut)=false from by decide,if_neg (fun hh=>c hh.2)]
   simp only [go_sem,dect c,o0,o0v]
   exact no _ he
set_option maxRecDepth 4000 in
theorem c_l28EditV {n:Nat} (C:Con) (wP wV vl:Value) (l:List Int) (sP:SB n 4 h wP (C.P.map pip)) (sV:Sl h 4 wV (C.V.map vlv)) (esP:EszC h 4 wP) (es:EszC h 4 wV) (g:conOk C) (sl:SI h vl l) :
  vCall [] Tryz.prog M 114 [conV C wP wV, .string w_valve,vl] h (fun r h'=>(∃E xP xV,r = .tuple #[conV E xP xV, .string (editT C w_valve l)]∧E=(editR C w_valve l).getD C∧Rw h.length h' wP xP (C.P.map pip) (E.P.map pip)∧Rw h.length h' wV xV (C.V.map vlv) (E.V.map vlv))∧h<+:h'):=by
 obtain ⟨N,P,V,src,D,Q,cnt⟩:=C
 have hP10:P.length<=1048576:=Nat.le_trans g.1.1.2.2 (by decide)
 have hV10:V.length<=1048576:=Nat.le_trans g.1.2.1 (by decide)
 simp only at sP sV esP es
 have o0:oneC wP=true:=by obtain ⟨a,e,_⟩:=sP.1;rw [e];rfl
 have o0v:oneC wV=true:=by obtain ⟨a,e,_⟩:=sV;rw [e];rfl
 have hv:NA n h (.agg #[.int .i64 N,wP]) N P:=⟨wP,rfl,sP⟩
 have no: ∀(H:Heap),editR ⟨N,P,V,src,D,Q,cnt⟩ w_valve l=none->∃E xP xV,Value.tuple #[conV ⟨N,P,V,src,D,Q,cnt⟩ wP wV, .string w_no] = .tuple #[conV E xP xV, .string (editT ⟨N,P,V,src,D,Q,cnt⟩ w_valve l)]∧E=(editR ⟨N,P,V,src,D,Q,cnt⟩ w_valve l).getD ⟨N,P,V,src,D,Q,cnt⟩∧Rw h.length H wP xP (P.map pip) (E.P.map pip)∧Rw h.length H wV xV (V.map vlv) (E.V.map vlv):=fun H hn=>by
  rw [editT,hn]
  exact ⟨_,_,_,rfl,rfl, .inl ⟨rfl,rfl⟩, .inl ⟨rfl,rfl⟩⟩
 have yes: ∀(H:Heap) (E:Con) (xP xV:Value),editR ⟨N,P,V,src,D,Q,cnt⟩ w_valve l=some E->Rw h.length H wP xP (P.map pip) (E.P.map pip)->Rw h.length H wV xV (V.map vlv) (E.V.map vlv)->∃E₁ yP yV,Value.tuple #[conV E xP xV, .string w_ok] = .tuple #[conV E₁ yP yV, .string (editT ⟨N,P,V,src,D,Q,cnt⟩ w_valve l)]∧E₁=(editR ⟨N,P,V,src,D,Q,cnt⟩ w_valve l).getD ⟨N,P,V,src,D,Q,cnt⟩∧Rw h.length H wP yP (P.map pip) (E₁.P.map pip)∧Rw h.length H wV yV (V.map vlv) (E₁.V.map vlv):=fun H E xP xV hn h1 h2=>by
  rw [editT,hn]
  exact ⟨_,_,_,rfl,rfl,h1,h2⟩
 have qp:decide (w_valve=w_pipe)=false:=by decide
 have qv:decide (w_valve=w_valve)=true:=by decide
 have qs:decide (w_valve=w_shut)=false:=by decide
 have qo:decide (w_valve=w_open)=false:=by decide
 have qr:decide (w_valve=w_source)=false:=by decide
 obtain ⟨a0,rfl⟩:=AI.len sl
 refine body_ofR ([(4,[]),(8,[])]) mo Tryz.func114 rfl (by kernel_rfl) (Nat.le_of_ble_eq_true (by kernel_rfl)) rfl ?_
 by_cases lk:l.length=3
 case neg=>
  have he:editR ⟨N,P,V,src,D,Q,cnt⟩ w_valve l=none:=by
   rw [editR]
   repeat rw [if_neg (by decide)]
   first|rw [if_pos rfl]|rw [if_pos (by decide)]
   rw [if_neg (fun hh=>lk hh.1)]
  have nl:((l.length:Int)==3)=false:=by rw [beq_eq_false_iff_ne];omega
  simp only [go_sem,conV,toList_eq,qp,qv,qs,qo,qr,o0,o0v,nl]
  exact no _ he
 case pos=>
  obtain ⟨idl,offl,kl,hvl,_,hkl,_,hdl,_,_,_,hat⟩:=AI.at sl (by omega)
  obtain rfl:a0=some ⟨idl,offl,none⟩:=by simpa using hvl
  have p0:=hat 0 (by omega)
  rw [gl_at] at p0
  simp only [Nat.add_zero] at p0
  have p1:=hat 1 (by omega)
  have p2:=hat 2 (by omega)
  rw [gl_at] at p1 p2
  simp only [go_sem,conV,toList_eq,qp,qv,qs,qo,qr,o0,o0v,hkl,hdl,p0,p1,p2,lk]
  refine ⟨by kernel_rfl,(c_l28Valve ⟨N,P,V,src,D,Q,cnt⟩ wP wV (vlvOf l) (sP.mono (by simp)) (sV.mono (by simp)) (es.mono (by simp)) g).use (fun _ m=>m) ?_⟩
  rintro _ _ ⟨⟨E,xV,rfl,rfl,sx,sn⟩,⟨t,rfl⟩⟩
  by_cases c:valOk N P (insV V (vlvOf l))
  ·have he:editR ⟨N,P,V,src,D,Q,cnt⟩ w_valve l=some ⟨N,P,insV V (vlvOf l),src,D,Q,cnt⟩:=by
    rw [editR,if_neg (by decide),if_pos rfl,if_pos ⟨lk,c⟩]
   have sx:=sx c
   rw [if_pos c] at sx ⊢
   rw [if_pos c]
   have o1:=sx.one
   simp only [go_sem,conV,o0,o1]
   exact yes _ ⟨N,P,insV V (vlvOf l),src,D,Q,cnt⟩ wP _ he (.inl ⟨rfl,rfl⟩) (.inr ((FQs.w3 sx (by simp)).wide (by simp) (by simp)))
  ·have he:editR ⟨N,P,V,src,D,Q,cnt⟩ w_valve l=none:=by
    rw [editR,if_neg (by decide),if_pos rfl,if_neg (fun hh=>c hh.2)]
   obtain rfl:=sn c
   rw [if_neg c]
   rw [if_neg c]
   simp only [go_sem,conV,o0,o0v]
   exact no _ he
theorem c_l28EditX {n:Nat} (C:Con) (w:ByteArray) (wP wV vl:Value) (l:List Int) (sP:SB n 4 h wP (C.P.map pip)) (sV:Sl h 4 wV (C.V.map vlv)) (sl:SI h vl l) (hw: ¬isEdit w) :
  vCall [] Tryz.prog M 114 [conV C wP wV, .string w,vl] h (fun r h'=>(∃E xP xV,r = .tuple #[conV E xP xV, .string (editT C w l)]∧E=(editR C w l).getD C∧Rw h.length h' wP xP (C.P.map pip) (E.P.map pip)∧Rw h.length h' wV xV (C.V.map vlv) (E.V.map vlv))∧h<+:h'):=by
 obtain ⟨N,P,V,src,D,Q,cnt⟩:=C
 simp only [isEdit,not_or] at hw
 obtain ⟨ha,hb,hc,hd,he⟩:=hw
 have o0:oneC wP=true:=by obtain ⟨a,e,_⟩:=sP.1;rw [e];rfl
 have o0v:oneC wV=true:=by obtain ⟨a,e,_⟩:=sV;rw [e];rfl
 have e:editR ⟨N,P,V,src,D,Q,cnt⟩ w l=none:=by
  rw [editR,if_neg ha,if_neg hb,if_neg (fun hh=>hh.elim hc hd),if_neg he]
 obtain ⟨a0,rfl⟩:=AI.len sl
 refine body_ofR ([(4,[]),(8,[])]) mo Tryz.func114 rfl (by kernel_rfl) (Nat.le_of_ble_eq_true (by kernel_rfl)) rfl ?_
 simp only [go_sem,conV,toList_eq,dect ha,dect hb,dect hc,dect hd,dect he,o0,o0v]
 rw [editT,e]
 exact ⟨⟨N,P,V,src,D,Q,cnt⟩,wP,wV,rfl,rfl, .inl ⟨rfl,rfl⟩, .inl ⟨rfl,rfl⟩⟩
theorem c_l28Edit {n:Nat} (C:Con) (w:ByteArray) (wP wV vl:Value) (l:List Int) (sP:SB n 4 h wP (C.P.map pip)) (sV:Sl h 4 wV (C.V.map vlv)) (esP:EszC h 4 wP) (es:EszC h 4 wV) (g:conOk C) (sl:SI h vl l) :
  vCall [] Tryz.prog M 114 [conV C wP wV, .string w,vl] h (fun r h'=>(∃E xP xV,r = .tuple #[conV E xP xV, .string (editT C w l)]∧E=(editR C w l).getD C∧Rw h.length h' wP xP (C.P.map pip) (E.P.map pip)∧Rw h.length h' wV xV (C.V.map vlv) (E.V.map vlv))∧h<+:h'):=by
 by_cases hw:isEdit w
 ·rcases hw with rfl|rfl|rfl|rfl|rfl
  ·exact c_l28EditP C wP wV vl l sP sV esP es g sl
  ·exact c_l28EditV C wP wV vl l sP sV esP es g sl
  ·exact c_l28EditH C wP wV vl l sP sV esP es g sl
  ·exact c_l28EditO C wP wV vl l sP sV esP es g sl
  ·exact c_l28EditS C wP wV vl l sP sV esP es g sl
 ·exact c_l28EditX C w wP wV vl l sP sV sl hw
end
open Go.HH Go.Proofs
def wds (s:ByteArray):List BL:=splitL (bl s) 32
def wd0 (s:ByteArray):ByteArray:=mkB ((wds s).headD [])
noncomputable def runC (C:Con) (s:ByteArray):Con:=if numsOk (wds s).tail∧isEdit (wd0 s) then (editR C (wd0 s) (numsL (wds s).tail)).getD C else C
noncomputable def runT (C:Con) (s:ByteArray):ByteArray:=if numsOk (wds s).tail then (if isEdit (wd0 s) then editT C (wd0 s) (numsL (wds s).tail) else askT C (wd0 s) (numsL (wds s).tail)) else w_no
theorem spW_le (b:UInt8): ∀(l:BL) (A:List BL) (c:BL) (K:Nat),(∀w∈A,w.length<=K)->c.length<=K->(∀w∈(l.foldl (spl b) (A,c)).1,w.length<=K+l.length)∧(l.foldl (spl b) (A,c)).2.length<=K+l.length
 | [],A,c,K,hA,hc=>⟨fun w hw=>by have:=hA w hw;simpa using this,by simpa using hc⟩
 | x::r,A,c,K,hA,hc=>by
  rw [List.foldl_cons,List.length_cons]
  by_cases hx:x=b
  ·rw [show spl b (A,c) x=(A++ [c],[]) by rw [spl,if_pos hx]]
   have:=spW_le b r (A++ [c]) [] (K+1) (fun w hw=>by
    rcases List.mem_append.1 hw with h|h
    ·have:=hA w h;omega
    ·rw [List.mem_singleton.1 h];omega) (by simp)
   rwa [show K+1+r.length=K+(r.length+1) by omega] at this
  ·rw [show spl b (A,c) x=(A,c++ [x]) by rw [spl,if_neg hx]]
   have:=spW_le b r A (c++ [x]) (K+1) (fun w hw=>by have:=hA w hw;omega) (by rw [List.length_append,List.length_singleton];omega)
   rwa [show K+1+r.length=K+(r.length+1) by omega] at this
theorem wds_le {s:ByteArray} {w:BL} (hw:w∈wds s):(mkB w).size<=s.size:=by
 obtain ⟨h1,h2⟩:=spW_le 32 (bl s) [] [] 0 (fun w hw=>by cases hw) (Nat.le_refl 0)
 rw [Nat.zero_add] at h1 h2
 have hl:(bl s).length=s.size:=by simp [bl]
 have hw':w.length<=(bl s).length:=by
  rcases List.mem_append.1 hw with h|h
  ·exact h1 w h
  ·rw [List.mem_singleton.1 h];exact h2
 have:(mkB w).size=w.length:=List.size_toArray
 omega
theorem wds_len (s:ByteArray):1<=(wds s).length∧(wds s).length<=s.size+1:=by
 have hl:(bl s).length=s.size:=by simp [bl]
 have hc:(bl s).count 32<=(bl s).length:=List.count_le_length
 rw [wds,splitL_eq 32 _ (bl s) rfl,sbL_len]
 omega
theorem wds_cons (s:ByteArray): ∃w r,wds s=w::r:=by
 have:=(wds_len s).1
 cases h:wds s with
 | nil=>rw [h] at this;simp at this
 | cons w r=>exact ⟨w,r,rfl⟩
theorem FQs.v2r {h t u:Heap} {a b a' b':Blk} {lo hi:Nat} {v:Value} {rows:List (List Value)} (s:FQs lo hi 4 (h++a::b::t++u) v rows) (hl:(h++a::b::t).length<=lo):FQs lo hi 4 (h++a'::b'::(t++u)) v rows:=by
 have s':FQs lo hi 4 (h++(a::b::t)++u) v rows:=by simpa using s
 have:=s'.swapped (y:=a'::b'::t) (by simpa using hl) rfl (Nat.le_refl _) (Nat.le_refl _)
 simpa using this
theorem Rw.mv {h t t2 t3:Heap} {a b a' b':Blk} {lo:Nat} {w x:Value} {r0 r:List (List Value)} (s:Rw lo (h++a::b::(t++t2)++t3) w x r0 r) (hl:(h++a::b::(t++t2)).length<=lo):Rw h.length (h++a'::b'::(t++(t2++t3))) w x r0 r:=by
 rcases s with s|s
 ·exact .inl s
 ·refine .inr ?_
  have:=s.v2r (a':=a') (b':=b') hl
  rw [List.append_assoc t t2 t3] at this
  refine this.wide ?_ ?_
  ·simp at hl;omega
  ·simp
section
variable {h : Heap} {M : Nat → Prop}
theorem wds_tail {id:Nat} {s:ByteArray} (hg:hget h id=some ⟨strsV (wds s),1, .rw⟩):Sl h 1 (.slice (some ⟨id,1,none⟩) ((wds s).length-1) 0) ((wds s).tail.map strR):=by
 obtain ⟨w,r,e⟩:=wds_cons s
 rw [e] at hg ⊢
 refine ⟨some ⟨id,1,none⟩,by simp,fun q hq => ?_,fun _=>⟨id,1,_,rfl,hg,by simp, ?_, ?_⟩⟩
 ·obtain ⟨x,_,rfl⟩:=List.mem_map.1 hq;rfl
 ·simp [strsV];omega
 ·have hfl: ∀r:List BL,(r.map strR).flatten=strsV r:=fun r=>by
   induction r with
   | nil=>rfl
   | cons x r ih=>rw [List.map_cons,List.flatten_cons,ih];rfl
  simp only [List.tail_cons,List.length_map,Nat.mul_one]
  rw [hfl,strsV,List.map_cons,List.drop_succ_cons,List.drop_zero,List.take_of_length_le (by simp)]
  rfl
set_option maxRecDepth 4000 in
theorem c_l28Run {n:Nat} (C:Con) (s:ByteArray) (wP wV:Value) (sP:SB n 4 h wP (C.P.map pip)) (sV:Sl h 4 wV (C.V.map vlv)) (esP:EszC h 4 wP) (es:EszC h 4 wV) (g:conOk C) (hs:s.size<=10000) :
  vCall [] Tryz.prog M 61 [conV C wP wV, .string s] h (fun r h'=>(∃E xP xV,r = .tuple #[conV E xP xV, .string (runT C s)]∧E=runC C s∧Rw h.length h' wP xP (C.P.map pip) (E.P.map pip)∧Rw h.length h' wV xV (C.V.map vlv) (E.V.map vlv))∧h<+:h'):=by
 obtain ⟨w,r,ew⟩:=wds_cons s
 have hwl:=wds_len s
 have o0:oneC wP=true:=by obtain ⟨a,e,_⟩:=sP.1;rw [e];rfl
 have o0v:oneC wV=true:=by obtain ⟨a,e,_⟩:=sV;rw [e];rfl
 obtain ⟨N,P,V,src,D,Q,cnt⟩:=C
 simp only at sP sV esP es
 refine body_of mo Tryz.func61 rfl (by kernel_rfl) (Nat.le_of_ble_eq_true (by kernel_rfl)) rfl ?_
 simp only [go_sem,conV,o0,o0v]
 refine ⟨by kernel_rfl,(c_l1Split s 32 (by omega)).use (fun _ m=>m) ?_⟩
 rintro _ _ ⟨t,j,rfl,rfl,hj⟩
 have hj':t[j]? = some ⟨strsV (wds s),1, .rw⟩:=hj
 have ewl:(splitL (bl s) 32).length=(wds s).length:=rfl
 have hwp:0<(wds s).length:=hwl.1
 have hG0: ∀a b:Blk,hget (h++a::b::t) (h.length+2+j)=some ⟨strsV (wds s),1, .rw⟩:=fun a b=>by
  rw [show h.length+2+j=h.length+(j+1+1) by omega,hget_app]
  exact hj'
 have hG1: ∀(a b:Blk) (u:Heap),hget (h++a::b::(t++u)) (h.length+2+j)=some ⟨strsV (wds s),1, .rw⟩:=fun a b u=>by
  rw [show h.length+2+j=h.length+(j+1+1) by omega,hget_app]
  simp only [List.getElem?_cons_succ]
  rw [List.getElem?_append_left (List.getElem?_eq_some_iff.1 hj').1]
  exact hj'
 have hsz: ∀x∈(wds s).tail,(mkB x).size<=10000000:=fun x hx=>Nat.le_trans (wds_le (List.mem_of_mem_tail hx)) (by omega)
 have hlt:(wds s).tail.length<=1048576:=by rw [List.length_tail];omega
 simp only [go_sem,ewl,o0,o0v,onSl_more hwp,hG0,hwl.1,strsV_len,show (1:Int)<=(wds s).length by omega]
 refine ⟨by kernel_rfl,(c_l28Numbers _ (wds s).tail (wds_tail (hG0 _ _)) hsz hlt).use (fun _ m=>m) ?_⟩
 rintro _ _ ⟨⟨x,rfl,sx⟩,⟨t2,rfl⟩⟩
 by_cases c:numsOk (wds s).tail
 case neg=>
  simp only [go_sem,dect c,o0,o0v]
  exact ⟨⟨N,P,V,src,D,Q,cnt⟩,wP,wV,by rw [runT,if_neg c],by rw [runC,if_neg (fun hh=>c hh.1)], .inl ⟨rfl,rfl⟩, .inl ⟨rfl,rfl⟩⟩
 have sx:=sx c
 have g0:(strsV (wds s))[0]? = some (.string (wd0 s)):=by
  rw [wd0,ew];rfl
 have z0:(0:Int)<(wds s).length:=by omega
 have z1:(0:Int)<(splitL (bl s) 32).length:=z0
 by_cases hw:isEdit (wd0 s)
 ·have er:runT ⟨N,P,V,src,D,Q,cnt⟩ s=editT ⟨N,P,V,src,D,Q,cnt⟩ (wd0 s) (numsL (wds s).tail):=by rw [runT,if_pos c,if_pos hw]
  have ec:runC ⟨N,P,V,src,D,Q,cnt⟩ s=(editR ⟨N,P,V,src,D,Q,cnt⟩ (wd0 s) (numsL (wds s).tail)).getD ⟨N,P,V,src,D,Q,cnt⟩:=by rw [runC,if_pos ⟨c,hw⟩]
  rw [er,ec]
  rcases id hw with hq|hq|hq|hq|hq
  ·simp only [go_sem,decb hq,decb c,hG1,g0,z0,z1,toList_eq,o0,o0v]
   refine ⟨by kernel_rfl,(c_l28Edit ⟨N,P,V,src,D,Q,cnt⟩ (wd0 s) wP wV x _ (sP.mono (by simp)) (sV.mono (by simp)) (esP.mono (by simp)) (es.mono (by simp)) g (by simpa using sx)).use (fun _ m=>m) ?_⟩
   rintro _ _ ⟨⟨E,xP,xV,rfl,rfl,s1,s2⟩,⟨t3,rfl⟩⟩
   have o1:=s1.one o0
   have o2:=s2.one o0v
   simp only [go_sem,conV,o1,o2]
   exact ⟨_,xP,xV,rfl,rfl,s1.mv (Nat.le_refl _),s2.mv (Nat.le_refl _)⟩
  ·have n0: ¬wd0 s=w_pipe:=by rw [hq];decide
   simp only [go_sem,dect n0,decb hq,decb c,hG1,g0,z0,z1,toList_eq,o0,o0v]
   refine ⟨by kernel_rfl,(c_l28Edit ⟨N,P,V,src,D,Q,cnt⟩ (wd0 s) wP wV x _ (sP.mono (by simp)) (sV.mono (by simp)) (esP.mono (by simp)) (es.mono (by simp)) g (by simpa using sx)).use (fun _ m=>m) ?_⟩
   rintro _ _ ⟨⟨E,xP,xV,rfl,rfl,s1,s2⟩,⟨t3,rfl⟩⟩
   have o1:=s1.one o0
   have o2:=s2.one o0v
   simp only [go_sem,conV,o1,o2]
   exact ⟨_,xP,xV,rfl,rfl,s1.mv (Nat.le_refl _),s2.mv (Nat.le_refl _)⟩
  ·have n0: ¬wd0 s=w_pipe:=by rw [hq];decide
   have n1: ¬wd0 s=w_valve:=by rw [hq];decide
   simp only [go_sem,dect n0,dect n1,decb hq,decb c,hG1,g0,z0,z1,toList_eq,o0,o0v]
   refine ⟨by kernel_rfl,(c_l28Edit ⟨N,P,V,src,D,Q,cnt⟩ (wd0 s) wP wV x _ (sP.mono (by simp)) (sV.mono (by simp)) (esP.mono (by simp)) (es.mono (by simp)) g (by simpa using sx)).use (fun _ m=>m) ?_⟩
   rintro _ _ ⟨⟨E,xP,xV,rfl,rfl,s1,s2⟩,⟨t3,rfl⟩⟩
   have o1:=s1.one o0
   have o2:=s2.one o0v
   simp only [go_sem,conV,o1,o2]
   exact ⟨_,xP,xV,rfl,rfl,s1.mv (Nat.le_refl _),s2.mv (Nat.le_refl _)⟩
  ·have n0: ¬wd0 s=w_pipe:=by rw [hq];decide
   have n1: ¬wd0 s=w_valve:=by rw [hq];decide
   have n2: ¬wd0 s=w_shut:=by rw [hq];decide
   simp only [go_sem,dect n0,dect n1,dect n2,decb hq,decb c,hG1,g0,z0,z1,toList_eq,o0,o0v]
   refine ⟨by kernel_rfl,(c_l28Edit ⟨N,P,V,src,D,Q,cnt⟩ (wd0 s) wP wV x _ (sP.mono (by simp)) (sV.mono (by simp)) (esP.mono (by simp)) (es.mono (by simp)) g (by simpa using sx)).use (fun _ m=>m) ?_⟩
   rintro _ _ ⟨⟨E,xP,xV,rfl,rfl,s1,s2⟩,⟨t3,rfl⟩⟩
   have o1:=s1.one o0
   have o2:=s2.one o0v
   simp only [go_sem,conV,o1,o2]
   exact ⟨_,xP,xV,rfl,rfl,s1.mv (Nat.le_refl _),s2.mv (Nat.le_refl _)⟩
  ·have n0: ¬wd0 s=w_pipe:=by rw [hq];decide
   have n1: ¬wd0 s=w_valve:=by rw [hq];decide
   have n2: ¬wd0 s=w_shut:=by rw [hq];decide
   have n3: ¬wd0 s=w_open:=by rw [hq];decide
   simp only [go_sem,dect n0,dect n1,dect n2,dect n3,decb hq,decb c,hG1,g0,z0,z1,toList_eq,o0,o0v]
   refine ⟨by kernel_rfl,(c_l28Edit ⟨N,P,V,src,D,Q,cnt⟩ (wd0 s) wP wV x _ (sP.mono (by simp)) (sV.mono (by simp)) (esP.mono (by simp)) (es.mono (by simp)) g (by simpa using sx)).use (fun _ m=>m) ?_⟩
   rintro _ _ ⟨⟨E,xP,xV,rfl,rfl,s1,s2⟩,⟨t3,rfl⟩⟩
   have o1:=s1.one o0
   have o2:=s2.one o0v
   simp only [go_sem,conV,o1,o2]
   exact ⟨_,xP,xV,rfl,rfl,s1.mv (Nat.le_refl _),s2.mv (Nat.le_refl _)⟩
 ·have er:runT ⟨N,P,V,src,D,Q,cnt⟩ s=askT ⟨N,P,V,src,D,Q,cnt⟩ (wd0 s) (numsL (wds s).tail):=by rw [runT,if_pos c,if_neg hw]
  have ec:runC ⟨N,P,V,src,D,Q,cnt⟩ s=⟨N,P,V,src,D,Q,cnt⟩:=by rw [runC,if_neg (fun hh=>hw hh.2)]
  rw [er,ec]
  simp only [isEdit,not_or] at hw
  obtain ⟨n0,n1,n2,n3,n4⟩:=hw
  simp only [go_sem,dect n0,dect n1,dect n2,dect n3,dect n4,decb c,hG1,g0,z0,z1,toList_eq,o0,o0v]
  refine ⟨by kernel_rfl,(c_l28Ask ⟨N,P,V,src,D,Q,cnt⟩ (wd0 s) wP wV x _ (sP.mono (by simp)) (sV.mono (by simp)) (esP.mono (by simp)) g (by simpa using sx)).use (fun _ m=>m) ?_⟩
  rintro _ _ ⟨rfl,⟨t3,rfl⟩⟩
  simp only [go_sem,o0,o0v]
  exact ⟨⟨N,P,V,src,D,Q,cnt⟩,wP,wV,rfl,rfl, .inl ⟨rfl,rfl⟩, .inl ⟨rfl,rfl⟩⟩
end
end Go.Proofs.YtedidddimikjhaaGreatDoor
