/- Texts of this claim, joined. No condition. -/
import Derived.Test.YtedidddimikjhaaGreatDoorFnReplPart5
import Derived.Test.YtedidddimikjhaaGreatDoorFnReplPart4
import Derived.Lib.Bytealg
import Derived.Lib.IndexAny
import Derived.Test.YtedidddimikjhaaGreatDoorRows
import Derived.Stop.LaidErr
open List (length_map prefix_append append_assoc prefix_rfl length_append getElem?_eq_getElem getElem_map length_take getElem_mem getElem?_append_left getElem?_append_right length_cons getElem?_cons_zero all_eq_true mem_map take_length getElem?_cons_succ cons_append map_append length_nil take_of_length_le mem_cons map_cons drop_zero append_nil mem_range size_toArray length_pos_iff getElem?_map nil_append mem_append length_singleton mem_cons_of_mem length_drop flatten_cons getElem?_set_ne take_left' take_add_one length_set mem_singleton mem_append_left drop_drop foldl_cons)
open Nat (le_refl add_zero lt_or_ge zero_le zero_add add_assoc sub_self add_sub_cancel_left)
set_option linter.unusedSimpArgs false
set_option linter.unusedVariables false
namespace Go.Proofs.YtedidddimikjhaaGreatDoor
open Go.HH
def flW(l:List Vlv):List Value:=(l.map vlv).flatten
theorem flW_snoc{l:List Vlv}{p:Vlv}:flW (l++ [p])=flW l++vlv p:=by simp[flW]
theorem flW_len{l:List Vlv}:(flW l).length=l.length*4:=by
 induction l with
 | nil=>rfl
 | cons x l ih=>simp only[flW,map_cons,flatten_cons,length_append,length_cons] at ih ⊢;rw[ih];simp[vlv];omega
theorem snoc_lenV{l:List Vlv}{x:Vlv}:(l++ [x]).length=l.length+1:=by simp
def VB(l:List Vlv):Prop:= ∀v∈l, -1000<=v.1∧v.1<=1000
theorem VB.nil:VB []:=fun p h=>by cases h
theorem VB.snoc{l:List Vlv}{p:Vlv}(h:VB l)(a : -1000<=p.1∧p.1<=1000):VB (l++ [p]):=fun q hq=>by
 rcases mem_append.1 hq with h1|h1
 ·exact h q h1
 ·rw[mem_singleton.1 h1];exact a
section
variable {h:Heap} {M:Nat->Prop}
set_option maxRecDepth 8000 in
set_option maxHeartbeats 4000000 in
theorem e_valves{id n B lo up:Nat}{a:Option Addr}(N:Int)(w:Value)(P:List Pip)(f:FQs lo up 4 h w (P.map pip))(hlo:id<lo)(hhi:up<=h.length)(hP:NB N P)(hl:P.length<=100)(s:St h id n a B)(hM:M id)(hB:B<=90000) :
  vCall [] Tryz.prog M 133 [.pointer (some ⟨id,0,none⟩), .agg #[.int .i64 N,w]] h (fun r H'=> ∃(l:List Vlv) (sid:Nat),r = .slice (some ⟨sid,0,none⟩) l.length 0∧Sst h H' id n a (B+2000) sid 4 (flW l)∧l.length<=20∧VB l):=by
 have hid:=s.lt
 have hown:own h.length M id:=Or.inr hM
 have ho:=f.one
 obtain⟨av,ev,_,_⟩:=f.sl
 rw[length_map] at ev
 subst ev
 refine boR ([(11,[3,7,9,13,15,19,20,23,25,3020,5000]),(14,[3,6,9,2005,2008,5000])]) Tryz.func133 rfl rfl ?_
 simp only[go_sem,ho]
 refine vLoopR.count mo P.length (fun i e H=> ∃(l:List Vlv) (sid:Nat) (q:Int),Regs e [(0, .pointer (some ⟨id,0,none⟩)),(3, .pointer (some ⟨h.length,0,none⟩)),(5, .slice (some ⟨sid,0,none⟩) l.length 0),(6, .int .i64 q),(7, .int .i64 i)] ∧
  Sst h H id n a (B+12*i) sid 4 (flW l)∧sid≠h.length∧hget H h.length=some ⟨[.int .i64 N, .slice av P.length 0],2, .rw⟩∧l.length<=10∧(0<=q∧q<=4*(i:Int))∧VB l) ?_ ?_
 ·refine⟨[],h.length+1,0,⟨rfl,rfl,rfl,rfl,rfl,trivial⟩,⟨s.app _,Agr.app,hget_lit1,by omega⟩,by omega,hget_lit0,by simp,by omega, .nil⟩
 ·rintro i e H hi ⟨l,sid,q,⟨e0,e3,e5,e6,e7,_⟩,ss,hsb,hbx,hl10,hq,hvb⟩
  have fq:=f.agr ss.out (.inr hlo)
  by_cases hlt:i<P.length
  ·have hz:(i:Int)<P.length:=by omega
   have wi:=wsucc hlt (by omega)
   simp only[go_sem,e0,e3,e5,e6,e7,hbx,hz]
   refine vLoopR.count mo 2 (fun k e H=> ∃(l:List Vlv) (sid:Nat) (q:Int),Regs e [(0, .pointer (some ⟨id,0,none⟩)),(3, .pointer (some ⟨h.length,0,none⟩)),(5, .slice (some ⟨sid,0,none⟩) l.length 0),(6, .int .i64 q),(7, .int .i64 i),(8, .int .i64 k)] ∧
    Sst h H id n a (B+12*i+6*k) sid 4 (flW l)∧sid≠h.length∧hget H h.length=some ⟨[.int .i64 N, .slice av P.length 0],2, .rw⟩∧l.length<=10∧(0<=q∧q<=4*(i:Int)+2*k)∧VB l) ?_ ?_
   ·exact⟨l,sid,q,⟨e0,e3,e5,e6,e7,rfl,trivial⟩,ss.more (by omega),hsb,hbx,hl10,by omega,hvb⟩
   ·clear ss hsb hbx hl10 hq hvb fq e0 e3 e5 e6 e7
    rintro k e H hk ⟨l,sid,q,⟨e0,e3,e5,e6,e7,e8,_⟩,ss,hsb,hbx,hl10,hq,hvb⟩
    have fq:=f.agr ss.out (.inr hlo)
    by_cases hk2:k<2
    ·have hkz:(k:Int)<2:=by omega
     have wk:IntKind.i64.wrap ((k:Int)+1)=((k+1:Nat):Int):=by rw[wrap64 (by omega)];rfl
     simp only[go_sem,e0,e3,e5,e6,e7,e8,hkz]
     refine (d_one _ ss.st hown (by omega)).go ?_
     rintro _ H1 ⟨⟨g,rfl⟩,s1,g1⟩
     have ss1:=ss.step s1 g1
     have hbx1:=agr_get g1 hbx (by omega)
     cases g with
     | true=>
      simp only[go_sem,e0,e3,e5,e6,e7,e8,hkz]
      exact⟨hk2,l,sid,q,⟨e0,e3,e5,e6,e7,congrArg _ wk,trivial⟩,ss1.more (by omega),hsb,hbx1,hl10,by omega,hvb⟩
     | false=>
      by_cases h10:(10:Int)<=l.length
      ·simp only[go_sem,e0,e3,e5,e6,e7,e8,hkz,h10]
       exact⟨hk2,l,sid,q,⟨e0,e3,e5,e6,e7,congrArg _ wk,trivial⟩,ss1.more (by omega),hsb,hbx1,hl10,by omega,hvb⟩
      ·simp only[go_sem,e0,e3,e5,e6,e7,e8,hkz,h10]
       refine (d_pick _ ss1.st hown (by omega)).go ?_
       rintro _ H2 ⟨⟨m,rfl,m0,m1⟩,s2,g2⟩
       have ss2:=ss1.step s2 g2
       have hbx2:=agr_get g2 hbx1 (by omega)
       have fq2:=f.agr ss2.out (.inr hlo)
       have wq:IntKind.i64.wrap (IntKind.i64.wrap (q+1)+m)=q+1+m:=by rw[show IntKind.i64.wrap (q+1)=q+1 from wrap64 (by omega),wrap64 (by omega)]
       obtain⟨id2,off,b,hv,_,hk2',hd,hbb,hrow,hat⟩:=fq2.sl.at (i:=i) (by rw[length_map];exact hlt)
       obtain rfl:av=some ⟨id2,off,none⟩:=by simpa using hv
       obtain⟨hid2,hid3⟩:lo<=id2∧id2<up:=by
        rcases f with⟨pid,ev,q1,q2,_⟩|⟨r0,_⟩
        ·obtain rfl:id2=pid:=by simp at ev;exact ev.1
         exact⟨q1,q2⟩
        ·have:=congrArg List.length r0
         rw[length_map,length_nil] at this
         omega
       have p0:=hat 0 (by omega)
       have p1:=hat 1 (by omega)
       have p2:=hat 2 (by omega)
       rw[getElem_map] at p0 p1 p2
       simp only[pip,getElem?_cons_zero,getElem?_cons_succ,add_zero] at p0 p1 p2
       simp only[go_sem,e0,e3,e5,e6,e7,e8,wq]
       refine onEarly_on [] [⟨[.int .i64 P[i].2.1, .int .i64 P[i].2.2.1],1, .rw⟩] (by simp) ?_
       obtain⟨nd,hnd⟩: ∃nd:Int,[Value.int .i64 P[i].2.1,Value.int .i64 P[i].2.2.1][k]? = some (.int .i64 nd):=by
        rcases lt_or_ge k 1 with h1|h1
        ·obtain rfl:k=0:=by omega
         exact⟨_,rfl⟩
        ·obtain rfl:k=1:=by omega
         exact⟨_,rfl⟩
       simp only[go_sem,e0,e3,e5,e6,e7,e8,wq,hz,hkz,self_get hbx2,self_get hk2',hd,p0,p1,p2,hnd]
       refine (d_one _ (ss2.st.app _) hown (by omega)).go ?_
       rintro _ H3 ⟨⟨g,rfl⟩,s3,g3⟩
       have ss3:=ss2.step s3 (Agr.app.trans g3)
       have hbx3:=agr_get (Agr.app.trans g3) hbx2 (by omega)
       have k3:=agr_get g3 hget_new (by have:=ss2.st.lt;omega)
       have hb3:=agr_get (Agr.app.trans g3) hk2' (by omega)
       have L3:H2.length+1<=H3.length:=by have:=g3.1;simpa using this
       have lsid:=hget_lt ss2.s
       have hlow:=ss.low
       have bz:=ss3.app (new:=vlv (q+1+m,P[i].1,nd,g))
       simp only[go_sem,e0,e3,e5,e6,e7,e8,wq,hz,hkz,hbx3,k3,hb3,L3,self_get ss3.s,flW_len,own_ge ss3.low.1,kill_get hbx3 hsb,kill_get k3 (show sid≠H2.length by omega),kill_get hb3 (show sid≠id2 by omega),self_get hbx3,self_get k3,self_get hb3]
       refine⟨by omega,by omega,hk2,l++ [(q+1+m,P[i].1,nd,g)],H3.length+1,q+1+m,⟨e0,e3,by rw[snoc_lenV];rfl,rfl,e7,congrArg _ wk,trivial⟩, ?_,by omega,by simp;omega,by omega,hvb.snoc (by simp only;omega)⟩
       rw[flW_snoc];exact bz.more (by omega)
    ·obtain rfl:k=2:=by omega
     simp only[go_sem,e0,e3,e5,e6,e7,e8,show ¬(((2:Nat):Int)<2) by omega]
     exact⟨hlt,l,sid,q,⟨e0,e3,e5,e6,congrArg _ wi,trivial⟩,ss.more (by omega),hsb,hbx,hl10,by omega,hvb⟩
  ·simp only[go_sem,e0,e3,e5,e6,e7,hbx,show ¬((i:Int)<P.length) by omega]
   have hil:i=P.length:=by omega
   refine (d_pick _ ss.st hown (by omega)).go ?_
   rintro _ H1 ⟨⟨c,rfl,c0,c1⟩,s1,g1⟩
   have ss1:=ss.step s1 g1
   have hbx1:=agr_get g1 hbx (by omega)
   by_cases hc0:c=0
   ·subst hc0
    simp only[go_sem,e0,e3,e5,e6,e7,show ((0:Int)==0)=true from rfl]
    refine onEarly_on [h.length] [] (by simp) ?_
    simp only[go_sem,e0,e3,e5,e6,e7]
    refine (e_amongL _ _ ss1.st hown rfl (by simp) (by omega) (by omega) (by omega)).go ?_
    rintro _ H2 ⟨⟨x,rfl,hx⟩,s2,g2,l2⟩
    have ss2:=ss1.step s2 g2
    have hbx2:=agr_get g2 hbx1 (by omega)
    have fq2:=f.agr ss2.out (.inr hlo)
    simp only[go_sem,e0,e3,e5,hbx2,l2,self_get hbx1]
    refine (e_pipeOf N _ P fq2.SL hlo hP.2 (by omega) ss2.st hown (by omega)).go ?_
    rintro _ H3 ⟨⟨y,rfl,hy⟩,s3,g3⟩
    have ss3:=ss2.step s3 g3
    have hbx3:=agr_get g3 hbx2 (by omega)
    have l3:=g3.1
    simp only[go_sem,e0,e3,e5,hbx3,l3,hbx2]
    refine (e_nodeOf N _ hP.1 (by rfl) ss3.st hown (by omega)).go ?_
    rintro _ H4 ⟨⟨z,rfl,hz⟩,s4,g4⟩
    have ss4:=ss3.step s4 g4
    have hbx4:=agr_get g4 hbx3 (by omega)
    have l4:=g4.1
    have bz:=ss4.app (new:=vlv (x,y,z,false))
    simp only[go_sem,e0,e3,e5,hbx4,l4,hbx3,self_get ss4.s,flW_len,own_ge ss4.low.1,kill_get hbx4 hsb,self_get hbx4]
    refine⟨by omega,by omega,l++ [(x,y,z,false)],H4.length+1,by rw[snoc_lenV], ?_,by simp;omega,hvb.snoc (by simp at hx ⊢;omega)⟩
    rw[flW_snoc];exact bz.more (by omega)
   ·by_cases hc1:c=1
    ·subst hc1
     by_cases h0:(0:Int)<l.length
     ·obtain⟨v,hvl,hr⟩: ∃v∈l,List.take 4 (List.drop 0 (flW l))=vlv v:=by
       cases l with
       | nil=>simp at h0
       | cons v l'=>exact⟨v,by simp,by simp[flW,vlv]⟩
      rw[drop_zero] at hr
      have L1:h.length<=H1.length:=ss1.out.1
      simp only[go_sem,e0,e3,e5,e6,e7,show ((1:Int)==0)=false from rfl,show ((1:Int)==1)=true from rfl,h0,ss1.s,hr,vlv,own_ge L1,self_get ss1.s,flW_len]
      have bz:=(ss1.step (ss1.st.app [⟨vlv (98,v.2.1,v.2.2.1,v.2.2.2),4, .rw⟩]) Agr.app).app (new:=vlv (98,v.2.1,v.2.2.1,v.2.2.2))
      refine⟨by omega,own_ge ss1.low.1▸trivial,by omega,by omega,l++ [(98,v.2.1,v.2.2.1,v.2.2.2)],H1.length+2,by rw[snoc_lenV], ?_,by simp;omega,hvb.snoc (by simp)⟩
      rw[flW_snoc]
      have:=bz.more (B':=B+2000) (by omega)
      simpa[vlv] using this
     ·simp only[go_sem,e0,e3,e5,e6,e7,show ((1:Int)==0)=false from rfl,show ((1:Int)==1)=true from rfl,h0]
      exact⟨l,sid,rfl,ss1.more (by omega),by omega,hvb⟩
    ·simp only[go_sem,e0,e3,e5,e6,e7,show (c==0)=false by simpa using hc0,show (c==1)=false by simpa using hc1]
     exact⟨l,sid,rfl,ss1.more (by omega),by omega,hvb⟩
theorem flW_take{k:Nat}: ∀ {l:List Vlv},(flW l).take (k*4)=flW (l.take k):=by
 induction k with
 | zero=>intro l;simp[flW]
 | succ k ih=>
  intro l
  cases l with
  | nil=>simp[flW]
  | cons v l=>
   have:=ih (l:=l)
   rw[Nat.add_mul,Nat.one_mul]
   simp only[flW,map_cons,flatten_cons,List.take_succ_cons] at this ⊢
   rw[←this,List.take_append]
   simp[vlv,take_of_length_le]
theorem e_few{id n B lo up:Nat}{a:Option Addr}(N:Int)(w:Value)(P:List Pip)(f:FQs lo up 4 h w (P.map pip))(hlo:id<lo)(hhi:up<=h.length)(hP:NB N P)(hl:P.length<=100)(s:St h id n a B)(hM:M id)(hB:B<=90000) :
  vCall [] Tryz.prog M 93 [.pointer (some ⟨id,0,none⟩), .agg #[.int .i64 N,w]] h (fun r H'=>(∃l:List Vlv,SL h.length H'.length H' r (l.map vlv)∧l.length<=20∧VB l)∧St H' id n a (B+2010)∧Agr id (id+1) h H'):=by
 have hid:=s.lt
 have hown:own h.length M id:=Or.inr hM
 have ho:=f.one
 refine bo Tryz.func93 rfl rfl ?_
 simp only[go_sem,ho]
 refine (e_valves N w P (f.mono (prefix_append _ _)) hlo (by simp;omega) hP hl (s.app _) hown hB).go ?_
 rintro _ H1 ⟨l,sid,rfl,ss,hl,hv⟩
 have key: ∀(H:Heap) (k:Nat),hget H sid=some ⟨flW l,4, .rw⟩->k<=l.length->SL h.length H.length H (.slice (some ⟨sid,0,none⟩) k 0) ((l.take k).map vlv):=fun H k hg hk=>by
  have hlow:=ss.low.1
  simp at hlow
  have hlen:(l.take k).length=k:=by rw[length_take];omega
  refine⟨⟨_,by rw[length_map,hlen],fun r hr=>by obtain⟨x,_,rfl⟩:=mem_map.1 hr;rfl,fun _=>⟨sid,0,_,rfl,hg,by simp, ?_, ?_⟩⟩,fun id o k e _ => ?_⟩
  ·simp[flW_len,hlen];omega
  ·rw[drop_zero,length_map,hlen,flW_take];rfl
  ·simp at e
   obtain⟨⟨rfl,_⟩,_⟩:=e
   exact⟨by omega,hget_lt hg,_,hg,rfl⟩
 by_cases h6:(6:Int)<l.length
 ·simp only[go_sem,h6]
  refine (d_one _ ss.st hown (by omega)).go ?_
  rintro _ H2 ⟨⟨g,rfl⟩,s2,g2⟩
  have ss2:=ss.step s2 g2
  cases g with
  | true=>
   simp only[go_sem,h6]
   refine⟨⟨l, ?_,hl,hv⟩,s2.more (by omega),Agr.app.trans ss2.out⟩
   have:=key H2 l.length ss2.s (le_refl _)
   rw[take_length] at this
   exact this
  | false=>
   simp only[go_sem,h6,onSl_more (show 0<l.length by omega),ss2.s]
   exact⟨by omega,⟨l.take 6,key H2 6 ss2.s (by omega),by rw[length_take];omega,fun v hvm=>hv v (List.mem_of_mem_take hvm)⟩,s2.more (by omega),Agr.app.trans ss2.out⟩
 ·simp only[go_sem,h6]
  refine⟨⟨l, ?_,hl,hv⟩,ss.st.more (by omega),Agr.app.trans ss.out⟩
  have:=key H1 l.length ss.s (le_refl _)
  rw[take_length] at this
  exact this
end
open Go.HH Go.Proofs
theorem c_Contains{h:Heap}{M:Nat->Prop}(s:ByteArray)(c:UInt8):vCall [] Tryz.prog M 103 [.string s, .string ⟨#[c]⟩] h (fun r h'=>r = .bool ((bl s).contains c)∧h=h'):=by
 have:=vCall_plain (G:= []) (M:=M) (h:=h) (args:= [.string s, .string ⟨#[c]⟩]) (by rfl) rfl (Tryz.strings_Contains_one s c)
 rw[←Lib.contains_iff_indexByte] at this
 exact this
open Go.HH
def okc(b:UInt8):Bool:=decide (32<=b.toNat∧b.toNat<=126∧b.toNat≠35)
def plainS(s:ByteArray):Bool:=(bl s).all okc
def recOk(c r:ByteArray):Bool:=decide (1<=c.size∧c.size<=160∧r.size<=200)&&plainS c&&plainS r && !((bl c).contains 64)
theorem u8_ofNat(b:UInt8):(b.toNat:Int)<=255∧(0:Int)<=b.toNat:=by
 have:=b.toNat_lt;omega
section
variable {h:Heap} {M:Nat->Prop}
theorem c_isPlain (s : ByteArray) (hmax : s.size ≤ 9223372036854775806) : vCall [] Tryz.prog M 102 [.string s] h (fun r h' => r = .bool (plainS s) ∧ h = h') := by
  refine bo Tryz.func102 rfl rfl ?_
  simp only [go_sem]
  refine vLoop.count mo s.size (fun i e h' => e 0 = .string s ∧ e 3 = .int .i64 i ∧ HeapIs h h' ∧ ((bl s).take i).all okc = true) ?_ ?_
  · exact ⟨rfl, rfl, HeapIs.rfl, by simp⟩
  · rintro i e _ hi ⟨e0, e3, hh, hj⟩
    cases hh
    simp only [go_sem, e0, e3]
    refine .intro (fun h1 => ?_) (fun h1 => ?_)
    · have hlt : i < s.size := by simpa using h1
      have hlt' : i < (bl s).length := by rw [bl_len]; exact hlt
      have hb := bl_get hlt
      obtain ⟨b, hbe⟩ : ∃ b, b = (bl s)[i] := ⟨_, rfl⟩
      rw [← hbe] at hb
      have hc : okc (bl s)[i] = decide (32 ≤ b.toNat ∧ b.toNat ≤ 126 ∧ b.toNat ≠ 35) := by rw [← hbe]; rfl
      simp only [go_sem, e0, e3, hb]
      by_cases g1 : (b.toNat : Int) < 32
      · simp only [go_sem, e0, e3, hb, g1]
        rw [show plainS s = false from not_all hlt' (hc.trans (decide_eq_false (by omega)))]
      · simp only [go_sem, e0, e3, hb, g1]
        by_cases g2 : (126 : Int) < b.toNat
        · simp only [go_sem, e0, e3, hb, g2]
          rw [show plainS s = false from not_all hlt' (hc.trans (decide_eq_false (by omega)))]
        · simp only [go_sem, e0, e3, hb, g2]
          by_cases g3 : (b.toNat : Int) = 35
          · simp only [go_sem, e0, e3, hb, g3]
            rw [show plainS s = false from not_all hlt' (hc.trans (decide_eq_false (by omega)))]
          · simp only [go_sem, e0, e3, hb, show ((b.toNat : Int) == 35) = false by simpa using g3]
            refine ⟨hlt, by rw [wrap64 (by omega)]; rfl, HeapIs.rfl, take_all hlt' hj (hc.trans (decide_eq_true (by omega)))⟩
    · obtain rfl : i = s.size := by have : ¬ i < s.size := by simpa using h1
                                    omega
      simp only [go_sem, e0, e3]
      have : plainS s = true := by rw [← bl_len, take_length] at hj; exact hj
      rw [this]
      all_goals exact fin_
theorem c_l27Plain (s : ByteArray) (n : Int) (hmax : s.size ≤ 9223372036854775806) : vCall [] Tryz.prog M 111 [.string s, .int .i64 n] h (fun r h' => r = .bool (plainS s && decide ((s.size : Int) ≤ n)) ∧ h = h') := by
  refine bo Tryz.func111 rfl rfl ?_
  simp only [go_sem]
  refine vLoop.count mo s.size (fun i e h' => e 0 = .string s ∧ e 1 = .int .i64 n ∧ e 5 = .int .i64 i ∧ HeapIs h h' ∧ ((bl s).take i).all okc = true) ?_ ?_
  · exact ⟨rfl, rfl, rfl, HeapIs.rfl, by simp⟩
  · rintro i e _ hi ⟨e0, e1, e5, hh, hj⟩
    cases hh
    simp only [go_sem, e0, e1, e5]
    refine .intro (fun h1 => ?_) (fun h1 => ?_)
    · have hlt : i < s.size := by simpa using h1
      have hlt' : i < (bl s).length := by rw [bl_len]; exact hlt
      have hb := bl_get hlt
      obtain ⟨b, hbe⟩ : ∃ b, b = (bl s)[i] := ⟨_, rfl⟩
      rw [← hbe] at hb
      have hc : okc (bl s)[i] = decide (32 ≤ b.toNat ∧ b.toNat ≤ 126 ∧ b.toNat ≠ 35) := by rw [← hbe]; rfl
      have hb2 := u8_ofNat b
      have e6 : IntKind.i64.wrap (b.toNat : Int) = b.toNat := wrap64 (by omega)
      simp only [go_sem, e0, e1, e5, hb, e6]
      refine (c_l1In _ _ _).go ?_
      rintro _ _ ⟨rfl, rfl⟩
      simp only [go_sem, e0, e1, e5, hb]
      by_cases g1 : (32 : Int) ≤ b.toNat ∧ (b.toNat : Int) ≤ 126
      · simp only [go_sem, e0, e1, e5, hb, decb g1]
        by_cases g3 : (b.toNat : Int) = 35
        · simp only [go_sem, e0, e1, e5, hb, g3]
          rw [show plainS s = false from not_all hlt' (hc.trans (decide_eq_false (by omega)))]
          rfl
        · simp only [go_sem, e0, e1, e5, hb, show ((b.toNat : Int) == 35) = false by simpa using g3]
          refine ⟨hlt, by rw [wrap64 (by omega)]; rfl, HeapIs.rfl, take_all hlt' hj (hc.trans (decide_eq_true (by omega)))⟩
      · simp only [go_sem, e0, e1, e5, hb, dect g1]
        rw [show plainS s = false from not_all hlt' (hc.trans (decide_eq_false (by omega)))]
        rfl
    · obtain rfl : i = s.size := by have : ¬ i < s.size := by simpa using h1
                                    omega
      simp only [go_sem, e0, e1, e5]
      have : plainS s = true := by rw [← bl_len, take_length] at hj; exact hj
      rw [this]
      all_goals exact fin_
theorem c_l1Stands (s : ByteArray) (c : UInt8) (hmax : s.size ≤ 9223372036854775806) : vCall [] Tryz.prog M 112 [.string s, .int .u8 c.toNat] h (fun r h' => r = .bool ((bl s).contains c) ∧ h = h') := by
  refine bo Tryz.func112 rfl rfl ?_
  simp only [go_sem]
  refine vLoop.count mo s.size (fun i e h' => e 0 = .string s ∧ e 1 = .int .u8 c.toNat ∧ e 5 = .int .i64 i ∧ HeapIs h h' ∧ c ∉ (bl s).take i) ?_ ?_
  · exact ⟨rfl, rfl, rfl, HeapIs.rfl, by simp⟩
  · rintro i e _ hi ⟨e0, e1, e5, hh, hj⟩
    cases hh
    simp only [go_sem, e0, e1, e5]
    refine .intro (fun h1 => ?_) (fun h1 => ?_)
    · have hlt : i < s.size := by simpa using h1
      have hlt' : i < (bl s).length := by rw [bl_len]; exact hlt
      have hb := bl_get hlt
      simp only [go_sem, e0, e1, e5, hb]
      by_cases g1 : (bl s)[i] = c
      · simp only [go_sem, e0, e1, e5, hb, g1]
        rw [show (bl s).contains c = true from List.contains_iff_mem.2 (g1 ▸ getElem_mem hlt')]
      · have g2 : ((((bl s)[i]).toNat : Int) == (c.toNat : Int)) = false := by
          rw [beq_eq_false_iff_ne]; intro hh; exact g1 (UInt8.toNat_inj.1 (Int.ofNat.inj hh))
        simp only [go_sem, e0, e1, e5, hb, g2]
        refine ⟨hlt, by rw [wrap64 (by omega)]; rfl, HeapIs.rfl, ?_⟩
        rw [take_add_one, getElem?_eq_getElem hlt']
        simp only [mem_append, Option.mem_toList, not_or]
        exact ⟨hj, fun hh => g1 (by simpa using hh)⟩
    · obtain rfl : i = s.size := by have : ¬ i < s.size := by simpa using h1
                                    omega
      simp only [go_sem, e0, e1, e5]
      rw [← bl_len, take_length] at hj
      rw [show (bl s).contains c = false from by rw [Bool.eq_false_iff]; exact fun hh => hj (List.contains_iff_mem.1 hh)]
theorem toList_eq{s t:ByteArray}:(s.toList==t.toList)=decide (s=t):=by
 by_cases h:s=t
 ·subst h;simp
 ·have: ¬s.toList=t.toList:=by
   intro hh
   rw[Lib.toList_data,Lib.toList_data] at hh
   exact h (bl_ext hh)
  rw[decide_eq_false h]
  simpa using this
theorem c_IsValidRecord(c r:ByteArray)(hc:c.size<=9223372036854775806)(hr:r.size<=9223372036854775806):vCall [] Tryz.prog M 55 [.agg #[.string c, .string r]] h (fun v h'=>v = .bool (recOk c r)∧h<+:h'):=by
 refine bo Tryz.func55 rfl rfl ?_
 simp only[go_sem]
 refine (c_inside _ _ _).go ?_
 rintro _ _⟨rfl,rfl⟩
 simp only[go_sem]
 by_cases h1:(1:Int)<=c.size∧(c.size:Int)<=160
 ·simp only[go_sem,decb h1]
  by_cases h2:(r.size:Int)<=200
  ·simp only[go_sem,h2]
   refine (c_isPlain c hc).go ?_
   rintro _ _⟨rfl,rfl⟩
   simp only[go_sem]
   cases h3:plainS c
   ·simp only[go_sem,h3]
    simp[recOk,h3]
   ·simp only[go_sem,h3]
    refine (c_isPlain r hr).go ?_
    rintro _ _⟨rfl,rfl⟩
    simp only[go_sem]
    cases h4:plainS r
    ·simp only[go_sem,h4]
     simp[recOk,h4]
    ·simp only[go_sem,h4]
     refine (c_Contains c 64).go ?_
     rintro _ _⟨rfl,rfl⟩
     simp only[go_sem]
     have h5:1<=c.size∧c.size<=160∧r.size<=200:=by omega
     simp only[recOk,h3,h4,decb h5,Bool.true_and]
     all_goals exact fin_
  ·simp only[go_sem,h2]
   have h5: ¬(1<=c.size∧c.size<=160∧r.size<=200):=by omega
   simp[recOk,dect h5]
 ·simp only[go_sem,dect h1]
  have h5: ¬(1<=c.size∧c.size<=160∧r.size<=200):=by omega
  simp[recOk,dect h5]
theorem empty_size(c:ByteArray):(c.toList==(⟨#[]⟩:ByteArray).toList)=decide (c.size=0):=by
 rw[toList_eq]
 refine decide_eq_decide.2 ⟨fun hh=>by rw[hh];rfl,fun hh=>bl_ext ?_⟩
 have:=bl_len c
 rw[hh] at this
 rw[List.eq_nil_of_length_eq_zero this];rfl
theorem c_l27Good(c r:ByteArray)(hc:c.size<=9223372036854775806)(hr:r.size<=9223372036854775806):vCall [] Tryz.prog M 60 [.agg #[.string c, .string r]] h (fun v h'=>v = .bool (recOk c r)∧h<+:h'):=by
 refine bo Tryz.func60 rfl rfl ?_
 simp only[go_sem]
 by_cases h1:c.size=0
 ·simp only[go_sem,empty_size,h1]
  simp[recOk,h1]
 ·simp only[go_sem,empty_size,h1]
  refine (c_l27Plain c _ hc).go ?_
  rintro _ _⟨rfl,rfl⟩
  simp only[go_sem]
  by_cases h2:plainS c=true∧(c.size:Int)<=160
  ·have h2':(plainS c&&decide ((c.size:Int)<=160))=true:=by simp[h2.1,h2.2]
   simp only[go_sem,h2']
   refine (c_l1Stands c 64 hc).go ?_
   rintro _ _⟨rfl,rfl⟩
   simp only[go_sem,h2']
   cases h3:(bl c).contains 64
   ·simp only[go_sem,h2',h3]
    refine (c_l27Plain r _ hr).go ?_
    rintro _ _⟨rfl,rfl⟩
    simp only[go_sem]
    have h4:1<=c.size∧c.size<=160:=by omega
    simp only[recOk,h3,h2.1,h4.1,h4.2,true_and,Bool.true_and,Bool.not_false,Bool.and_true]
    by_cases h5:r.size<=200
    ·have h6:(r.size:Int)<=200:=by omega
     simp[h5,h6]
    ·have h6: ¬(r.size:Int)<=200:=by omega
     simp[h5,h6]
   ·simp only[go_sem,h2',h3]
    simp only[recOk,h3,Bool.not_true,Bool.and_false]
  ·have h3:(plainS c&&decide ((c.size:Int)<=160))=false:=by simpa using h2
   simp only[go_sem,h3]
   have h4:recOk c r=false:=by
    simp only[recOk]
    by_cases h5:plainS c=true
    ·have: ¬(c.size:Int)<=160:=fun hh=>h2 ⟨h5,hh⟩
     rw[dect (show ¬(1<=c.size∧c.size<=160∧r.size<=200) by omega)];rfl
    ·simp[h5]
   rw[h4]
   all_goals exact fin_
end
open Go.HH Go.Proofs
def num(n:Nat):ByteArray:=⟨(Lib.decDigits n).toArray⟩
theorem num_size: ∀(k n:Nat),n<10 ^ k->0<k->(num n).size<=k
 | 0,_,_,h=>absurd h (by omega)
 | k+1,n,h,_=>by
  show (Lib.decDigits n).toArray.size<=k+1
  rw[size_toArray,Lib.decDigits]
  split
  ·simp
  ·rename_i hn
   have hk:0<k:=by
    rcases Nat.eq_zero_or_pos k with h0|h0
    ·subst h0;omega
    ·exact h0
   have:=num_size k (n/10) (by rw[Nat.pow_succ] at h;omega) hk
   have h2:(Lib.decDigits (n/10)).length<=k:=by
    have:(Lib.decDigits (n/10)).toArray.size<=k:=this
    rwa [size_toArray] at this
   simp
   omega
theorem num_less{n:Nat}(h:n<10000000000):(num n).size<=10:=num_size 10 n h (by omega)
theorem num_dig: ∀n,n<10->(ByteArray.mk #[48,49,50,51,52,53,54,55,56,57]).extract n (n+1)=num n:=by
 intro n h
 have: ∀k:Fin 10,(ByteArray.mk #[48,49,50,51,52,53,54,55,56,57]).extract k.1 (k.1+1)=⟨#[UInt8.ofNat (48+k.1)]⟩:=by decide +kernel
 rw[this ⟨n,h⟩,num,Lib.decDigits_one h]
theorem num_step{n:Nat}(h: ¬n<10):num (n/10)++num (n%10)=num n:=by
 apply bl_ext
 show (num (n/10)++num (n%10)).data.toList=(Lib.decDigits n).toArray.toList
 rw[show (Lib.decDigits n).toArray.toList=Lib.decDigits (n/10)++ [UInt8.ofNat (48+n%10)] by rw[Lib.decDigits,dif_neg h]]
 simp[num,ByteArray.data_append,Lib.decDigits_one (Nat.mod_lt n (by omega:10>0))]
section
variable {h:Heap} {M:Nat->Prop}
theorem c_Itoa(n:Nat)(hn:n<100):vCall [] Tryz.prog M 80 [.int .i64 n] h (fun r h'=>r = .string (num n)∧h=h'):=
 vCall_plain (by rfl) rfl (Tryz.strconv_Itoa_small n hn)
theorem c_l1Num: ∀(n:Nat),n<10000000000->∀ {h:Heap} {M:Nat->Prop},vCall [] Tryz.prog M 82 [.int .i64 n] h (fun r h'=>r = .string (num n)∧h=h'):=by
 intro n
 induction n using Nat.strongRecOn with
 | _ n ih=>
  intro hn h M
  refine bo Tryz.func82 rfl rfl ?_
  simp only[go_sem,show ¬((n:Int)<0) by omega]
  have z (m:Nat):(0:Int)<=(m:Nat):=by omega
  by_cases h1:n<10
  ·have w1:IntKind.i64.wrap ((n:Int)+1)=((n+1:Nat):Int):=by rw[wrap64 (by omega)];omega
   simp only[go_sem,show ((n:Int)<10) by omega,w1,z,Int.toNat_natCast,num_dig n h1]
   exact⟨by omega,by omega⟩
  ·have q1:(n:Int).tdiv 10=((n/10:Nat):Int):=by rw[Int.tdiv_eq_ediv_of_nonneg (by omega)];omega
   have q2:(n:Int).tmod 10=((n%10:Nat):Int):=by rw[Int.tmod_eq_emod_of_nonneg (by omega)];omega
   have q3:IntKind.i64.wrap ((n/10:Nat):Int)=((n/10:Nat):Int):=wrap64 (by omega)
   have q4:IntKind.i64.wrap (((n%10:Nat):Int)+1)=((n%10+1:Nat):Int):=by rw[wrap64 (by omega)];omega
   simp only[go_sem,show ¬((n:Int)<10) by omega,hBin_quo (show (10:Int)≠0 by omega),hBin_rem (show (10:Int)≠0 by omega),q1,q2,q3,q4]
   refine (ih (n/10) (by omega) (by omega)).go ?_
   rintro _ _⟨rfl,rfl⟩
   have s1:(num (n/10)).size<=10:=num_less (by omega)
   have s2:(num (n%10)).size<=10:=num_less (by omega)
   simp only[go_sem,num_dig (n%10) (by omega),hBin_sadd (show (num (n/10)).size+(num (n%10)).size<=9223372036854775807 by omega),num_step h1,prefix_rfl]
   exact⟨by omega,by omega⟩
end
open Go.HH Go.Proofs
abbrev BL:=List UInt8
def mkB(l:BL):ByteArray:=⟨l.toArray⟩
theorem bl_mkB(l:BL):bl (mkB l)=l:=rfl
theorem mkB_bl(s:ByteArray):mkB (bl s)=s:=bl_ext rfl
theorem mkB_size(l:BL):(mkB l).size=l.length:=by rw[←bl_len,bl_mkB]
theorem mkB_inj{a b:BL}:mkB a=mkB b↔a=b:=⟨fun h=>by rw[←bl_mkB a,h,bl_mkB],fun h=>by rw[h]⟩
theorem bl_app(s t:ByteArray):bl (s++t)=bl s++bl t:=by simp[bl,ByteArray.data_append]
theorem bl_num(n:Nat):bl (num n)=Lib.decDigits n:=rfl
theorem bl_extract(s:ByteArray)(a b:Nat):bl (s.extract a b)=((bl s).take b).drop a:=by
 rw[List.drop_take]
 simp only[bl,ByteArray.data_extract,Array.toList_extract]
def cutA(l:BL)(b:UInt8):BL:=l.takeWhile fun x=>x != b
def cutB(l:BL)(b:UInt8):BL:=(l.dropWhile fun x=>x != b).drop 1
theorem cutA_miss{b:UInt8}: ∀ {p:BL},b∉p->cutA p b=p
 | [],_=>rfl
 | x::p,h=>by
  have h1:x≠b:=fun e=>h (by rw[e];exact List.mem_cons_self)
  have h2:=cutA_miss (b:=b) (p:=p) (fun e=>h (mem_cons_of_mem _ e))
  unfold cutA at h2 ⊢
  rw[List.takeWhile_cons_of_pos (by simpa using h1),h2]
theorem cutB_miss{b:UInt8}: ∀ {p:BL},b∉p->cutB p b= []
 | [],_=>rfl
 | x::p,h=>by
  have h1:x≠b:=fun e=>h (by rw[e];exact List.mem_cons_self)
  have h2:=cutB_miss (b:=b) (p:=p) (fun e=>h (mem_cons_of_mem _ e))
  unfold cutB at h2 ⊢
  rw[List.dropWhile_cons_of_pos (by simpa using h1),h2]
theorem cutA_hit{b:UInt8}{q:BL}: ∀ {p:BL},b∉p->cutA (p++b::q) b=p
 | [],_=>by simp[cutA]
 | x::p,h=>by
  have h1:x≠b:=fun e=>h (by rw[e];exact List.mem_cons_self)
  have h2:=cutA_hit (b:=b) (q:=q) (p:=p) (fun e=>h (mem_cons_of_mem _ e))
  unfold cutA at h2 ⊢
  rw[cons_append,List.takeWhile_cons_of_pos (by simpa using h1),h2]
theorem cutB_hit{b:UInt8}{q:BL}: ∀ {p:BL},b∉p->cutB (p++b::q) b=q
 | [],_=>by simp[cutB]
 | x::p,h=>by
  have h1:x≠b:=fun e=>h (by rw[e];exact List.mem_cons_self)
  have h2:=cutB_hit (b:=b) (q:=q) (p:=p) (fun e=>h (mem_cons_of_mem _ e))
  unfold cutB at h2 ⊢
  rw[cons_append,List.dropWhile_cons_of_pos (by simpa using h1),h2]
theorem cut_mem{l:BL}{b:UInt8}(h:b∈l):l=cutA l b++b::cutB l b∧b∉cutA l b:=by
 obtain⟨p,q,rfl,hp⟩:=List.eq_append_cons_of_mem h
 rw[cutA_hit hp,cutB_hit hp]
 exact⟨rfl,hp⟩
def spl(b:UInt8)(a:List BL×BL)(x:UInt8):List BL×BL:=if x=b then (a.1++ [a.2],[]) else (a.1,a.2++ [x])
def splitL(l:BL)(b:UInt8):List BL:=(l.foldl (spl b) ([],[])).1++ [(l.foldl (spl b) ([],[])).2]
theorem spl_none{b:UInt8}: ∀ {l:BL} (a:List BL×BL),b∉l->l.foldl (spl b) a=(a.1,a.2++l)
 | [],a,_=>by simp
 | x::l,a,h=>by
  have h1:x≠b:=fun e=>h (by rw[e];exact List.mem_cons_self)
  rw[foldl_cons,spl_none (l:=l) _ (fun e=>h (mem_cons_of_mem _ e)),spl,if_neg h1]
  simp
theorem spl_pre{b:UInt8}: ∀(l:BL) (a:List BL×BL),a.1<+:(l.foldl (spl b) a).1
 | [],a=>prefix_rfl
 | x::l,a=>by
  rw[foldl_cons]
  refine List.IsPrefix.trans ?_ (spl_pre l _)
  unfold spl
  split
  ·exact prefix_append _ _
  ·exact prefix_rfl
theorem splitL_head(l:BL)(b:UInt8): ∃r,splitL l b=cutA l b::r∧(r= []↔b∉l):=by
 by_cases h:b∈l
 ·obtain⟨p,q,rfl,hp⟩:=List.eq_append_cons_of_mem h
  have e:(p++b::q).foldl (spl b) ([],[])=q.foldl (spl b) ([p],[]):=by
   rw[List.foldl_append,spl_none _ hp,foldl_cons,spl,if_pos rfl];simp
  obtain⟨t,ht⟩:=spl_pre (b:=b) q ([p],[])
  refine⟨t++ [(q.foldl (spl b) ([p],[])).2], ?_, ?_⟩
  ·rw[splitL,e,cutA_hit hp, ←ht];rfl
  ·simp
 ·refine⟨[], ?_,by simpa using h⟩
  rw[splitL,spl_none _ h,cutA_miss h];simp
def sumL(l:BL):Nat:=l.foldl (fun n b=>(41*n+b.toNat+1)%999979) 7
theorem sumL_snoc(l:BL)(b:UInt8):sumL (l++ [b])=(41*sumL l+b.toNat+1)%999979:=by
 rw[sumL,List.foldl_append];rfl
theorem sumL_lt(l:BL):sumL l<999979:=by
 rcases List.eq_nil_or_concat l with rfl|⟨p,b,rfl⟩
 ·decide
 ·rw[List.concat_eq_append,sumL_snoc];exact Nat.mod_lt _ (by decide)
theorem dec_digit: ∀(u:Nat),∀c∈Lib.decDigits u,48<=c.toNat∧c.toNat<=57:=by
 intro u
 induction u using Nat.strongRecOn with
 | _ u ih=>
  intro c hc
  rw[Lib.decDigits] at hc
  split at hc
  ·rename_i h
   simp at hc
   subst hc
   simp
   omega
  ·rename_i h
   rcases mem_append.1 hc with hc|hc
   ·exact ih (u/10) (by omega) c hc
   ·simp at hc
    subst hc
    have:u%10<10:=Nat.mod_lt _ (by decide)
    simp
    omega
theorem dec_no{u:Nat}{b:UInt8}(h:b.toNat<48∨57<b.toNat):b∉Lib.decDigits u:=by
 intro hb
 have:=dec_digit u b hb
 omega
def okL(c r:BL):Bool:=decide (1<=c.length∧c.length<=160∧r.length<=200)&&c.all okc&&r.all okc && !c.contains 64
theorem recOk_mk(c r:BL):recOk (mkB c) (mkB r)=okL c r:=by
 simp only[recOk,okL,plainS,bl_mkB,mkB_size]
theorem okL_iff{c r:BL}:okL c r=true↔(1<=c.length∧c.length<=160∧r.length<=200)∧(∀b∈c,okc b=true)∧(∀b∈r,okc b=true)∧64∉c:=by
 simp only[okL,Bool.and_eq_true,decide_eq_true_eq,all_eq_true,Bool.not_eq_true',and_assoc]
 have:(c.contains 64=false)↔64∉c:=by
  rw[←Bool.not_eq_true,List.contains_iff_mem]
 rw[this]
theorem okc_no{b:UInt8}(h:okc b=true):b≠35∧b≠10:=by
 have h1:32<=b.toNat∧b.toNat<=126∧b.toNat≠35:=by simpa[okc] using h
 constructor
 ·rintro rfl;exact h1.2.2 rfl
 ·rintro rfl;exact absurd h1.1 (by decide)
def recL(k:Nat)(c r:BL):BL:=Lib.decDigits k++32::(c++64::r)
def lineL(k:Nat)(c r:BL):BL:=recL k c r++35::Lib.decDigits (sumL (recL k c r))
theorem recL_no35{k:Nat}{c r:BL}(h:okL c r=true):35∉recL k c r:=by
 obtain⟨_,h1,h2,_⟩:=okL_iff.1 h
 simp only[recL,mem_append,mem_cons,not_or]
 exact⟨dec_no (by decide),by decide,fun hb=>(okc_no (h1 _ hb)).1 rfl,by decide,fun hb=>(okc_no (h2 _ hb)).1 rfl⟩
theorem lineL_no10{k:Nat}{c r:BL}(h:okL c r=true):10∉lineL k c r:=by
 obtain⟨_,h1,h2,_⟩:=okL_iff.1 h
 simp only[lineL,recL,mem_append,mem_cons,not_or]
 exact⟨⟨dec_no (by decide),by decide,fun hb=>(okc_no (h1 _ hb)).2 rfl,by decide,fun hb=>(okc_no (h2 _ hb)).2 rfl⟩,by decide,dec_no (by decide)⟩
theorem dec_len{n k:Nat}(h:n<10 ^ k)(hk:0<k):(Lib.decDigits n).length<=k:=by
 have:=num_size k n h hk
 rwa [←bl_len,bl_num] at this
theorem recL_len{k:Nat}{c r:BL}(h:okL c r=true)(hk:k<100):(recL k c r).length<=364:=by
 obtain⟨h0,_⟩:=okL_iff.1 h
 have:=dec_len (n:=k) (k:=2) (by omega) (by omega)
 simp only[recL,length_append,length_cons]
 omega
theorem lineL_len{k:Nat}{c r:BL}(h:okL c r=true)(hk:k<100):(lineL k c r).length<=371:=by
 have h1:=recL_len h hk
 have:=dec_len (n:=sumL (recL k c r)) (k:=6) (Nat.lt_trans (sumL_lt _) (by omega)) (by omega)
 simp only[lineL,length_append,length_cons]
 omega
theorem cut_line{k:Nat}{c r:BL}(h:okL c r=true):cutA (lineL k c r) 35=recL k c r:=cutA_hit (recL_no35 h)
theorem cut_rec{k:Nat}{c r:BL}:cutB (recL k c r) 32=c++64::r:=cutB_hit (dec_no (by decide))
def readL(k:Nat)(l:BL):Option (BL×BL):=
 if okL (cutA (cutB (cutA l 35) 32) 64) (cutB (cutB (cutA l 35) 32) 64)=true∧lineL k (cutA (cutB (cutA l 35) 32) 64) (cutB (cutB (cutA l 35) 32) 64)=l
 then some (cutA (cutB (cutA l 35) 32) 64,cutB (cutB (cutA l 35) 32) 64) else none
theorem readL_line{k:Nat}{c r:BL}(h:okL c r=true):readL k (lineL k c r)=some (c,r):=by
 have h4:=(okL_iff.1 h).2.2.2
 rw[readL,cut_line h,cut_rec,cutA_hit h4,cutB_hit h4,if_pos ⟨h,rfl⟩]
theorem readL_some{k:Nat}{l c r:BL}(h:readL k l=some (c,r)):okL c r=true∧l=lineL k c r:=by
 unfold readL at h
 split at h
 ·rename_i g
  cases h
  exact⟨g.1,g.2.symm⟩
 ·cases h
theorem readL_no_head{k:Nat}{l:BL}(h: ¬Lib.decDigits k++ [32]<+:cutA l 35):readL k l=none:=by
 cases e:readL k l with
 | none=>rfl
 | some x=>
  obtain⟨g,rfl⟩:=readL_some (c:=x.1) (r:=x.2) e
  exact absurd ⟨x.1++64::x.2,by rw[cut_line g,recL];simp⟩ h
theorem readL_head{k:Nat}{l rest:BL}(h:cutA l 35=Lib.decDigits k++ [32]++rest) :
  readL k l=if okL (cutA rest 64) (cutB rest 64)=true∧lineL k (cutA rest 64) (cutB rest 64)=l then some (cutA rest 64,cutB rest 64) else none:=by
 have:cutB (cutA l 35) 32=rest:=by
  rw[h,append_assoc,List.singleton_append]
  exact cutB_hit (dec_no (by decide))
 rw[readL,this]
theorem readL_no_at{k:Nat}{l rest:BL}(h:cutA l 35=Lib.decDigits k++ [32]++rest)(h2:64∉rest):readL k l=none:=by
 cases e:readL k l with
 | none=>rfl
 | some x=>
  obtain⟨g,rfl⟩:=readL_some (c:=x.1) (r:=x.2) e
  rw[cut_line g,recL,append_assoc,List.singleton_append,List.append_cancel_left_eq] at h
  rw[List.cons.injEq] at h
  exact absurd (by rw[←h.2];simp) h2
def openL:Nat->Nat->BL->List (BL×BL)
 | 0,_,_=> []
 | n+1,k,s=>if 10∈s then (match readL k (cutA s 10) with|some e=>e::openL n (k+1) (cutB s 10)|none=> []) else []
def endL:Nat->List (BL×BL)->Nat
 | _,[]=>0
 | k,e::r=>(lineL k e.1 e.2).length+1+endL (k+1) r
theorem openL_no{n k:Nat}{s:BL}(h:10∉s):openL n k s= []:=by
 cases n with
 | zero=>rfl
 | succ n=>rw[openL,if_neg h]
theorem openL_none{n k:Nat}{s:BL}(h:readL k (cutA s 10)=none):openL n k s= []:=by
 cases n with
 | zero=>rfl
 | succ n=>rw[openL,h];simp
theorem openL_some{n k:Nat}{s:BL}{e:BL×BL}(h:10∈s)(g:readL k (cutA s 10)=some e):openL (n+1) k s=e::openL n (k+1) (cutB s 10):=by
 rw[openL,if_pos h,g]
theorem openL_len: ∀(n k:Nat) (s:BL),(openL n k s).length<=n
 | 0,_,_=>le_refl 0
 | n+1,k,s=>by
  rw[openL]
  split
  ·split
   ·rw[length_cons];exact Nat.succ_le_succ (openL_len n _ _)
   ·exact zero_le _
  ·exact zero_le _
theorem endL_snoc: ∀(k:Nat) (d:List (BL×BL)) (e:BL×BL),endL k (d++ [e])=endL k d+(lineL (k+d.length) e.1 e.2).length+1
 | k,[],e=>by simp[endL]
 | k,x::d,e=>by
  rw[cons_append,endL,endL,endL_snoc (k+1) d e,length_cons,show k+1+d.length=k+(d.length+1) by omega]
  omega
theorem drop_line(x y:BL):(x++10::y).drop (x.length+1)=y:=by simp[List.drop_append]
theorem line_at{s:BL}{a k:Nat}{e:BL×BL}(h:10∈s.drop a)(g:readL k (cutA (s.drop a) 10)=some e) :
  s.drop a=lineL k e.1 e.2++10::s.drop (a+(lineL k e.1 e.2).length+1)∧cutA (s.drop a) 10=lineL k e.1 e.2∧cutB (s.drop a) 10=s.drop (a+(lineL k e.1 e.2).length+1)∧a+(lineL k e.1 e.2).length+1<=s.length:=by
 have e1:=(readL_some (c:=e.1) (r:=e.2) g).2
 have h2:=(cut_mem h).1
 rw[e1] at h2
 have h3:cutB (s.drop a) 10=s.drop (a+(lineL k e.1 e.2).length+1):=by
  have:=congrArg (List.drop ((lineL k e.1 e.2).length+1)) h2
  rw[drop_drop,drop_line] at this
  rw[←this,add_assoc]
 have h4:=congrArg List.length h2
 rw[length_drop,length_append,length_cons] at h4
 refine⟨by rw[←h3];exact h2,e1,h3,by omega⟩
theorem endL_le: ∀(n k:Nat) (s:BL),n+k<=100->endL k (openL n k s)<=372*(openL n k s).length∧endL k (openL n k s)<=s.length
 | 0,_,_,_=>⟨le_refl 0,zero_le _⟩
 | n+1,k,s,hk=>by
  by_cases h:10∈s
  ·cases g:readL k (cutA s 10) with
   | none=>rw[openL_none g];exact⟨le_refl 0,zero_le _⟩
   | some e=>
    obtain⟨h1,h2⟩:=endL_le n (k+1) (cutB s 10) (by omega)
    obtain⟨g1,g2⟩:=readL_some (c:=e.1) (r:=e.2) g
    have h3:=lineL_len (k:=k) g1 (by omega)
    have h4:=congrArg List.length (cut_mem h).1
    rw[length_append,length_cons,g2] at h4
    rw[openL_some h g,endL,length_cons]
    omega
  ·rw[openL_no h];exact⟨le_refl 0,zero_le _⟩
theorem cut_app{b:UInt8}{D P:BL}(h:b∈D):cutA (D++P) b=cutA D b∧cutB (D++P) b=cutB D b++P:=by
 obtain⟨p,q,rfl,hp⟩:=List.eq_append_cons_of_mem h
 rw[append_assoc,cons_append,cutA_hit hp,cutB_hit hp,cutA_hit hp,cutB_hit hp]
 exact⟨rfl,rfl⟩
theorem open_pre: ∀(n k:Nat) (D P:BL),openL n k D<+:openL n k (D++P)
 | 0,_,_,_=>prefix_rfl
 | n+1,k,D,P=>by
  by_cases h:10∈D
  ·obtain⟨e1,e2⟩:=cut_app (P:=P) h
   cases g:readL k (cutA D 10) with
   | none=>rw[openL_none g];exact List.nil_prefix
   | some e=>
    rw[openL_some h g,openL_some (mem_append_left _ h) (by rw[e1];exact g),e2]
    exact List.cons_prefix_cons.2 ⟨rfl,open_pre n (k+1) _ P⟩
  ·rw[openL_no h];exact List.nil_prefix
theorem open_end: ∀(n k:Nat) (D P:BL) (j:Nat),j<=(openL n k (D++P)).length->endL k ((openL n k (D++P)).take j)=D.length->endL k (openL n k D)=D.length
 | n,k,D,P,0,_,h=>by
  rw[List.take_zero] at h
  have:D= []:=List.eq_nil_of_length_eq_zero h.symm
  subst this
  rw[openL_no (by simp)];rfl
 | 0,k,D,P,j+1,h1,h=>by simp[openL] at h1
 | n+1,k,D,P,j+1,h1,h=>by
  by_cases hm:10∈D++P
  ·cases g:readL k (cutA (D++P) 10) with
   | none=>rw[openL_none g] at h1;simp at h1
   | some e=>
    rw[openL_some hm g] at h h1
    rw[List.take_succ_cons,endL] at h
    have h2:=(cut_mem hm).1
    have h3:=(cut_mem hm).2
    rw[(readL_some (c:=e.1) (r:=e.2) g).2] at h2 h3
    have hD:10∈D:=by
     have:(D++P).take D.length=D:=by simp
     rw[←this,h2,List.take_append]
     refine List.mem_append_right _ ?_
     rw[show D.length-(lineL k e.1 e.2).length=(endL (k+1) (List.take j (openL n (k+1) (cutB (D++P) 10))))+1 by omega,List.take_succ_cons]
     exact List.mem_cons_self
    obtain⟨e1,e2⟩:=cut_app (P:=P) hD
    rw[e1] at g
    rw[e2] at h h1
    rw[length_cons] at h1
    have h4:=congrArg List.length (cut_mem hD).1
    rw[length_append,length_cons,(readL_some (c:=e.1) (r:=e.2) g).2] at h4
    rw[openL_some hD g,endL,open_end n (k+1) (cutB D 10) P j (by omega) (by omega)]
    omega
  ·rw[openL_no hm] at h1;simp at h1
def endsL(d:List (BL×BL)):List Int:=(List.range (d.length+1)).map fun j=>(endL 0 (d.take j):Int)
theorem endsL_len(d:List (BL×BL)):(endsL d).length=d.length+1:=by simp[endsL]
theorem endsL_snoc(d:List (BL×BL))(e:BL×BL):endsL (d++ [e])=endsL d++ [(endL 0 (d++ [e]):Int)]:=by
 unfold endsL
 rw[length_append,length_singleton,List.range_succ,map_append,List.map_singleton,take_of_length_le (by simp)]
 congr 1
 refine List.map_congr_left fun j hj => ?_
 rw[List.take_append_of_le_length (by have:=mem_range.1 hj;omega)]
theorem endsL_at{d:List (BL×BL)}{j:Nat}(hj:j<(endsL d).length):(endsL d)[j]=(endL 0 (d.take j):Int):=by
 simp[endsL]
def AtL(s:BL)(d:List (BL×BL)):Prop:=d.length<=60∧openL 60 0 s=d++openL (60-d.length) d.length (s.drop (endL 0 d))∧endL 0 d<=s.length
theorem AtL.start(s:BL):AtL s []:=⟨by simp,by simp[endL],by simp[endL]⟩
theorem AtL.step{s:BL}{d:List (BL×BL)}{e:BL×BL}(a:AtL s d)(hd:d.length<60)(hm:10∈s.drop (endL 0 d))(g:readL d.length (cutA (s.drop (endL 0 d)) 10)=some e) :
  AtL s (d++ [e])∧endL 0 (d++ [e])=endL 0 d+((lineL d.length e.1 e.2).length+1):=by
 obtain⟨h1,h2,h3⟩:=a
 obtain⟨_,_,l3,l4⟩:=line_at hm g
 have e1:endL 0 (d++ [e])=endL 0 d+(lineL d.length e.1 e.2).length+1:=by rw[endL_snoc,zero_add]
 refine⟨⟨by rw[length_append,length_singleton];omega, ?_,by omega⟩,by omega⟩
 rw[h2,show 60-d.length=(60-(d.length+1))+1 by omega,openL_some hm g,l3,e1,length_append,length_singleton,append_assoc,List.singleton_append]
theorem AtL.stop{s:BL}{d:List (BL×BL)}(a:AtL s d)(h: ¬(10∈s.drop (endL 0 d)∧d.length<60∧(readL d.length (cutA (s.drop (endL 0 d)) 10)).isSome=true)):openL 60 0 s=d:=by
 obtain⟨h1,h2,h3⟩:=a
 rw[h2]
 by_cases hm:10∈s.drop (endL 0 d)
 ·by_cases hd:d.length<60
  ·have:readL d.length (cutA (s.drop (endL 0 d)) 10)=none:=by
    rw[←Option.not_isSome_iff_eq_none];exact fun hh=>h ⟨hm,hd,hh⟩
   rw[openL_none this,append_nil]
  ·rw[show 60-d.length=0 by omega,openL,append_nil]
 ·rw[openL_no hm,append_nil]
def logOk(D P:BL)(count:Int):Prop:=endL 0 (openL 60 0 (D++P))=(D++P).length∧endL 0 (openL 60 0 D)=D.length∧((openL 60 0 (D++P)).length:Int)=count
instance (D P:BL) (count:Int):Decidable (logOk D P count):=by unfold logOk;infer_instance
theorem logOk_small{D P:BL}(h:endL 0 (openL 60 0 (D++P))=(D++P).length):(D++P).length<=22320:=by
 have h1:=(endL_le 60 0 (D++P) (by omega)).1
 have h2:=openL_len 60 0 (D++P)
 omega
theorem logOk_ends{D P:BL}:(∃j,j<=(openL 60 0 (D++P)).length∧endL 0 ((openL 60 0 (D++P)).take j)=D.length)↔endL 0 (openL 60 0 D)=D.length:=by
 constructor
 ·rintro⟨j,h1,h2⟩
  exact open_end 60 0 D P j h1 h2
 ·intro h
  obtain⟨t,ht⟩:=open_pre 60 0 D P
  refine⟨(openL 60 0 D).length, ?_, ?_⟩
  ·rw[←ht,length_append];omega
  ·rw[←ht,take_left']
   ·exact h
   ·rfl
open Go.HH Go.Proofs
theorem idx_miss{c:UInt8}: ∀ {l:BL},c∉l->Lib.indexByte l c = -1
 | [],_=>rfl
 | x::l,h=>by
  have h1:x≠c:=fun e=>h (by rw[e];exact List.mem_cons_self)
  rw[Lib.indexByte,idx_miss (l:=l) (fun e=>h (mem_cons_of_mem _ e))]
  simp[h1]
theorem idx_at{c:UInt8}{q:BL}: ∀ {p:BL},c∉p->Lib.indexByte (p++c::q) c=p.length
 | [],_=>by simp[Lib.indexByte]
 | x::p,h=>by
  have h1:x≠c:=fun e=>h (by rw[e];exact List.mem_cons_self)
  have h2:=idx_at (q:=q) (p:=p) (fun e=>h (mem_cons_of_mem _ e))
  rw[cons_append,Lib.indexByte,h2]
  have h3: ¬((p.length:Int) = -1):=by omega
  simp[h1,h3]
theorem idx_hit{c:UInt8}{l:BL}(h:c∈l):Lib.indexByte l c=(cutA l c).length:=by
 obtain⟨p,q,rfl,hp⟩:=List.eq_append_cons_of_mem h
 rw[cutA_hit hp,idx_at hp]
theorem cut_len{c:UInt8}{l:BL}(h:c∈l):(cutA l c).length+1+(cutB l c).length=l.length:=by
 have:=congrArg List.length (cut_mem h).1
 rw[length_append,length_cons] at this
 omega
theorem cutA_extract{s:ByteArray}{c:UInt8}(h:c∈bl s):s.extract 0 (cutA (bl s) c).length=mkB (cutA (bl s) c):=by
 apply bl_ext
 obtain⟨p,q,e,hp⟩:=List.eq_append_cons_of_mem h
 rw[bl_extract,bl_mkB,e,cutA_hit hp];simp
theorem cutB_extract{s:ByteArray}{c:UInt8}(h:c∈bl s):s.extract ((cutA (bl s) c).length+1) s.size=mkB (cutB (bl s) c):=by
 apply bl_ext
 rw[bl_extract, ←bl_len,take_length,bl_mkB]
 obtain⟨p,q,e,hp⟩:=List.eq_append_cons_of_mem h
 rw[e,cutA_hit hp,cutB_hit hp,List.drop_append,List.drop_eq_nil_of_le (by omega)]
 simp
section
variable {h:Heap} {M:Nat->Prop}
theorem c_sIndex(s:ByteArray)(c:UInt8):vCall [] Tryz.prog M 170 [.string s, .string ⟨#[c]⟩] h (fun r h'=>r = .int .i64 (Lib.indexByte (bl s) c)∧h=h'):=
 vCall_plain (by rfl) rfl (Tryz.stringslite_Index_one s c)
theorem c_sCut(s:ByteArray)(c:UInt8)(hs:s.size<=9223372036854775000):vCall [] Tryz.prog M 203 [.string s, .string ⟨#[c]⟩] h
  (fun r h'=>r = .tuple #[.string (mkB (cutA (bl s) c)), .string (mkB (cutB (bl s) c)), .bool ((bl s).contains c)]∧h=h'):=by
 refine bo Tryz.func203 rfl rfl ?_
 simp only[go_sem]
 refine (c_sIndex s c).go ?_
 rintro _ _⟨rfl,rfl⟩
 simp only[go_sem]
 by_cases hm:c∈bl s
 ·have h1:=cut_len hm
  rw[bl_len] at h1
  have e1:IntKind.i64.wrap (((cutA (bl s) c).length:Int)+1)=(((cutA (bl s) c).length+1:Nat):Int):=by rw[wrap64 (by omega)];omega
  have e2: ¬(((cutA (bl s) c).length:Int)<0):=by omega
  simp only[go_sem,idx_hit hm,e1,e2]
  refine⟨by omega,by omega,by omega, ?_⟩
  rw[cutA_extract hm,cutB_extract hm,List.contains_iff_mem.2 hm]
 ·simp only[go_sem,idx_miss hm]
  rw[cutA_miss hm,cutB_miss hm,mkB_bl,show (bl s).contains c=false from by rw[Bool.eq_false_iff];exact fun hh=>hm (List.contains_iff_mem.1 hh)]
  rfl
theorem c_Cut(s:ByteArray)(c:UInt8)(hs:s.size<=9223372036854775000):vCall [] Tryz.prog M 163 [.string s, .string ⟨#[c]⟩] h
  (fun r h'=>r = .tuple #[.string (mkB (cutA (bl s) c)), .string (mkB (cutB (bl s) c)), .bool ((bl s).contains c)]∧h=h'):=by
 refine bo Tryz.func163 rfl rfl ?_
 simp only[go_sem]
 refine (c_sCut s c hs).go ?_
 rintro _ _⟨rfl,rfl⟩
 simp only[go_sem]
theorem c_CutE{G:List (Nat×Nat)}(s:ByteArray)(c:UInt8)(a b:BL)(hs:s.size<=9223372036854775000)(ha:cutA (bl s) c=a)(hb:cutB (bl s) c=b):vCall G Tryz.prog M 163 [.string s, .string ⟨#[c]⟩] h
  (fun r h'=>r = .tuple #[.string (mkB a), .string (mkB b), .bool ((bl s).contains c)]∧h=h'):=by
 subst ha hb
 exact (c_Cut s c hs).addG
end
open Go.HH Go.Proofs
def powV:List Value:=Lib.pow10Tab.map (Value.int .u64)
theorem powV_len:powV.length=20:=by simp[powV,Lib.pow10Tab]
theorem powV_plain: ∀v∈powV,Plain v:=by
 intro v hv
 obtain⟨z,_,rfl⟩:=mem_map.1 hv
 exact .int _ _
def PowAt(G:List (Nat×Nat))(h:Heap):Prop:=(1,20)∈G∧hget h 1=some ⟨powV,1, .ro⟩
theorem PowAt.mono{G:List (Nat×Nat)}{h h':Heap}(a:PowAt G h)(hp:h<+:h'):PowAt G h':=⟨a.1,by rw[hget_prefix hp (hget_lt a.2)];exact a.2⟩
theorem c_ItoaG{G:List (Nat×Nat)}{M:Nat->Prop}{h:Heap}(a:PowAt G h)(n:Nat)(hn:n<10000000000):vCall G Tryz.prog M 80 [.int .i64 n] h (fun r h'=>r = .string (num n)∧h=h'):=by
 refine vCall_below (by rfl) rfl fun p w hr => ?_
 have e:Lib.itoa (n:Int)=Lib.decDigits n:=by rw[Lib.itoa,if_neg (by omega)];rfl
 have:=Tryz.strconv_Itoa n (by omega) (by omega) w (var_of (l:=powV) hr (by rw[powV_len];exact a.1) powV_plain a.2 (by simp) rfl (by kernel_rfl))
 rw[e] at this
 refine this.mono ?_
 rintro e w' ⟨rfl,k,os,rfl⟩
 exact⟨rfl,below_grow⟩
theorem var_cells{P:Program}{W:World}{name:String}{g:Nat}{c:Array Value}(hg:P.globalNamed name=some g)(h:W.var? P name=some c): ∃el fr,W.heap[g]? = some (.cells c el fr):=by
 simp only[World.var?,hg,Option.bind_some] at h
 split at h
 ·rename_i cs el fr e
  cases h
  exact⟨el,fr,e⟩
 ·cases h
open Go.HH Go.Proofs
def sealL(l:BL):BL:=l++35::Lib.decDigits (sumL l)
theorem sealL_rec(k:Nat)(c r:BL):sealL (recL k c r)=lineL k c r:=rfl
theorem seal_len(l:BL):(sealL l).length<=l.length+7:=by
 have:=dec_len (n:=sumL l) (k:=6) (Nat.lt_trans (sumL_lt _) (by omega)) (by omega)
 simp only[sealL,length_append,length_cons]
 omega
theorem sum_step{l:BL}{i:Nat}(h:i<l.length):sumL (l.take (i+1))=(41*sumL (l.take i)+(l[i]).toNat+1)%999979:=by
 rw[take_add_one,getElem?_eq_getElem h];exact sumL_snoc _ _
def recB(k:Nat)(c r:ByteArray):ByteArray:=num k++⟨#[32]⟩++c++⟨#[64]⟩++r
theorem bl_recB(k:Nat)(c r:ByteArray):bl (recB k c r)=recL k (bl c) (bl r):=by
 have e1:bl (⟨#[32]⟩:ByteArray)= [32]:=rfl
 have e2:bl (⟨#[64]⟩:ByteArray)= [64]:=rfl
 simp only[recB,bl_app,bl_num,recL,e1,e2,append_assoc,List.singleton_append,cons_append,nil_append]
theorem sealB(s:ByteArray):s++⟨#[35]⟩++num (sumL (bl s))=mkB (sealL (bl s)):=by
 apply bl_ext
 have e1:bl (⟨#[35]⟩:ByteArray)= [35]:=rfl
 simp only[bl_app,bl_num,bl_mkB,sealL,e1,append_assoc,List.singleton_append]
theorem nlB(l:BL):mkB l++⟨#[10]⟩=mkB (l++ [10]):=by
 apply bl_ext
 have e1:bl (⟨#[10]⟩:ByteArray)= [10]:=rfl
 simp only[bl_app,bl_mkB,e1]
theorem recOk_L(c r:ByteArray):recOk c r=okL (bl c) (bl r):=by
 have:=recOk_mk (bl c) (bl r)
 rwa [mkB_bl,mkB_bl] at this
theorem adds{a b:ByteArray}(h:a.size+b.size<=9223372036854775807):hBin .add (.string a) (.string b)=some (.string (a++b)):=hBin_sadd h
section
variable {G:List (Nat×Nat)} {h:Heap} {M:Nat->Prop}
theorem c_checksum (s : ByteArray) (hmax : s.size ≤ 9223372036854775806) : vCall [] Tryz.prog M 189 [.string s] h (fun r h' => r = .int .i64 (sumL (bl s) : Nat) ∧ h = h') := by
  refine bo Tryz.func189 rfl rfl ?_
  simp only [go_sem]
  refine vLoop.count mo s.size (fun i e h' => e 0 = .string s ∧ e 4 = .int .i64 i ∧ e 3 = .int .i64 (sumL ((bl s).take i) : Nat) ∧ HeapIs h h') ?_ ?_
  · exact ⟨rfl, rfl, rfl, HeapIs.rfl⟩
  · rintro i e _ hi ⟨e0, e4, e3, hh⟩
    cases hh
    simp only [go_sem, e0, e4, e3]
    refine .intro (fun h1 => ?_) (fun h1 => ?_)
    · have hlt : i < s.size := by simpa using h1
      have hlt' : i < (bl s).length := by rw [bl_len]; exact hlt
      have hb := bl_get hlt
      have st := sum_step hlt'
      obtain ⟨b, hbe⟩ : ∃ b, b = (bl s)[i] := ⟨_, rfl⟩
      rw [← hbe] at hb st
      have hs := sumL_lt ((bl s).take i)
      have hb2 := u8_ofNat b
      obtain ⟨S, hS⟩ : ∃ S, S = sumL ((bl s).take i) := ⟨_, rfl⟩
      rw [← hS] at st hs e3
      have w1 : IntKind.i64.wrap (41 * (S : Int)) = 41 * (S : Int) := wrap64 (by omega)
      have w2 : IntKind.i64.wrap (b.toNat : Int) = b.toNat := wrap64 (by omega)
      have w3 : IntKind.i64.wrap (41 * (S : Int) + b.toNat) = 41 * (S : Int) + b.toNat := wrap64 (by omega)
      have w4 : IntKind.i64.wrap (41 * (S : Int) + b.toNat + 1) = ((41 * S + b.toNat + 1 : Nat) : Int) := by rw [wrap64 (by omega)]; omega
      have q2 : ((41 * S + b.toNat + 1 : Nat) : Int).tmod 999979 = (((41 * S + b.toNat + 1) % 999979 : Nat) : Int) := by rw [Int.tmod_eq_emod_of_nonneg (by omega)]; omega
      simp only [go_sem, e0, e4, e3, hb, w1, w2, w3, w4, hBin_rem (show (999979 : Int) ≠ 0 by omega), q2]
      exact ⟨hlt, by rw [wrap64 (by omega)]; rfl, by rw [st], HeapIs.rfl⟩
    · obtain rfl : i = s.size := by have : ¬ i < s.size := by simpa using h1
                                    omega
      simp only [go_sem, e0, e4, e3]
      rw [← bl_len, take_length]
theorem c_l1Sum (s : ByteArray) (hmax : s.size ≤ 9223372036854775806) : vCall [] Tryz.prog M 169 [.string s] h (fun r h' => r = .int .i64 (sumL (bl s) : Nat) ∧ h = h') := by
  refine bo Tryz.func169 rfl rfl ?_
  simp only [go_sem]
  refine vLoop.count mo s.size (fun i e h' => e 0 = .string s ∧ e 4 = .int .i64 i ∧ e 3 = .int .i64 (sumL ((bl s).take i) : Nat) ∧ HeapIs h h') ?_ ?_
  · exact ⟨rfl, rfl, rfl, HeapIs.rfl⟩
  · rintro i e _ hi ⟨e0, e4, e3, hh⟩
    cases hh
    simp only [go_sem, e0, e4, e3]
    refine .intro (fun h1 => ?_) (fun h1 => ?_)
    · have hlt : i < s.size := by simpa using h1
      have hlt' : i < (bl s).length := by rw [bl_len]; exact hlt
      have hb := bl_get hlt
      have st := sum_step hlt'
      obtain ⟨b, hbe⟩ : ∃ b, b = (bl s)[i] := ⟨_, rfl⟩
      rw [← hbe] at hb st
      have hs := sumL_lt ((bl s).take i)
      have hb2 := u8_ofNat b
      obtain ⟨S, hS⟩ : ∃ S, S = sumL ((bl s).take i) := ⟨_, rfl⟩
      rw [← hS] at st hs e3
      have w1 : IntKind.i64.wrap (41 * (S : Int)) = 41 * (S : Int) := wrap64 (by omega)
      have w2 : IntKind.i64.wrap (b.toNat : Int) = b.toNat := wrap64 (by omega)
      have w3 : IntKind.i64.wrap (41 * (S : Int) + b.toNat) = 41 * (S : Int) + b.toNat := wrap64 (by omega)
      have w4 : IntKind.i64.wrap (41 * (S : Int) + b.toNat + 1) = ((41 * S + b.toNat + 1 : Nat) : Int) := by rw [wrap64 (by omega)]; omega
      have q2 : ((41 * S + b.toNat + 1 : Nat) : Int).tmod 999979 = (((41 * S + b.toNat + 1) % 999979 : Nat) : Int) := by rw [Int.tmod_eq_emod_of_nonneg (by omega)]; omega
      simp only [go_sem, e0, e4, e3, hb, w1, w2, w3, w4, hBin_rem (show (999979 : Int) ≠ 0 by omega), q2]
      exact ⟨hlt, by rw [wrap64 (by omega)]; rfl, by rw [st], HeapIs.rfl⟩
    · obtain rfl : i = s.size := by have : ¬ i < s.size := by simpa using h1
                                    omega
      simp only [go_sem, e0, e4, e3]
      rw [← bl_len, take_length]
theorem c_AppendChecksum(pw:PowAt G h)(s:ByteArray)(h1:s.size<=3900)(h2:35∉bl s):vCall G Tryz.prog M 148 [.string s] h (fun r h'=>r = .tuple #[.string (mkB (sealL (bl s))), .bool true]∧h=h'):=by
 have hn:=num_size 6 (sumL (bl s)) (Nat.lt_trans (sumL_lt _) (by omega)) (by omega)
 have hz:(mkB (sealL (bl s))).size<=4000:=by have:=seal_len (bl s);rw[mkB_size];rw[bl_len] at this;omega
 have a1:hBin .add (.string s) (.string ⟨#[35]⟩)=some (.string (s++⟨#[35]⟩)):=adds (by have:(⟨#[35]⟩:ByteArray).size=1:=rfl;omega)
 have a2:hBin .add (.string (s++⟨#[35]⟩)) (.string (num (sumL (bl s))))=some (.string (mkB (sealL (bl s)))):=by
  rw[←sealB]
  refine adds ?_
  have:(⟨#[35]⟩:ByteArray).size=1:=rfl
  rw[ByteArray.size_append];omega
 refine bo Tryz.func148 rfl rfl ?_
 simp only[go_sem,show ¬((4000:Int)<s.size) by omega]
 refine ((c_Contains s 35).addG).go ?_
 rintro _ _⟨rfl,rfl⟩
 simp only[go_sem,show (bl s).contains 35=false from by rw[Bool.eq_false_iff];exact fun hh=>h2 (List.contains_iff_mem.1 hh),a1]
 refine ((c_checksum s (by omega)).addG).go ?_
 rintro _ _⟨rfl,rfl⟩
 try simp only[go_sem,a1]
 refine (c_ItoaG pw (sumL (bl s)) (Nat.lt_trans (sumL_lt _) (by omega))).go ?_
 rintro _ _⟨rfl,rfl⟩
 simp only[go_sem,a2,show ¬((4000:Int)<(mkB (sealL (bl s))).size) by omega]
 all_goals exact fin_
theorem c_l1Seal(s:ByteArray)(h1:s.size<=1000000):vCall [] Tryz.prog M 135 [.string s] h (fun r h'=>r = .string (mkB (sealL (bl s)))∧h=h'):=by
 have hn:=num_size 6 (sumL (bl s)) (Nat.lt_trans (sumL_lt _) (by omega)) (by omega)
 have a1:hBin .add (.string s) (.string ⟨#[35]⟩)=some (.string (s++⟨#[35]⟩)):=adds (by have:(⟨#[35]⟩:ByteArray).size=1:=rfl;omega)
 have a2:hBin .add (.string (s++⟨#[35]⟩)) (.string (num (sumL (bl s))))=some (.string (mkB (sealL (bl s)))):=by
  rw[←sealB]
  refine adds ?_
  have:(⟨#[35]⟩:ByteArray).size=1:=rfl
  rw[ByteArray.size_append];omega
 refine bo Tryz.func135 rfl rfl ?_
 simp only[go_sem,a1]
 refine (c_l1Sum s (by omega)).go ?_
 rintro _ _⟨rfl,rfl⟩
 try simp only[go_sem,a1]
 refine (c_l1Num (sumL (bl s)) (Nat.lt_trans (sumL_lt _) (by omega))).go ?_
 rintro _ _⟨rfl,rfl⟩
 simp only[go_sem,a2]
 all_goals exact fin_
theorem recOk_sizes{c r:ByteArray}(g:recOk c r=true):c.size<=160∧r.size<=200:=by
 rw[recOk_L,okL_iff] at g
 rw[bl_len,bl_len] at g
 omega
theorem line_nl(k:Nat)(c r:ByteArray)(hk:k<100)(g:recOk c r=true):hBin .add (.string (mkB (sealL (bl (recB k c r))))) (.string ⟨#[10]⟩)=some (.string (mkB (lineL k (bl c) (bl r)++ [10]))):=by
 rw[bl_recB,sealL_rec, ←nlB]
 refine adds ?_
 rw[recOk_L] at g
 have:=lineL_len g hk
 have:(⟨#[10]⟩:ByteArray).size=1:=rfl
 rw[mkB_size];omega
theorem rec_chain(k:Nat)(c r:ByteArray)(hk:k<100)(g:recOk c r=true) :
  hBin .add (.string (num k)) (.string ⟨#[32]⟩)=some (.string (num k++⟨#[32]⟩))∧hBin .add (.string (num k++⟨#[32]⟩)) (.string c)=some (.string (num k++⟨#[32]⟩++c)) ∧
  hBin .add (.string (num k++⟨#[32]⟩++c)) (.string ⟨#[64]⟩)=some (.string (num k++⟨#[32]⟩++c++⟨#[64]⟩))∧hBin .add (.string (num k++⟨#[32]⟩++c++⟨#[64]⟩)) (.string r)=some (.string (recB k c r))∧(recB k c r).size<=400:=by
 obtain⟨g1,g2⟩:=recOk_sizes g
 have n1:=num_size 2 k (by omega) (by omega)
 have:(⟨#[32]⟩:ByteArray).size=1:=rfl
 have:(⟨#[64]⟩:ByteArray).size=1:=rfl
 refine⟨adds ?_,adds ?_,adds ?_,adds ?_, ?_⟩<;>simp only[recB,ByteArray.size_append, *]<;>omega
theorem c_encodeRecord(pw:PowAt G h)(k:Nat)(c r:ByteArray)(hk:k<100)(g:recOk c r=true):vCall G Tryz.prog M 109 [.int .i64 k, .agg #[.string c, .string r]] h (fun v h'=>v = .string (mkB (lineL k (bl c) (bl r)++ [10]))∧h<+:h'):=by
 obtain⟨a1,a2,a3,a4,a5⟩:=rec_chain k c r hk g
 have g':=g
 rw[recOk_L] at g'
 have no:=recL_no35 (k:=k) g'
 rw[←bl_recB] at no
 refine bo Tryz.func109 rfl rfl ?_
 simp only[go_sem]
 refine ((c_Itoa k hk).addG).go ?_
 rintro _ _⟨rfl,rfl⟩
 try simp only[go_sem,a1,a2,a3,a4]
 refine (c_AppendChecksum (pw.mono (by simp)) (recB k c r) (by omega) no).go ?_
 rintro _ _⟨rfl,rfl⟩
 simp only[go_sem,line_nl k c r hk g]
 all_goals exact fin_
theorem c_l27Line(k:Nat)(c r:ByteArray)(hk:k<100)(g:recOk c r=true):vCall [] Tryz.prog M 96 [.int .i64 k, .agg #[.string c, .string r]] h (fun v h'=>v = .string (mkB (lineL k (bl c) (bl r)++ [10]))∧h<+:h'):=by
 obtain⟨a1,a2,a3,a4,a5⟩:=rec_chain k c r hk g
 refine bo Tryz.func96 rfl rfl ?_
 simp only[go_sem]
 refine (c_l1Num k (by omega)).go ?_
 rintro _ _⟨rfl,rfl⟩
 try simp only[go_sem,a1,a2,a3,a4]
 refine (c_l1Seal (recB k c r) (by omega)).go ?_
 rintro _ _⟨rfl,rfl⟩
 simp only[go_sem,line_nl k c r hk g]
 all_goals exact fin_
def spAt(l:BL)(b:UInt8)(i:Nat):List BL×BL:=(l.take i).foldl (spl b) ([],[])
theorem spAt_succ{l:BL}{b:UInt8}{i:Nat}(h:i<l.length):spAt l b (i+1)=spl b (spAt l b i) l[i]:=by
 rw[spAt,take_add_one,getElem?_eq_getElem h,List.foldl_append];rfl
theorem new_endL{u:Heap}{K b:Blk}{j n:Nat}(hn:n=u.length):(u.set j b++ [K])[n]? = some K:=by
 subst hn
 rw[getElem?_append_right (by simp),length_set,sub_self];rfl
def strsV(xs:List BL):List Value:=xs.map fun x => .string (mkB x)
theorem strsV_app(xs ys:List BL):strsV (xs++ys)=strsV xs++strsV ys:=by simp[strsV]
theorem strsV_len(xs:List BL):(strsV xs).length=xs.length:=by simp[strsV]
theorem c_l1Split (s : ByteArray) (b : UInt8) (hmax : s.size ≤ 10000000) : vCall [] Tryz.prog M 76 [.string s, .int .u8 b.toNat] h
    (fun r h' => ∃ t j, r = .slice (some ⟨h.length + j, 0, none⟩) (splitL (bl s) b).length 0 ∧ h' = h ++ t ∧ t[j]? = some ⟨strsV (splitL (bl s) b), 1, .rw⟩) := by
  refine bo Tryz.func76 rfl rfl ?_
  simp only [go_sem]
  refine vLoop.count mo s.size (fun i e h' => ∃ (t : Heap) (j q : Nat), e 0 = .string s ∧ e 1 = .int .u8 b.toNat ∧ e 7 = .int .i64 i ∧ e 6 = .int .i64 q ∧ e 5 = .slice (some ⟨h.length + j, 0, none⟩) (spAt (bl s) b i).1.length 0 ∧
      h' = h ++ t ∧ t[j]? = some ⟨strsV (spAt (bl s) b i).1, 1, .rw⟩ ∧ q ≤ i ∧ (spAt (bl s) b i).2 = ((bl s).take i).drop q ∧ (spAt (bl s) b i).1.length ≤ i) ?_ ?_
  · exact ⟨[⟨[], 1, .rw⟩], 0, 0, rfl, rfl, rfl, rfl, rfl, rfl, rfl, le_refl _, rfl, le_refl _⟩
  · rintro i e _ hi ⟨t, j, q, e0, e1, e7, e6, e5, rfl, hj, hq, hd, hl⟩
    simp only [go_sem, e0, e1, e5, e6, e7]
    refine .intro (fun h1 => ?_) (fun h1 => ?_)
    · have hlt : i < s.size := by simpa using h1
      have hlt' : i < (bl s).length := by rw [bl_len]; exact hlt
      have hb := bl_get hlt
      have st := spAt_succ (b := b) hlt'
      simp only [go_sem, e0, e1, e5, e6, e7, hb]
      by_cases g1 : (bl s)[i] = b
      · rw [spl, if_pos g1] at st
        have ex : s.extract q i = mkB (spAt (bl s) b i).2 := by apply bl_ext; rw [bl_extract, bl_mkB, hd]
        simp only [go_sem, e0, e1, e5, e6, e7, hb, g1, beq_self_eq_true, app_old hj, strsV_len, ex]
        refine ⟨by omega, by omega, by omega, by omega, hlt, _, t.length + 1, i + 1, by rw [wrap64 (by omega)]; rfl, by rw [wrap64 (by omega)]; rfl, by rw [st, length_append]; rfl, rfl, ?_, by omega, ?_, by rw [st, length_append, length_singleton]; omega⟩
        · rw [st, strsV_app]; exact new_endL (by simp)
        · rw [st, List.drop_eq_nil_of_le (List.length_take_le _ _)]
      · have g2 : ((((bl s)[i]).toNat : Int) == (b.toNat : Int)) = false := by
          rw [beq_eq_false_iff_ne]; intro hh; exact g1 (UInt8.toNat_inj.1 (Int.ofNat.inj hh))
        rw [spl, if_neg g1] at st
        simp only [go_sem, e0, e1, e5, e6, e7, hb, g2]
        exact ⟨hlt, t, j, q, by rw [wrap64 (by omega)]; rfl, rfl, by rw [st], rfl, by rw [st]; exact hj, by omega, by rw [st, take_add_one, getElem?_eq_getElem hlt', List.drop_append_of_le_length (by rw [length_take]; omega), hd]; rfl, by rw [st]; exact Nat.le_succ_of_le hl⟩
    · obtain rfl : i = s.size := by have : ¬ i < s.size := by simpa using h1
                                    omega
      have ex : s.extract q s.size = mkB (spAt (bl s) b s.size).2 := by apply bl_ext; rw [bl_extract, bl_mkB, hd]
      have sp : splitL (bl s) b = (spAt (bl s) b s.size).1 ++ [(spAt (bl s) b s.size).2] := by rw [splitL, spAt, ← bl_len, take_length]
      simp only [go_sem, e0, e1, e5, e6, e7, ex, app_old hj, strsV_len]
      refine ⟨by omega, by omega, by omega, _, t.length + 1, ?_, rfl, ?_⟩
      · rw [sp, length_append]; rfl
      · rw [sp, strsV_app]; exact new_endL (by simp)
end
open Go.HH Go.Proofs
def isDg(c:UInt8):Bool:=decide (48<=c.toNat∧c.toNat<=57)
def valL(l:BL):Nat:=l.foldl (fun n c=>10*n+(c.toNat-48)) 0
theorem valL_snoc(l:BL)(c:UInt8):valL (l++ [c])=10*valL l+(c.toNat-48):=by rw[valL,List.foldl_append];rfl
theorem valL_lt: ∀(l:BL),(∀c∈l,isDg c=true)->valL l<10 ^ l.length:=by
 intro l
 induction hn:l.length generalizing l with
 | zero=>intro _;rw[List.eq_nil_of_length_eq_zero hn];decide
 | succ n ih=>
  intro h
  rcases List.eq_nil_or_concat l with rfl|⟨p,c,rfl⟩
  ·simp at hn
  ·rw[List.concat_eq_append] at hn h ⊢
   have h1:=ih p (by simpa using hn) (fun x hx=>h x (mem_append_left _ hx))
   have h2:48<=c.toNat∧c.toNat<=57:=by simpa[isDg] using h c (by simp)
   rw[valL_snoc,Nat.pow_succ]
   omega
theorem dec_dg(n:Nat): ∀c∈Lib.decDigits n,isDg c=true:=fun c hc=>decide_eq_true (dec_digit n c hc)
theorem dec_val: ∀n,valL (Lib.decDigits n)=n:=by
 intro n
 induction n using Nat.strongRecOn with
 | _ n ih=>
  by_cases h:n<10
  ·rw[Lib.decDigits_one h]
   show 10*0+((UInt8.ofNat (48+n)).toNat-48)=n
   simp;omega
  ·rw[show Lib.decDigits n=Lib.decDigits (n/10)++ [UInt8.ofNat (48+n%10)] by rw[Lib.decDigits,dif_neg h],valL_snoc,ih (n/10) (by omega)]
   have:n%10<10:=Nat.mod_lt _ (by omega)
   have e:(UInt8.ofNat (48+n%10)).toNat=48+n%10:=by simp;omega
   rw[e];omega
theorem dec_pos(n:Nat): ∃c r,Lib.decDigits n=c::r:=by
 by_cases h:n<10
 ·exact⟨_,_,Lib.decDigits_one h⟩
 ·rw[show Lib.decDigits n=Lib.decDigits (n/10)++ [UInt8.ofNat (48+n%10)] by rw[Lib.decDigits,dif_neg h]]
  cases hx:Lib.decDigits (n/10) with
  | nil=>exact⟨_,_,rfl⟩
  | cons c r=>exact⟨_,_,rfl⟩
open Go.HH Go.Proofs
open Go.HH Go.Proofs
def zI(n:Int):ByteArray:=if n<0 then ⟨#[45]⟩++num n.natAbs else num n.toNat
theorem zI_nat(n:Nat):zI (n:Int)=num n:=by rw[zI,if_neg (by omega),Int.toNat_natCast]
theorem zI_neg{n:Nat}(h:0<n):zI (-(n:Int))=⟨#[45]⟩++num n:=by rw[zI,if_pos (by omega)];congr 2;omega
theorem bl_neg(v:Nat):bl (⟨#[45]⟩++num v)=45::Lib.decDigits v:=by simp[bl];rfl
def IsInt(s:ByteArray)(n:Int):Prop:=s=zI n ∧ -1000000<n∧n<1000000
theorem num_inj{a b:Nat}(h:num a=num b):a=b:=by
 have:=congrArg (fun x=>valL (bl x)) h
 simpa only[bl_num,dec_val] using this
theorem zI_inj{a b:Int}(h:zI a=zI b):a=b:=by
 have no: ∀v w:Nat,⟨#[45]⟩++num v≠num w:=fun v w hh=>by
  have h1:=congrArg bl hh
  rw[bl_neg,bl_num] at h1
  have:=dec_dg w 45 (by rw[←h1];simp)
  cases this
 unfold zI at h
 split at h<;>split at h
 ·have h1:=congrArg bl h
  rw[bl_neg,bl_neg] at h1
  have h2:=(List.cons.inj h1).2
  have h3:=congrArg valL h2
  rw[dec_val,dec_val] at h3
  omega
 ·exact absurd h (no _ _)
 ·exact absurd h.symm (no _ _)
 ·have:=num_inj h;omega
def ReadsI(s:ByteArray)(n:Int)(b:Bool):Prop:=(b=true->IsInt s n)∧(b=false->n=0∧∀z,¬IsInt s z)
theorem ReadsI.yes{s:ByteArray}{n:Int}(h:IsInt s n):ReadsI s n true:=⟨fun _=>h,fun h=>(by cases h)⟩
theorem ReadsI.no{s:ByteArray}(h1: ∀v:Nat,v<1000000->s=num v->False)(h2: ∀v:Nat,0<v->v<1000000->s=⟨#[45]⟩++num v->False):ReadsI s 0 false:=
 ⟨fun h=>(by cases h),fun _=>⟨rfl,fun z hz=>by
  rcases Int.lt_or_le z 0 with h|h
  ·refine h2 z.natAbs (by omega) (by have:=hz.2;omega) ?_
   rw[hz.1,zI,if_pos h]
  ·refine h1 z.toNat (by have:=hz.2;omega) ?_
   rw[hz.1,zI,if_neg (by omega)]⟩⟩
section
variable {h:Heap} {M:Nat->Prop}
theorem c_l1NumZ(n:Int)(hn : -1000000000<n∧n<1000000000):vCall [] Tryz.prog M 82 [.int .i64 n] h (fun r h'=>r = .string (zI n)∧h=h'):=by
 by_cases h0:0<=n
 ·obtain⟨m,rfl⟩:=Int.eq_ofNat_of_zero_le h0
  have:=c_l1Num (h:=h) (M:=M) m (by omega)
  rw[zI_nat]
  exact this
 ·obtain⟨m,hm⟩:=Int.eq_ofNat_of_zero_le (show 0 <= -n by omega)
  have w:IntKind.i64.wrap (0-n)=((m:Nat):Int):=by rw[show (0:Int)-n=m by omega];exact wrap64 (by omega)
  have zs:=num_less (n:=m) (by omega)
  have a1:hBin .add (.string ⟨#[45]⟩) (.string (num m))=some (.string (⟨#[45]⟩++num m)):=adds (by have:(⟨#[45]⟩:ByteArray).size=1:=rfl;omega)
  refine bo Tryz.func82 rfl rfl ?_
  simp only[go_sem,show n<0 by omega,w]
  refine (c_l1Num m (by omega)).go ?_
  rintro _ _⟨rfl,rfl⟩
  simp only[go_sem,a1]
  rw[show n = -(m:Int) by omega,zI_neg (by omega)]
set_option maxRecDepth 20000 in
theorem c_l1ReadI(s:ByteArray)(hs0:s.size<=10000000):vCall [] Tryz.prog M 190 [.string s] h (fun r h'=>(∃n b,r = .tuple #[.int .i64 n, .bool b]∧ReadsI s n b)∧h=h'):=by
 refine bo Tryz.func190 rfl rfl ?_
 by_cases g0:1<s.size∧(bl s)[0]? = some 45
 ·obtain⟨g1,g2⟩:=g0
  have hb:=bl_get (s:=s) (i:=0) (by omega)
  obtain⟨hl,g3⟩:=List.getElem?_eq_some_iff.1 g2
  rw[g3] at hb
  obtain⟨t,ht⟩: ∃t,t=s.extract 1 s.size:=⟨_,rfl⟩
  have zT:t.size=s.size-1:=by rw[ht,ByteArray.size_extract];omega
  have hbs:bl s=45::bl t:=by
   rw[ht,bl_extract, ←bl_len,take_length]
   cases hx:bl s with
   | nil=>rw[hx] at hl;simp at hl
   | cons a r=>simp only[hx] at g3;simp at g3;rw[g3];rfl
  have hno: ∀v:Nat,s≠num v:=fun v hv=>by
   have h1:=dec_dg v 45 (by rw[←bl_num, ←hv,hbs];simp)
   cases h1
  have hneg: ∀v:Nat,s=⟨#[45]⟩++num v->bl t=Lib.decDigits v:=fun v hv=>by
   have h1:=congrArg bl hv
   rw[bl_neg,hbs] at h1
   exact (List.cons.inj h1).2
  have neg:(1:Int)<s.size:=by omega
  have e45:(((45:UInt8).toNat:Int)==45)=true:=rfl
  simp only[go_sem,neg,hb,e45,show 1<=s.size by omega, ←ht]
  refine (c_l1In _ _ _).go ?_
  rintro _ _⟨rfl,rfl⟩
  have zt:t.size<=9223372036854775807:=by omega
  by_cases q0:1<=t.size∧t.size<=6
  ·have q1:decide ((1:Int)<=t.size∧(t.size:Int)<=6)=true:=decide_eq_true (by omega)
   simp only[go_sem,neg, ←ht,q1]
   refine vLoop.count mo t.size (fun i e h'=>e 0 = .string s∧e 4 = .string t∧e 5 = .int .i64 (valL ((bl t).take i):Nat)∧e 6 = .int .i64 i∧HeapIs h h'∧∀c∈(bl t).take i,isDg c=true) ?_ ?_
   ·exact⟨rfl,rfl,rfl,rfl,HeapIs.rfl,fun c hc=>by simp at hc⟩
   ·rintro i e _ hi ⟨e0,e4,e5,e6,hh,hdg⟩
    cases hh
    have pk:((bl t).take i).length=i:=by rw[length_take,bl_len];omega
    have vlt:=valL_lt _ hdg
    rw[pk] at vlt
    have p6:10 ^ i<=10 ^ 6:=Nat.pow_le_pow_right (by omega) (by omega)
    by_cases hlt:i<t.size
    ·have hz:(i:Int)<t.size:=by omega
     have hlt':i<(bl t).length:=by rw[bl_len];exact hlt
     have hb:=bl_get hlt
     obtain⟨c,hce⟩: ∃c,c=(bl t)[i]:=⟨_,rfl⟩
     rw[←hce] at hb
     have hc2:(c.toNat:Int)<=255:=by have:=c.toNat_lt;omega
     have tk:(bl t).take (i+1)=(bl t).take i++ [c]:=by rw[take_add_one,getElem?_eq_getElem hlt',hce];rfl
     by_cases q2:isDg c=true
     ·have q3:48<=c.toNat∧c.toNat<=57:=by simpa[isDg] using q2
      have w1:IntKind.i64.wrap (10*((valL ((bl t).take i):Nat):Int))=10*((valL ((bl t).take i):Nat):Int):=wrap64 (by omega)
      have w2:IntKind.u8.wrap ((c.toNat:Int)-48)=((c.toNat-48:Nat):Int):=by rw[IntWalk.u8_in _ (by omega)];omega
      have w3:IntKind.i64.wrap ((c.toNat-48:Nat):Int)=((c.toNat-48:Nat):Int):=wrap64 (by omega)
      have w4:IntKind.i64.wrap (10*((valL ((bl t).take i):Nat):Int)+((c.toNat-48:Nat):Int))=((valL ((bl t).take (i+1)):Nat):Int):=by rw[wrap64 (by omega),tk,valL_snoc];omega
      simp only[go_sem,e0,e4,e5,e6,hz,hb,show ¬((c.toNat:Int)<48) by omega,show ¬((57:Int)<c.toNat) by omega,w1,w2,w3,w4]
      refine⟨hlt,by rw[wrap64 (by omega)];rfl,HeapIs.rfl,fun x hx => ?_⟩
      rw[tk] at hx
      rcases mem_append.1 hx with hx|hx
      ·exact hdg x hx
      ·rw[mem_singleton.1 hx];exact q2
     ·have no:ReadsI s 0 false := .no (fun v _=>hno v) (fun v _ _ hs=>q2 (dec_dg v c (by rw[←hneg v hs,hce];exact getElem_mem _)))
      have q3: ¬(48<=c.toNat∧c.toNat<=57):=by simpa[isDg] using q2
      by_cases q5:(c.toNat:Int)<48
      ·simp only[go_sem,e0,e4,e5,e6,hz,hb,q5]
       exact⟨_,_,rfl,no⟩
      ·simp only[go_sem,e0,e4,e5,e6,hz,hb,q5,show (57:Int)<c.toNat by omega]
       exact⟨_,_,rfl,no⟩
    ·obtain rfl:i=t.size:=by omega
     rw[take_of_length_le (by rw[bl_len];exact le_refl _)] at e5 hdg vlt
     have w5:IntKind.i64.wrap (0-((valL (bl t):Nat):Int))=0-((valL (bl t):Nat):Int):=wrap64 (by omega)
     simp only[go_sem,e0,e4,e5,e6,show (t.size:Int)<s.size by omega,show ¬((t.size:Int)<t.size) by omega,w5]
     refine (c_l1NumZ (0-((valL (bl t):Nat):Int)) (by omega)).go ?_
     rintro _ _⟨rfl,rfl⟩
     obtain⟨u,hu⟩: ∃u,u=zI (0-((valL (bl t):Nat):Int)):=⟨_,rfl⟩
     rw[←hu]
     by_cases g:u=s
     ·simp only[go_sem,e0,e4,e5,e6,show (t.size:Int)<s.size by omega,w5,show (u.toList==s.toList)=true from by rw[g];exact beq_self_eq_true _,Bool.not_true]
      exact⟨_,_,rfl, .yes ⟨by rw[←g,hu],by omega,by omega⟩⟩
     ·simp only[go_sem,e0,e4,e5,e6,show (t.size:Int)<s.size by omega,w5,show (u.toList==s.toList)=false from by rw[toList_eq];exact decide_eq_false g,Bool.not_false]
      exact⟨_,_,rfl, .no (fun v _=>hno v) (fun v h0 hv hs=>g (by rw[hu,hneg v hs,dec_val,show (0:Int)-((v:Nat):Int) = -(v:Int) by omega,zI_neg h0];exact hs.symm))⟩
  ·have q1:decide ((1:Int)<=t.size∧(t.size:Int)<=6)=false:=decide_eq_false (by omega)
   simp only[go_sem,neg, ←ht,q1]
   exact⟨_,_,rfl, .no (fun v _=>hno v) (fun v h0 hv hs=>q0 (by have h1:=dec_len (k:=6) hv (by omega);have h2:=dec_pos v;rw[←bl_len,hneg v hs];obtain⟨x,r,h3⟩:=h2;rw[h3] at h1 ⊢;simp at h1 ⊢;omega))⟩
 ·have hnn: ∀v:Nat,0<v->v<1000000->s≠⟨#[45]⟩++num v:=fun v _ _ hs=>by
   refine g0 ⟨?_,by rw[hs,bl_neg];rfl⟩
   have h1:=congrArg (fun x=>(bl x).length) hs
   simp only[bl_neg,bl_len,length_cons] at h1
   obtain⟨x,r,h3⟩:=dec_pos v
   rw[h3] at h1
   simp at h1
   omega
  by_cases g1:1<s.size
  ·have g2:(bl s)[0]? ≠ some 45:=fun h=>g0 ⟨g1,h⟩
   have hb:=bl_get (s:=s) (i:=0) (by omega)
   have neg:(1:Int)<s.size:=by omega
   have e45:((((bl s)[0]'(by rw[bl_len];omega)).toNat:Int)==45)=false:=by
    rw[beq_eq_false_iff_ne]
    intro hh
    refine g2 ?_
    rw[getElem?_eq_getElem (by rw[bl_len];omega)]
    exact congrArg some (UInt8.toNat_inj.1 (Int.ofNat.inj hh))
   simp only[go_sem,neg,hb,e45]
   refine (c_l1In _ _ _).go ?_
   rintro _ _⟨rfl,rfl⟩
   have zt:s.size<=9223372036854775807:=by omega
   by_cases q0:1<=s.size∧s.size<=6
   ·have q1:decide ((1:Int)<=s.size∧(s.size:Int)<=6)=true:=decide_eq_true (by omega)
    simp only[go_sem,neg,hb,e45,q1]
    refine vLoop.count mo s.size (fun i e h'=>e 0 = .string s∧e 4 = .string s∧e 5 = .int .i64 (valL ((bl s).take i):Nat)∧e 6 = .int .i64 i∧HeapIs h h'∧∀c∈(bl s).take i,isDg c=true) ?_ ?_
    ·exact⟨rfl,rfl,rfl,rfl,HeapIs.rfl,fun c hc=>by simp at hc⟩
    ·rintro i e _ hi ⟨e0,e4,e5,e6,hh,hdg⟩
     cases hh
     have pk:((bl s).take i).length=i:=by rw[length_take,bl_len];omega
     have vlt:=valL_lt _ hdg
     rw[pk] at vlt
     have p6:10 ^ i<=10 ^ 6:=Nat.pow_le_pow_right (by omega) (by omega)
     by_cases hlt:i<s.size
     ·have hz:(i:Int)<s.size:=by omega
      have hlt':i<(bl s).length:=by rw[bl_len];exact hlt
      have hb:=bl_get hlt
      obtain⟨c,hce⟩: ∃c,c=(bl s)[i]:=⟨_,rfl⟩
      rw[←hce] at hb
      have hc2:(c.toNat:Int)<=255:=by have:=c.toNat_lt;omega
      have tk:(bl s).take (i+1)=(bl s).take i++ [c]:=by rw[take_add_one,getElem?_eq_getElem hlt',hce];rfl
      by_cases q2:isDg c=true
      ·have q3:48<=c.toNat∧c.toNat<=57:=by simpa[isDg] using q2
       have w1:IntKind.i64.wrap (10*((valL ((bl s).take i):Nat):Int))=10*((valL ((bl s).take i):Nat):Int):=wrap64 (by omega)
       have w2:IntKind.u8.wrap ((c.toNat:Int)-48)=((c.toNat-48:Nat):Int):=by rw[IntWalk.u8_in _ (by omega)];omega
       have w3:IntKind.i64.wrap ((c.toNat-48:Nat):Int)=((c.toNat-48:Nat):Int):=wrap64 (by omega)
       have w4:IntKind.i64.wrap (10*((valL ((bl s).take i):Nat):Int)+((c.toNat-48:Nat):Int))=((valL ((bl s).take (i+1)):Nat):Int):=by rw[wrap64 (by omega),tk,valL_snoc];omega
       simp only[go_sem,e0,e4,e5,e6,hz,hb,show ¬((c.toNat:Int)<48) by omega,show ¬((57:Int)<c.toNat) by omega,w1,w2,w3,w4]
       refine⟨hlt,by rw[wrap64 (by omega)];rfl,HeapIs.rfl,fun x hx => ?_⟩
       rw[tk] at hx
       rcases mem_append.1 hx with hx|hx
       ·exact hdg x hx
       ·rw[mem_singleton.1 hx];exact q2
      ·have no:ReadsI s 0 false := .no (fun v hv hs=>absurd (dec_dg v c (by rw[←bl_num, ←hs,hce];exact getElem_mem _)) q2) hnn
       have q3: ¬(48<=c.toNat∧c.toNat<=57):=by simpa[isDg] using q2
       by_cases q5:(c.toNat:Int)<48
       ·simp only[go_sem,e0,e4,e5,e6,hz,hb,q5]
        exact⟨_,_,rfl,no⟩
       ·simp only[go_sem,e0,e4,e5,e6,hz,hb,q5,show (57:Int)<c.toNat by omega]
        exact⟨_,_,rfl,no⟩
     ·obtain rfl:i=s.size:=by omega
      rw[take_of_length_le (by rw[bl_len];exact le_refl _)] at e5 hdg vlt
      simp only[go_sem,e0,e4,e5,e6,show ¬((s.size:Int)<s.size) by omega]
      refine (c_l1NumZ ((valL (bl s):Nat):Int) (by omega)).go ?_
      rintro _ _⟨rfl,rfl⟩
      obtain⟨u,hu⟩: ∃u,u=zI ((valL (bl s):Nat):Int):=⟨_,rfl⟩
      rw[←hu]
      rw[zI_nat] at hu
      by_cases g:u=s
      ·simp only[go_sem,e0,e4,e5,e6,show ¬((s.size:Int)<s.size) by omega,show (u.toList==s.toList)=true from by rw[g];exact beq_self_eq_true _,Bool.not_true]
       exact⟨_,_,rfl, .yes ⟨by rw[zI_nat, ←hu];exact g.symm,by omega,by omega⟩⟩
      ·simp only[go_sem,e0,e4,e5,e6,show ¬((s.size:Int)<s.size) by omega,show (u.toList==s.toList)=false from by rw[toList_eq];exact decide_eq_false g,Bool.not_false]
       refine⟨_,_,rfl, .no (fun v hv hs=>absurd ?_ g) hnn⟩
       rw[hu,hs,bl_num,dec_val]
   ·have q1:decide ((1:Int)<=s.size∧(s.size:Int)<=6)=false:=decide_eq_false (by omega)
    simp only[go_sem,neg,hb,e45,q1]
    exact⟨_,_,rfl, .no (fun v hv hs=>absurd (by have h1:=dec_len (k:=6) hv (by omega);have h2:=dec_pos v;rw[hs, ←bl_len,bl_num];obtain⟨x,r,h3⟩:=h2;rw[h3] at h1 ⊢;simp at h1 ⊢;omega) q0) hnn⟩
  ·have neg: ¬(1:Int)<s.size:=by omega
   simp only[go_sem,neg]
   refine (c_l1In _ _ _).go ?_
   rintro _ _⟨rfl,rfl⟩
   have zt:s.size<=9223372036854775807:=by omega
   by_cases q0:1<=s.size∧s.size<=6
   ·have q1:decide ((1:Int)<=s.size∧(s.size:Int)<=6)=true:=decide_eq_true (by omega)
    simp only[go_sem,neg,q1]
    refine vLoop.count mo s.size (fun i e h'=>e 0 = .string s∧e 4 = .string s∧e 5 = .int .i64 (valL ((bl s).take i):Nat)∧e 6 = .int .i64 i∧HeapIs h h'∧∀c∈(bl s).take i,isDg c=true) ?_ ?_
    ·exact⟨rfl,rfl,rfl,rfl,HeapIs.rfl,fun c hc=>by simp at hc⟩
    ·rintro i e _ hi ⟨e0,e4,e5,e6,hh,hdg⟩
     cases hh
     have pk:((bl s).take i).length=i:=by rw[length_take,bl_len];omega
     have vlt:=valL_lt _ hdg
     rw[pk] at vlt
     have p6:10 ^ i<=10 ^ 6:=Nat.pow_le_pow_right (by omega) (by omega)
     by_cases hlt:i<s.size
     ·have hz:(i:Int)<s.size:=by omega
      have hlt':i<(bl s).length:=by rw[bl_len];exact hlt
      have hb:=bl_get hlt
      obtain⟨c,hce⟩: ∃c,c=(bl s)[i]:=⟨_,rfl⟩
      rw[←hce] at hb
      have hc2:(c.toNat:Int)<=255:=by have:=c.toNat_lt;omega
      have tk:(bl s).take (i+1)=(bl s).take i++ [c]:=by rw[take_add_one,getElem?_eq_getElem hlt',hce];rfl
      by_cases q2:isDg c=true
      ·have q3:48<=c.toNat∧c.toNat<=57:=by simpa[isDg] using q2
       have w1:IntKind.i64.wrap (10*((valL ((bl s).take i):Nat):Int))=10*((valL ((bl s).take i):Nat):Int):=wrap64 (by omega)
       have w2:IntKind.u8.wrap ((c.toNat:Int)-48)=((c.toNat-48:Nat):Int):=by rw[IntWalk.u8_in _ (by omega)];omega
       have w3:IntKind.i64.wrap ((c.toNat-48:Nat):Int)=((c.toNat-48:Nat):Int):=wrap64 (by omega)
       have w4:IntKind.i64.wrap (10*((valL ((bl s).take i):Nat):Int)+((c.toNat-48:Nat):Int))=((valL ((bl s).take (i+1)):Nat):Int):=by rw[wrap64 (by omega),tk,valL_snoc];omega
       simp only[go_sem,e0,e4,e5,e6,hz,hb,show ¬((c.toNat:Int)<48) by omega,show ¬((57:Int)<c.toNat) by omega,w1,w2,w3,w4]
       refine⟨hlt,by rw[wrap64 (by omega)];rfl,HeapIs.rfl,fun x hx => ?_⟩
       rw[tk] at hx
       rcases mem_append.1 hx with hx|hx
       ·exact hdg x hx
       ·rw[mem_singleton.1 hx];exact q2
      ·have no:ReadsI s 0 false := .no (fun v hv hs=>absurd (dec_dg v c (by rw[←bl_num, ←hs,hce];exact getElem_mem _)) q2) hnn
       have q3: ¬(48<=c.toNat∧c.toNat<=57):=by simpa[isDg] using q2
       by_cases q5:(c.toNat:Int)<48
       ·simp only[go_sem,e0,e4,e5,e6,hz,hb,q5]
        exact⟨_,_,rfl,no⟩
       ·simp only[go_sem,e0,e4,e5,e6,hz,hb,q5,show (57:Int)<c.toNat by omega]
        exact⟨_,_,rfl,no⟩
     ·obtain rfl:i=s.size:=by omega
      rw[take_of_length_le (by rw[bl_len];exact le_refl _)] at e5 hdg vlt
      simp only[go_sem,e0,e4,e5,e6,show ¬((s.size:Int)<s.size) by omega]
      refine (c_l1NumZ ((valL (bl s):Nat):Int) (by omega)).go ?_
      rintro _ _⟨rfl,rfl⟩
      obtain⟨u,hu⟩: ∃u,u=zI ((valL (bl s):Nat):Int):=⟨_,rfl⟩
      rw[←hu]
      rw[zI_nat] at hu
      by_cases g:u=s
      ·simp only[go_sem,e0,e4,e5,e6,show ¬((s.size:Int)<s.size) by omega,show (u.toList==s.toList)=true from by rw[g];exact beq_self_eq_true _,Bool.not_true]
       exact⟨_,_,rfl, .yes ⟨by rw[zI_nat, ←hu];exact g.symm,by omega,by omega⟩⟩
      ·simp only[go_sem,e0,e4,e5,e6,show ¬((s.size:Int)<s.size) by omega,show (u.toList==s.toList)=false from by rw[toList_eq];exact decide_eq_false g,Bool.not_false]
       refine⟨_,_,rfl, .no (fun v hv hs=>absurd ?_ g) hnn⟩
       rw[hu,hs,bl_num,dec_val]
   ·have q1:decide ((1:Int)<=s.size∧(s.size:Int)<=6)=false:=decide_eq_false (by omega)
    simp only[go_sem,neg,q1]
    exact⟨_,_,rfl, .no (fun v hv hs=>absurd (by have h1:=dec_len (k:=6) hv (by omega);have h2:=dec_pos v;rw[hs, ←bl_len,bl_num];obtain⟨x,r,h3⟩:=h2;rw[h3] at h1 ⊢;simp at h1 ⊢;omega) q0) hnn⟩
end
open Go.HH Go.Proofs Go.RowKit Go.ChangeShapes Go.WideShapes
def rdOk(s:ByteArray):Prop:= ∃n,IsInt s n
open Classical in
noncomputable instance {s:ByteArray}:Decidable (rdOk s):=propDecidable _
noncomputable def rdN(s:ByteArray):Int:=if h:rdOk s then h.choose else 0
theorem IsInt.eq{s:ByteArray}{n:Int}(h:IsInt s n):n=rdN s:=by
 have hh:rdOk s:=⟨n,h⟩
 unfold rdN
 rw[dif_pos hh]
 exact zI_inj (h.1.symm.trans hh.choose_spec.1)
theorem ReadsI.eq{s:ByteArray}{n:Int}{b:Bool}(h:ReadsI s n b):n=rdN s∧b=decide (rdOk s):=by
 cases b with
 | true=>
  have:=h.1 rfl
  exact⟨this.eq,(decide_eq_true (show rdOk s from ⟨n,this⟩)).symm⟩
 | false=>
  obtain⟨h1,h2⟩:=h.2 rfl
  have hn: ¬rdOk s:=fun⟨z,hz⟩=>h2 z hz
  exact⟨by rw[h1,rdN,dif_neg hn],(decide_eq_false hn).symm⟩
theorem decFrom_val: ∀(l:BL) (acc:Nat),(∀c∈l,isDg c=true)->Lib.decFrom acc l=some (l.foldl (fun n c=>10*n+(c.toNat-48)) acc)
 | [],acc,_=>rfl
 | c::l,acc,h=>by
  have hc:=h c (by simp)
  have h1:48<=c.toNat∧c.toNat<=57:=by simpa[isDg] using hc
  have hd:Lib.digitVal c=some (c.toNat-48):=by
   unfold Lib.digitVal
   first|rw[if_pos h1]|(simp[h1];done)|skip
  unfold Lib.decFrom
  rw[hd]
  simp only
  rw[decFrom_val l _ (fun x hx=>h x (by simp[hx])),foldl_cons,Nat.mul_comm]
theorem decNat_dec(m:Nat):Lib.decNat (Lib.decDigits m)=some m:=by
 obtain⟨c,r,h⟩:=dec_pos m
 unfold Lib.decNat
 rw[if_neg (by rw[h];simp),decFrom_val _ _ (dec_dg m)]
 exact congrArg some (dec_val m)
theorem atoi_zI(n:Int):Lib.atoi (bl (zI n))=some n:=by
 unfold zI
 split
 ·rename_i h
  rw[bl_neg]
  show (Lib.decNat (Lib.decDigits n.natAbs)).map (fun (m:Nat) => -(m:Int))=some n
  rw[decNat_dec]
  simp;omega
 ·rename_i h
  rw[bl_num]
  obtain⟨c,r,hc⟩:=dec_pos n.toNat
  have hd:=dec_dg n.toNat c (by rw[hc];simp)
  have h1:48<=c.toNat∧c.toNat<=57:=by simpa[isDg] using hd
  have n1:(c==45)=false:=by rw[beq_eq_false_iff_ne];rintro rfl;simp at h1
  have n2:(c==43)=false:=by rw[beq_eq_false_iff_ne];rintro rfl;simp at h1
  have:=decNat_dec n.toNat
  rw[hc] at this ⊢
  show (if c==45 then _ else if c==43 then _ else _)=_
  rw[n1,n2]
  simp only[Bool.false_eq_true,if_false]
  rw[this]
  simp;omega
theorem zI_size{n:Int}(h : -1000000<n∧n<1000000):(zI n).size<=7:=by
 unfold zI
 split
 ·have:=dec_len (n:=n.natAbs) (k:=6) (by omega) (by omega)
  rw[←bl_len,bl_neg];simp;omega
 ·have:=dec_len (n:=n.toNat) (k:=6) (by omega) (by omega)
  rw[←bl_len,bl_num];omega
section
variable {h:Heap} {M:Nat->Prop} {G:List (Nat×Nat)}
theorem c_sParseInt(s:ByteArray)(hs:s.size<=10000000):vCall [] Tryz.prog M 149 [.string s] h (fun r h'=>r = .tuple #[.int .i64 (rdN s), .bool (decide (rdOk s))]∧h<+:h'):=by
 refine bo Tryz.func149 rfl rfl ?_
 simp only[go_sem]
 refine (c_l1ReadI s hs).go ?_
 rintro _ _⟨⟨n,b,rfl,hr⟩,rfl⟩
 obtain⟨rfl,rfl⟩:=hr.eq
 simp only[go_sem]
def ErrAt(G:List (Nat×Nat))(h:Heap):Prop:=(2,1)∈G∧∃te X,hget h 2=some ⟨[.iface te (.pointer (some ⟨X,0,none⟩))],1, .ro⟩
theorem ErrAt.mono{G:List (Nat×Nat)}{h h':Heap}(a:ErrAt G h)(hp:h<+:h'):ErrAt G h':=by
 obtain⟨a1,te,X,g⟩:=a
 exact⟨a1,te,X,by rw[hget_prefix hp (hget_lt g)];exact g⟩
theorem ErrAt.cell{p:Phi}{w:World}(a:ErrAt G h)(hr:HRel G p h w): ∃ev,w.cell? ⟨2,0,none⟩=some ev∧(ev = .nilIface∨∃te pe,ev = .iface te pe):=by
 obtain⟨a1,te,X,g⟩:=a
 obtain⟨t,e,e1,e2,e3⟩:=hr.glob _ a1
 obtain⟨_,c,el,fr,h1,h2,h3,h4,_⟩:=hr.blk _ t _ trivial e g (fun hh=>by cases hh)
 simp only at e e1
 obtain⟨v',b1,b2⟩:=h4 0 _ rfl
 rw[e1] at h1
 rw[e2] at b1
 refine⟨v', ?_, ?_⟩
 ·unfold World.cell?
  simp only[h1]
  simpa using b1
 ·cases b2
  exact .inr ⟨_,_,rfl⟩
theorem c_ItoaZ(a:PowAt G h)(n:Int)(hn : -1000000<n∧n<1000000):vCall G Tryz.prog M 80 [.int .i64 n] h (fun r h'=>r = .string (zI n)∧h=h'):=by
 refine vCall_below (by rfl) rfl fun p w hr => ?_
 have:=Tryz.strconv_Itoa n (by omega) (by omega) w (var_of (l:=powV) hr (by rw[powV_len];exact a.1) powV_plain a.2 (by simp) rfl (by kernel_rfl))
 have e:(⟨(Lib.itoa n).toArray⟩:ByteArray)=zI n:=by
  unfold Lib.itoa zI
  split
  ·refine bl_ext ?_
   rw[bl_neg]
   simp[bl]
  ·rfl
 rw[e] at this
 refine this.mono ?_
 rintro e w' ⟨rfl,k,os,rfl⟩
 exact⟨rfl,below_grow⟩
theorem vCall_belowV{G:List (Nat×Nat)}{P:Program}{M:Nat->Prop}{f:FuncId}{args:List Value}{h:Heap}{r:Value}(ha:args.all plainB=true)(hr: ∀p,VRel p r r)
  (hc: ∀p w,HRel G p h w->Calls P f args.toArray w fun e w'=>e = .returned r∧Below w.heap.size w w'):vCall G P M f args h (fun r' h'=>r'=r∧h=h'):=by
 refine⟨r,h,fun p w vs hh hv => ?_,rfl,rfl⟩
 have:vs=args.toArray:=by
  refine Array.ext hv.1.symm (fun i h1 h2 => ?_)
  have h3:i<args.length:=by simpa using h2
  have:=(plainB_spec (all_eq_true.1 ha _ (getElem_mem h3))).eq (by simpa using hv.2 i h2 h1)
  simpa using this
 subst this
 refine (hc p w hh).mono ?_
 rintro e w' ⟨rfl,b⟩
 exact⟨r,p,rfl,hr p,hh.kept b.size (fun k hk=>b.block k hk),Ext.of_below b⟩
theorem c_AtoiOk(s:ByteArray)(n:Int)(hs:s.size<=18)(hn:Lib.atoi (bl s)=some n):vCall G Tryz.prog M 137 [.string s] h (fun r h'=>r = .tuple #[.int .i64 n, .nilIface]∧h=h'):=by
 refine vCall_belowV (by rfl) (fun p => .tuple rfl fun i h1 h2 => ?_) fun p w hr => ?_
 ·match i,h1,h2 with
  | 0,_,_=>exact .int _ _
  | 1,_,_=>exact .nilIface
 refine (Tryz.strconv_Atoi s n hs hn w).mono ?_
 rintro e w' ⟨rfl,t,rfl⟩
 exact⟨rfl,Lib.bytesWorld_below _ _ _⟩
theorem c_AtoiNo(a:ErrAt G h)(s:ByteArray)(hs:s.size<=18)(hn:Lib.atoi (bl s)=none):vCall G Tryz.prog M 137 [.string s] h
  (fun r h'=>(∃ty X,r = .tuple #[.int .i64 0, .iface ty (.pointer (some ⟨X,0,none⟩))])∧h<+:h'):=by
 obtain⟨r,h',hr,rfl,rfl⟩:=vCall_err (G:=G) (P:=Tryz.prog) (M:=M) (f:=137) (args:= [.string s]) (h:=h) (r0 := .int .i64 0) (ty:=226) (by rfl) rfl fun p w hr=>by
  obtain⟨ev,h1,h2⟩:=a.cell hr
  refine (Tryz.strconv_Atoi_err s hs hn ev w h1 h2).mono ?_
  rintro e w' ⟨N,rfl,g1,g2,g3⟩
  exact⟨N,rfl,g1,(Array.getElem?_eq_some_iff.1 g2).1,g3⟩
 exact⟨_,_,hr,⟨_,_,rfl⟩,prefix_append _ _⟩
theorem c_ParseInt(pw:PowAt G h)(er:ErrAt G h)(s:ByteArray)(hs:s.size<=10000000):vCall G Tryz.prog M 104 [.string s] h (fun r h'=>r = .tuple #[.int .i64 (rdN s), .bool (decide (rdOk s))]∧h<+:h'):=by
 have no: ¬rdOk s->rdN s=0:=fun hn=>by rw[rdN,dif_neg hn]
 have hif:ifaceT Tryz.prog 160=true:=by kernel_rfl
 refine bo Tryz.func104 rfl rfl ?_
 simp only[go_sem]
 by_cases g:7<s.size
 ·have hn: ¬rdOk s:=fun⟨z,hz⟩=>by have:=zI_size hz.2;rw[hz.1] at g;omega
  simp only[go_sem,show (7:Int)<s.size by omega,no hn,decide_eq_false hn]
 ·simp only[go_sem,show ¬(7:Int)<s.size by omega]
  cases ha:Lib.atoi (bl s) with
  | none=>
   have hn: ¬rdOk s:=fun⟨z,hz⟩=>by rw[hz.1,atoi_zI] at ha;cases ha
   refine (c_AtoiNo er s (by omega) ha).go ?_
   rintro _ _⟨⟨ty,X,rfl⟩,⟨t,rfl⟩⟩
   simp only[go_sem,hif,Bool.and_self,no hn,decide_eq_false hn]
   try trace_state
  | some n=>
   refine (c_AtoiOk s n (by omega) ha).go ?_
   rintro _ _⟨rfl,rfl⟩
   simp only[go_sem,hif,Bool.and_self]
   refine ((c_inside n (-999999) 999999).addG).go ?_
   rintro _ _⟨rfl,rfl⟩
   by_cases hin : -999999<=n∧n<=999999
   ·simp only[go_sem,hif,Bool.and_self,decb hin]
    refine (c_ItoaZ (pw.mono (by simp)) n (by omega)).go ?_
    rintro _ _⟨rfl,rfl⟩
    by_cases he:zI n=s
    ·have hi:IsInt s n:=⟨he.symm,by omega,by omega⟩
     simp only[go_sem,hif,Bool.and_self,decb hin,show ((zI n).toList==s.toList)=true by rw[he];exact beq_self_eq_true _,decide_eq_true (show rdOk s from ⟨n,hi⟩),hi.eq.symm]
     try trace_state
    ·have hn: ¬rdOk s:=fun⟨z,hz⟩=>he (by rw[hz.1,atoi_zI] at ha;cases ha;exact hz.1.symm)
     simp only[go_sem,hif,Bool.and_self,decb hin,show ((zI n).toList==s.toList)=false by rw[toList_eq];exact decide_eq_false he,no hn,decide_eq_false hn]
     try trace_state
   ·have hn: ¬rdOk s:=fun⟨z,hz⟩=>hin (by rw[hz.1,atoi_zI] at ha;cases ha;have:=hz.2;omega)
    simp only[go_sem,hif,Bool.and_self,dect hin,no hn,decide_eq_false hn]
    try trace_state
end
open Go.HH Go.Proofs
def oneL(k:Nat)(s:BL):Option (BL×BL):=if 10∈s∧k<60 then readL k (cutA s 10) else none
def oneV(k:Nat)(s:BL):Value:=match oneL k s with
 | some e => .tuple #[.agg #[.string (mkB e.1), .string (mkB e.2)], .int .i64 ((lineL k e.1 e.2).length+1:Nat), .bool true]
 | none => .tuple #[.agg #[.string ⟨#[]⟩, .string ⟨#[]⟩], .int .i64 0, .bool false]
theorem cutA_le(l:BL)(b:UInt8):(cutA l b).length<=l.length:=(List.takeWhile_sublist _).length_le
theorem cutB_le(l:BL)(b:UInt8):(cutB l b).length<=l.length:=by
 rw[cutB,length_drop]
 have:=(List.dropWhile_sublist (fun x=>x != b) (l:=l)).length_le
 omega
theorem bool_mem(s:ByteArray)(c:UInt8)(h:c∈bl s):(bl s).contains c=true:=List.contains_iff_mem.2 h
theorem bool_nmem(s:ByteArray)(c:UInt8)(h:c∉bl s):(bl s).contains c=false:=by rw[Bool.eq_false_iff];exact fun hh=>h (List.contains_iff_mem.1 hh)
section
variable {G:List (Nat×Nat)} {h:Heap} {M:Nat->Prop}
theorem c_readRecord(pw:PowAt G h)(s:ByteArray)(k:Nat)(hk:k<=60)(hs:s.size<=10000000):vCall G Tryz.prog M 122 [.string s, .int .i64 k] h (fun r h'=>r=oneV k (bl s)∧h<+:h'):=by
 have hbl:=bl_len s
 obtain⟨line,hl⟩: ∃line,cutA (bl s) 10=line:=⟨_,rfl⟩
 obtain⟨text,ht⟩: ∃text,cutA line 35=text:=⟨_,rfl⟩
 obtain⟨rest,hr⟩: ∃rest,cutB text 32=rest:=⟨_,rfl⟩
 obtain⟨c,hc⟩: ∃c,cutA rest 64=c:=⟨_,rfl⟩
 obtain⟨r,hr2⟩: ∃r,cutB rest 64=r:=⟨_,rfl⟩
 have l1:=cutA_le (bl s) 10
 have l2:=cutA_le line 35
 have l3:=cutB_le text 32
 have l4:=cutA_le rest 64
 have l5:=cutB_le rest 64
 rw[hl] at l1
 rw[ht] at l2
 rw[hr] at l3
 rw[hc] at l4
 rw[hr2] at l5
 refine bo Tryz.func122 rfl rfl ?_
 simp only[go_sem]
 refine (c_CutE s 10 line _ (by omega) hl rfl).go ?_
 rintro _ _⟨rfl,rfl⟩
 try simp only[go_sem]
 refine (c_CutE (mkB line) 35 text _ (by rw[mkB_size];omega) ht rfl).go ?_
 rintro _ _⟨rfl,rfl⟩
 try simp only[go_sem]
 refine (c_CutE (mkB text) 32 _ rest (by rw[mkB_size];omega) rfl hr).go ?_
 rintro _ _⟨rfl,rfl⟩
 try simp only[go_sem]
 refine (c_CutE (mkB rest) 64 c r (by rw[mkB_size];omega) hc hr2).go ?_
 rintro _ _⟨rfl,rfl⟩
 have rd:readL k line=if okL c r=true∧lineL k c r=line then some (c,r) else none:=by rw[readL,ht,hr,hc,hr2]
 by_cases g1:10∈bl s
 ·simp only[go_sem,bool_mem s 10 g1]
  by_cases g2:k<60
  ·have o1:oneL k (bl s)=readL k line:=by rw[oneL,if_pos ⟨g1,g2⟩,hl]
   have k60: ¬((60:Int)<=k):=by omega
   have m10:=bool_mem s 10 g1
   simp only[go_sem,k60,m10]
   refine ((c_IsValidRecord (mkB c) (mkB r) (by rw[mkB_size];omega) (by rw[mkB_size];omega)).addG).go ?_
   rintro _ _⟨rfl,⟨t,rfl⟩⟩
   rw[recOk_mk]
   cases g3:okL c r
   ·simp only[go_sem,k60,m10,g3]
    have:oneL k (bl s)=none:=by rw[o1,rd,if_neg (by simp[g3])]
    rw[oneV,this]
    all_goals exact fin_
   ·simp only[go_sem,k60,m10,g3]
    refine (c_encodeRecord (pw.mono (by simp)) k (mkB c) (mkB r) (by omega) (by rw[recOk_mk];exact g3)).go ?_
    rintro _ _⟨rfl,⟨t2,rfl⟩⟩
    rw[bl_mkB,bl_mkB]
    have a1:hBin .add (.string (mkB line)) (.string ⟨#[10]⟩)=some (.string (mkB (line++ [10]))):=by
     rw[←nlB]
     refine adds ?_
     have:(⟨#[10]⟩:ByteArray).size=1:=rfl
     rw[mkB_size];omega
    by_cases g4:lineL k c r=line
    ·have e5:(mkB (lineL k c r++ [10])).toList==(mkB (line++ [10])).toList:=by rw[g4];exact beq_self_eq_true _
     simp only[go_sem,k60,m10,g3,bl_mkB,a1,e5,mkB_size]
     have:oneL k (bl s)=some (c,r):=by rw[o1,rd,if_pos ⟨g3,g4⟩]
     rw[oneV,this,wrap64 (by omega)]
     show _=Value.tuple #[.agg #[.string (mkB c), .string (mkB r)], .int .i64 (((lineL k c r).length+1:Nat):Int), .bool true]
     rw[g4];rfl
    ·have e5:((mkB (lineL k c r++ [10])).toList==(mkB (line++ [10])).toList)=false:=by
      rw[toList_eq]
      refine decide_eq_false fun hh=>g4 ?_
      exact List.append_cancel_right (mkB_inj.1 hh)
     simp only[go_sem,k60,m10,g3,bl_mkB,a1,e5,mkB_size]
     have:oneL k (bl s)=none:=by rw[o1,rd,if_neg (fun hh=>g4 hh.2)]
     rw[oneV,this]
     all_goals exact fin_
  ·simp only[go_sem,show ((60:Int)<=k) by omega]
   have:oneL k (bl s)=none:=by rw[oneL,if_neg (fun hh=>g2 hh.2)]
   rw[oneV,this]
   all_goals exact fin_
 ·simp only[go_sem,bool_nmem s 10 g1]
  have:oneL k (bl s)=none:=by rw[oneL,if_neg (fun hh=>g1 hh.1)]
  rw[oneV,this]
  all_goals exact fin_
def recR(e:BL×BL):List Value:= [.string (mkB e.1), .string (mkB e.2)]
def recV(d:List (BL×BL)):List Value:=(d.map recR).flatten
theorem recV_len(d:List (BL×BL)):(recV d).length=d.length*2:=by
 rw[recV,flatten_len (sz:=2) (fun r hr=>by obtain⟨e,_,rfl⟩:=mem_map.1 hr;rfl),length_map]
theorem recV_snoc(d:List (BL×BL))(e:BL×BL):recV (d++ [e])=recV d++ [.string (mkB e.1), .string (mkB e.2)]:=by
 simp[recV,recR]
theorem oneL_some{k:Nat}{s:BL}{e:BL×BL}(h:oneL k s=some e):(10∈s∧k<60)∧readL k (cutA s 10)=some e:=by
 unfold oneL at h
 split at h
 ·rename_i g;exact⟨g,h⟩
 ·cases h
theorem two_new{t X:Heap}{j j2:Nat}{b b2 K Y K2:Blk}(hj2:j2<t.length) :
  (((t++X).set j b++ [K,Y]).set j2 b2++ [K2])[(t++X).length]? = some K∧(((t++X).set j b++ [K,Y]).set j2 b2++ [K2])[(t++X).length+2]? = some K2:=by
 have hl:t.length<=(t++X).length:=by simp
 constructor
 ·rw[getElem?_append_left (by simp),getElem?_set_ne (by omega),getElem?_append_right (by simp),length_set,sub_self];rfl
 ·rw[getElem?_append_right (by simp)];simp
theorem c_readRecords(pw:PowAt G h)(s:ByteArray)(hs:s.size<=10000000):vCall G Tryz.prog M 67 [.string s] h
  (fun r h'=> ∃t j j2,r = .tuple #[.slice (some ⟨h.length+j,0,none⟩) (openL 60 0 (bl s)).length 0, .slice (some ⟨h.length+j2,0,none⟩) ((openL 60 0 (bl s)).length+1) 0]∧h'=h++t ∧
   t[j]? = some ⟨recV (openL 60 0 (bl s)),2, .rw⟩∧t[j2]? = some ⟨(endsL (openL 60 0 (bl s))).map iv,1, .rw⟩∧j≠j2):=by
 have hbl:=bl_len s
 refine bo Tryz.func67 rfl rfl ?_
 simp only[go_sem]
 refine vLoop.count mo 60 (fun i e h'=> ∃(d:List (BL×BL)) (t:Heap) (j j2:Nat),d.length=i∧AtL (bl s) d∧e 0 = .string s∧e 4 = .slice (some ⟨h.length+j,0,none⟩) d.length 0 ∧
   e 5 = .slice (some ⟨h.length+j2,0,none⟩) (d.length+1) 0∧e 6 = .int .i64 (endL 0 d:Nat)∧h'=h++t∧t[j]? = some ⟨recV d,2, .rw⟩∧t[j2]? = some ⟨(endsL d).map iv,1, .rw⟩∧j≠j2) ?_ ?_
 ·exact⟨[],[⟨[],2, .rw⟩,⟨[.int .i64 0],1, .rw⟩],0,1,rfl,AtL.start _,rfl,rfl,rfl,rfl,rfl,rfl,rfl,by omega⟩
 ·rintro i e _ hi ⟨d,t,j,j2,rfl,at1,e0,e4,e5,e6,rfl,hj,hj2,hne⟩
  have hle:=at1.2.2
  simp only[go_sem,e0,e4,e5,e6,show endL 0 d<=s.size by omega]
  refine (c_readRecord (pw.mono (by simp)) (s.extract (endL 0 d) s.size) d.length (by omega) (by rw[ByteArray.size_extract];omega)).go ?_
  rintro _ _⟨rfl,⟨t2,rfl⟩⟩
  have ex:bl (s.extract (endL 0 d) s.size)=(bl s).drop (endL 0 d):=by rw[bl_extract, ←hbl,take_length]
  cases g:oneL d.length (bl (s.extract (endL 0 d) s.size)) with
  | none=>
   simp only[go_sem,e0,e4,e5,e6,oneV,g]
   rw[ex] at g
   have hd:openL 60 0 (bl s)=d:=at1.stop (fun⟨m1,m2,m3⟩=>by rw[oneL,if_pos ⟨m1,m2⟩] at g;rw[g] at m3;cases m3)
   rw[hd]
   exact⟨_,j,j2,rfl,rfl,app_old hj _,app_old hj2 _,hne⟩
  | some x=>
   simp only[go_sem,e0,e4,e5,e6,oneV,g,app_old hj,recV_len,app_keep hj2 hne,length_map,endsL_len]
   rw[ex] at g
   obtain⟨⟨m1,m2⟩,m3⟩:=oneL_some g
   obtain⟨s1,s2⟩:=at1.step m2 m1 m3
   have el:endL 0 (d++ [x])<=(bl s).length:=s1.2.2
   have w1:IntKind.i64.wrap ((endL 0 d:Int)+((lineL d.length x.1 x.2).length+1:Nat))=(endL 0 (d++ [x]):Nat):=by rw[wrap64 (by omega)];omega
   rw[w1]
   obtain⟨X,hX⟩: ∃X,X=t2++ [⟨[Value.string (mkB x.1),Value.string (mkB x.2)],2, .rw⟩,⟨[Value.string (mkB x.1),Value.string (mkB x.2)],2,St.rw⟩]:=⟨_,rfl⟩
   rw[←hX]
   have lX:X.length=t2.length+2:=by rw[hX,length_append];rfl
   have n1:=two_new (t:=t) (X:=X) (j:=j) (j2:=j2) (b:=⟨recV d,2, .dead⟩) (b2:=⟨(endsL d).map iv,1, .dead⟩)
    (K:=⟨recV d++ [.string (mkB x.1), .string (mkB x.2)],2, .rw⟩) (Y:=⟨[.int .i64 (endL 0 (d++ [x]):Nat)],1, .rw⟩) (K2:=⟨(endsL d).map iv++ [.int .i64 (endL 0 (d++ [x]):Nat)],1, .rw⟩) (List.getElem?_eq_some_iff.1 hj2).1
   refine⟨by omega,by omega,by omega,by omega,m2,d++ [x],_,(t++X).length,(t++X).length+2,by simp,s1, ?_, ?_,rfl,rfl, ?_, ?_,by omega⟩
   ·simp only[length_append,lX,length_singleton]
   ·simp only[length_set,length_append,length_singleton]
   ·rw[recV_snoc];exact n1.1
   ·rw[endsL_snoc,map_append];exact n1.2
end
open Go.HH Go.Proofs
theorem hget_one{h t:Heap}{b:Blk}{j:Nat}:hget (h++b::t) (h.length+1+j)=t[j]? := by rw[add_assoc,hget_app,Nat.add_comm 1 j,getElem?_cons_succ]
theorem hget_two{h t t2:Heap}{b:Blk}{j:Nat}:hget (h++b::(t++t2)) (h.length+(t.length+1)+j)=t2[j]? := by
 rw[add_assoc,hget_app,show t.length+1+j=(t.length+j)+1 by omega,getElem?_cons_succ,getElem?_append_right (by omega),add_sub_cancel_left]
theorem hget_mid{h t t2:Heap}{j:Nat}:hget (h++(t++t2)) (h.length+t.length+j)=t2[j]? := by
 rw[add_assoc,hget_app,getElem?_append_right (by omega),add_sub_cancel_left]
theorem hget_setmid{h t t2 y z:Heap}{j j2:Nat}{b K:Blk}(hj:j<t.length)(hj2:t2[j2]? = some K):hget (h++((t++(t2++y)).set j b++z)) (h.length+t.length+j2)=some K:=by
 have h2:=(List.getElem?_eq_some_iff.1 hj2).1
 rw[add_assoc,hget_app,getElem?_append_left (by simp;omega),getElem?_set_ne (by omega),getElem?_append_right (by omega),add_sub_cancel_left,getElem?_append_left h2,hj2]
theorem strsV_head{x:BL}{r:List BL}:(strsV (x::r))[0]? = some (.string (mkB x)):=rfl
section
variable {G:List (Nat×Nat)} {h:Heap} {M:Nat->Prop}
set_option maxRecDepth 100000 in
theorem c_l27Read(s:ByteArray)(k:Nat)(hk:k<=60)(hs:s.size<=1000000):vCall [] Tryz.prog M 131 [.string s, .int .i64 k] h
  (fun v h'=> ∃c r,v = .tuple #[.agg #[.string (mkB c), .string (mkB r)], .bool (readL k (bl s)).isSome]∧(∀e,readL k (bl s)=some e->e=(c,r))∧h<+:h'):=by
 have hbl:=bl_len s
 have nk:=num_size 2 k (by omega) (by omega)
 have s1:(⟨#[32]⟩:ByteArray).size=1:=rfl
 obtain⟨ahead,ha⟩: ∃ahead,ahead=num k++⟨#[32]⟩:=⟨_,rfl⟩
 have a1:hBin .add (.string (num k)) (.string ⟨#[32]⟩)=some (.string ahead):=by rw[ha];exact adds (by omega)
 have za:ahead.size<=3:=by rw[ha,ByteArray.size_append];omega
 have bla:bl ahead=Lib.decDigits k++ [32]:=by rw[ha,bl_app,bl_num];rfl
 obtain⟨r1,p1,p2⟩:=splitL_head (bl s) 35
 obtain⟨text,ht⟩: ∃text,cutA (bl s) 35=text:=⟨_,rfl⟩
 have l1:=cutA_le (bl s) 35
 rw[ht] at p1 l1
 have lah:=bl_len ahead
 refine bo Tryz.func131 rfl rfl ?_
 simp only[go_sem]
 refine (c_l1Num k (by omega)).go ?_
 rintro _ _⟨rfl,rfl⟩
 simp only[go_sem,a1]
 refine (c_l1Split s 35 (by omega)).go ?_
 rintro _ _⟨t,j,rfl,rfl,hj⟩
 rw[p1] at hj
 rw[p1]
 simp only[go_sem,hget_one,hj,strsV_len,strsV_head,mkB_size]
 refine⟨by omega, ?_⟩
 have b0:(0:Int)<=(ahead.size:Int):=by omega
 by_cases g2:bl ahead<+:text
 ·obtain⟨rest,hrest⟩:=id g2
  have lt2:=congrArg List.length hrest
  rw[length_append] at lt2
  have g1: ¬((text.length:Int)<ahead.size):=by omega
  have g3:ahead.size<=text.length:=by omega
  have ex1:(mkB text).extract 0 ahead.size=ahead:=by
   apply bl_ext;rw[bl_extract,bl_mkB, ←hrest, ←lah];simp
  have ex2:(mkB text).extract ahead.size text.length=mkB rest:=by
   apply bl_ext;rw[bl_extract,bl_mkB,bl_mkB,take_length, ←hrest, ←lah];simp
  have hhead:cutA (bl s) 35=Lib.decDigits k++ [32]++rest:=by rw[ht, ←hrest,bla]
  obtain⟨r2,p3,p4⟩:=splitL_head rest 64
  have l4:=cutA_le rest 64
  simp only[go_sem,hget_one,hj,strsV_len,strsV_head,mkB_size,g1,g3,ex1,beq_self_eq_true,Bool.not_true,ex2]
  refine⟨by omega, ?_⟩
  refine (c_l1Split (mkB rest) 64 (by rw[mkB_size];omega)).go ?_
  rintro _ _⟨t2,j2,rfl,rfl,hj2⟩
  rw[bl_mkB,p3] at hj2
  rw[bl_mkB,p3]
  by_cases g4:64∈rest
  ·have l5:=cut_len g4
   have ne4:(((cutA rest 64).length:Int)==rest.length)=false:=by rw[beq_eq_false_iff_ne];omega
   have e1:IntKind.i64.wrap (((cutA rest 64).length:Int)+1)=(((cutA rest 64).length+1:Nat):Int):=by rw[wrap64 (by omega)];omega
   have ex3:(mkB rest).extract ((cutA rest 64).length+1) rest.length=mkB (cutB rest 64):=by
    have:=cutB_extract (s:=mkB rest) (c:=64) g4
    rwa [mkB_size] at this
   have b1:(0:Int)<=(((cutA rest 64).length+1:Nat):Int):=by omega
   obtain⟨c,hc⟩: ∃c,c=cutA rest 64:=⟨_,rfl⟩
   obtain⟨r,hr⟩: ∃r,r=cutB rest 64:=⟨_,rfl⟩
   have rd:=readL_head hhead
   rw[←hc, ←hr] at rd
   rw[←hr] at ex3 l5
   rw[←hc] at hj2 l5 ne4 e1 ex3 b1 l4
   rw[←hc]
   simp only[go_sem,hget_two,hj2,strsV_len,strsV_head,mkB_size,ne4,e1,ex3,b1,Int.toNat_natCast]
   refine⟨by omega,by omega, ?_⟩
   refine (c_l27Good (mkB c) (mkB r) (by rw[mkB_size];omega) (by rw[mkB_size];omega)).go ?_
   rintro _ _⟨rfl,⟨t3,rfl⟩⟩
   rw[recOk_mk]
   cases g5:okL c r
   ·have no:readL k (bl s)=none:=by rw[rd,if_neg (by simp[g5])]
    simp only[go_sem,g5]
    exact⟨c,r,by rw[no];rfl,fun e he=>by rw[no] at he;cases he⟩
   ·simp only[go_sem,g5]
    refine (c_l27Line k (mkB c) (mkB r) (by omega) (by rw[recOk_mk];exact g5)).go ?_
    rintro _ _⟨rfl,⟨t4,rfl⟩⟩
    have a2:hBin .add (.string s) (.string ⟨#[10]⟩)=some (.string (mkB (bl s++ [10]))):=by
     rw[←nlB,mkB_bl]
     refine adds ?_
     have:(⟨#[10]⟩:ByteArray).size=1:=rfl
     omega
    by_cases g6:lineL k c r=bl s
    ·have e5:(mkB (lineL k c r++ [10])).toList==(mkB (bl s++ [10])).toList:=by rw[g6];exact beq_self_eq_true _
     have yes:readL k (bl s)=some (c,r):=by rw[rd,if_pos ⟨g5,g6⟩]
     simp only[go_sem,g5,bl_mkB,a2,e5]
     exact⟨c,r,by rw[yes];rfl,fun e he=>by rw[yes] at he;cases he;rfl⟩
    ·have e5:((mkB (lineL k c r++ [10])).toList==(mkB (bl s++ [10])).toList)=false:=by
      rw[toList_eq]
      refine decide_eq_false fun hh=>g6 ?_
      exact List.append_cancel_right (mkB_inj.1 hh)
     have no:readL k (bl s)=none:=by rw[rd,if_neg (fun hh=>g6 hh.2)]
     simp only[go_sem,g5,bl_mkB,a2,e5]
     exact⟨c,r,by rw[no];rfl,fun e he=>by rw[no] at he;cases he⟩
  ·rw[cutA_miss g4] at hj2
   rw[cutA_miss g4]
   simp only[go_sem,hget_two,hj2,strsV_len,strsV_head,mkB_size,beq_self_eq_true]
   have no:=readL_no_at hhead g4
   exact⟨by omega,[],[],by rw[no];rfl,fun e he=>by rw[no] at he;cases he⟩
 ·have no:readL k (bl s)=none:=readL_no_head (by rw[ht, ←bla];exact g2)
  by_cases g1:text.length<ahead.size
  ·simp only[go_sem,hget_one,hj,strsV_len,strsV_head,mkB_size,show ((text.length:Int)<ahead.size) by omega]
   exact⟨[],[],by rw[no];rfl,fun e he=>by rw[no] at he;cases he⟩
  ·have ne:(((mkB text).extract 0 ahead.size).toList==ahead.toList)=false:=by
    rw[toList_eq]
    refine decide_eq_false fun hh=>g2 ?_
    have:=congrArg bl hh
    rw[bl_extract,bl_mkB,drop_zero] at this
    rw[List.prefix_iff_eq_take,lah];exact this.symm
   simp only[go_sem,hget_one,hj,strsV_len,strsV_head,mkB_size,show ¬((text.length:Int)<ahead.size) by omega,show ahead.size<=text.length by omega,ne,Bool.not_false]
   exact⟨by omega,[],[],by rw[no];rfl,fun e he=>by rw[no] at he;cases he⟩
set_option maxRecDepth 100000 in
theorem c_l27Open(s:ByteArray)(hs:s.size<=100000):vCall [] Tryz.prog M 89 [.string s] h
  (fun r h'=> ∃t j,r = .tuple #[.slice (some ⟨h.length+j,0,none⟩) (openL 60 0 (bl s)).length 0, .int .i64 (endL 0 (openL 60 0 (bl s)):Nat)]∧h'=h++t∧t[j]? = some ⟨recV (openL 60 0 (bl s)),2, .rw⟩):=by
 have hbl:=bl_len s
 refine bo Tryz.func89 rfl rfl ?_
 simp only[go_sem]
 refine vLoop.count mo 60 (fun i e h'=> ∃(d:List (BL×BL)) (t:Heap) (j:Nat),d.length=i∧AtL (bl s) d∧e 0 = .string s∧e 4 = .slice (some ⟨h.length+j,0,none⟩) d.length 0 ∧
   e 5 = .int .i64 (endL 0 d:Nat)∧h'=h++t∧t[j]? = some ⟨recV d,2, .rw⟩) ?_ ?_
 ·exact⟨[],[⟨[],2, .rw⟩],0,rfl,AtL.start _,rfl,rfl,rfl,rfl,rfl⟩
 ·rintro i e _ hi ⟨d,t,j,rfl,at1,e0,e4,e5,rfl,hj⟩
  have hle:=at1.2.2
  have fin:openL 60 0 (bl s)=d->∃t_1 j_1,Value.tuple #[.slice (some ⟨h.length+j,0,none⟩) d.length 0, .int .i64 (endL 0 d:Nat)]=Value.tuple #[.slice (some ⟨h.length+j_1,0,none⟩) (openL 60 0 (bl s)).length 0, .int .i64 (endL 0 (openL 60 0 (bl s)):Nat)]∧h++t=h++t_1∧t_1[j_1]? = some ⟨recV (openL 60 0 (bl s)),2, .rw⟩:=
   fun hd=>by rw[hd];exact⟨t,j,rfl,rfl,hj⟩
  have fin': ∀x,openL 60 0 (bl s)=d->∃t_1 j_1,Value.tuple #[.slice (some ⟨h.length+j,0,none⟩) d.length 0, .int .i64 (endL 0 d:Nat)]=Value.tuple #[.slice (some ⟨h.length+j_1,0,none⟩) (openL 60 0 (bl s)).length 0, .int .i64 (endL 0 (openL 60 0 (bl s)):Nat)]∧h++(t++x)=h++t_1∧t_1[j_1]? = some ⟨recV (openL 60 0 (bl s)),2, .rw⟩:=
   fun x hd=>by rw[hd];exact⟨t++x,j,rfl,rfl,app_old hj x⟩
  by_cases g1:endL 0 d<s.size
  ·by_cases g2:d.length<60
   ·have d1:((endL 0 d:Nat):Int)<s.size:=by omega
    have d2:(d.length:Int)<60:=by omega
    have d3:endL 0 d<=s.size:=by omega
    simp only[go_sem,e0,e4,e5,d1,d2,d3]
    refine (c_l1Split (s.extract (endL 0 d) s.size) 10 (by rw[ByteArray.size_extract];omega)).go ?_
    rintro _ _⟨t2,j2,rfl,rfl,hj2⟩
    have ex:bl (s.extract (endL 0 d) s.size)=(bl s).drop (endL 0 d):=by rw[bl_extract, ←hbl,take_length]
    obtain⟨r1,p1,p2⟩:=splitL_head ((bl s).drop (endL 0 d)) 10
    rw[ex,p1] at hj2
    rw[ex,p1]
    have l1:=cutA_le ((bl s).drop (endL 0 d)) 10
    rw[length_drop] at l1
    obtain⟨line,hl⟩: ∃line,line=cutA ((bl s).drop (endL 0 d)) 10:=⟨_,rfl⟩
    rw[←hl] at hj2 l1
    rw[←hl]
    simp only[go_sem,e0,e4,e5,d1,d2,d3,hget_mid,hj2,strsV_len,strsV_head]
    refine⟨by omega, ?_⟩
    refine (c_l27Read (mkB line) d.length (by omega) (by rw[mkB_size];omega)).go ?_
    rintro _ _⟨c,r,rfl,hcr,⟨t3,rfl⟩⟩
    rw[bl_mkB] at hcr
    rw[bl_mkB]
    have stop2: ¬(10∈(bl s).drop (endL 0 d)∧d.length<60∧(readL d.length (cutA ((bl s).drop (endL 0 d)) 10)).isSome=true)->openL 60 0 (bl s)=d:=at1.stop
    rw[←hl] at stop2
    by_cases g3:r1= []
    ·have d4:((r1.length+1:Nat):Int)<2:=by rw[g3];decide
     simp only[go_sem,e0,e4,e5,d1,d2,d3,d4]
     refine fin' _ (stop2 fun⟨m1,_,_⟩=>p2.1 g3 m1)
    ·have d4: ¬((r1.length+1:Nat):Int)<2:=by
      have:0<r1.length:=length_pos_iff.2 g3
      omega
     have m1:10∈(bl s).drop (endL 0 d):=by
      rcases Classical.em (10∈(bl s).drop (endL 0 d)) with m|m
      ·exact m
      ·exact absurd (p2.2 m) g3
     cases g4:readL d.length line with
     | none=>
      simp only[go_sem,e0,e4,e5,d1,d2,d3,d4,g4,Option.isSome_none]
      refine fin' _ (stop2 fun⟨_,_,m3⟩=>by rw[g4] at m3;cases m3)
     | some x=>
      obtain rfl:=hcr x g4
      have jlt:=(List.getElem?_eq_some_iff.1 hj).1
      obtain⟨s1,s2⟩:=at1.step g2 m1 (by rw[←hl];exact g4)
      have el:endL 0 (d++ [(c,r)])<=(bl s).length:=s1.2.2
      have s2':endL 0 (d++ [(c,r)])=endL 0 d+((lineL d.length c r).length+1):=s2
      have ll:=congrArg List.length (readL_some g4).2
      rw[ll] at l1
      have w1:IntKind.i64.wrap ((endL 0 d:Int)+(line.length:Nat))=(endL 0 d:Int)+(line.length:Nat):=wrap64 (by omega)
      have w2:IntKind.i64.wrap ((endL 0 d:Int)+(line.length:Nat)+1)=(endL 0 (d++ [(c,r)]):Nat):=by rw[wrap64 (by omega)];omega
      simp only[go_sem,e0,e4,e5,d1,d2,d3,d4,g4,hget_mid,app_old hj,recV_len,hget_setmid jlt hj2,strsV_head,mkB_size,w1,w2,Option.isSome_some]
      refine⟨by omega,by omega,by omega,g2,d++ [(c,r)],_,t.length+(t2.length+(t3.length+2)),by simp,s1, ?_,rfl,rfl, ?_⟩
      ·simp only[length_append,length_singleton]
      ·rw[recV_snoc];exact new_endL (by simp)
   ·simp only[go_sem,e0,e4,e5,show ¬((d.length:Int)<60) by omega,show ((endL 0 d:Nat):Int)<s.size by omega]
    exact fin (at1.stop fun⟨_,m2,_⟩=>g2 m2)
  ·simp only[go_sem,e0,e4,e5,show ¬(((endL 0 d:Nat):Int)<s.size) by omega]
   refine fin (at1.stop fun⟨m1,_,_⟩ => ?_)
   rw[List.drop_eq_nil_of_le (by omega)] at m1
   cases m1
end
open Go.HH Go.Proofs
theorem joinDP(D P:ByteArray)(h:D.size+P.size<=9000000):hBin .add (.string D) (.string P)=some (.string (D++P)):=adds (by omega)
theorem hget_add1{h t:Heap}{b:Blk}{j:Nat}:hget (h++b::t) (h.length+(1+j))=t[j]? := by rw[hget_app,Nat.add_comm 1 j,getElem?_cons_succ]
theorem ends_at{d:List (BL×BL)}{j:Nat}(h:j<d.length+1):((endsL d).map iv)[j]? = some (.int .i64 (endL 0 (d.take j):Nat)):=by
 have h2:j<(endsL d).length:=by rw[endsL_len];exact h
 rw[getElem?_map,getElem?_eq_getElem h2,endsL_at];rfl
section
variable {G:List (Nat×Nat)} {h:Heap} {M:Nat->Prop}
theorem c_IsValidLog(pw:PowAt G h)(D P:ByteArray)(n:Int)(hz:D.size+P.size<=9000000):vCall G Tryz.prog M 66 [.agg #[.string D, .string P, .int .i64 n]] h (fun r h'=>r = .bool (decide (logOk (bl D) (bl P) n))∧h<+:h'):=by
 have lD:=bl_len D
 have lP:=bl_len P
 have lDP:(bl D++bl P).length=D.size+P.size:=by rw[length_append,lD,lP]
 refine bo Tryz.func66 rfl rfl ?_
 simp only[go_sem,joinDP D P hz]
 refine (c_readRecords (pw.mono (by simp)) (D++P) (by rw[ByteArray.size_append];omega)).go ?_
 rintro _ _⟨t,j,j2,rfl,rfl,hj,hj2,hne⟩
 rw[bl_app] at hj hj2
 rw[bl_app]
 obtain⟨d,hd⟩: ∃d,d=openL 60 0 (bl D++bl P):=⟨_,rfl⟩
 rw[←hd] at hj hj2
 rw[←hd]
 have eA:=ends_at (d:=d) (j:=d.length) (by omega)
 rw[take_length] at eA
 have dl:d.length<=60:=by rw[hd];exact openL_len 60 0 _
 have b0:(d.length:Int)<((d.length+1:Nat):Int):=by omega
 simp only[go_sem,hget_one,hj2,eA,Int.toNat_natCast,b0]
 by_cases g1:endL 0 d=D.size+P.size
 ·have ne1:(((endL 0 d:Nat):Int) != ((D.size+P.size:Nat):Int))=false:=by rw[bne_eq_false_iff_eq];omega
  by_cases g2:(d.length:Int)=n
  ·have ne2:((d.length:Int) != n)=false:=by rw[g2];exact bne_self_eq_false _
   simp only[go_sem,hget_one,hj2,eA,Int.toNat_natCast,b0,ne1,ne2]
   have okif:logOk (bl D) (bl P) n↔∃j,j<=d.length∧endL 0 (d.take j)=(bl D).length:=by
    rw[logOk, ←hd,hd,logOk_ends, ←hd,lDP]
    exact⟨fun hh=>hh.2.1,fun hh=>⟨g1,hh,g2⟩⟩
   refine vLoop.count mo (d.length+1) (fun i e h'=>e 33 = .slice (some ⟨h.length+(1+j2),0,none⟩) (d.length+1) 0∧e 34 = .int .i64 (d.length+1:Nat)∧e 35 = .int .i64 i∧e 1 = .pointer (some ⟨h.length,0,none⟩) ∧
    h'=h++⟨[.string D, .string P, .int .i64 n],3, .rw⟩::t∧∀k,k<i->endL 0 (d.take k)≠(bl D).length) ?_ ?_
   ·simp only[go_sem]
    exact⟨by rw[add_assoc],fun k hk=>absurd hk (by omega)⟩
   ·rintro i e _ hi ⟨e33,e34,e35,e1,rfl,hno⟩
    simp only[go_sem,e33,e34,e35,e1]
    refine .intro (fun h1 => ?_) (fun h1 => ?_)
    ·have hlt:i<d.length+1:=by have:=of_decide_eq_true h1;omega
     have hlt2:(i:Int)<((d.length+1:Nat):Int):=by omega
     simp only[go_sem,e33,e34,e35,e1,hget_add1,hj2,ends_at hlt,hlt2]
     by_cases g3:endL 0 (d.take i)=D.size
     ·have eq3:(((endL 0 (d.take i):Nat):Int)==(D.size:Int))=true:=by rw[g3];exact beq_self_eq_true _
      simp only[go_sem,e33,e34,e35,e1,hget_add1,hj2,ends_at hlt,hlt2,eq3]
      rw[decide_eq_true (okif.2 ⟨i,by omega,by rw[lD];exact g3⟩)]
      all_goals exact fin_
     ·have eq3:(((endL 0 (d.take i):Nat):Int)==(D.size:Int))=false:=by rw[beq_eq_false_iff_ne];omega
      simp only[go_sem,e33,e34,e35,e1,hget_add1,hj2,ends_at hlt,hlt2,eq3]
      refine⟨hlt,by rw[wrap64 (by omega)];rfl,fun k hk => ?_⟩
      rcases Nat.lt_succ_iff_lt_or_eq.1 hk with h2|rfl
      ·exact hno k h2
      ·rw[lD];exact g3
    ·obtain rfl:i=d.length+1:=by have:=of_decide_eq_false h1;omega
     simp only[go_sem,e33,e34,e35,e1]
     rw[decide_eq_false (fun hh=>by obtain⟨k,k1,k2⟩:=okif.1 hh;exact hno k (by omega) k2)]
     all_goals exact fin_
  ·have ne2:((d.length:Int) != n)=true:=by rw[bne_iff_ne];exact g2
   simp only[go_sem,hget_one,hj2,eA,Int.toNat_natCast,b0,ne1,ne2]
   rw[decide_eq_false (fun hh=>g2 (by rw[logOk, ←hd] at hh;exact hh.2.2))]
   all_goals exact fin_
 ·have ne1:(((endL 0 d:Nat):Int) != ((D.size+P.size:Nat):Int))=true:=by rw[bne_iff_ne];omega
  simp only[go_sem,hget_one,hj2,eA,Int.toNat_natCast,b0,ne1]
  rw[decide_eq_false (fun hh=>g1 (by rw[logOk, ←hd,lDP] at hh;exact hh.1))]
  all_goals exact fin_
set_option maxRecDepth 100000 in
theorem c_l27Log(D P:ByteArray)(n:Int)(hz:D.size+P.size<=9000000):vCall [] Tryz.prog M 44 [.agg #[.string D, .string P, .int .i64 n]] h (fun r h'=>r = .bool (decide (logOk (bl D) (bl P) n))∧h<+:h'):=by
 have lD:=bl_len D
 have lP:=bl_len P
 have lDP:(bl D++bl P).length=D.size+P.size:=by rw[length_append,lD,lP]
 have w1:IntKind.i64.wrap ((D.size:Int)+P.size)=((D.size+P.size:Nat):Int):=by rw[wrap64 (by omega)];omega
 refine bo Tryz.func44 rfl rfl ?_
 simp only[go_sem,joinDP D P hz,w1]
 by_cases g0:30000<D.size+P.size
 ·simp only[go_sem,joinDP D P hz,w1,show (30000:Int)<((D.size+P.size:Nat):Int) by omega]
  rw[decide_eq_false (fun hh=>by have:=logOk_small hh.1;rw[lDP] at this;omega)]
  all_goals exact fin_
 ·simp only[go_sem,joinDP D P hz,w1,show ¬(30000:Int)<((D.size+P.size:Nat):Int) by omega]
  refine (c_l27Open (D++P) (by rw[ByteArray.size_append];omega)).go ?_
  rintro _ _⟨t,j,rfl,rfl,hj⟩
  rw[bl_app]
  obtain⟨d,hd⟩: ∃d,d=openL 60 0 (bl D++bl P):=⟨_,rfl⟩
  rw[←hd]
  simp only[go_sem,joinDP D P hz,w1]
  refine (c_l27Open D (by omega)).go ?_
  rintro _ _⟨t2,j2,rfl,rfl,hj2⟩
  obtain⟨d2,hd2⟩: ∃d2,d2=openL 60 0 (bl D):=⟨_,rfl⟩
  rw[←hd2]
  have ok:logOk (bl D) (bl P) n↔endL 0 d=D.size+P.size∧endL 0 d2=D.size∧(d.length:Int)=n:=by rw[logOk, ←hd, ←hd2,lDP,lD]
  by_cases g1:endL 0 d=D.size+P.size
  ·have q1:(((endL 0 d:Nat):Int)==((D.size+P.size:Nat):Int))=true:=by rw[g1];exact beq_self_eq_true _
   by_cases g2:endL 0 d2=D.size
   ·have q2:(((endL 0 d2:Nat):Int)==(D.size:Int))=true:=by rw[g2];exact beq_self_eq_true _
    simp only[go_sem,joinDP D P hz,w1,q1,q2]
    have:(decide (logOk (bl D) (bl P) n))=((d.length:Int)==n):=by
     rw[Bool.eq_iff_iff,decide_eq_true_iff,beq_iff_eq,ok]
     exact⟨fun hh=>hh.2.2,fun hh=>⟨g1,g2,hh⟩⟩
    rw[this]
    try all_goals exact fin_
   ·have q2:(((endL 0 d2:Nat):Int)==(D.size:Int))=false:=by rw[beq_eq_false_iff_ne];omega
    simp only[go_sem,joinDP D P hz,w1,q1,q2]
    rw[decide_eq_false (fun hh=>g2 (ok.1 hh).2.1)]
    try all_goals exact fin_
  ·have q1:(((endL 0 d:Nat):Int)==((D.size+P.size:Nat):Int))=false:=by rw[beq_eq_false_iff_ne];omega
   simp only[go_sem,joinDP D P hz,w1,q1]
   rw[decide_eq_false (fun hh=>g1 (ok.1 hh).1)]
   try all_goals exact fin_
def recoV(s:ByteArray):Value:=if s.size<=30000 then .tuple #[.agg #[.string (s.extract 0 (endL 0 (openL 60 0 (bl s)))), .string ⟨#[]⟩, .int .i64 (openL 60 0 (bl s)).length], .int .i64 (endL 0 (openL 60 0 (bl s)):Nat), .bool true]
 else .tuple #[.agg #[.string ⟨#[]⟩, .string ⟨#[]⟩, .int .i64 0], .int .i64 0, .bool false]
theorem end_le(s:ByteArray):endL 0 (openL 60 0 (bl s))<=s.size:=by
 have:=(endL_le 60 0 (bl s) (by omega)).2
 rwa [bl_len] at this
theorem c_RecoverLog(pw:PowAt G h)(s:ByteArray)(hs:s.size<=9223372036854775806):vCall G Tryz.prog M 42 [.string s] h (fun v h'=>v=recoV s∧h<+:h'):=by
 refine bo Tryz.func42 rfl rfl ?_
 simp only[go_sem]
 by_cases g1:s.size<=30000
 ·simp only[go_sem,show ¬(30000:Int)<s.size by omega]
  refine (c_readRecords (pw.mono (by simp)) s (by omega)).go ?_
  rintro _ _⟨t,j,j2,rfl,rfl,hj,hj2,hne⟩
  have le:=end_le s
  obtain⟨d,hd⟩: ∃d,d=openL 60 0 (bl s):=⟨_,rfl⟩
  rw[←hd] at hj hj2 le
  rw[recoV,if_pos g1, ←hd]
  have eA:=ends_at (d:=d) (j:=d.length) (by omega)
  rw[take_length] at eA
  have b0:(d.length:Int)<((d.length+1:Nat):Int):=by omega
  simp only[go_sem,hget_one,hj2,eA,Int.toNat_natCast,b0,le]
  exact zero_le _
 ·simp only[go_sem,show (30000:Int)<s.size by omega]
  rw[recoV,if_neg g1]
  try all_goals exact fin_
def syncV(D P:ByteArray)(n:Int):Value:=if logOk (bl D) (bl P) n then .tuple #[.agg #[.string (D++P), .string ⟨#[]⟩, .int .i64 n], .bool true] else .tuple #[.agg #[.string ⟨#[]⟩, .string ⟨#[]⟩, .int .i64 0], .bool false]
theorem c_sSyncLog(D P:ByteArray)(n:Int)(hz:D.size+P.size<=9000000):vCall [] Tryz.prog M 168 [.agg #[.string D, .string P, .int .i64 n]] h (fun r h'=>r=syncV D P n∧h<+:h'):=by
 refine bo Tryz.func168 rfl rfl ?_
 simp only[go_sem]
 refine (c_l27Log D P n hz).go ?_
 rintro _ _⟨rfl,⟨t,rfl⟩⟩
 by_cases g:logOk (bl D) (bl P) n
 ·simp only[go_sem,decb g,joinDP D P hz]
  rw[syncV,if_pos g]
  try all_goals exact fin_
 ·simp only[go_sem,dect g]
  rw[syncV,if_neg g]
  try all_goals exact fin_
theorem logOk_count{D P:BL}{n:Int}(h:logOk D P n):0<=n∧n<=60:=by
 have h1:=h.2.2
 have h2:=openL_len 60 0 (D++P)
 omega
def appV(D P:ByteArray)(n:Int)(c r:ByteArray):Value:=if logOk (bl D) (bl P) n∧recOk c r=true then (if n=60 then .tuple #[.agg #[.string D, .string P, .int .i64 n], .int .i64 2]
 else .tuple #[.agg #[.string D, .string (P++mkB (lineL n.toNat (bl c) (bl r)++ [10])), .int .i64 (n+1)], .int .i64 0]) else .tuple #[.agg #[.string D, .string P, .int .i64 n], .int .i64 1]
theorem line_add(P:ByteArray)(k:Nat)(c r:ByteArray)(hk:k<100)(g:recOk c r=true)(hP:P.size<=9000000):hBin .add (.string P) (.string (mkB (lineL k (bl c) (bl r)++ [10])))=some (.string (P++mkB (lineL k (bl c) (bl r)++ [10]))):=by
 rw[recOk_L] at g
 have:=lineL_len g hk
 exact adds (by rw[mkB_size,length_append,length_singleton];omega)
theorem c_AppendRecord(pw:PowAt G h)(D P:ByteArray)(n:Int)(c r:ByteArray)(hz:D.size+P.size<=9000000)(hc:c.size<=9223372036854775806)(hr:r.size<=9223372036854775806) :
  vCall G Tryz.prog M 57 [.agg #[.string D, .string P, .int .i64 n], .agg #[.string c, .string r]] h (fun v h'=>v=appV D P n c r∧h<+:h'):=by
 refine bo Tryz.func57 rfl rfl ?_
 simp only[go_sem]
 refine (c_IsValidLog (pw.mono (by simp)) D P n hz).go ?_
 rintro _ _⟨rfl,⟨t,rfl⟩⟩
 by_cases g:logOk (bl D) (bl P) n
 ·have gc:=logOk_count g
  simp only[go_sem,decb g]
  refine ((c_IsValidRecord c r hc hr).addG).go ?_
  rintro _ _⟨rfl,⟨t2,rfl⟩⟩
  cases g2:recOk c r
  ·simp only[go_sem,decb g,g2]
   rw[appV,if_neg (fun hh=>by rw[g2] at hh;exact absurd hh.2 (by decide))]
   try all_goals exact fin_
  ·by_cases g3:n=60
   ·have q:(n==60)=true:=by rw[g3];rfl
    simp only[go_sem,decb g,g2,q]
    rw[appV,if_pos ⟨g,g2⟩,if_pos g3]
    try all_goals exact fin_
   ·have q:(n==60)=false:=by rw[beq_eq_false_iff_ne];exact g3
    obtain⟨m,rfl⟩:=Int.eq_ofNat_of_zero_le gc.1
    have w1:IntKind.i64.wrap ((m:Int)+1)=(m:Int)+1:=wrap64 (by omega)
    simp only[go_sem,decb g,g2,q]
    refine (c_encodeRecord (pw.mono (by simp)) m c r (by omega) g2).go ?_
    rintro _ _⟨rfl,⟨t3,rfl⟩⟩
    simp only[go_sem,decb g,g2,q,line_add P m c r (by omega) g2 (by omega),w1]
    rw[appV,if_pos ⟨g,g2⟩,if_neg g3]
    try all_goals exact fin_
 ·simp only[go_sem,dect g]
  rw[appV,if_neg (fun hh=>g hh.1)]
  try all_goals exact fin_
theorem c_sAppendRecord(D P:ByteArray)(n:Int)(c r:ByteArray)(hz:D.size+P.size<=9000000)(hc:c.size<=9223372036854775806)(hr:r.size<=9223372036854775806) :
  vCall [] Tryz.prog M 51 [.agg #[.string D, .string P, .int .i64 n], .agg #[.string c, .string r]] h (fun v h'=>v=appV D P n c r∧h<+:h'):=by
 refine bo Tryz.func51 rfl rfl ?_
 simp only[go_sem]
 refine (c_l27Log D P n hz).go ?_
 rintro _ _⟨rfl,⟨t,rfl⟩⟩
 by_cases g:logOk (bl D) (bl P) n
 ·have gc:=logOk_count g
  simp only[go_sem,decb g]
  refine (c_l27Good c r hc hr).go ?_
  rintro _ _⟨rfl,⟨t2,rfl⟩⟩
  cases g2:recOk c r
  ·simp only[go_sem,decb g,g2]
   rw[appV,if_neg (fun hh=>by rw[g2] at hh;exact absurd hh.2 (by decide))]
   try all_goals exact fin_
  ·by_cases g3:n=60
   ·have q:(n==60)=true:=by rw[g3];rfl
    simp only[go_sem,decb g,g2,q]
    rw[appV,if_pos ⟨g,g2⟩,if_pos g3]
    try all_goals exact fin_
   ·have q:(n==60)=false:=by rw[beq_eq_false_iff_ne];exact g3
    obtain⟨m,rfl⟩:=Int.eq_ofNat_of_zero_le gc.1
    have w1:IntKind.i64.wrap ((m:Int)+1)=(m:Int)+1:=wrap64 (by omega)
    simp only[go_sem,decb g,g2,q]
    refine (c_l27Line m c r (by omega) g2).go ?_
    rintro _ _⟨rfl,⟨t3,rfl⟩⟩
    simp only[go_sem,decb g,g2,q,line_add P m c r (by omega) g2 (by omega),w1]
    rw[appV,if_pos ⟨g,g2⟩,if_neg g3]
    try all_goals exact fin_
 ·simp only[go_sem,dect g]
  rw[appV,if_neg (fun hh=>g hh.1)]
  try all_goals exact fin_
end
end Go.Proofs.YtedidddimikjhaaGreatDoor
