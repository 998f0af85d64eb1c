/- Texts of this claim, joined. No condition. -/
import Derived.Test.YtedidddimikjhaaGreatDoorFnReplPart4
import Derived.Test.YtedidddimikjhaaGreatDoorFnReplPart6
import Derived.Test.YtedidddimikjhaaGreatDoorFnReplPart5
import Derived.Test.YtedidddimikjhaaGreatDoorProg
import Derived.Shelf.Spec.SlicesInsertGrow
import Derived.Test.YtedidddimikjhaaGreatDoorFnReplPart1
import Derived.KernelRfl
open List (length_map prefix_append append_assoc prefix_rfl length_append getElem?_eq_getElem getElem_map length_take getElem_mem getElem?_append_left length_cons getElem?_cons_zero all_eq_true mem_map take_length getElem?_cons_succ cons_append map_append length_nil mem_iff_getElem getElem?_drop take_of_length_le map_cons append_nil mem_range size_toArray getElem?_take getElem?_map nil_append length_singleton length_drop getElem?_set_ne any_eq_true take_left' mem_filter length_set take_succ_eq_append_getElem drop_left')
open Nat (le_refl le_trans add_zero zero_le add_assoc sub_self lt_of_lt_of_le min_eq_left)
set_option linter.unusedSimpArgs false
set_option linter.unusedVariables false
namespace Go.Proofs.YtedidddimikjhaaGreatDoor
open Go.HH Go.Proofs
def isS(K:Nat):Value->Bool
 | .string s=>decide (s.size<=K)
 | _=>false
theorem isS_at{K:Nat}{l:List Value}(hl:l.all (isS K)=true){i:Nat}(hi:i<l.length): ∃s:ByteArray,l[i]? = some (.string s)∧s.size<=K:=by
 have h:=all_eq_true.1 hl l[i] (getElem_mem hi)
 rw[getElem?_eq_getElem hi]
 unfold isS at h
 split at h
 ·rename_i s e;exact⟨s,by rw[e],by simpa using h⟩
 ·cases h
structure Gst(h H:Heap)(id n:Nat)(a:Option Addr)(B b2 b3:Nat)(z2:Blk)(cs:List Value)(sz:Nat):Prop where
 st:St H id n a B
 out:Agr id (id+1) h H
 r:hget H b2=some z2
 b:hget H b3=some ⟨cs,sz, .rw⟩
 low:h.length<=b2∧b2<b3∧id<h.length
section
variable {h H H':Heap} {id n B B' b2 b3 sz:Nat} {a:Option Addr} {z2:Blk} {cs cs':List Value}
theorem Gst.step(s:Gst h H id n a B b2 b3 z2 cs sz)(s':St H' id n a B')(g:Agr id (id+1) H H'):Gst h H' id n a B' b2 b3 z2 cs sz:=by
 have h1:=s.low
 exact⟨s',s.out.trans g,agr_get g s.r (by omega),agr_get g s.b (by omega),h1⟩
theorem Gst.grow(s:Gst h H id n a B b2 b3 z2 cs sz)(t:Heap):Gst h (H++t) id n a B b2 b3 z2 cs sz:=s.step (s.st.app t) Agr.app
theorem Gst.more(s:Gst h H id n a B b2 b3 z2 cs sz)(hB:B<=B'):Gst h H id n a B' b2 b3 z2 cs sz:=⟨s.st.more hB,s.out,s.r,s.b,s.low⟩
theorem Gst.put(s:Gst h H id n a B b2 b3 z2 cs sz)(cs':List Value):Gst h (H.set b3 ⟨cs',sz, .rw⟩) id n a B b2 b3 z2 cs' sz:=by
 have h1:=s.low
 exact⟨s.st.set s.b rfl (by omega),⟨by simpa using s.out.1,fun i h2 h3=>by rw[hget_set_ne (by omega)];exact s.out.2 i h2 h3⟩,by rw[hget_set_ne (by omega)];exact s.r,hget_set_same (hget_lt s.b),h1⟩
theorem Gst.done(s:Gst h H id n a B b2 b3 z2 cs sz)(hz:z2.st = .rw)(c:Blk):St (H.set b2 c) id n a B∧Agr id (id+1) h (H.set b2 c):=by
 have h1:=s.low
 exact⟨s.st.set s.r hz (by omega),⟨by simpa using s.out.1,fun i h2 h3=>by rw[hget_set_ne (by omega)];exact s.out.2 i h2 h3⟩⟩
end
theorem pre_ofD{h H:Heap}(hl:h.length<=H.length)(hi: ∀i,i<h.length->hget H i=hget h i):h<+:H:=by
 rw[List.prefix_iff_eq_take]
 refine List.ext_getElem (by simp;omega) fun i h1 h2 => ?_
 have:=hi i h1
 unfold hget at this
 rw[getElem?_eq_getElem h1,getElem?_eq_getElem (by omega)] at this
 simpa using (Option.some.inj this).symm
theorem agr_pre{h h0 H:Heap}{lo hi:Nat}(hp:h<+:h0)(g:Agr lo hi h0 H)(hl:h.length<=lo):h<+:H:=
 pre_ofD (by have:=g.1;have:=hp.length_le;omega) fun i hi=>by
  have h1:=hp.length_le
  rw[g.2 i (by omega) (by omega)];exact hget_prefix hp hi
theorem pre_set{h H:Heap}{j:Nat}{b:Blk}(hp:h<+:H)(hj:h.length<=j):h<+:H.set j b:=
 pre_ofD (by simpa using hp.length_le) fun i hi=>by rw[hget_set_ne (by omega)];exact hget_prefix hp hi
section
variable {H:Heap} {M:Nat->Prop}
set_option maxRecDepth 8000 in
theorem d_of{id n B:Nat}{a:Option Addr}(K j cnt:Nat)(b:Blk)(s:St H id n a B)(hM:M id)(hj:hget H j=some b)(hstr:b.cells.all (isS K)=true)(hd:b.st = .rw)(hcnt:cnt<=b.cells.length)(hne:j≠id)(hl:0<cnt)(hmax:cnt<=1000)(hB:B<=1000000) :
  vCall [] Tryz.prog M 101 [.pointer (some ⟨id,0,none⟩), .slice (some ⟨j,0,none⟩) cnt 0] H (fun r H'=>(∃s:ByteArray,r = .string s∧s.size<=K)∧St H' id n a (B+2)∧Agr id (id+1) H H'):=by
 have hid:=s.lt
 refine bo Tryz.func101 rfl rfl ?_
 simp only[go_sem]
 refine (d_pick _ s (Or.inr hM) hB).go ?_
 rintro _ H' ⟨⟨m,rfl,m0,m1⟩,s',g⟩
 have hi:m.toNat<cnt:=by omega
 have hz:m<(cnt:Int):=by omega
 obtain⟨x,hx,hk⟩:=isS_at hstr (lt_of_lt_of_le hi hcnt)
 have hg:=agr_get g hj (by omega)
 have hd2:b.st ≠ .dead:=by rw[hd];simp
 simp only[go_sem,hg,m0,hz,hx,hd2]
 exact⟨⟨x,rfl,hk⟩,s',g⟩
theorem d_ofL{id n B:Nat}{a:Option Addr}(K:Nat)(l:List Value)(cnt:Nat)(s:St H id n a B)(hM:M id)(hstr:l.all (isS K)=true)(hcnt:cnt<=l.length)(hl:0<cnt)(hmax:cnt<=1000)(hB:B<=1000000) :
  vCall [] Tryz.prog M 101 [.pointer (some ⟨id,0,none⟩), .slice (some ⟨H.length,0,none⟩) cnt 0] (H++ [⟨l,1, .rw⟩]) (fun r H'=>(∃s:ByteArray,r = .string s∧s.size<=K)∧St H' id n a (B+2)∧Agr id (id+1) H H'∧H.length+1<=H'.length):=by
 have h1:=s.lt
 obtain⟨r,H',hr,hm,c,g⟩:=d_of (M:=M) K H.length cnt ⟨l,1, .rw⟩ (s.app [⟨l,1, .rw⟩]) hM hget_new hstr rfl hcnt (by omega) hl hmax hB
 exact⟨r,H',hr,hm,c,Agr.app.trans g,by have:=g.1;simpa using this⟩
theorem cut_size(s:ByteArray)(i j:Nat)(h1:i<=j)(h2:j<=s.size):(s.extract i j).size=j-i:=by rw[ByteArray.size_extract];omega
set_option maxRecDepth 8000 in
theorem d_spoilt{id n B:Nat}{a:Option Addr}(t w:ByteArray)(s:St H id n a B)(hM:M id)(ht:t.size<=1000000)(hw:0<w.size∧w.size<=1000)(hB:B<=1000000-6) :
  vCall [] Tryz.prog M 53 [.pointer (some ⟨id,0,none⟩), .string t, .string w] H (fun r H'=>(∃s:ByteArray,r = .string s∧s.size<=t.size+1)∧St H' id n a (B+6)∧Agr id (id+1) H H'):=by
 refine bo Tryz.func53 rfl rfl ?_
 by_cases h0:t.size=0
 ·have e0:(t.toList==(⟨#[]⟩:ByteArray).toList)=true:=by
   rw[toList_eq]
   refine decide_eq_true (bl_ext ?_)
   rw[List.eq_nil_of_length_eq_zero (l:=bl t) (by rw[bl_len];exact h0)];rfl
  simp only[go_sem,e0,show 1<=w.size by omega]
  exact⟨⟨w.extract 0 1,rfl,by rw[cut_size _ _ _ (by omega) (by omega)];omega⟩,s.more (by omega),Agr.refl⟩
 ·have e0:(t.toList==(⟨#[]⟩:ByteArray).toList)=false:=by
   rw[toList_eq]
   exact decide_eq_false fun e=>h0 (by rw[e];rfl)
  simp only[go_sem,e0]
  refine (d_pick _ s (Or.inr hM) (by omega)).go ?_
  rintro _ H1 ⟨⟨i0,rfl,i00,i01⟩,s1,g1⟩
  obtain⟨i,rfl⟩:=Int.eq_ofNat_of_zero_le i00
  have hi:i<t.size:=by omega
  try simp only[go_sem,e0]
  refine (d_pick _ s1 (Or.inr hM) (by omega)).go ?_
  rintro _ H2 ⟨⟨j0,rfl,j00,j01⟩,s2,g2⟩
  obtain⟨j,rfl⟩:=Int.eq_ofNat_of_zero_le j00
  have hj:j<w.size:=by omega
  have zw:(w.extract j w.size).size=w.size-j:=cut_size _ _ _ (by omega) (le_refl _)
  have z0:(0:Int)<=(j:Nat):=by omega
  simp only[go_sem,e0,z0,Int.toNat_natCast,show j<=w.size by omega,zw,show 1<=w.size-j by omega]
  refine (d_pick _ s2 (Or.inr hM) (by omega)).go ?_
  rintro _ H3 ⟨⟨k,rfl,k0,k1⟩,s3,g3⟩
  obtain⟨u,hu⟩: ∃u,u=(w.extract j w.size).extract 0 1:=⟨_,rfl⟩
  have zu:u.size=1:=by rw[hu,cut_size _ _ _ (by omega) (by omega)]
  have g:=(g1.trans g2).trans g3
  have z1:=cut_size t 0 i (by omega) (by omega)
  have z2:=cut_size t i t.size (by omega) (by omega)
  have z3:=cut_size t (i+1) t.size (by omega) (by omega)
  have b0:(0:Int)<=(i:Nat):=by omega
  have b1:i<=t.size:=by omega
  have b2:(0:Int)<=((i+1:Nat):Int):=by omega
  have b3:i+1<=t.size:=by omega
  have w1:IntKind.i64.wrap ((i:Int)+1)=((i+1:Nat):Int):=by rw[wrap64 (by omega)];omega
  have a1:hBin .add (.string (t.extract 0 i)) (.string u)=some (.string (t.extract 0 i++u)):=adds (by omega)
  have a2:hBin .add (.string (t.extract 0 i++u)) (.string (t.extract i t.size))=some (.string (t.extract 0 i++u++t.extract i t.size)):=adds (by rw[ByteArray.size_append];omega)
  have a3:hBin .add (.string (t.extract 0 i++u)) (.string (t.extract (i+1) t.size))=some (.string (t.extract 0 i++u++t.extract (i+1) t.size)):=adds (by rw[ByteArray.size_append];omega)
  have a4:hBin .add (.string (t.extract 0 i)) (.string (t.extract (i+1) t.size))=some (.string (t.extract 0 i++t.extract (i+1) t.size)):=adds (by omega)
  by_cases q1:k=0
  ·simp only[go_sem,e0,show (k==0)=true by simpa using q1, ←hu,b0,b1,Int.toNat_natCast,a1,a2]
   refine⟨by omega,⟨_,rfl, ?_⟩,s3,g⟩
   simp only[ByteArray.size_append];omega
  ·have q2:(k==0)=false:=by simpa using q1
   by_cases q3:k=1
   ·simp only[go_sem,e0,q2,show (k==1)=true by simpa using q3, ←hu,b0,b1,b2,b3,w1,Int.toNat_natCast,a1,a3]
    refine⟨by omega,⟨_,rfl, ?_⟩,s3,g⟩
    simp only[ByteArray.size_append];omega
   ·simp only[go_sem,e0,q2,show (k==1)=false by simpa using q3, ←hu,b0,b1,b2,b3,w1,Int.toNat_natCast,a4]
    refine⟨by omega,⟨_,rfl, ?_⟩,s3,g⟩
    simp only[ByteArray.size_append];omega
end
open Go.HH Go.Proofs
def lnk(P:List Pip)(op:Pip->Int->Bool)(x y:Nat):Prop:=
 ∃(i:Nat) (hi:i<P.length) (nd:Int),(nd=P[i].2.1∨nd=P[i].2.2.1)∧op P[i] nd=true∧((x=nd.toNat∧y=9+i)∨(x=9+i∧y=nd.toNat))
inductive Rch (P:List Pip) (op:Pip->Int->Bool) (s:Nat):Nat->Prop
 | here:Rch P op s s
 | step {x y:Nat}:Rch P op s x->lnk P op x y->Rch P op s y
open Classical in
noncomputable instance {P:List Pip} {op:Pip->Int->Bool} {s x:Nat}:Decidable (Rch P op s x):=propDecidable _
theorem Rch.all{P:List Pip}{op:Pip->Int->Bool}{s:Nat}{E:Nat->Prop}(h0:E s)(hs: ∀x,E x->Rch P op s x)
  (hc: ∀(i:Nat) (hi:i<P.length) (nd:Int),(nd=P[i].2.1∨nd=P[i].2.2.1)->op P[i] nd=true->(E nd.toNat↔E (9+i))) (x:Nat):E x↔Rch P op s x:=by
 refine⟨hs x,fun r => ?_⟩
 induction r with
 | here=>exact h0
 | step _ l ih=>
  obtain⟨i,hi,nd,he,ho,⟨rfl,rfl⟩|⟨rfl,rfl⟩⟩:=l
  ·exact (hc i hi nd he ho).1 ih
  ·exact (hc i hi nd he ho).2 ih
def ev(e:List Bool)(x:Nat):Bool:=e.getD x false
theorem ev_set{e:List Bool}{x y:Nat}(hx:x<e.length):ev (e.set x true) y=(ev e y||decide (x=y)):=by
 unfold ev
 simp only[List.getD_eq_getElem?_getD,List.getElem?_set]
 by_cases h:x=y
 ·subst h;simp[hx]
 ·simp[h]
def lacks(e:List Bool):Nat:=e.countP fun b => !b
theorem lacks_set{e:List Bool}{x:Nat}(hx:x<e.length)(h:ev e x=false):lacks (e.set x true)+1=lacks e:=by
 unfold lacks
 have hb:e[x]=false:=by simpa[ev,List.getD,hx] using h
 have h2:0<e.countP fun b => !b:=List.countP_pos_iff.2 ⟨_,getElem_mem hx,by simp[hb]⟩
 rw[List.countP_set (by exact hx)]
 simp[hb]
 omega
theorem lacks_same{e:List Bool}{x:Nat}(hx:x<e.length)(h:ev e x=true):e.set x true=e:=by
 have hb:e[x]=true:=by simpa[ev,List.getD,hx] using h
 rw[←hb]
 exact List.set_getElem_self hx
structure Mks(P:List Pip)(op:Pip->Int->Bool)(s:Nat)(e:List Bool):Prop where
 len:e.length=19
 has:ev e s=true
 ok: ∀x,ev e x=true->Rch P op s x
def evened(P:List Pip)(op:Pip->Int->Bool)(e:List Bool)(i:Nat)(nd:Int):Prop:= ∀hi:i<P.length,op P[i] nd=true->ev e nd.toNat=ev e (9+i)
def evenTo(P:List Pip)(op:Pip->Int->Bool)(e:List Bool)(i k:Nat):Prop:=
 (∀j,j<i->∀hj:j<P.length,evened P op e j P[j].2.1∧evened P op e j P[j].2.2.1)∧(∀hi:i<P.length,(0<k->evened P op e i P[i].2.1)∧(1<k->evened P op e i P[i].2.2.1))
section
variable {P:List Pip} {op:Pip->Int->Bool} {s:Nat} {e:List Bool}
theorem Mks.init(hs:s<19):Mks P op s ((List.replicate 19 false).set s true):=by
 refine⟨by simp, ?_,fun x hx => ?_⟩
 ·rw[ev_set (by simpa using hs)];simp
 ·rw[ev_set (by simpa using hs)] at hx
  have h0:ev (List.replicate 19 false) x=false:=by
   unfold ev
   rw[List.getD_eq_getElem?_getD,List.getElem?_replicate]
   split<;>rfl
  rw[h0] at hx
  have:s=x:=by simpa using hx
  exact this ▸ .here
theorem Mks.mark(m:Mks P op s e){i:Nat}(hi:i<P.length)(hP:P.length<=10){nd:Int}(he:nd=P[i].2.1∨nd=P[i].2.2.1)(hr:0<=nd∧nd<=8)(ho:op P[i] nd=true)(hne:ev e nd.toNat≠ev e (9+i)) :
  Mks P op s ((e.set nd.toNat true).set (9+i) true)∧lacks ((e.set nd.toNat true).set (9+i) true)+1=lacks e:=by
 have hl:=m.len
 have h1:nd.toNat<e.length:=by omega
 have h2:9+i<e.length:=by omega
 have h2':9+i<(e.set nd.toNat true).length:=by simpa using h2
 have hd:nd.toNat≠9+i:=by omega
 refine⟨⟨by simpa using hl, ?_,fun x hx => ?_⟩, ?_⟩
 ·rw[ev_set h2',ev_set h1,m.has];simp
 ·rw[ev_set h2',ev_set h1] at hx
  by_cases hx0:ev e x=true
  ·exact m.ok x hx0
  ·rw[Bool.not_eq_true] at hx0
   rw[hx0] at hx
   have hx1:nd.toNat=x∨9+i=x:=by simpa using hx
   rcases hx1 with rfl|rfl
   ·have:ev e (9+i)=true:=by
     cases hh:ev e (9+i)
     ·rw[hx0,hh] at hne;exact absurd rfl hne
     ·rfl
    exact .step (m.ok _ this) ⟨i,hi,nd,he,ho, .inr ⟨rfl,rfl⟩⟩
   ·have:ev e nd.toNat=true:=by
     cases hh:ev e nd.toNat
     ·rw[hx0,hh] at hne;exact absurd rfl hne
     ·rfl
    exact .step (m.ok _ this) ⟨i,hi,nd,he,ho, .inl ⟨rfl,rfl⟩⟩
 ·cases hh:ev e nd.toNat
  ·have h3:ev e (9+i)=true:=by
    cases h3:ev e (9+i)
    ·rw[hh,h3] at hne;exact absurd rfl hne
    ·rfl
   have h4:ev (e.set nd.toNat true) (9+i)=true:=by rw[ev_set h1,h3];rfl
   rw[lacks_same h2' h4,lacks_set h1 hh]
  ·have h3:ev e (9+i)=false:=by
    cases h3:ev e (9+i)
    ·rfl
    ·rw[hh,h3] at hne;exact absurd rfl hne
   rw[lacks_same h1 hh,lacks_set h2 h3]
theorem Mks.done(m:Mks P op s e)(c:evenTo P op e P.length 0)(x:Nat):ev e x=true↔Rch P op s x:=by
 refine Rch.all (E:=fun x=>ev e x=true) m.has m.ok (fun i hi nd he ho => ?_) x
 have:=c.1 i hi hi
 rcases he with rfl|rfl
 ·rw[this.1 hi ho]
 ·rw[this.2 hi ho]
theorem evenTo.zero:evenTo P op e 0 0:=⟨fun j hj=>absurd hj (by omega),fun hi=>⟨fun h=>absurd h (by omega),fun h=>absurd h (by omega)⟩⟩
theorem evenTo.next{i:Nat}(c:evenTo P op e i 2):evenTo P op e (i+1) 0:=by
 refine⟨fun j hj hjl => ?_,fun hi=>⟨fun h=>absurd h (by omega),fun h=>absurd h (by omega)⟩⟩
 by_cases h1:j<i
 ·exact c.1 j h1 hjl
 ·obtain rfl:j=i:=by omega
  exact⟨(c.2 hjl).1 (by omega),(c.2 hjl).2 (by omega)⟩
theorem evenTo.more{i k:Nat}{nd:Int}(c:evenTo P op e i k)(hk:k<2)(hi:i<P.length)(hn:nd=if k=0 then P[i].2.1 else P[i].2.2.1)(h:evened P op e i nd):evenTo P op e i (k+1):=by
 refine⟨c.1,fun _=>⟨fun _ => ?_,fun h1 => ?_⟩⟩
 ·by_cases h0:k=0
  ·rw[if_pos h0] at hn;exact hn▸h
  ·exact (c.2 hi).1 (by omega)
 ·rw[if_neg (by omega)] at hn
  exact hn▸h
end
open Go.HH Go.Proofs
def EL(h:Heap)(v:Value)(e:List Bool):Prop:= ∃id sz,v = .pointer (some ⟨id,0,none⟩)∧hget h id=some ⟨e.map Value.bool,sz, .rw⟩
theorem ev_at{e:List Bool}{x:Nat}(hx:x<e.length):(e.map Value.bool)[x]? = some (.bool (ev e x)):=by
 rw[getElem?_map,getElem?_eq_getElem hx,ev,List.getD,getElem?_eq_getElem hx];rfl
theorem ev_put{e:List Bool}{x:Nat}(hx:x<e.length):setRange (e.map Value.bool) x [.bool true]=(e.set x true).map Value.bool:=by
 rw[←setRange_one (by simpa using hx),List.map_set]
section
variable {h:Heap} {M:Nat->Prop}
theorem c_element(i:Nat)(hi:i<=100):vCall [] Tryz.prog M 183 [.int .i64 i] h (fun r h'=>r = .int .i64 ((9+i:Nat):Int)∧h=h'):=by
 refine bo Tryz.func183 rfl rfl ?_
 simp only[go_sem]
 rw[wrap64 (by omega)]
 rfl
theorem c_reached{n:Nat}{fid:Nat}{cap:Array Value}(hf:callable Tryz.prog fid=true)(op:Pip->Int->Bool)(v:Value)(N:Nat)(P:List Pip)(s:Nat)(hv:NA n h v N P)(g:netGood N P)(hs:s<19)
  (hcb: ∀(M:Nat->Prop) (h':Heap) (p:Pip) (nd:Int),h<+:h'->p∈P->vCall [] Tryz.prog M fid (.agg (pip p).toArray :: .int .i64 nd::cap.toList) h' (fun r h''=>r = .bool (op p nd)∧h'<+:h'')) :
  vCall [] Tryz.prog M 224 [v, .int .i64 s, .func (.func fid) #[] cap] h (fun r h'=>(∃e,EL h' r e∧e.length=19∧∀x,ev e x=true↔Rch P op s x)∧h<+:h'):=by
 obtain⟨w,rfl,sP⟩:=hv
 replace sP:Sl h 4 w (P.map pip):=sP.1
 obtain⟨a,rfl⟩:=Sl.len4 sP
 have hN:N<=8:=by have:=g.2.1;omega
 have hP:P.length<=10:=g.2.2
 have he:=g.ends
 refine bo Tryz.func224 rfl rfl ?_
 simp only[go_sem]
 have w0:s<19:=hs
 refine⟨by omega,by omega, ?_⟩
 refine vLoop.rank mo 39 (fun m e h'=> ∃(E:List Bool) (ag:Bool) (t:Heap),Regs e [(2, .func (.func fid) #[] cap),(3, .pointer (some ⟨h.length,0,none⟩)),(7, .pointer (some ⟨h.length+1,0,none⟩)),(8, .bool ag)] ∧
  HeapIs h' (h++(⟨[.int .i64 N, .slice a P.length 0],2, .rw⟩::⟨E.map Value.bool,19, .rw⟩::t))∧Mks P op s E∧(ag=false->evenTo P op E P.length 0)∧2*lacks E+ag.toNat<=m) ?_ ?_
 ·refine⟨(List.replicate 19 false).set s true,true,[],⟨rfl,rfl,rfl,rfl,trivial⟩, ?_,Mks.init hs,(fun h=>by cases h), ?_⟩
  ·rw[←ev_put (by simp;omega)]
   exact .rfl
  ·have:=List.countP_le_length (p:=fun b:Bool => !b) (l:=(List.replicate 19 false).set s true)
   simp[lacks] at this ⊢
   omega
 ·rintro m e _ ⟨E,ag,t,⟨e2,e3,e7,e8,_⟩,rfl,mk,ev0,hm⟩
  simp only[go_sem,e2,e3,e7,e8]
  cases ag with
  | false=>
   simp only[go_sem,e2,e3,e7,e8]
   refine⟨E,⟨_,19,rfl, ?_⟩,mk.len,mk.done (ev0 rfl)⟩
   simp only[go_sem]
  | true=>
   simp only[go_sem,e2,e3,e7,e8]
   refine vLoop.count mo P.length (fun i e h'=> ∃(E:List Bool) (ag:Bool) (t:Heap),Regs e [(2, .func (.func fid) #[] cap),(3, .pointer (some ⟨h.length,0,none⟩)),(7, .pointer (some ⟨h.length+1,0,none⟩)),(8, .bool ag),(21, .slice a P.length 0),(22, .int .i64 P.length),(23, .int .i64 i)] ∧
    HeapIs h' (h++(⟨[.int .i64 N, .slice a P.length 0],2, .rw⟩::⟨E.map Value.bool,19, .rw⟩::t))∧Mks P op s E∧(ag=false->evenTo P op E i 0)∧2*lacks E+ag.toNat+1<=m) ?_ ?_
   ·exact⟨E,false,t,⟨e2,e3,e7,rfl,rfl,rfl,rfl,trivial⟩, .rfl,mk,fun _=>evenTo.zero,by simpa using hm⟩
   ·clear mk ev0 hm e2 e3 e7 e8
    rintro i e _ hi ⟨E,ag,t,⟨e2,e3,e7,e8,e21,e22,e23,_⟩,rfl,mk,ev0,hm⟩
    simp only[go_sem,e2,e3,e7,e8,e21,e22,e23]
    by_cases hlt:i<P.length
    ·have hlt':i<(P.map pip).length:=by simpa using hlt
     have hz:(i:Int)<P.length:=by omega
     have ws:=wsucc hlt (by omega)
     obtain⟨id,o,k,hv,hk,_,hd,hb,hrow,hat⟩:=sP.at hlt'
     obtain rfl:a=some ⟨id,o,none⟩:=by simpa using hv
     rw[getElem_map] at hrow
     simp only[pip] at hrow
     simp only[go_sem,e2,e3,e7,e8,e21,e22,e23,hz,hk,hd,hb,hrow]
     refine vLoop.count mo 2 (fun j e h'=> ∃(E:List Bool) (ag:Bool) (u:Heap),Regs e [(2, .func (.func fid) #[] cap),(3, .pointer (some ⟨h.length,0,none⟩)),(7, .pointer (some ⟨h.length+1,0,none⟩)),(8, .bool ag),(9, .int .i64 i),(10, .pointer (some ⟨h.length+(t.length+1+1),0,none⟩)),
      (21, .slice (some ⟨id,o,none⟩) P.length 0),(22, .int .i64 P.length),(23, .int .i64 i),(32, .slice (some ⟨h.length+(t.length+1+1+1),0,none⟩) 2 0),(33, .int .i64 2),(34, .int .i64 j)] ∧
      HeapIs h' (h++(⟨[.int .i64 N, .slice (some ⟨id,o,none⟩) P.length 0],2, .rw⟩::⟨E.map Value.bool,19, .rw⟩::(t++(⟨[.int .i64 P[i].1, .int .i64 P[i].2.1, .int .i64 P[i].2.2.1, .int .i64 P[i].2.2.2],4, .rw⟩::⟨[.int .i64 P[i].2.1, .int .i64 P[i].2.2.1],1, .rw⟩::u))))∧Mks P op s E∧(ag=false->evenTo P op E i j)∧2*lacks E+ag.toNat+1<=m) ?_ ?_
     ·refine⟨E,ag,[],⟨e2,e3,e7,e8,rfl,rfl,e21,e22,e23,rfl,rfl,rfl,trivial⟩, .rfl,mk,ev0,hm⟩
     ·clear mk ev0 hm e2 e3 e7 e8 e21 e22 e23
      rintro j e _ hj ⟨E,ag,u,⟨e2,e3,e7,e8,e9,e10,e21,e22,e23,e32,e33,e34,_⟩,rfl,mk,ev0,hm⟩
      simp only[go_sem,e2,e3,e7,e8,e9,e10,e21,e22,e23,e32,e33,e34]
      by_cases hjl:j<2
      ·have hz2:(j:Int)<2:=by omega
       have hpi:=(he _ (getElem_mem hlt))
       obtain⟨nd,hnd⟩: ∃nd,nd=if j=0 then P[i].2.1 else P[i].2.2.1:=⟨_,rfl⟩
       have hnd':nd=P[i].2.1∨nd=P[i].2.2.1:=by rw[hnd];split<;>simp
       have hr:1<=nd∧nd<=N:=by rcases hnd' with h|h<;>(rw[h];omega)
       have hcell: [Value.int .i64 P[i].2.1, .int .i64 P[i].2.2.1][j]? = some (.int .i64 nd):=by
        rw[hnd]
        obtain rfl|rfl:j=0∨j=1:=by omega
        ·rfl
        ·rfl
       have hl:=mk.len
       have g1:=ev_at (e:=E) (x:=nd.toNat) (by omega)
       have g2:=ev_at (e:=E) (x:=9+i) (by omega)
       have z1:0<=nd:=by omega
       have z2:nd<19:=by omega
       simp only[go_sem,e2,e3,e7,e8,e9,e10,e21,e22,e23,e32,e33,e34,hz2,hcell,z1,z2,g1]
       refine (c_element i (by omega)).go ?_
       rintro _ _⟨rfl,rfl⟩
       have z3:((9+i:Nat):Int)<19:=by omega
       have wj:=wsucc hjl (by omega)
       by_cases hx:ev E nd.toNat=ev E (9+i)
       ·simp only[go_sem,e2,e3,e7,e8,e9,e10,e21,e22,e23,e32,e33,e34,hz2,hcell,z1,z2,z3,g1,g2,show (ev E nd.toNat != ev E (9+i))=false by simp[hx]]
        refine⟨hjl,E,ag,_,⟨e2,e3,e7,e8,e9,e10,e21,e22,e23,e32,e33,congrArg _ wj,trivial⟩, .rfl,mk,fun h0=>(ev0 h0).more hjl hlt hnd (fun _ _=>hx),hm⟩
       ·simp only[go_sem,e2,e3,e7,e8,e9,e10,e21,e22,e23,e32,e33,e34,hz2,hcell,z1,z2,z3,g1,g2,show (ev E nd.toNat != ev E (9+i))=true by simp[hx]]
        refine⟨hf,(hcb _ _ P[i] nd (prefix_append _ _) (getElem_mem hlt)).use (fun _ m=>m) ?_⟩
        rintro _ _⟨rfl,⟨u2,rfl⟩⟩
        cases ho:op P[i] nd with
        | false=>
         simp only[go_sem,e2,e3,e7,e8,e9,e10,e21,e22,e23,e32,e33,e34]
         exact⟨hjl,E,ag,_,⟨e2,e3,e7,e8,e9,e10,e21,e22,e23,e32,e33,congrArg _ wj,trivial⟩, .rfl,mk,fun h0=>(ev0 h0).more hjl hlt hnd (fun _ h1=>by rw[ho] at h1;cases h1),hm⟩
        | true=>
         simp only[go_sem,e2,e3,e7,e8,e9,e10,e21,e22,e23,e32,e33,e34,z1,z2,z3]
         refine (c_element i (by omega)).go ?_
         rintro _ _⟨rfl,rfl⟩
         have s1:=ev_put (e:=E) (x:=nd.toNat) (by omega)
         have s2:=ev_put (e:=E.set nd.toNat true) (x:=9+i) (by simp;omega)
         obtain⟨mk2,hlk⟩:=mk.mark hlt hP hnd' (by omega) ho hx
         have b1:nd.toNat+1<=19:=by omega
         have b2:9+i+1<=19:=by omega
         simp only[go_sem,e2,e3,e7,e8,e9,e10,e21,e22,e23,e32,e33,e34,z1,z2,z3,s1,s2,length_map,length_set,hl]
         refine⟨by omega,by omega,hjl,_,true,_,⟨e2,e3,e7,rfl,e9,e10,e21,e22,e23,e32,e33,congrArg _ wj,trivial⟩, .rfl,mk2,(fun h0=>by cases h0), ?_⟩
         have:ag.toNat<=1:=by cases ag<;>decide
         simp only[Bool.toNat_true]
         omega
      ·obtain rfl:j=2:=by omega
       have ws:=wsucc hlt (by omega)
       simp only[go_sem,e2,e3,e7,e8,e9,e10,e21,e22,e23,e32,e33,e34]
       exact⟨hlt,E,ag,_,⟨e2,e3,e7,e8,e21,e22,congrArg _ ws,trivial⟩, .rfl,mk,fun h0=>(ev0 h0).next,hm⟩
    ·obtain rfl:i=P.length:=by omega
     simp only[go_sem,show ¬((P.length:Int)<P.length) by omega,e2,e3,e7,e8,e21,e22,e23]
     exact⟨2*lacks E+ag.toNat,by omega,E,ag,t,⟨e2,e3,e7,e8,trivial⟩, .rfl,mk,ev0,le_refl _⟩
end
open Go.HH Go.Proofs
def blk(V:List Vlv)(pid nd:Int)(sh:Bool):Bool:=V.any fun v=>(decide (v.2.1=pid)&&decide (v.2.2.1=nd))&&(!sh||v.2.2.2)
def opn(V:List Vlv)(sh:Bool)(p:Pip)(nd:Int):Bool := !blk V p.1 nd sh
def vuniq(V:List Vlv):Prop:= ∀(i m:Nat) (hi:i<V.length) (hm:m<i),¬(V[m].2.1=V[i].2.1∧V[m].2.2.1=V[i].2.2.1)
theorem valOk.uniq{N:Int}{P:List Pip}{V:List Vlv}(g:valOk N P V):vuniq V:=fun i m hi hm=>by
 have:=(g.2.2 i hi).2 m hm
 rwa [getDv hi,getDv (by omega)] at this
def atv(pid nd:Int)(v:Vlv):Bool:=decide (v.2.1=pid)&&decide (v.2.2.1=nd)
theorem blk_any{V:List Vlv}{pid nd:Int}:blk V pid nd false=V.any (atv pid nd):=by
 unfold blk atv
 congr 1
 funext v
 simp
theorem idx_open{V:List Vlv}{p:Pip}{nd:Int}:decide (idxI (atv p.1 nd) V<0)=opn V false p nd:=by
 rw[opn,blk_any,idxI]
 split
 ·rename_i h;rw[h,decide_eq_false (by omega)];rfl
 ·rename_i h;rw[Bool.not_eq_true] at h;rw[h];rfl
theorem idx_shut{V:List Vlv}(u:vuniq V){p:Pip}{nd:Int}{k:Nat}(h:idxI (atv p.1 nd) V=(k:Int))(hk:k<V.length):(!V[k].2.2.2)=opn V true p nd:=by
 obtain⟨_,hp⟩:=idxI_at h
 rw[opn]
 congr 1
 have hp':V[k].2.1=p.1∧V[k].2.2.1=nd:=by simpa[atv] using hp
 cases hs:V[k].2.2.2 with
 | true=>
  symm
  rw[blk,any_eq_true]
  exact⟨V[k],getElem_mem hk,by simp[hp',hs]⟩
 | false=>
  symm
  rw[blk,List.any_eq_false]
  intro x hx
  obtain⟨j,hj,rfl⟩:=mem_iff_getElem.1 hx
  by_cases hjk:j=k
  ·subst hjk;simp[hs]
  ·intro hh
   simp only[Bool.and_eq_true,decide_eq_true_eq] at hh
   rcases Nat.lt_or_gt_of_ne hjk with h1|h1
   ·exact u k j hk h1 ⟨by rw[hh.1.1,hp'.1],by rw[hh.1.2,hp'.2]⟩
   ·exact u j k hj h1 ⟨by rw[hh.1.1,hp'.1],by rw[hh.1.2,hp'.2]⟩
theorem idx_none{V:List Vlv}{p:Pip}{nd:Int}{sh:Bool}(h:idxI (atv p.1 nd) V<0):opn V sh p nd=true:=by
 have h0:V.any (atv p.1 nd)=false:=by
  cases hh:V.any (atv p.1 nd)
  ·rfl
  ·rw[idxI,if_pos hh] at h;omega
 rw[opn,blk,Bool.not_eq_true',List.any_eq_false]
 intro x hx
 have h1:=(List.any_eq_false.1 h0) x hx
 unfold atv at h1
 simp only[Bool.not_eq_true] at h1
 rw[h1];simp
section
variable {h:Heap} {M:Nat->Prop}
theorem c_valveAt1(x:Vlv)(p:Pip)(nd:Int)(i1 i2:Nat)(h1:hget h i1=some ⟨[.int .i64 p.1, .int .i64 p.2.1, .int .i64 p.2.2.1, .int .i64 p.2.2.2],4, .rw⟩)(h2:hget h i2=some ⟨[.int .i64 nd],1, .rw⟩) :
  vCall [] Tryz.prog M 253 [.agg #[.int .i64 x.1, .int .i64 x.2.1, .int .i64 x.2.2.1, .bool x.2.2.2], .pointer (some ⟨i1,0,none⟩), .pointer (some ⟨i2,0,none⟩)] h (fun r h'=>r = .bool (atv p.1 nd x)∧h<+:h'):=by
 have g1:=self_get h1
 have g2:=self_get h2
 unfold atv
 refine bo Tryz.func253 rfl rfl ?_
 simp only[go_sem,g1,g2]
 by_cases q1:x.2.1=p.1
 ·simp only[go_sem,g1,g2,show (x.2.1==p.1)=true by simpa using q1]
  by_cases q2:x.2.2.1=nd
  ·simp[q1,q2]
  ·simp[q1,q2]
 ·simp only[go_sem,g1,g2,show (x.2.1==p.1)=false by simpa using q1]
  simp[q1]
theorem c_valveAt(v:Value)(V:List Vlv)(p:Pip)(nd:Int)(s:Sl h 4 v (V.map vlv))(hV:V.length<=1048576):vCall [] Tryz.prog M 226 [v, .agg #[.int .i64 p.1, .int .i64 p.2.1, .int .i64 p.2.2.1, .int .i64 p.2.2.2], .int .i64 nd] h (fun r h'=>r = .int .i64 (idxI (atv p.1 nd) V)∧h<+:h'):=by
 refine bo Tryz.func226 rfl rfl ?_
 simp only[go_sem]
 refine (c_vlvIndex (by kernel_rfl) (atv p.1 nd) v V (s.mono (by simp)) hV (fun M h' x hp _=>c_valveAt1 x p nd _ _ (by rw[hget_prefix hp (by simp)];simp only[go_sem]) (by rw[hget_prefix hp (by simp)];simp only[go_sem]))).go ?_
 rintro _ _⟨rfl,⟨t,rfl⟩⟩
 simp only[go_sem]
theorem c_segOpen(v:Value)(V:List Vlv)(p:Pip)(nd:Int)(i1:Nat)(h1:hget h i1=some ⟨[v],1, .rw⟩)(s:Sl h 4 v (V.map vlv))(hV:V.length<=1048576) :
  vCall [] Tryz.prog M 229 [.agg #[.int .i64 p.1, .int .i64 p.2.1, .int .i64 p.2.2.1, .int .i64 p.2.2.2], .int .i64 nd, .pointer (some ⟨i1,0,none⟩)] h (fun r h'=>r = .bool (opn V false p nd)∧h<+:h'):=by
 have g1:=self_get h1
 refine bo Tryz.func229 rfl rfl ?_
 simp only[go_sem,g1]
 refine (c_valveAt v V p nd (s.mono (by simp)) hV).go ?_
 rintro _ _⟨rfl,⟨t,rfl⟩⟩
 simp only[go_sem]
 rw[idx_open]
theorem c_watOpen(v:Value)(V:List Vlv)(p:Pip)(nd:Int)(i1:Nat)(h1:hget h i1=some ⟨[v],1, .rw⟩)(s:Sl h 4 v (V.map vlv))(hV:V.length<=1048576)(u:vuniq V) :
  vCall [] Tryz.prog M 225 [.agg #[.int .i64 p.1, .int .i64 p.2.1, .int .i64 p.2.2.1, .int .i64 p.2.2.2], .int .i64 nd, .pointer (some ⟨i1,0,none⟩)] h (fun r h'=>r = .bool (opn V true p nd)∧h<+:h'):=by
 have g1:=self_get h1
 obtain⟨a,ev,_,_⟩:=id s
 rw[length_map] at ev
 subst ev
 refine bo Tryz.func225 rfl rfl ?_
 simp only[go_sem,g1]
 refine (c_valveAt _ V p nd (s.mono (by simp)) hV).go ?_
 rintro _ _⟨rfl,⟨t,rfl⟩⟩
 by_cases q:idxI (atv p.1 nd) V<0
 ·simp only[go_sem,g1,q,decb q]
  exact congrArg Value.bool (idx_none q).symm
 ·obtain⟨k,hk⟩: ∃k:Nat,idxI (atv p.1 nd) V=k:=⟨(idxI (atv p.1 nd) V).toNat,by omega⟩
  obtain⟨hkl,_⟩:=idxI_at hk
  have hkl':k<(V.map vlv).length:=by simpa using hkl
  obtain⟨id,o,B,hv,hB,_,hd,hb,hrow,hat⟩:=s.at hkl'
  obtain rfl:a=some ⟨id,o,none⟩:=by simpa using hv
  have hc:=hat 3 (by omega)
  rw[getElem_map] at hc
  simp only[vlv,getElem?_cons_zero,getElem?_cons_succ] at hc
  rw[hk] at q
  simp only[go_sem,g1,hk,q,show (0:Int)<=k by omega,show (k:Int)<V.length by omega,hB,hd,hc]
  exact congrArg Value.bool (idx_shut u hk hkl)
theorem c_segmentOf{n:Nat}(v w:Value)(N:Nat)(P:List Pip)(V:List Vlv)(st:Nat)(hv:NA n h v N P)(sv:Sl h 4 w (V.map vlv))(g:netGood N P)(hV:V.length<=1048576)(hs:st<19) :
  vCall [] Tryz.prog M 182 [v,w, .int .i64 st] h (fun r h'=>(∃e,EL h' r e∧e.length=19∧∀x,ev e x=true↔Rch P (opn V false) st x)∧h<+:h'):=by
 obtain⟨wp,rfl,sp⟩:=id hv
 obtain⟨a,ew,_,_⟩:=id sv
 rw[length_map] at ew
 subst ew
 refine bo Tryz.func182 rfl rfl ?_
 simp only[go_sem]
 refine (c_reached (by kernel_rfl) (opn V false) _ N P st (hv.mono (by simp)) g hs (fun M h' p nd hp _=>c_segOpen _ V p nd _ (by rw[hget_prefix hp (by simp)];simp only[go_sem]) (sv.mono ((by simp:h<+:_).trans hp)) hV)).go ?_
 rintro _ _⟨⟨e,el,hl,he⟩,⟨t,rfl⟩⟩
 simp only[go_sem]
 exact⟨e,by simpa using el,hl,he⟩
theorem c_watered{n:Nat}(v w:Value)(N:Nat)(P:List Pip)(V:List Vlv)(st:Nat)(hv:NA n h v N P)(sv:Sl h 4 w (V.map vlv))(g:netGood N P)(hV:V.length<=1048576)(u:vuniq V)(hs:st<19) :
  vCall [] Tryz.prog M 178 [v,w, .int .i64 st] h (fun r h'=>(∃e,EL h' r e∧e.length=19∧∀x,ev e x=true↔Rch P (opn V true) st x)∧h<+:h'):=by
 obtain⟨wp,rfl,sp⟩:=id hv
 obtain⟨a,ew,_,_⟩:=id sv
 rw[length_map] at ew
 subst ew
 refine bo Tryz.func178 rfl rfl ?_
 simp only[go_sem]
 refine (c_reached (by kernel_rfl) (opn V true) _ N P st (hv.mono (by simp)) g hs (fun M h' p nd hp _=>c_watOpen _ V p nd _ (by rw[hget_prefix hp (by simp)];simp only[go_sem]) (sv.mono ((by simp:h<+:_).trans hp)) hV u)).go ?_
 rintro _ _⟨⟨e,el,hl,he⟩,⟨t,rfl⟩⟩
 simp only[go_sem]
 exact⟨e,by simpa using el,hl,he⟩
def nodesOf(N:Nat)(f:Nat->Bool):List Int:=((List.range N).filter fun v=>f (v+1)).map fun v=>((v+1:Nat):Int)
theorem nodesOf_succ{N:Nat}{f:Nat->Bool}:nodesOf (N+1) f=nodesOf N f++if f (N+1) then [((N+1:Nat):Int)] else []:=by
 unfold nodesOf
 rw[List.range_succ,List.filter_append,map_append]
 cases h:f (N+1)<;>simp[h]
theorem c_nodesAndPipes{n:Nat}(v w:Value)(N:Nat)(P:List Pip)(e:List Bool)(b:Bool)(hv:NA n h v N P)(el:EL h w e)(hl:e.length=19)(g:netGood N P) :
  vCall [] Tryz.prog M 177 [v,w, .bool b] h (fun r h'=>(∃x y,r = .tuple #[x,y]∧FI h.length h'.length h' x (nodesOf N (fun k=>ev e k==b)))∧h<+:h'):=by
 obtain⟨wp,rfl,sp⟩:=id hv
 obtain⟨id,sz,rfl,gE⟩:=el
 replace sp:Sl h 4 wp (P.map pip):=sp.1
 obtain⟨a,rfl⟩:=Sl.len4 sp
 have hN:N<=8:=by have:=g.2.1;omega
 have hP:P.length<=10:=g.2.2
 have gE1:=self_get gE
 refine bo Tryz.func177 rfl rfl ?_
 simp only[go_sem]
 refine vLoop.count mo N (fun i x h'=> ∃(t:Heap) (v8:Value) (j:Nat),Regs x [(1, .pointer (some ⟨id,0,none⟩)),(2, .bool b),(3, .pointer (some ⟨h.length,0,none⟩)),(8,v8),(9, .slice (some ⟨h.length+2,0,none⟩) 0 0),(10, .int .i64 ((i+1:Nat):Int))] ∧
  HeapIs h' (h++(⟨[.int .i64 N, .slice a P.length 0],2, .rw⟩::t))∧(v8 = .slice (some ⟨h.length+(j+1),0,none⟩) (nodesOf i (fun k=>ev e k==b)).length 0∧t[j]? = some ⟨(nodesOf i (fun k=>ev e k==b)).map iv,1, .rw⟩)∧t[1]? = some ⟨[],1, .rw⟩∧j≠1∧(nodesOf i (fun k=>ev e k==b)).length<=i) ?_ ?_
 ·exact⟨_,_,0,⟨rfl,rfl,rfl,rfl,rfl,rfl,trivial⟩, .rfl,⟨rfl,rfl⟩,rfl,by omega,by simp[nodesOf]⟩
 ·rintro i x _ hi ⟨t,v8,j,⟨e1,e2,e3,e8,e9,e10,_⟩,rfl,⟨rfl,hj⟩,h1,hj1,hlen⟩
  simp only[go_sem,e1,e2,e3,e8,e9,e10]
  by_cases hlt:i<N
  ·have wi:=wsucc (i:=i+1) (N:=N+1) (by omega) (by omega)
   have z1:((i+1:Nat):Int)<19:=by omega
   have g1:=ev_at (e:=e) (x:=i+1) (by omega)
   simp only[go_sem,e1,e2,e3,e8,e9,e10,show ((i+1:Nat):Int)<=N by omega,z1,gE1,g1,Tryz.underlying4]
   by_cases c:(ev e (i+1)==b)=true
   ·have hyes:nodesOf (i+1) (fun k=>ev e k==b)=nodesOf i (fun k=>ev e k==b)++ [((i+1:Nat):Int)]:=by rw[nodesOf_succ,if_pos c]
    simp only[go_sem,e1,e2,e3,e8,e9,e10,c,app_old hj,length_map]
    have hjl:=(List.getElem?_eq_some_iff.1 hj).1
    have h1l:=(List.getElem?_eq_some_iff.1 h1).1
    refine⟨by omega,by omega,hlt,_,_,t.length+1,⟨e1,e2,e3,rfl,e9,congrArg _ wi,trivial⟩, .rfl,⟨?_, ?_⟩, ?_,by omega, ?_⟩
    ·rw[hyes,length_append];rfl
    ·exact (new_at (by simp)).trans (by simp[iv,hyes])
    ·rw[getElem?_append_left (by simp;omega),getElem?_set_ne (by omega)];exact app_old h1 _
    ·rw[hyes,length_append];simp;omega
   ·rw[Bool.not_eq_true] at c
    have hno:nodesOf (i+1) (fun k=>ev e k==b)=nodesOf i (fun k=>ev e k==b):=by rw[nodesOf_succ,c];simp
    simp only[go_sem,e1,e2,e3,e8,e9,e10,c]
    exact⟨hlt,t,_,j,⟨e1,e2,e3,e8,e9,congrArg _ wi,trivial⟩, .rfl,⟨by rw[hno],by rw[hno];exact hj⟩,h1,hj1,by rw[hno];omega⟩
  ·obtain rfl:i=N:=by omega
   obtain⟨l8,hl8⟩: ∃l,l=nodesOf i (fun k=>ev e k==b):=⟨_,rfl⟩
   rw[←hl8] at hj e8 ⊢
   simp only[go_sem,e1,e2,e3,e8,e9,e10,show ¬(((i+1:Nat):Int)<=i) by omega]
   refine vLoop.count mo P.length (fun q x h'=> ∃(t:Heap) (j9:Nat) (L:List Int),Regs x [(1, .pointer (some ⟨id,0,none⟩)),(2, .bool b),(3, .pointer (some ⟨h.length,0,none⟩)),(8, .slice (some ⟨h.length+(j+1),0,none⟩) l8.length 0),(9, .slice (some ⟨h.length+(j9+1),0,none⟩) L.length 0),
    (33, .slice a P.length 0),(34, .int .i64 P.length),(35, .int .i64 q)] ∧
    HeapIs h' (h++(⟨[.int .i64 i, .slice a P.length 0],2, .rw⟩::t))∧t[j]? = some ⟨l8.map iv,1, .rw⟩∧t[j9]? = some ⟨L.map iv,1, .rw⟩∧j≠j9∧L.length<=q) ?_ ?_
   ·exact⟨t,1,[],⟨e1,e2,e3,e8,e9,rfl,rfl,rfl,trivial⟩, .rfl,hj,h1,hj1,zero_le _⟩
   ·clear e1 e2 e3 e8 e9 e10 hj h1 hj1 hlen hi hlt hl8
    rintro q x _ hi ⟨t,j9,L,⟨e1,e2,e3,e8,e9,e33,e34,e35,_⟩,rfl,hj,hj9,hjj,hL⟩
    simp only[go_sem,e1,e2,e3,e8,e9,e33,e34,e35]
    by_cases hlt:q<P.length
    ·have hlt':q<(P.map pip).length:=by simpa using hlt
     have hz:(q:Int)<P.length:=by omega
     have ws:=wsucc hlt (by omega)
     obtain⟨id2,o,k,hv,hk,_,hd,hb,hrow,hat⟩:=sp.at hlt'
     obtain rfl:a=some ⟨id2,o,none⟩:=by simpa using hv
     rw[getElem_map] at hrow
     simp only[pip] at hrow
     have g1:=ev_at (e:=e) (x:=9+q) (by omega)
     have z3:((9+q:Nat):Int)<19:=by omega
     simp only[go_sem,e1,e2,e3,e8,e9,e33,e34,e35,hz,hk,hd,hb,hrow]
     refine (c_element q (by omega)).go ?_
     rintro _ _⟨rfl,rfl⟩
     simp only[go_sem,e1,e2,e3,e8,e9,e33,e34,e35,gE1,g1,z3,Tryz.underlying4]
     by_cases c:(ev e (9+q)==b)=true
     ·simp only[go_sem,e1,e2,e3,e8,e9,e33,e34,e35,c,app_old hj9,length_map]
      have hjl:=(List.getElem?_eq_some_iff.1 hj).1
      have h9l:=(List.getElem?_eq_some_iff.1 hj9).1
      refine⟨by omega,by omega,hlt,_,t.length+2,L++ [P[q].1],⟨e1,e2,e3,e8, ?_,e33,e34,congrArg _ ws,trivial⟩, .rfl, ?_, ?_,by omega,by simp;omega⟩
      ·rw[length_append];rfl
      ·rw[getElem?_append_left (by simp;omega),getElem?_set_ne (by omega)];exact app_old hj _
      ·exact (new_at (by simp)).trans (by simp[iv])
     ·rw[Bool.not_eq_true] at c
      simp only[go_sem,e1,e2,e3,e8,e9,e33,e34,e35,c]
      exact⟨hlt,_,j9,L,⟨e1,e2,e3,e8,e9,e33,e34,congrArg _ ws,trivial⟩, .rfl,app_old hj _,app_old hj9 _,hjj,by omega⟩
    ·obtain rfl:q=P.length:=by omega
     simp only[go_sem,e1,e2,e3,e8,e9,e33,e34,e35,show ¬((P.length:Int)<P.length) by omega]
     have hjl:=(List.getElem?_eq_some_iff.1 hj).1
     refine⟨_,_,rfl,FI.at (by omega) (by omega) ?_⟩
     rw[hget_app]
     exact hj
end
open Go.HH Go.Proofs
open Classical in
noncomputable def dryL(N:Int)(P:List Pip)(V:List Vlv)(s:Int):List Int:=if valOk N P V∧1<=s∧s<=N then nodesOf N.toNat (fun k => !decide (Rch P (opn V true) s.toNat k)) else []
open Classical in
noncomputable def segL(N:Int)(P:List Pip)(V:List Vlv)(id:Int):List Int:=if valOk N P V∧0<=pidx P id then nodesOf N.toNat (fun k=>decide (Rch P (opn V false) (9+(pidx P id).toNat) k)) else []
theorem ev_dec{e:List Bool}{P:List Pip}{op:Pip->Int->Bool}{s:Nat}(he: ∀x,ev e x=true↔Rch P op s x)(x:Nat):ev e x=decide (Rch P op s x):=by
 by_cases h:Rch P op s x
 ·rw[decide_eq_true h,(he x).2 h]
 ·rw[decide_eq_false h]
  cases hh:ev e x
  ·rfl
  ·exact absurd ((he x).1 hh) h
theorem pidx_lt{P:List Pip}{id:Int}(h:0<=pidx P id):(pidx P id).toNat<P.length:=by
 have:=(idxI_at (p:=fun p:Pip=>decide (p.1=id)) (l:=P) (k:=(pidx P id).toNat) (by unfold pidx at *;omega))
 exact this.1
theorem AI.none{n:Nat}{h:Heap}:AI n h (.slice none 0 0) []:=⟨_,rfl,fun h0=>absurd h0 (by simp)⟩
noncomputable def cutV(P:List Pip)(V:List Vlv)(st i:Nat):Bool:=decide (Rch P (opn V false) st (V.getD i vlv0).2.2.1.toNat) != decide (Rch P (opn V false) st (9+(pidx P (V.getD i vlv0).2.1).toNat))
noncomputable def arI(P:List Pip)(V:List Vlv)(st n:Nat):List Int:=((List.range n).filter (cutV P V st)).map Int.ofNat
theorem arI_succ{P:List Pip}{V:List Vlv}{st n:Nat}:arI P V st (n+1)=arI P V st n++if cutV P V st n then [Int.ofNat n] else []:=by
 unfold arI
 rw[List.range_succ,List.filter_append,map_append]
 cases h:cutV P V st n<;>simp[h]
theorem arI_len{P:List Pip}{V:List Vlv}{st n:Nat}:(arI P V st n).length<=n:=by
 unfold arI
 rw[length_map]
 exact le_trans (List.length_filter_le _ _) (by simp)
theorem arI_in{P:List Pip}{V:List Vlv}{st n:Nat}: ∀x∈arI P V st n,0<=x∧x<n:=by
 intro x hx
 unfold arI at hx
 obtain⟨i,hi,rfl⟩:=mem_map.1 hx
 have:=mem_range.1 (mem_filter.1 hi).1
 simp only[Int.ofNat_eq_natCast]
 omega
open Classical in
noncomputable def arndL(N:Int)(P:List Pip)(V:List Vlv)(id:Int):List Int:=if valOk N P V∧0<=pidx P id then (arI P V (9+(pidx P id).toNat) V.length).map fun i=>(V.getD i.toNat vlv0).1 else []
theorem valOk.at{N:Int}{P:List Pip}{V:List Vlv}(g:valOk N P V){i:Nat}(hi:i<V.length):(1<=V[i].2.2.1∧V[i].2.2.1<=N)∧0<=pidx P V[i].2.1∧(pidx P V[i].2.1).toNat<P.length:=by
 obtain⟨⟨h1,h2,h3⟩,_⟩:=g.2.2 i hi
 rw[getDv hi] at h3
 have hk:=pidx_lt h3.1
 have h4:=h3.2
 rw[getDp hk] at h4
 have:=g.1.ends _ (getElem_mem hk)
 refine⟨?_,h3.1,hk⟩
 rcases h4 with h|h<;>(rw[←h];omega)
section
variable {h:Heap} {M:Nat->Prop}
theorem c_DryNodes{n:Nat}(v w:Value)(N:Int)(P:List Pip)(V:List Vlv)(s:Int)(hv:NA n h v N P)(sv:Sl h 4 w (V.map vlv))(es:EszC h 4 w)(hP:P.length<=1048576)(hV:V.length<=1048576) :
  vCall [] Tryz.prog M 141 [v,w, .int .i64 s] h (fun r h'=>(∃x,r = .tuple #[x, .bool (decide (valOk N P V∧1<=s∧s<=N))]∧SI h' x (dryL N P V s))∧h<+:h'):=by
 obtain⟨wp,rfl,sp⟩:=id hv
 refine bo Tryz.func141 rfl rfl ?_
 simp only[go_sem]
 refine (c_IsValidValves _ _ N P V (hv.mono (by simp)) (sv.mono (by simp)) (es.mono (by simp)) hP hV).go ?_
 rintro _ _⟨rfl,⟨t,rfl⟩⟩
 by_cases h1:valOk N P V
 ·simp only[go_sem,decb h1]
  refine (c_has _ _ _).go ?_
  rintro _ _⟨rfl,⟨t2,rfl⟩⟩
  by_cases h2:1<=s∧s<=N
  ·obtain⟨N,rfl⟩: ∃N':Nat,N=N':=⟨N.toNat,by omega⟩
   have hN:N<=8:=by have:=h1.1.2.1;omega
   obtain⟨s,rfl⟩: ∃s':Nat,s=s':=⟨s.toNat,by omega⟩
   simp only[go_sem,decb h1,decb h2]
   refine (c_watered _ _ N P V s (hv.mono (by simp)) (sv.mono (by simp)) h1.1 hV h1.uniq (by omega)).go ?_
   rintro ve _ ⟨⟨e,el,hl,he⟩,⟨t3,rfl⟩⟩
   try simp only[go_sem]
   refine (c_nodesAndPipes _ ve N P e false (hv.mono (by simp)) (by simpa using el) hl h1.1).go ?_
   rintro _ _⟨⟨x,y,rfl,fx⟩,⟨t4,rfl⟩⟩
   simp only[go_sem,decb h1,decb h2]
   refine⟨_,congrArg (fun b=>Value.tuple #[_,Value.bool b]) (decide_eq_true (p:=valOk N P V∧1<=(s:Int)∧(s:Int)<=N) ⟨h1,h2⟩).symm, ?_⟩
   have e2:dryL N P V s=nodesOf N (fun k=>ev e k==false):=by
    rw[dryL,if_pos ⟨h1,h2⟩]
    congr 1
    funext k
    rw[ev_dec he k]
    show (!decide (Rch P (opn V true) s k))=_
    generalize decide (Rch P (opn V true) s k)=b
    cases b<;>rfl
   rw[e2]
   simpa only[append_assoc,cons_append] using FI.si fx (by simp)
  ·simp only[go_sem,decb h1,dect h2]
   refine⟨_,congrArg (fun b=>Value.tuple #[_,Value.bool b]) (decide_eq_false (fun hh:valOk N P V∧1<=s∧s<=N=>h2 hh.2)).symm, ?_⟩
   rw[dryL,if_neg (fun hh=>h2 hh.2)]
   exact AI.none
 ·simp only[go_sem,dect h1]
  refine⟨_,congrArg (fun b=>Value.tuple #[_,Value.bool b]) (decide_eq_false (fun hh:valOk N P V∧1<=s∧s<=N=>h1 hh.1)).symm, ?_⟩
  rw[dryL,if_neg (fun hh=>h1 hh.1)]
  exact AI.none
theorem c_SegmentOfPipe{n:Nat}(v w:Value)(N:Int)(P:List Pip)(V:List Vlv)(pi:Int)(hv:NA n h v N P)(sv:Sl h 4 w (V.map vlv))(es:EszC h 4 w)(hP:P.length<=1048576)(hV:V.length<=1048576) :
  vCall [] Tryz.prog M 143 [v,w, .int .i64 pi] h (fun r h'=>(∃x y,r = .tuple #[x,y, .bool (decide (valOk N P V∧0<=pidx P pi))]∧SI h' x (segL N P V pi))∧h<+:h'):=by
 obtain⟨wp,rfl,sp⟩:=id hv
 refine bo Tryz.func143 rfl rfl ?_
 simp only[go_sem]
 refine (c_IsValidValves _ _ N P V (hv.mono (by simp)) (sv.mono (by simp)) (es.mono (by simp)) hP hV).go ?_
 rintro _ _⟨rfl,⟨t,rfl⟩⟩
 by_cases h1:valOk N P V
 ·simp only[go_sem,decb h1]
  refine (c_pipeIndex _ N P pi (hv.mono (by simp)) hP).go ?_
  rintro _ _⟨rfl,⟨t2,rfl⟩⟩
  by_cases h2:pidx P pi<0
  ·simp only[go_sem,decb h1,decb h2]
   refine⟨_,_,congrArg (fun b=>Value.tuple #[_,_,Value.bool b]) (decide_eq_false (fun hh:valOk N P V∧0<=pidx P pi=>by omega)).symm, ?_⟩
   rw[segL,if_neg (by omega)]
   exact AI.none
  ·have hN:1<=N∧N<=8:=h1.1.2.1
   have hP10:=h1.1.2.2
   have hk:=pidx_lt (P:=P) (id:=pi) (by omega)
   obtain⟨k,hk2⟩: ∃k:Nat,pidx P pi=k:=⟨(pidx P pi).toNat,by omega⟩
   obtain⟨N,rfl⟩: ∃N':Nat,N=N':=⟨N.toNat,by omega⟩
   simp only[go_sem,decb h1,dect h2]
   refine (c_pipeIndex _ N P pi (hv.mono (by simp)) hP).go ?_
   rintro _ _⟨rfl,⟨t3,rfl⟩⟩
   rw[hk2] at hk h2 ⊢
   try simp only[go_sem]
   refine (c_element k (by omega)).go ?_
   rintro _ _⟨rfl,rfl⟩
   try simp only[go_sem]
   refine (c_segmentOf _ _ N P V (9+k) (hv.mono (by simp)) (sv.mono (by simp)) h1.1 hV (by omega)).go ?_
   rintro ve _ ⟨⟨e,el,hl,he⟩,⟨t4,rfl⟩⟩
   try simp only[go_sem]
   refine (c_nodesAndPipes _ ve N P e true (hv.mono (by simp)) (by simpa using el) hl h1.1).go ?_
   rintro _ _⟨⟨x,y,rfl,fx⟩,⟨t5,rfl⟩⟩
   simp only[go_sem,decb h1]
   refine⟨_,_,rfl, ?_⟩
   have e2:segL N P V pi=nodesOf N (fun k=>ev e k==true):=by
    rw[segL,if_pos ⟨h1,by omega⟩]
    congr 1
    funext j
    rw[ev_dec he j,hk2]
    show decide (Rch P (opn V false) (9+k) j)=_
    generalize decide (Rch P (opn V false) (9+k) j)=b
    cases b<;>rfl
   rw[e2]
   simpa only[append_assoc,cons_append] using FI.si fx (by simp)
 ·simp only[go_sem,dect h1]
  refine⟨_,_,congrArg (fun b=>Value.tuple #[_,_,Value.bool b]) (decide_eq_false (fun hh:valOk N P V∧0<=pidx P pi=>h1 hh.1)).symm, ?_⟩
  rw[segL,if_neg (fun hh=>h1 hh.1)]
  exact AI.none
theorem c_valvesAround{n:Nat}(v w:Value)(N:Nat)(P:List Pip)(V:List Vlv)(pi:Int)(hv:NA n h v N P)(sv:Sl h 4 w (V.map vlv))(g:valOk N P V)(hk0:0<=pidx P pi) :
  vCall [] Tryz.prog M 184 [v,w, .int .i64 pi] h (fun r h'=>FI h.length h'.length h' r (arI P V (9+(pidx P pi).toNat) V.length)∧h<+:h'):=by
 obtain⟨wp,rfl,sp⟩:=id hv
 have hN:1<=(N:Int)∧(N:Int)<=8:=g.1.2.1
 have hP10:=g.1.2.2
 have hV10:=g.2.1
 have hk:=pidx_lt hk0
 obtain⟨k,hk2⟩: ∃k:Nat,pidx P pi=k:=⟨(pidx P pi).toNat,by omega⟩
 rw[hk2] at hk
 obtain⟨a,ew,_,_⟩:=id sv
 rw[length_map] at ew
 subst ew
 refine bo Tryz.func184 rfl rfl ?_
 simp only[go_sem]
 refine (c_pipeIndex _ N P pi (hv.mono (by simp)) (by omega)).go ?_
 rintro _ _⟨rfl,⟨t3,rfl⟩⟩
 rw[hk2]
 try simp only[go_sem]
 refine (c_element k (by omega)).go ?_
 rintro _ _⟨rfl,rfl⟩
 try simp only[go_sem]
 refine (c_segmentOf _ _ N P V (9+k) (hv.mono (by simp)) (sv.mono (by simp)) g.1 (by omega) (by omega)).go ?_
 rintro ve _ ⟨⟨e,el,hl,he⟩,⟨t4,rfl⟩⟩
 obtain⟨ie,sz,rfl,ge⟩:=el
 try simp only[append_assoc,cons_append] at ge
 simp only[go_sem]
 obtain⟨H,hH⟩: ∃H:Heap,H=h++⟨[.int .i64 N,wp],2, .rw⟩::(t3++t4):=⟨_,rfl⟩
 have hp:h<+:H:=by rw[hH];exact prefix_append _ _
 have hHl:=hp.length_le
 have gB: ∀u,hget (H++u) h.length=some ⟨[.int .i64 N,wp],2, .rw⟩:=self_get (by rw[hH];simp only[go_sem])
 have gE: ∀u,hget (H++u) ie=some ⟨e.map Value.bool,sz, .rw⟩:=self_get (by rw[hH];exact ge)
 have eH:h++⟨[.int .i64 N,wp],2, .rw⟩::(t3++(t4++ [⟨[],1, .rw⟩]))=H++ [⟨[],1, .rw⟩]:=by rw[hH];simp
 have eL:h.length+(t3.length+t4.length+1)=H.length:=by rw[hH];simp;try omega
 have hown: ∀k,own h.length M (H.length+k):=fun k=>Or.inl (by omega)
 rw[eH]
 refine vLoop.count mo V.length (fun i x h'=> ∃(u:Heap) (v8:Value),Regs x [(3, .pointer (some ⟨h.length,0,none⟩)),(7, .pointer (some ⟨ie,0,none⟩)),(8,v8),(19, .slice a V.length 0),(20, .int .i64 V.length),(21, .int .i64 i)] ∧
  HeapIs h' (H++u)∧OF H.length 0 u v8 (arI P V (9+k) i)) ?_ ?_
 ·refine⟨_,_,⟨rfl,rfl,rfl,rfl,rfl,rfl,trivial⟩, .rfl, .mk' 0 ?_ rfl rfl⟩
  omega
 ·rintro i x _ hi ⟨u,v8,⟨e3,e7,e8,e19,e20,e21,_⟩,rfl,oi⟩
  obtain⟨j,rfl,hj⟩:=id oi
  simp only[go_sem,e3,e7,e8,e19,e20,e21,add_zero]
  by_cases hlt:i<V.length
  ·have hlt':i<(V.map vlv).length:=by simpa using hlt
   have hz:(i:Int)<V.length:=by omega
   have ws:=wsucc hlt (by omega)
   obtain⟨id2,o,K,hvv,hK,_,hd,hb,hrow,hat⟩:=(sv.mono hp).at hlt'
   obtain rfl:a=some ⟨id2,o,none⟩:=by simpa using hvv
   rw[getElem_map] at hrow
   simp only[vlv] at hrow
   obtain⟨hn1,hp0,hpk⟩:=g.at hlt
   obtain⟨q,hq⟩: ∃q:Nat,pidx P V[i].2.1=q:=⟨(pidx P V[i].2.1).toNat,by omega⟩
   have g1:=ev_at (e:=e) (x:=9+q) (by omega)
   have g2:=ev_at (e:=e) (x:=V[i].2.2.1.toNat) (by omega)
   have z1:0<=V[i].2.2.1:=by omega
   have z2:V[i].2.2.1<19:=by omega
   have z3:((9+q:Nat):Int)<19:=by omega
   simp only[go_sem,e3,e7,e8,e19,e20,e21,add_zero,hz,hK,hd,hb,hrow,gB,gE,g2,z1,z2,hown]
   refine (c_pipeIndex _ N P _ (hv.mono (hp.trans (prefix_append _ _))) (by omega)).go ?_
   rintro _ _⟨rfl,⟨t5,rfl⟩⟩
   rw[hq]
   try simp only[go_sem]
   refine (c_element q (by omega)).go ?_
   rintro _ _⟨rfl,rfl⟩
   have hcut:cutV P V (9+k) i=(ev e V[i].2.2.1.toNat != ev e (9+q)):=by
    rw[cutV,getDv hlt,hq,ev_dec he,ev_dec he];rfl
   have hlen:=arI_len (P:=P) (V:=V) (st:=9+k) (n:=i)
   simp only[go_sem,e3,e7,e8,e19,e20,e21,add_zero,gE,g1,z3]
   by_cases c:ev e V[i].2.2.1.toNat=ev e (9+q)
   ·have hno:arI P V (9+k) (i+1)=arI P V (9+k) i:=by rw[arI_succ,hcut,c];simp
    simp only[go_sem,e3,e7,e8,e19,e20,e21,add_zero,c,bne_self_eq_false]
    exact⟨hlt,_,_,⟨e3,e7,e8,e19,e20,congrArg _ ws,trivial⟩, .rfl,by rw[hno];exact oi.mono _⟩
   ·have hyes:arI P V (9+k) (i+1)=arI P V (9+k) i++ [(i:Int)]:=by rw[arI_succ,hcut,if_pos (by simpa using c)];rfl
    simp only[go_sem,e3,e7,e8,e19,e20,e21,add_zero,show (ev e V[i].2.2.1.toNat != ev e (9+q))=true by simpa using c,app_old hj,length_map,hown]
    refine⟨by omega,by omega,hlt,_,_,⟨e3,e7,rfl,e19,e20,congrArg _ ws,trivial⟩, .rfl,(.mk' (u.length+t5.length+2) ?_ (by rw[hyes];simp) ?_)⟩
    ·simp;try omega
    ·exact (new_at (by simp;try omega)).trans (by simp[iv,hyes])
  ·obtain rfl:i=V.length:=by omega
   simp only[go_sem,e3,e7,e8,e19,e20,e21,add_zero,show ¬((V.length:Int)<V.length) by omega]
   have hjl:=(List.getElem?_eq_some_iff.1 hj).1
   refine⟨FI.at (by omega) (by omega) ?_,hp.trans (prefix_append _ _)⟩
   rw[hget_app]
   exact hj
theorem c_ValvesAround{n:Nat}(v w:Value)(N:Int)(P:List Pip)(V:List Vlv)(pi:Int)(hv:NA n h v N P)(sv:Sl h 4 w (V.map vlv))(es:EszC h 4 w)(hP:P.length<=1048576)(hV:V.length<=1048576) :
  vCall [] Tryz.prog M 144 [v,w, .int .i64 pi] h (fun r h'=>(∃x,r = .tuple #[x, .bool (decide (valOk N P V∧0<=pidx P pi))]∧SI h' x (arndL N P V pi))∧h<+:h'):=by
 obtain⟨wp,rfl,sp⟩:=id hv
 obtain⟨a,ew,_,_⟩:=id sv
 rw[length_map] at ew
 subst ew
 refine bo Tryz.func144 rfl rfl ?_
 simp only[go_sem]
 refine (c_IsValidValves _ _ N P V (hv.mono (by simp)) (sv.mono (by simp)) (es.mono (by simp)) hP hV).go ?_
 rintro _ _⟨rfl,⟨t,rfl⟩⟩
 by_cases h1:valOk N P V
 ·simp only[go_sem,decb h1]
  refine (c_pipeIndex _ N P pi (hv.mono (by simp)) hP).go ?_
  rintro _ _⟨rfl,⟨t2,rfl⟩⟩
  by_cases h2:pidx P pi<0
  ·simp only[go_sem,decb h1,decb h2]
   refine⟨_,congrArg (fun b=>Value.tuple #[_,Value.bool b]) (decide_eq_false (fun hh:valOk N P V∧0<=pidx P pi=>by omega)).symm, ?_⟩
   rw[arndL,if_neg (by omega)]
   exact AI.none
  ·have hN:1<=N∧N<=8:=h1.1.2.1
   have hV10:=h1.2.1
   obtain⟨N,rfl⟩: ∃N':Nat,N=N':=⟨N.toNat,by omega⟩
   simp only[go_sem,decb h1,dect h2]
   refine (c_valvesAround _ _ N P V pi (hv.mono (by simp)) (sv.mono (by simp)) h1 (by omega)).go ?_
   rintro vl _ ⟨fi,⟨t3,rfl⟩⟩
   obtain⟨L,hL⟩: ∃L,L=arI P V (9+(pidx P pi).toNat) V.length:=⟨_,rfl⟩
   have hin:=arI_in (P:=P) (V:=V) (st:=9+(pidx P pi).toNat) (n:=V.length)
   have hll:=arI_len (P:=P) (V:=V) (st:=9+(pidx P pi).toNat) (n:=V.length)
   have eA:arndL N P V pi=L.map fun i=>(V.getD i.toNat vlv0).1:=by rw[arndL,if_pos ⟨h1,by omega⟩,hL]
   rw[←hL] at fi hin hll
   try simp only[append_assoc,cons_append] at fi
   obtain⟨b,rfl,hb0⟩:=id fi
   simp only[go_sem]
   obtain⟨H,hH⟩: ∃H:Heap,H=h++⟨[.int .i64 N,wp],2, .rw⟩::(t++t2):=⟨_,rfl⟩
   have hp:h<+:H:=by rw[hH];exact prefix_append _ _
   have hHl:=hp.length_le
   have eH:h++⟨[.int .i64 N,wp],2, .rw⟩::(t++(t2++⟨[],1, .rw⟩::t3))=H++⟨[],1, .rw⟩::t3:=by rw[hH];simp
   have eL:H.length=h.length+(t.length+t2.length+1):=by rw[hH];simp
   have hown: ∀k,own h.length M (H.length+k):=fun k=>Or.inl (by omega)
   obtain⟨jd,hjd⟩: ∃jd,0<L.length->b=some ⟨H.length+jd,0,none⟩∧((⟨[],1, .rw⟩::t3:List Blk))[jd]? = some ⟨L.map iv,1, .rw⟩∧0≠jd:=by
    by_cases h0:0<L.length
    ·obtain⟨id,e1,e2,e3,e4⟩:=hb0 h0
     simp only[length_append,length_cons,length_nil] at e2
     refine⟨id-H.length,fun _=>⟨?_, ?_, ?_⟩⟩
     ·rw[e1,show H.length+(id-H.length)=id by omega]
     ·have e5:hget (H++⟨[],1, .rw⟩::t3) (H.length+(id-H.length))=some ⟨L.map iv,1, .rw⟩:=by
       rw[show H.length+(id-H.length)=id by omega,hH]
       simpa using e4
      rwa [hget_app] at e5
     ·omega
    ·exact⟨0,fun h=>absurd h h0⟩
   rw[eH]
   refine vLoop.count mo L.length (fun i x h'=> ∃(u:Heap) (v8:Value) (j:Nat),Regs x [(1, .slice a V.length 0),(8,v8),(25, .slice b L.length 0),(26, .int .i64 L.length),(27, .int .i64 i)] ∧
    HeapIs h' (H++u)∧(v8 = .slice (some ⟨H.length+j,0,none⟩) i 0∧u[j]? = some ⟨((L.take i).map fun i=>(V.getD i.toNat vlv0).1).map iv,1, .rw⟩)∧(0<L.length->u[jd]? = some ⟨L.map iv,1, .rw⟩∧j≠jd)) ?_ ?_
   ·refine⟨_,_,0,⟨rfl,rfl,rfl,rfl,rfl,trivial⟩, .rfl,⟨?_,rfl⟩,fun h0=>(hjd h0).2⟩
    rw[eL];rfl
   ·clear hb0 fi
    rintro i x _ hi ⟨u,v8,j,⟨e1,e8,e25,e26,e27,_⟩,rfl,⟨rfl,hj⟩,hu⟩
    simp only[go_sem,e1,e8,e25,e26,e27]
    by_cases hlt:i<L.length
    ·have hz:(i:Int)<L.length:=by omega
     have ws:=wsucc hlt (by omega)
     obtain⟨hu1,hju⟩:=hu (by omega)
     obtain⟨hb1,_⟩:=hjd (by omega)
     subst hb1
     obtain⟨x1,x2⟩:=hin _ (getElem_mem hlt)
     obtain⟨q,hq⟩: ∃q:Nat,L[i]=q:=⟨L[i].toNat,by omega⟩
     rw[hq] at x1 x2
     have hqV:q<V.length:=by omega
     have hqV':q<(V.map vlv).length:=by simpa using hqV
     obtain⟨id2,o,K,hvv,hK,_,hd,hb,hrow,hat⟩:=(sv.mono hp).at hqV'
     obtain rfl:a=some ⟨id2,o,none⟩:=by simpa using hvv
     have g0:=hat 0 (by omega)
     rw[getElem_map] at g0
     simp only[vlv,getElem?_cons_zero,add_zero] at g0
     have hc:(L.map iv)[i]? = some (.int .i64 q):=by
      rw[getElem?_map,getElem?_eq_getElem hlt,hq];rfl
     have htk:(L.take (i+1)).map (fun i=>(V.getD i.toNat vlv0).1)=(L.take i).map (fun i=>(V.getD i.toNat vlv0).1)++ [V[q].1]:=by
      rw[take_succ_eq_append_getElem hlt,map_append,hq]
      simp only[map_cons,List.map_nil,Int.toNat_natCast,getDv hqV]
     have hjl:=(List.getElem?_eq_some_iff.1 hj).1
     have hul:=(List.getElem?_eq_some_iff.1 hu1).1
     have htl:((L.take i).map fun i=>(V.getD i.toNat vlv0).1).length=i:=by rw[length_map,length_take];omega
     obtain⟨X,hX⟩: ∃X,X=(L.take i).map fun i=>(V.getD i.toNat vlv0).1:=⟨_,rfl⟩
     rw[←hX] at hj htl htk
     simp only[go_sem,e1,e8,e25,e26,e27,hz,hu1,hc,hK,hd,g0,x1,x2,hown,app_old hj,length_map,htl]
     refine⟨by omega,by omega,hlt,_,_,u.length+1,⟨e1,rfl,e25,e26,congrArg _ ws,trivial⟩, .rfl,⟨?_, ?_⟩,fun _=>⟨?_,by omega⟩⟩
     ·rfl
     ·rw[htk]
      exact (new_at (by simp)).trans (by simp[iv])
     ·rw[getElem?_append_left (by simp;omega),getElem?_set_ne (by omega)];exact app_old hu1 _
    ·obtain rfl:i=L.length:=by omega
     simp only[go_sem,e1,e8,e25,e26,e27,show ¬((L.length:Int)<L.length) by omega]
     rw[take_length] at hj
     have hjl:=(List.getElem?_eq_some_iff.1 hj).1
     refine⟨⟨_,congrArg (fun b=>Value.tuple #[_,Value.bool b]) (decide_eq_true (p:=valOk N P V∧0<=pidx P pi) ⟨h1,by omega⟩).symm, ?_⟩,hp.trans (prefix_append _ _)⟩
     rw[eA]
     refine FI.si (lo:=0) (hi:=(H++u).length) (FI.at' (by rw[length_map]) (by omega) (by simp;omega) ?_) (le_refl _)
     rw[hget_app]
     exact hj
 ·simp only[go_sem,dect h1]
  refine⟨_,congrArg (fun b=>Value.tuple #[_,Value.bool b]) (decide_eq_false (fun hh:valOk N P V∧0<=pidx P pi=>h1 hh.1)).symm, ?_⟩
  rw[arndL,if_neg (fun hh=>h1 hh.1)]
  exact AI.none
end
open Go.HH Go.Proofs
structure CB(c:Con):Prop where
 n:NB c.N c.P
 v:VB c.V
 p1:c.P.length<=40
 v1:c.V.length<=40
structure CL(lo hi:Nat)(h:Heap)(c:Con)(wP wV:Value):Prop where
 p:SL lo hi h wP (c.P.map pip)
 v:SL lo hi h wV (c.V.map vlv)
theorem CL.agr{lo hi x y:Nat}{h h':Heap}{c:Con}{wP wV:Value}(s:CL lo hi h c wP wV)(g:Agr x y h h')(hn:hi<=x∨y<=lo):CL lo hi h' c wP wV:=⟨s.p.agr g hn,s.v.agr g hn⟩
theorem CL.mono{lo hi:Nat}{h h':Heap}{c:Con}{wP wV:Value}(s:CL lo hi h c wP wV)(hp:h<+:h'):CL lo hi h' c wP wV:=⟨s.p.mono hp,s.v.mono hp⟩
theorem CL.s{lo hi:Nat}{h:Heap}{c:Con}{wP wV:Value}(s:CL lo hi h c wP wV):ConS hi h c wP wV:=⟨s.p.sb,s.v.sb⟩
theorem padd{a b:ByteArray}(i j:Nat)(ha:a.size<=i)(hb:b.size<=j)(hk:i+j<=1000000): ∃v:ByteArray,hBin .add (.string a) (.string b)=some (.string v)∧v.size<=i+j:=
 ⟨_,adds (by omega),by rw[ByteArray.size_append];omega⟩
abbrev cmdsV:List Value:= [.string ⟨#[100,114,121]⟩, .string ⟨#[98,114,105,100,103,101,115]⟩, .string ⟨#[100,114,121]⟩, .string ⟨#[]⟩, .string ⟨#[119,104,97,116]⟩, .string ⟨#[112,105,112,101,32,49,32,50]⟩, .string ⟨#[118,97,108,118,101,32,49]⟩, .string ⟨#[115,104,117,116,32,120]⟩, .string ⟨#[98,117,114,115,116]⟩, .string ⟨#[119,97,121,32,49]⟩, .string ⟨#[100,114,121,32,49]⟩, .string ⟨#[97,64,98]⟩, .string ⟨#[115,111,117,114,99,101]⟩]
section
variable {h:Heap} {M:Nat->Prop}
theorem q_num(n:Int)(hn : -2000<=n∧n<=2000):vCall [] Tryz.prog M 82 [.int .i64 n] h (fun r h'=>(∃s:ByteArray,r = .string s∧s.size<=7)∧h=h'):=by
 obtain⟨r,h',a,rfl,rfl⟩:=c_l1NumZ (h:=h) (M:=M) n (by omega)
 exact⟨_,_,a,⟨_,rfl,zI_size (by omega)⟩,rfl⟩
set_option maxRecDepth 8000 in
set_option maxHeartbeats 4000000 in
theorem e_command{id n B lo up:Nat}{a:Option Addr}(c:Con)(wP wV:Value)(f:CL lo up h c wP wV)(hlo:id<lo)(hhi:up<=h.length)(hc:CB c)(s:St h id n a B)(hM:M id)(hB:B<=90000) :
  vCall [] Tryz.prog M 52 [.pointer (some ⟨id,0,none⟩),conV c wP wV] h (fun r H'=>(∃s:ByteArray,r = .string s∧s.size<=100)∧St H' id n a (B+100)∧Agr id (id+1) h H'):=by
 have hid:=s.lt
 have hown:own h.length M id:=Or.inr hM
 have o1:=f.p.one
 have o2:=f.v.one
 have hp1:=hc.p1
 have hv1:=hc.v1
 refine boR ([(1,[3,8,13,2007,2012,5000]),(4,[1,12,17,2011,5000]),(7,[1,5]),(10,[1,16,17,2007,2013,2015,3016,5000])]) Tryz.func52 rfl rfl ?_
 simp only[go_sem,conV,o1,o2]
 refine onEarly_on [h.length] [] (by simp) ?_
 simp only[go_sem,conV,o1,o2]
 have b0:hget (h++ [⟨[.int .i64 c.N,wP,wV, .int .i64 c.src, .string c.D, .string c.Q, .int .i64 c.cnt],7, .rw⟩]) h.length=some ⟨[.int .i64 c.N,wP,wV, .int .i64 c.src, .string c.D, .string c.Q, .int .i64 c.cnt],7, .rw⟩:=hget_new
 refine (e_pipeOf c.N _ c.P (f.p.mono (prefix_append _ _)) hlo hc.n.2 (by omega) (s.app _) hown (by omega)).go ?_
 rintro _ H1 ⟨⟨x,rfl,hx⟩,s1,g1⟩
 have b1:=agr_get g1 b0 (by omega)
 have l1:=by simpa using g1.1
 have G1:=(Agr.app (t:= [_])).trans g1
 try simp only[go_sem,b1,l1,o1,o2]
 refine (q_num _ (by omega)).go ?_
 rintro _ _⟨⟨t5,rfl,ht5⟩,rfl⟩
 try simp only[go_sem,b1,l1,o1,o2]
 refine (e_nodeOf c.N _ hc.n.1 o1 s1 hown (by omega)).go ?_
 rintro _ H2 ⟨⟨y,rfl,hy⟩,s2,g2⟩
 have b2:=agr_get g2 b1 (by omega)
 have l2:=by simpa using g2.1
 have G2:=G1.trans g2
 try simp only[go_sem,b2,l2,o1,o2]
 refine (q_num _ (by omega)).go ?_
 rintro _ _⟨⟨t6,rfl,ht6⟩,rfl⟩
 try simp only[go_sem,b2,l2,o1,o2]
 refine (e_valveOf _ c.V (f.v.agr G2 (.inr hlo)) hlo hc.v (by omega) s2 hown (by omega)).go ?_
 rintro _ H3 ⟨⟨z,rfl,hz⟩,s3,g3⟩
 have b3:=agr_get g3 b2 (by omega)
 have l3:=by simpa using g3.1
 have G3:=G2.trans g3
 try simp only[go_sem,b3,l3,o1,o2]
 refine (q_num _ (by omega)).go ?_
 rintro _ _⟨⟨t7,rfl,ht7⟩,rfl⟩
 try simp only[go_sem,b3,l3,o1,o2]
 refine (d_pick _ s3 hown (by omega)).go ?_
 rintro _ H4 ⟨⟨m,rfl,m0,m1⟩,s4,g4⟩
 have b4:=agr_get g4 b3 (by omega)
 have G4:=G3.trans g4
 have D: ∀(H:Heap) (B':Nat),St H id n a B'->B'<=B+40->Agr id (id+1) h H->vCall [] Tryz.prog (own h.length M) 101 [.pointer (some ⟨id,0,none⟩), .slice (some ⟨H.length,0,none⟩) 13 0] (H++ [⟨cmdsV,1, .rw⟩])
   (fun r H'=>(∃s:ByteArray,r = .string s∧s.size<=100)∧St H' id n a (B+100)∧Agr id (id+1) h H'):=fun H B' s hb g=>by
  obtain⟨r,H',hr,⟨x,rfl,hx⟩,s',g',_⟩:=d_ofL (M:=own h.length M) 20 cmdsV 13 s hown rfl (by decide) (by omega) (by omega) (by omega)
  exact⟨_,H',hr,⟨x,rfl,by omega⟩,s'.more (by omega),g.trans g'⟩
 have hm:m=0∨(m=1∨m=2)∨m=3∨m=4∨m=5∨m=6∨m=7∨m=8∨m=9∨m=10∨m=11∨m=12:=by omega
 rcases hm with rfl|hm|rfl|rfl|rfl|rfl|rfl|rfl|rfl|rfl|rfl|rfl
 ·simp only[go_sem,Int.reduceBEq,b4,o1,o2]
  refine onEarly_on [h.length] [] (by simp) ?_
  simp only[go_sem,b4,o1,o2]
  refine (d_pick _ s4 hown (by omega)).go ?_
  rintro _ H5 ⟨⟨q,rfl,q0,q1⟩,s5,g5⟩
  have b5:=agr_get g5 b4 (by omega)
  have l5:=by simpa using g5.1
  have G5:=G4.trans g5
  have w5:IntKind.i64.wrap (1+q)=1+q:=wrap64 (by omega)
  try simp only[go_sem,b5,l5,w5,o1,o2]
  refine (q_num _ (by omega)).go ?_
  rintro _ _⟨⟨u1,rfl,hu1⟩,rfl⟩
  obtain⟨v1,e1,z1⟩:=padd (a:=⟨#[112,105,112,101,32]⟩) (b:=u1) 5 7 (le_refl 5) hu1 (by omega)
  obtain⟨v2,e2,z2⟩:=padd (a:=v1) (b:=⟨#[32]⟩) 12 1 z1 (le_refl 1) (by omega)
  obtain⟨v3,e3,z3⟩:=padd (a:=v2) (b:=t6) 13 7 z2 ht6 (by omega)
  obtain⟨v4,e4,z4⟩:=padd (a:=v3) (b:=⟨#[32]⟩) 20 1 z3 (le_refl 1) (by omega)
  try simp only[go_sem,b5,l5,o1,o2,e1,e2,e3,e4]
  refine (e_nodeOf c.N _ hc.n.1 o1 s5 hown (by omega)).go ?_
  rintro _ H6 ⟨⟨r,rfl,hr⟩,s6,g6⟩
  have b6:=agr_get g6 b5 (by omega)
  have l6:=by simpa using g6.1
  have G6:=G5.trans g6
  try simp only[go_sem,b6,l6,o1,o2]
  refine (q_num _ (by omega)).go ?_
  rintro _ _⟨⟨u2,rfl,hu2⟩,rfl⟩
  obtain⟨v5,e5,z5⟩:=padd (a:=v4) (b:=u2) 21 7 z4 hu2 (by omega)
  obtain⟨v6,e6,z6⟩:=padd (a:=v5) (b:=⟨#[32]⟩) 28 1 z5 (le_refl 1) (by omega)
  try simp only[go_sem,b6,l6,o1,o2,e5,e6]
  refine (d_pick _ s6 hown (by omega)).go ?_
  rintro _ H7 ⟨⟨v,rfl,v0,v1⟩,s7,g7⟩
  have b7:=agr_get g7 b6 (by omega)
  have l7:=by simpa using g7.1
  have G7:=G6.trans g7
  have w7:IntKind.i64.wrap (1+v)=1+v:=wrap64 (by omega)
  try simp only[go_sem,b7,l7,w7,o1,o2]
  refine (q_num _ (by omega)).go ?_
  rintro _ _⟨⟨u3,rfl,hu3⟩,rfl⟩
  obtain⟨v7,e7,z7⟩:=padd (a:=v6) (b:=u3) 29 7 z6 hu3 (by omega)
  try simp only[go_sem,b7,l7,o1,o2,e7]
  exact⟨⟨_,rfl,by omega⟩,s7.more (by omega),G7⟩
 ·rcases hm with rfl|rfl
  all_goals
   simp only[go_sem,Int.reduceBEq,b4,o1,o2]
   refine (e_pipeOf c.N _ c.P (f.p.agr G4 (.inr hlo)) hlo hc.n.2 (by omega) s4 hown (by omega)).go ?_
   rintro _ H8 ⟨⟨q,rfl,hq⟩,s8,g8⟩
   have b8:=agr_get g8 b4 (by omega)
   have l8:=by simpa using g8.1
   have G8:=G4.trans g8
   try simp only[go_sem,b8,l8,o1,o2]
   refine (c_l2Find _ c.N c.P q ⟨_,rfl,(f.p.agr G8 (.inr hlo)).sb⟩ (by omega)).go ?_
   rintro _ _⟨rfl,⟨u,rfl⟩⟩
   have c0:hget (H8++u) h.length=_:=self_get b8 u
   have S0:=s8.app u
   have G0:=G8.trans (Agr.app (t:=u))
   have f0:=f.p.agr G0 (.inr hlo)
   have L0:h.length+1<=(H8++u).length:=by have:=hget_lt c0;omega
   obtain⟨H0,hH0⟩: ∃X,X=H8++u:=⟨_,rfl⟩
   have x0:H8<+:H0:=by rw[hH0];exact prefix_append _ _
   rw[←hH0] at c0 S0 G0 f0 L0 ⊢
   by_cases hj:0<=pidx c.P q
   ·have hjl:=pidx_lt hj
    have hjz:pidx c.P q<(c.P.length:Int):=by omega
    obtain⟨id2,off,kk,hv',_,hk,hdd,hbb,hrow,hat⟩:=f0.s.at (i:=(pidx c.P q).toNat) (by rw[length_map];exact hjl)
    rw[length_map] at hv'
    subst hv'
    rw[getElem_map] at hrow
    have hpb:=hc.n.2 _ (getElem_mem hjl)
    obtain⟨P0,hP0⟩: ∃z,z=c.P[(pidx c.P q).toNat]:=⟨_,rfl⟩
    rw[←hP0] at hrow hpb
    simp only[go_sem,Int.reduceBEq,x0,c0,hj,hjz,hk,hdd,hrow,pip,own_ge (show h.length<=H0.length by omega)]
    refine⟨by omega, ?_⟩
    refine onEarly_on [H0.length] [⟨[.int .i64 P0.2.1, .int .i64 P0.2.2.1],1, .rw⟩] (by simp) ?_
    have y0:hget (H0++ [(⟨[.int .i64 P0.1, .int .i64 P0.2.1, .int .i64 P0.2.2.1, .int .i64 P0.2.2.2],4, .rw⟩:Blk),(⟨[.int .i64 P0.2.1, .int .i64 P0.2.2.1],1, .rw⟩:Blk)]) H0.length=some ⟨[.int .i64 P0.1, .int .i64 P0.2.1, .int .i64 P0.2.2.1, .int .i64 P0.2.2.2],4, .rw⟩:=hget_lit0
    have z0:hget (H0++ [(⟨[.int .i64 P0.1, .int .i64 P0.2.1, .int .i64 P0.2.2.1, .int .i64 P0.2.2.2],4, .rw⟩:Blk),(⟨[.int .i64 P0.2.1, .int .i64 P0.2.2.1],1, .rw⟩:Blk)]) (H0.length+1)=some ⟨[.int .i64 P0.2.1, .int .i64 P0.2.2.1],1, .rw⟩:=hget_lit1
    have nid:H0.length≠id:=by have:=S0.lt;omega
    have nid1:H0.length+1≠id:=by have:=S0.lt;omega
    simp only[go_sem,y0,z0]
    refine (d_pick _ (S0.app _) hown (by omega)).go ?_
    rintro _ H9 ⟨⟨n1,rfl,n2,n3⟩,s9,g9⟩
    have b9:=agr_get g9 y0 (by omega)
    have z9':=agr_get g9 z0 (by omega)
    have l9:=by simpa using g9.1
    have G9:=(G0.trans (Agr.app (t:= [_,_]))).trans g9
    have w1:IntKind.i64.wrap (1+n1)=1+n1:=wrap64 (by omega)
    try simp only[go_sem,b9,l9,w1,z9']
    refine (q_num _ (by omega)).go ?_
    rintro _ _⟨⟨u1,rfl,hu1⟩,rfl⟩
    obtain⟨v8,e8,z8⟩:=padd (a:=⟨#[118,97,108,118,101,32]⟩) (b:=u1) 6 7 (le_refl 6) hu1 (by omega)
    obtain⟨v9,e9,z9⟩:=padd (a:=v8) (b:=⟨#[32]⟩) 13 1 z8 (le_refl 1) (by omega)
    try simp only[go_sem,b9,l9,z9',e8,e9]
    refine (q_num _ (by omega)).go ?_
    rintro _ _⟨⟨u2,rfl,hu2⟩,rfl⟩
    obtain⟨v10,e10,z10⟩:=padd (a:=v9) (b:=u2) 14 7 z9 hu2 (by omega)
    obtain⟨v11,e11,z11⟩:=padd (a:=v10) (b:=⟨#[32]⟩) 21 1 z10 (le_refl 1) (by omega)
    try simp only[go_sem,b9,l9,z9',e10,e11]
    refine (e_among _ 2 _ s9 hown z9' rfl rfl (by simp) nid1 (by omega) (by omega) (by omega)).go ?_
    rintro _ H10 ⟨⟨n4,rfl,n5⟩,s10,g10⟩
    have b10:=agr_get g10 b9 (by omega)
    have z10':=agr_get g10 z9' (by omega)
    have l10:=by simpa using g10.1
    have G10:=G9.trans g10
    have n6 : -1000<=n4∧n4<=1000:=by simp at n5;omega
    try simp only[go_sem,b10,l10,z10']
    refine (q_num _ (by omega)).go ?_
    rintro _ _⟨⟨u3,rfl,hu3⟩,rfl⟩
    obtain⟨v12,e12,z12⟩:=padd (a:=v11) (b:=u3) 22 7 z11 hu3 (by omega)
    try simp only[go_sem,b10,l10,z10',e12]
    exact⟨⟨_,rfl,by omega⟩,s10.more (by omega),G10⟩
   ·simp only[go_sem,Int.reduceBEq,x0,c0,hj]
    refine (D _ _ S0 (by omega) G0).go ?_
    rintro _ H11 ⟨⟨sx,rfl,hsx⟩,sy,gy⟩
    try simp only[go_sem]
    exact⟨⟨sx,rfl,hsx⟩,sy,gy⟩
 ·obtain⟨v1,e1,z1⟩:=padd (a:=⟨#[115,104,117,116,32]⟩) (b:=t7) 5 7 (le_refl _) ht7 (by omega)
  simp only[go_sem,Int.reduceBEq,e1]
  exact⟨⟨_,rfl,by omega⟩,s4.more (by omega),G4⟩
 ·obtain⟨v1,e1,z1⟩:=padd (a:=⟨#[115,104,117,116,32]⟩) (b:=t7) 5 7 (le_refl _) ht7 (by omega)
  simp only[go_sem,Int.reduceBEq,e1]
  exact⟨⟨_,rfl,by omega⟩,s4.more (by omega),G4⟩
 ·obtain⟨v1,e1,z1⟩:=padd (a:=⟨#[111,112,101,110,32]⟩) (b:=t7) 5 7 (le_refl _) ht7 (by omega)
  simp only[go_sem,Int.reduceBEq,e1]
  exact⟨⟨_,rfl,by omega⟩,s4.more (by omega),G4⟩
 ·obtain⟨v1,e1,z1⟩:=padd (a:=⟨#[98,117,114,115,116,32]⟩) (b:=t5) 6 7 (le_refl _) ht5 (by omega)
  simp only[go_sem,Int.reduceBEq,e1]
  exact⟨⟨_,rfl,by omega⟩,s4.more (by omega),G4⟩
 ·obtain⟨v1,e1,z1⟩:=padd (a:=⟨#[115,101,103,109,101,110,116,32]⟩) (b:=t5) 8 7 (le_refl _) ht5 (by omega)
  simp only[go_sem,Int.reduceBEq,e1]
  exact⟨⟨_,rfl,by omega⟩,s4.more (by omega),G4⟩
 ·obtain⟨v1,e1,z1⟩:=padd (a:=⟨#[97,114,111,117,110,100,32]⟩) (b:=t5) 7 7 (le_refl _) ht5 (by omega)
  simp only[go_sem,Int.reduceBEq,e1]
  exact⟨⟨_,rfl,by omega⟩,s4.more (by omega),G4⟩
 ·have _h:=0
  obtain⟨v13,e13,z13⟩:=padd (a:=⟨#[119,97,121,32]⟩) (b:=t6) 4 7 (le_refl 4) ht6 (by omega)
  obtain⟨v14,e14,z14⟩:=padd (a:=v13) (b:=⟨#[32]⟩) 11 1 z13 (le_refl 1) (by omega)
  simp only[go_sem,Int.reduceBEq,b4,o1,o2,e13,e14]
  refine (e_nodeOf c.N _ hc.n.1 o1 s4 hown (by omega)).go ?_
  rintro _ H12 ⟨⟨r,rfl,hr⟩,s12,g12⟩
  have b12:=agr_get g12 b4 (by omega)
  have l12:=by simpa using g12.1
  have G12:=G4.trans g12
  try simp only[go_sem,b12,l12,o1,o2]
  refine (q_num _ (by omega)).go ?_
  rintro _ _⟨⟨u2,rfl,hu2⟩,rfl⟩
  obtain⟨v15,e15,z15⟩:=padd (a:=v14) (b:=u2) 12 7 z14 hu2 (by omega)
  try simp only[go_sem,b12,l12,o1,o2,e15]
  exact⟨⟨_,rfl,by omega⟩,s12.more (by omega),G12⟩
 ·obtain⟨v1,e1,z1⟩:=padd (a:=⟨#[115,111,117,114,99,101,32]⟩) (b:=t6) 7 7 (le_refl _) ht6 (by omega)
  simp only[go_sem,Int.reduceBEq,e1]
  exact⟨⟨_,rfl,by omega⟩,s4.more (by omega),G4⟩
 ·simp only[go_sem,Int.reduceBEq]
  refine (D _ _ s4 (by omega) G4).go ?_
  rintro _ H13 ⟨⟨sx,rfl,hsx⟩,sy,gy⟩
  try simp only[go_sem]
  exact⟨⟨sx,rfl,hsx⟩,sy,gy⟩
 ·simp only[go_sem,Int.reduceBEq]
  refine (D _ _ s4 (by omega) G4).go ?_
  rintro _ H14 ⟨⟨sx,rfl,hsx⟩,sy,gy⟩
  try simp only[go_sem]
  exact⟨⟨sx,rfl,hsx⟩,sy,gy⟩
end
open Go.HH Go.Proofs
theorem strOf_three:strOfV [Value.int .u8 0,Value.int .u8 0,Value.int .u8 0]=some (mkB [0,0,0]):=rfl
def recZ:Blk:=⟨[.string ⟨#[]⟩, .string ⟨#[]⟩],2, .rw⟩
def logZ:Blk:=⟨[.string ⟨#[]⟩, .string ⟨#[]⟩, .int .i64 0],3, .rw⟩
section
variable {H:Heap} {M:Nat->Prop}
set_option maxRecDepth 20000 in
theorem d_logRecord{id n B:Nat}{a:Option Addr}(s:St H id n a B)(hM:M id)(hB:B<=100000) :
  vCall [] Tryz.prog M 85 [.pointer (some ⟨id,0,none⟩)] H (fun r H'=>(∃c r2:ByteArray,r = .agg #[.string c, .string r2]∧c.size<=20∧r2.size<=20)∧St H' id n a (B+8)∧Agr id (id+1) H H'):=by
 have hid:=s.lt
 have hown:own H.length M id:=Or.inr hM
 refine bo Tryz.func85 rfl rfl ?_
 try simp only[go_sem]
 refine (d_of 20 _ _ _ (s.app _) hown hget_lit1 (by decide) rfl (by decide) (by omega) (by omega) (by omega) (by omega)).go ?_
 rintro _ H1 ⟨⟨c,rfl,hc⟩,s1,g1⟩
 have z1:=agr_get g1 hget_lit0 (by omega)
 have L1:=g1.1
 simp only[length_append,length_cons,length_nil] at L1
 try simp only[go_sem]
 refine (d_ofL 20 _ _ s1 hown (by decide) (by decide) (by omega) (by omega) (by omega)).go ?_
 rintro _ H2 ⟨⟨r2,rfl,hr⟩,s2,g2,L2⟩
 have bs0:Gst H (H2++ [⟨[.string c, .string r2],2, .rw⟩]) id n a (B+4) H.length H2.length recZ [.string c, .string r2] 2:=
  ⟨s2.app _,(Agr.app.trans g1).trans (g2.trans Agr.app),self_get (agr_get g2 z1 (by omega)) _,hget_new,by omega⟩
 try simp only[go_sem,own_ge (show H.length<=H2.length by omega),set_get bs0.b]
 refine (d_pick _ bs0.st hown (by omega)).go ?_
 rintro _ H3 ⟨⟨m,rfl,m0,m1⟩,s3,g3⟩
 have bs:=bs0.step s3 g3
 have o1:own H.length M H2.length=True:=own_ge (by omega)
 have o2:own H.length M H.length=True:=own_ge (le_refl _)
 have fin: ∀(Hx:Heap) (c' r':ByteArray) (Bx:Nat),Gst H Hx id n a Bx H.length H2.length recZ [.string c', .string r'] 2->Bx<=B+8->c'.size<=20->r'.size<=20 →
   (∃c r2:ByteArray,Value.agg #[.string c', .string r'] = .agg #[.string c, .string r2]∧c.size<=20∧r2.size<=20)∧St (Hx.set H.length ⟨[.string c', .string r'],2, .rw⟩) id n a (B+8)∧Agr id (id+1) H (Hx.set H.length ⟨[.string c', .string r'],2, .rw⟩):=fun Hx c' r' Bx q hq h1 h2=>by
  obtain⟨d1,d2⟩:=q.done rfl ⟨[.string c', .string r'],2, .rw⟩
  exact⟨⟨c',r',rfl,h1,h2⟩,d1.more hq,d2⟩
 by_cases q1:m=0
 ·have L3:=hget_lt bs.r
  try simp only[go_sem,show (m==0)=true by simpa using q1,strOf_three,own_ge (show H.length<=H3.length+1 by omega)]
  have bs1:=bs.grow [⟨[.int .u8 0, .int .u8 0, .int .u8 0],1, .rw⟩]
  refine (d_of 20 _ _ _ (bs.grow _).st hown hget_lit1 (by decide) rfl (by decide) (by omega) (by omega) (by omega) (by omega)).go ?_
  rintro _ H4 ⟨⟨x,rfl,hx⟩,s4,g4⟩
  have bs2:=(bs.grow _).step s4 g4
  have bs3:=bs2.put [.string x, .string r2]
  simp only[go_sem,show (m==0)=true by simpa using q1,o1,o2,bs2.b,bs3.b,bs3.r,set_get bs3.r,set_get bs2.b,recZ]
  exact fin _ _ _ _ bs3 (by omega) hx hr
 ·have q2:(m==0)=false:=by simpa using q1
  by_cases q3:m=1
  ·try simp only[go_sem,q2,show (m==1)=true by simpa using q3]
   refine (d_ofL 20 _ _ bs.st hown (by decide) (by decide) (by omega) (by omega) (by omega)).go ?_
   rintro _ H4 ⟨⟨x,rfl,hx⟩,s4,g4,L4⟩
   have bs2:=bs.step s4 g4
   have bs3:=bs2.put [.string c, .string x]
   simp only[go_sem,q2,show (m==1)=true by simpa using q3,o1,o2,bs2.b,bs3.b,bs3.r,set_get bs3.r,set_get bs2.b,recZ]
   exact fin _ _ _ _ bs3 (by omega) hc hx
  ·simp only[go_sem,q2,show (m==1)=false by simpa using q3,o1,o2,bs.b,bs.r,set_get bs.r,recZ]
   exact fin _ _ _ _ bs (by omega) hc hr
theorem appV_bound(D P:ByteArray)(n:Int)(c r:ByteArray): ∃a b m g,appV D P n c r = .tuple #[.agg #[.string a, .string b, .int .i64 m], .int .i64 g]∧a.size+b.size<=D.size+P.size+372:=by
 unfold appV
 split
 ·rename_i h
  split
  ·exact⟨_,_,_,_,rfl,by omega⟩
  ·have g:=h.2
   rw[recOk_L] at g
   have gc:=logOk_count h.1
   have:=lineL_len (k:=n.toNat) g (by omega)
   exact⟨_,_,_,_,rfl,by rw[ByteArray.size_append,mkB_size,length_append,length_singleton];omega⟩
 ·exact⟨_,_,_,_,rfl,by omega⟩
theorem syncV_bound(D P:ByteArray)(n:Int): ∃a b m g,syncV D P n = .tuple #[.agg #[.string a, .string b, .int .i64 m], .bool g]∧a.size+b.size<=D.size+P.size:=by
 have z:(⟨#[]⟩:ByteArray).size=0:=rfl
 unfold syncV
 split
 ·exact⟨_,_,_,_,rfl,by rw[ByteArray.size_append,z];omega⟩
 ·exact⟨_,_,_,_,rfl,by rw[z];omega⟩
set_option maxRecDepth 20000 in
theorem d_log{id n B:Nat}{a:Option Addr}(s:St H id n a B)(hM:M id)(hB:B<=95000) :
  vCall [] Tryz.prog M 134 [.pointer (some ⟨id,0,none⟩)] H (fun r H'=>(∃(D P:ByteArray) (k:Int),r = .agg #[.string D, .string P, .int .i64 k]∧D.size+P.size<=3000)∧St H' id n a (B+100)∧Agr id (id+1) H H'):=by
 have hid:=s.lt
 have hown:own H.length M id:=Or.inr hM
 refine boR ([(5,[0,2,1007])]) Tryz.func134 rfl rfl ?_
 try simp only[go_sem]
 have z0:(⟨#[]⟩:ByteArray).size=0:=rfl
 have bs0:Gst H (H++ [logZ,logZ]) id n a B H.length (H.length+1) logZ [.string ⟨#[]⟩, .string ⟨#[]⟩, .int .i64 0] 3:=
  ⟨s.app _,Agr.app,hget_lit0,hget_lit1,by omega⟩
 have o1:own H.length M (H.length+1)=True:=own_ge (by omega)
 have o2:own H.length M H.length=True:=own_ge (le_refl _)
 refine (d_pick _ bs0.st hown (by omega)).go ?_
 rintro _ H1 ⟨⟨m,rfl,m0,m1⟩,s1,g1⟩
 have bs1:=bs0.step s1 g1
 try simp only[go_sem]
 refine vLoopR.count mo m.toNat (fun i e H'=> ∃(D P:ByteArray) (k:Int),e 0 = .pointer (some ⟨id,0,none⟩)∧e 2 = .pointer (some ⟨H.length,0,none⟩)∧e 3 = .pointer (some ⟨H.length+1,0,none⟩)∧e 4 = .int .i64 (m-i) ∧
  Gst H H' id n a (B+2+10*i) H.length (H.length+1) logZ [.string D, .string P, .int .i64 k] 3∧D.size+P.size<=372*i) ?_ ?_
 ·refine⟨⟨#[]⟩,⟨#[]⟩,0, ?_⟩
  try simp only[go_sem]
  exact⟨by simp[bs1],by omega⟩
 ·rintro i e H' hi ⟨D,P,k,e0,e2,e3,e4,bs,hz⟩
  by_cases hlt:(i:Int)<m
  ·have q1:(0:Int)<m-i:=by omega
   try simp only[go_sem,e0,e2,e3,e4,q1,bs.b]
   refine (d_logRecord bs.st hown (by omega)).go ?_
   rintro _ H2 ⟨⟨c,r,rfl,hc,hr⟩,s2,g2⟩
   have bs2:=bs.step s2 g2
   simp only[go_sem,e0,e2,e3,e4,q1,bs2.b,g2.1]
   refine (c_sAppendRecord D P k c r (by omega) (by omega) (by omega)).go ?_
   rintro _ _⟨rfl,⟨t,rfl⟩⟩
   obtain⟨D2,P2,k2,co,hv,hb⟩:=appV_bound D P k c r
   rw[hv]
   have bs3:=bs2.grow t
   have bs4:=bs3.put [.string D2, .string P2, .int .i64 k2]
   try simp only[go_sem,e0,e2,e3,e4,q1,bs3.b,o1,prefix_append,prefix_rfl]
   refine (d_one _ bs4.st hown (by omega)).go ?_
   rintro _ H3 ⟨⟨gb,rfl⟩,s5,g5⟩
   have bs5:=bs4.step s5 g5
   cases gb
   ·try simp only[go_sem,e0,e2,e3,e4,q1,bs5.b]
    refine⟨by omega,D2,P2,k2,by rw[wrap64 (by omega)];congr 1;omega,bs5.more (by omega),by omega⟩
   ·try simp only[go_sem,e0,e2,e3,e4,q1,bs5.b]
    refine (c_sSyncLog D2 P2 k2 (by omega)).go ?_
    rintro _ _⟨rfl,⟨t2,rfl⟩⟩
    obtain⟨D3,P3,k3,gg,hv2,hb2⟩:=syncV_bound D2 P2 k2
    rw[hv2]
    have bs6:=bs5.grow t2
    have bs7:=bs6.put [.string D3, .string P3, .int .i64 k3]
    try simp only[go_sem,e0,e2,e3,e4,q1,bs6.b,o1]
    refine⟨by omega,D3,P3,k3,by rw[wrap64 (by omega)];congr 1;omega,bs7.more (by omega),by omega⟩
  ·have bs':=bs
   unfold logZ at bs'
   try simp only[go_sem,e0,e2,e3,e4,show ¬(0:Int)<m-i by omega,bs'.b,bs'.r,o2,set_get bs'.r]
   obtain⟨d1,d2⟩:=bs.done rfl ⟨[.string D, .string P, .int .i64 k],3, .rw⟩
   exact⟨⟨D,P,k,rfl,by omega⟩,d1.more (by omega),d2⟩
set_option maxRecDepth 20000 in
theorem d_anyLog{id n B:Nat}{a:Option Addr}(s:St H id n a B)(hM:M id)(hB:B<=90000) :
  vCall [] Tryz.prog M 94 [.pointer (some ⟨id,0,none⟩)] H (fun r H'=>(∃(D P:ByteArray) (k:Int),r = .agg #[.string D, .string P, .int .i64 k]∧D.size+P.size<=6000)∧St H' id n a (B+200)∧Agr id (id+1) H H'):=by
 have hid:=s.lt
 have hown:own H.length M id:=Or.inr hM
 refine bo Tryz.func94 rfl rfl ?_
 try simp only[go_sem]
 refine (d_log (s.app _) hown (by omega)).go ?_
 rintro _ H1 ⟨⟨D,P,k,rfl,hz⟩,s1,g1⟩
 have z1:=agr_get g1 hget_new (by omega)
 have L1:=g1.1
 simp only[length_append,length_cons,length_nil] at L1
 have bs0:Gst H (H1++ [⟨[.string D, .string P, .int .i64 k],3, .rw⟩]) id n a (B+100) H.length H1.length logZ [.string D, .string P, .int .i64 k] 3:=
  ⟨s1.app _,Agr.app.trans (g1.trans Agr.app),self_get z1 _,hget_new,by omega⟩
 have o1:own H.length M H1.length=True:=own_ge (by omega)
 have o2:own H.length M H.length=True:=own_ge (le_refl _)
 try simp only[go_sem,o1,set_get bs0.b]
 refine (d_pick _ bs0.st hown (by omega)).go ?_
 rintro _ H2 ⟨⟨m,rfl,m0,m1⟩,s2,g2⟩
 have bs:=bs0.step s2 g2
 have fin: ∀(Hx:Heap) (D' P':ByteArray) (k':Int) (Bx:Nat),Gst H Hx id n a Bx H.length H1.length logZ [.string D', .string P', .int .i64 k'] 3->Bx<=B+200->D'.size+P'.size<=6000 →
   (∃(D P:ByteArray) (k:Int),Value.agg #[.string D', .string P', .int .i64 k'] = .agg #[.string D, .string P, .int .i64 k]∧D.size+P.size<=6000)∧St (Hx.set H.length ⟨[.string D', .string P', .int .i64 k'],3, .rw⟩) id n a (B+200)∧Agr id (id+1) H (Hx.set H.length ⟨[.string D', .string P', .int .i64 k'],3, .rw⟩):=fun Hx D' P' k' Bx q hq h1=>by
  obtain⟨d1,d2⟩:=q.done rfl ⟨[.string D', .string P', .int .i64 k'],3, .rw⟩
  exact⟨⟨D',P',k',rfl,h1⟩,d1.more hq,d2⟩
 by_cases q1:m=0
 ·have bs1:=bs.put [.string D, .string P, .int .i64 (IntKind.i64.wrap (k+1))]
  have bs1':=bs1
  unfold logZ at bs1'
  try simp only[go_sem,show (m==0)=true by simpa using q1,bs.b,o1,o2,set_get bs.b,bs1'.b,bs1'.r,set_get bs1'.r]
  exact fin _ _ _ _ _ bs1 (by omega) (by omega)
 ·have q2:(m==0)=false:=by simpa using q1
  by_cases q3:m=1
  ·have q4:(m==1)=true:=by simpa using q3
   try simp only[go_sem,q2,q4,bs.b]
   refine (d_spoilt P ⟨#[35,64,10,48,49]⟩ bs.st hown (by omega) (by decide) (by omega)).go ?_
   rintro _ H3 ⟨⟨P2,rfl,hP2⟩,s3,g3⟩
   have bs1:=bs.step s3 g3
   have bs2:=bs1.put [.string D, .string P2, .int .i64 k]
   have bs2':=bs2
   unfold logZ at bs2'
   try simp only[go_sem,q2,q4,bs1.b,o1,o2,set_get bs1.b,bs2'.b,bs2'.r,set_get bs2'.r]
   exact fin _ _ _ _ _ bs2 (by omega) (by omega)
  ·have q4:(m==1)=false:=by simpa using q3
   by_cases q5:m=2
   ·have q6:(m==2)=true:=by simpa using q5
    have bs2:=bs.put [.string (D++P), .string P, .int .i64 k]
    have bs2':=bs2
    unfold logZ at bs2'
    try simp only[go_sem,q2,q4,q6,bs.b,joinDP D P (by omega),o1,o2,set_get bs.b,bs2'.b,bs2'.r,set_get bs2'.r]
    exact fin _ _ _ _ _ bs2 (by omega) (by rw[ByteArray.size_append];omega)
   ·have q6:(m==2)=false:=by simpa using q5
    have bs':=bs
    unfold logZ at bs'
    try simp only[go_sem,q2,q4,q6,bs'.b,bs'.r,o1,o2,set_get bs'.r]
    exact fin _ _ _ _ _ bs (by omega) (by omega)
end
open Go Go.Proofs Go.RowKit Go.Lib Go.HH
theorem run_copy_to{P:Program}(w:World)(dT sT ty elem:TypeId)(b o dLen dCap:Nat)(a:Addr)(sLen sCap:Nat)(cs:List Value)(sz:Nat)(cur:Array Value)(t:TypeId)(fz:Nat×Nat)
  (hu:P.underlying dT=some (.slice elem)) (hs:(P.info? elem).map (·.size)=some sz) (hn:cs.length=Nat.min sLen dLen*sz)
  (hsrc: ∀j v,cs[j]? = some v->w.cell? (a.add j)=some v) (hg:w.heap[b]? = some (.cells cur t fz)) (hfz: ∀j,j<cur.size->¬(fz.1<=j∧j<fz.2)) (hfit:o+cs.length<=cur.size) (h1: ∀v∈cs,oneC v=true) :
  (Builtin.copy_ #[dT,sT] ty #[.slice (some ⟨b,o,none⟩) dLen dCap, .slice (some a) sLen sCap]).run P w = .ok (goInt (Nat.min sLen dLen)) (w.setRow b (HH.setRange cur.toList o cs).toArray):=by
 have hl:=run_loadCells_list (P:=P) w a cs hsrc
 have hst:=HH.run_storeCells_free P b o t fz cs 0 cur w hg hfz (by simpa using hfit) h1
 rw[add_zero] at hst
 cases hq:P.info? elem with
 | none=>simp[hq] at hs
 | some i=>
  have hi:i.size=sz:=by simpa[hq] using hs
  simp[Builtin.copy_,run_underlying hu,Builtin.lenOf,Builtin.firstCells,sizeOf,typeInfo,hq,hi, ←hn,hl,hst]
set_option maxHeartbeats 4000000 in
set_option maxRecDepth 100000 in
theorem ins_growV(b off n c i vb voff vc:Nat)(cs vs:List Value)(w:World)(hi:i<n)(hnc:n<=c)(hroom:c<n+1)(hbig:(n+1)*32<=140737488355328)
  (hcl:cs.length=n*4) (hvl:vs.length=4) (hbw:b<w.heap.size) (hvw:vb<w.heap.size)
  (hcs: ∀j v,cs[j]? = some v->w.cell? ⟨b,off+j,none⟩=some v)
  (hvs: ∀j v,vs[j]? = some v->w.cell? ⟨vb,voff+j,none⟩=some v) (h1c: ∀v∈cs,oneC v=true) (h1v: ∀v∈vs,oneC v=true) :
  Calls Tryz.prog 139 #[.slice (some ⟨b,off,none⟩) n c, .int .i64 i, .slice (some ⟨vb,voff,none⟩) 1 vc] w fun e w'=> ∃(G:Nat) (C:Array Value) (el:TypeId),
   e = .returned (.slice (some ⟨w.heap.size,0,none⟩) (n+1) G)∧n+1<=G∧w'.heap=w.heap.push (.cells C el (0,0))∧C.size=G*4∧C.toList.take ((n+1)*4)=cs.take (i*4)++vs++cs.drop (i*4) ∧
    w'.os=w.os∧w'.tape=w.tape∧w'.output=w.output:=by
 obtain⟨el,i0,z,ht,hi0,hz0,hzc,hpos,hsz,hby⟩:=tapp_spec tapp_41
 have hu41:Tryz.prog.underlying 41=some (.slice 110):=by kernel_rfl
 obtain rfl:el=110:=by rw[hu41] at ht;cases ht;rfl
 have hu3:Tryz.prog.underlying 3=some (.int .i64):=by kernel_rfl
 have hz2: ¬((i:Int)=(n:Int)):=by omega
 have hz3:(c:Int)<(n:Int)+1:=by omega
 have hs4:(Tryz.prog.info? 110).map (·.size)=some 4:=by rw[hi0];simp[hsz]
 have hkk:(n:Int)+1-(i:Int)=((n+1-i:Nat):Int):=by omega
 have hik:i+(n+1-i)=n+1:=by omega
 have htl:(cs.take (i*4)).length=i*4:=by rw[length_take];omega
 have hold:(Builtin.firstCells i0.size i (.slice (some ⟨b,off,none⟩) i c)).run Tryz.prog w.drew = .ok (cs.take (i*4)).toArray w.drew:=by
  refine run_firstCells_some w.drew i0.size i ⟨b,off,none⟩ i c (cs.take (i*4)) (by rw[htl,hsz]) (fun j v hj => ?_)
  rw[Addr.add_lit]
  rw[getElem?_take] at hj
  split at hj
  ·exact hcs j v hj
  ·cases hj
 obtain⟨G,hG⟩: ∃G,G=grownCap w (n+1) c 110:=⟨_,rfl⟩
 obtain⟨ROW,hROW⟩: ∃ROW:Array Value,ROW=(cs.take (i*4)).toArray++Builtin.zeroCells z.cells (n+1-i)++Builtin.zeroCells z.cells (G-(n+1)):=⟨_,rfl⟩
 have hrz: ∀ty,(Builtin.append_ #[41,3] ty #[.slice (some ⟨b,off,none⟩) i c, .int .i64 ((n:Int)+1-(i:Int))]).run Tryz.prog w =
   .ok (.slice (some ⟨w.heap.size,0,none⟩) (n+1) G) (w.drew.alloc (.cells ROW 110)):=fun ty=>by
  have h:=Lib.run_append_grow_zeros w 41 3 ty 110 i0 z .i64 .i64 ht hu3 hi0 hz0 (some ⟨b,off,none⟩) i c (cs.take (i*4)) hold (n+1-i) (by omega) hpos (by omega) (by omega) (by rw[hby];omega) (by rw[hby,hik];exact growslice_fits hroom hbig)
  rw[hik, ←hG, ←hROW] at h
  rw[hkk]
  exact h
 have hGn:n+1<=G:=by rw[hG];exact grownCap_ge w _ _ _
 have hG63:G<=9223372036854775807:=by
  have:=grownCap_le_maxLen w (n+1) c 110 (by unfold maxLen;omega)
  rw[←hG] at this
  unfold maxLen at this
  omega
 have hRs:ROW.size=G*4:=by
  rw[hROW,Array.size_append,Array.size_append,size_zeroCells,size_zeroCells,hzc,hsz,size_toArray,htl]
  omega
 have hRt:ROW.toList.take (i*4)=cs.take (i*4):=by
  rw[hROW]
  simp only[Array.toList_append,append_assoc]
  rw[List.take_append_of_le_length (by simp[htl]),take_of_length_le (by simp[htl])]
 have hdl:(cs.drop (i*4)).length=(n-i)*4:=by rw[length_drop,hcl];omega
 obtain⟨R2,hR2⟩: ∃R2,R2=(HH.setRange ROW.toList (i*4) vs).toArray:=⟨_,rfl⟩
 obtain⟨R3,hR3⟩: ∃R3,R3=(HH.setRange R2.toList ((i+1)*4) (cs.drop (i*4))).toArray:=⟨_,rfl⟩
 have hR2s:R2.size=G*4:=by rw[hR2,size_toArray,HH.setRange_length (by simp[hvl,hRs];omega)];simpa using hRs
 have hR3s:R3.size=G*4:=by rw[hR3,size_toArray,HH.setRange_length (by simp[hdl,hR2s];omega)];simpa using hR2s
 have hfin:R3.toList.take ((n+1)*4)=cs.take (i*4)++vs++cs.drop (i*4):=by
  have e2:R2.toList=cs.take (i*4)++vs++ROW.toList.drop (i*4+4):=by rw[hR2,HH.setRange,hRt,hvl]
  have l2:(cs.take (i*4)++vs).length=(i+1)*4:=by rw[length_append,htl,hvl];omega
  have e3:R3.toList=(cs.take (i*4)++vs)++cs.drop (i*4)++R2.toList.drop ((i+1)*4+(n-i)*4):=by
   have e4:R2.toList.take ((i+1)*4)=cs.take (i*4)++vs:=by rw[e2,take_left' l2]
   rw[hR3]
   show HH.setRange R2.toList ((i+1)*4) (cs.drop (i*4))=_
   rw[HH.setRange,e4,hdl]
  rw[e3,take_left' (by rw[length_append,l2,hdl];omega)]
 obtain⟨W1,hW1⟩: ∃W1,W1=w.drew.alloc (.cells ROW 110):=⟨_,rfl⟩
 rw[←hW1] at hrz
 have hW1h:W1.heap=w.heap.push (.cells ROW 110 (0,0)):=by rw[hW1];rfl
 have hW1N:W1.heap[w.heap.size]? = some (.cells ROW 110 (0,0)):=by rw[hW1h];simp
 have hfz: ∀(R:Array Value),∀j,j<R.size->¬(((0,0):Nat×Nat).1<=j∧j<((0,0):Nat×Nat).2):=fun R j _=>by simp
 have cellEq: ∀(W:World) (x:Addr),(∀k,k<w.heap.size->W.heap[k]? = w.heap[k]?)->x.block<w.heap.size->W.cell? x=w.cell? x:=fun W x h1 h2=>by unfold World.cell?;rw[h1 _ h2]
 have hcpA: ∀(W:World),W.heap=W1.heap->∀ty dc,(Builtin.copy_ #[41,41] ty #[.slice (some ⟨w.heap.size,i*4,none⟩) (n+1-i) dc, .slice (some ⟨vb,voff,none⟩) 1 vc]).run Tryz.prog W = .ok (goInt ((Nat.min 1 (n+1-i):Nat):Int)) (W.setRow w.heap.size R2):=fun W hWh ty dc=>by
  rw[hR2]
  refine run_copy_to W _ _ ty 110 w.heap.size (i*4) (n+1-i) dc ⟨vb,voff,none⟩ 1 vc vs 4 ROW 110 (0,0) ht hs4 (by rw[hvl];simp only[Nat.min_def];split<;>omega) (fun j v hj => ?_) (by rw[hWh];exact hW1N) (hfz _) (by rw[hvl,hRs];omega) h1v
  rw[Addr.add_lit,cellEq W _ (fun k hk=>by rw[hWh,hW1h,Array.getElem?_push,if_neg (by omega)]) hvw]
  exact hvs j v hj
 have hcpB: ∀(W:World),W.heap=(W1.setRow w.heap.size R2).heap->∀ty dc sc,(Builtin.copy_ #[41,41] ty #[.slice (some ⟨w.heap.size,(i+1)*4,none⟩) (n-i) dc, .slice (some ⟨b,off+i*4,none⟩) (n-i) sc]).run Tryz.prog W = .ok (goInt ((Nat.min (n-i) (n-i):Nat):Int)) (W.setRow w.heap.size R3):=fun W hWh ty dc sc=>by
  rw[hR3]
  refine run_copy_to W _ _ ty 110 w.heap.size ((i+1)*4) (n-i) dc ⟨b,off+i*4,none⟩ (n-i) sc (cs.drop (i*4)) 4 R2 110 (0,0) ht hs4 (by rw[hdl];simp only[Nat.min_def];split<;>omega) (fun j v hj => ?_) (by rw[hWh];exact setRow_heap W1 w.heap.size ROW R2 110 (0,0) hW1N) (hfz _) (by rw[hdl,hR2s];omega) (fun v hv=>h1c v (List.mem_of_mem_drop hv))
  rw[Addr.add_lit,cellEq W _ (fun k hk=>by rw[hWh];simp[World.setRow,hW1h,Array.getElem?_modify,Array.getElem?_push];rw[if_neg (by omega),if_neg (by omega)]) hbw,add_assoc]
  exact hcs _ v (by rwa [getElem?_drop] at hj)
 have hw1:IntKind.i64.wrap ((i:Int)+1)=(i:Int)+1:=by rw[IntKind.wrap_i64];omega
 have hb1:(0:Int)<=(i:Int)+1:=by omega
 have hin:i<=n:=by omega
 have htn:((i:Int)+1).toNat=i+1:=by omega
 have hb3:(i:Int)<=(n:Int):=by omega
 have hGi: ¬(G=i):=by omega
 have hGim: ¬(G=i+1):=by omega
 have hci: ¬(c=i):=by omega
 have hbN:b≠w.heap.size:=by omega
 have hheap: ∀W:World,W.heap=(W1.setRow w.heap.size R2).heap->(W.setRow w.heap.size R3).heap=w.heap.push (.cells R3 110 (0,0)):=fun W hWh=>by
  refine Array.ext_getElem? fun k => ?_
  have h1:=setRow_heap W w.heap.size R2 R3 110 (0,0) (by rw[hWh];exact setRow_heap W1 w.heap.size ROW R2 110 (0,0) hW1N)
  by_cases hk:k=w.heap.size
  ·subst hk;rw[h1];simp
  ·simp only[World.setRow,hWh,hW1h,Array.getElem?_modify,Array.getElem?_push,if_neg hk,if_neg (Ne.symm hk)]
 clear hkk hik hold hG hR2 hR3 hROW hRt
 subst hW1
 have hE1:((w.alloc (.cells ROW 110)).drew).heap=(w.drew.alloc (.cells ROW 110)).heap:=rfl
 have hF1:(((w.alloc (.cells ROW 110)).drew.setRow w.heap.size R2).drew).heap=((w.drew.alloc (.cells ROW 110)).setRow w.heap.size R2).heap:=rfl
 have mixed:=mo
 go_enter Tryz.func139,Tryz.ntmps139
 go_wp2_with (first
  | (at_builtin;refine Lib.wpList_append_run _ rfl _ _ _ _ rfl _ _ rfl rfl _ _ (hrz _) ?_)
  | (at_builtin;refine wpList_copy_runI _ rfl _ _ 41 41 rfl _ _ rfl rfl (hcpA _ hE1 _ _) ?_)
  | (at_builtin;refine wpList_copy_runI _ rfl _ _ 41 41 rfl _ _ rfl rfl (hcpB _ hF1 _ _ _) ?_))
 go_region_law_o (refine step_copy_runI rfl _ _ 41 41 rfl (.slice (some ⟨w.heap.size,(i+1)*4,none⟩) (n-i) (G-(i+1))) (.slice (some ⟨b,off+i*4,none⟩) (n-i) (c-i)) (by simp[Act.eval,Act.put]) (by simp[Act.eval,Act.put]) (hcpB _ hF1 3 (G-(i+1)) (c-i)) ?_)
 go_wp2
 go_ret
 exact⟨G,R3,110,rfl,hGn,hheap _ rfl,hR3s,hfin,rfl,rfl,rfl⟩
set_option maxHeartbeats 4000000 in
set_option maxRecDepth 100000 in
theorem ins_shiftV(b off n c i vb voff vc:Nat)(cs vs:List Value)(w:World)(cur:Array Value)(t:TypeId)(fz:Nat×Nat)(cv:Array Value)(tv:TypeId)(fv:Nat×Nat)(hi:i<n)(hroom:n+1<=c)(hn63:n<=1048576)(hvb:vb≠b)
  (hcl:cs.length=n*4) (hvl:vs.length=4) (hg:w.heap[b]? = some (.cells cur t fz)) (hfz: ∀j,j<cur.size->¬(fz.1<=j∧j<fz.2)) (hfit:off+(n+1)*4<=cur.size) (hcs:(cur.toList.drop off).take (n*4)=cs)
  (hgv:w.heap[vb]? = some (.cells cv tv fv)) (hfv: ∀j,j<=cv.size->¬(fv.1<=j∧j<fv.2)) (hvo:voff<=cv.size)
  (hvs: ∀j v,vs[j]? = some v->w.cell? ⟨vb,voff+j,none⟩=some v) (h1c: ∀v∈cs,oneC v=true) (h1v: ∀v∈vs,oneC v=true) :
  Calls Tryz.prog 139 #[.slice (some ⟨b,off,none⟩) n c, .int .i64 i, .slice (some ⟨vb,voff,none⟩) 1 vc] w fun e w'=> ∃(R:Array Value),
   e = .returned (.slice (some ⟨b,off,none⟩) (n+1) c)∧w'.heap[b]? = some (.cells R t fz)∧R.size=cur.size∧(∀k,k≠b->w'.heap[k]? = w.heap[k]?)∧w'.heap.size=w.heap.size∧(R.toList.drop off).take ((n+1)*4)=cs.take (i*4)++vs++cs.drop (i*4) ∧
    w'.os=w.os∧w'.tape=w.tape∧w'.output=w.output:=by
 obtain⟨el,i0,z,ht,hi0,hz0,hzc,hpos,hsz,hby⟩:=tapp_spec tapp_41
 have hu41:Tryz.prog.underlying 41=some (.slice 110):=by kernel_rfl
 obtain rfl:el=110:=by rw[hu41] at ht;cases ht;rfl
 have hz2: ¬((i:Int)=(n:Int)):=by omega
 have hs4:(Tryz.prog.info? 110).map (·.size)=some 4:=by rw[hi0];simp[hsz]
 have hsz4: ∀w,(Go.sizeOf 110).run Tryz.prog w = .ok 4 w:=fun w=>by simp[sizeOf,typeInfo,hi0,hsz]
 have hdl:(cs.drop (i*4)).length=(n-i)*4:=by rw[length_drop,hcl];omega
 have htl:(cs.take (i*4)).length=i*4:=by rw[length_take];omega
 have hov: ∀lb cb,(callFunc 174 #[.slice (some ⟨vb,voff,none⟩) 1 vc, .slice (some ⟨b,off+(i+1)*4,none⟩) lb cb]).run Tryz.prog w = .ok (.value (.bool false)) w:=fun lb cb=>by
  rw[run_callFunc_extern Tryz.func174 (by kernel_rfl) (by kernel_rfl) (by kernel_rfl) (e:=Extern.SlicesOverlaps.overlaps #[41,41] #[4]) (by kernel_rfl),
   Lib.run_overlaps_apart w 41 4 110 hu41 4 hsz4 ⟨vb,voff,none⟩ ⟨b,off+(i+1)*4,none⟩ 1 vc lb cb hvb tv t cv.size cur.size (by unfold World.shape?;rw[hgv]) (by unfold World.shape?;rw[hg]) (by omega) ?_ ?_]
  ·rfl
  ·unfold World.frozen?;rw[hgv];have:=hfv voff hvo;simp;omega
  ·unfold World.frozen?;rw[hgv];have:=hfv cv.size (le_refl _);simp;omega
 obtain⟨R1,hR1⟩: ∃R1,R1=(HH.setRange cur.toList (off+(i+1)*4) (cs.drop (i*4))).toArray:=⟨_,rfl⟩
 obtain⟨R2,hR2⟩: ∃R2,R2=(HH.setRange R1.toList (off+i*4) vs).toArray:=⟨_,rfl⟩
 have hR1s:R1.size=cur.size:=by rw[hR1,size_toArray,HH.setRange_length (by simp[hdl];omega)];simp
 have hR2s:R2.size=cur.size:=by rw[hR2,size_toArray,HH.setRange_length (by simp[hvl,hR1s];omega)];simpa using hR1s
 have hcat: ∀j v,cs[j]? = some v->cur[off+j]? = some v:=fun j v hj=>by
  rw[←hcs,getElem?_take] at hj
  split at hj
  ·rw[getElem?_drop] at hj;simpa using hj
  ·cases hj
 have hfin:(R2.toList.drop off).take ((n+1)*4)=cs.take (i*4)++vs++cs.drop (i*4):=by
  have c1:cur.toList.length=cur.size:=by simp
  have e1:R1.toList=cur.toList.take (off+(i+1)*4)++cs.drop (i*4)++cur.toList.drop (off+(i+1)*4+(n-i)*4):=by
   rw[hR1]
   show HH.setRange cur.toList (off+(i+1)*4) (cs.drop (i*4))=_
   rw[HH.setRange,hdl]
  have l1:(cur.toList.take (off+(i+1)*4)).length=off+(i+1)*4:=by rw[length_take];omega
  have e2:R2.toList=R1.toList.take (off+i*4)++vs++R1.toList.drop (off+i*4+4):=by
   rw[hR2]
   show HH.setRange R1.toList (off+i*4) vs=_
   rw[HH.setRange,hvl]
  have e3:R1.toList.take (off+i*4)=cur.toList.take (off+i*4):=by
   rw[e1,append_assoc,List.take_append_of_le_length (by rw[l1];omega),List.take_take,min_eq_left (by omega)]
  have e4:R1.toList.drop (off+i*4+4)=cs.drop (i*4)++cur.toList.drop (off+(i+1)*4+(n-i)*4):=by
   rw[e1,append_assoc,show off+i*4+4=off+(i+1)*4 by omega,drop_left' l1]
  have l3:(cur.toList.take (off+i*4)).length=off+i*4:=by rw[length_take];omega
  have e5:(cur.toList.take (off+i*4)).drop off=cs.take (i*4):=by
   rw[←hcs,List.drop_take,List.take_take,min_eq_left (by omega)]
   congr 1;omega
  rw[e2,e3,e4,append_assoc,List.drop_append_of_le_length (by rw[l3];omega),e5, ←append_assoc vs, ←append_assoc, ←append_assoc]
  rw[take_left' (by rw[length_append,length_append,htl,hvl,hdl];omega)]
 have hdr:w.drew.heap=w.heap:=rfl
 have hcp1: ∀ty dc sc,(Builtin.copy_ #[41,41] ty #[.slice (some ⟨b,off+(i+1)*4,none⟩) (n-i) dc, .slice (some ⟨b,off+i*4,none⟩) (n+1-i) sc]).run Tryz.prog w.drew = .ok (goInt ((Nat.min (n+1-i) (n-i):Nat):Int)) (w.drew.setRow b R1):=fun ty dc sc=>by
  rw[hR1]
  refine run_copy_to w.drew _ _ ty 110 b (off+(i+1)*4) (n-i) dc ⟨b,off+i*4,none⟩ (n+1-i) sc (cs.drop (i*4)) 4 cur t fz hu41 hs4 (by rw[hdl];simp only[Nat.min_def];split<;>omega) (fun j v hj => ?_) hg hfz (by rw[hdl];omega) (fun v hv=>h1c v (List.mem_of_mem_drop hv))
  rw[getElem?_drop] at hj
  rw[Addr.add_lit,add_assoc]
  have:=hcat _ v hj
  unfold World.cell?
  rw[hdr]
  simp only[hg]
  simpa using this
 have hcp2: ∀(W:World),W.heap=(w.drew.setRow b R1).heap->∀ty dc,(Builtin.copy_ #[41,41] ty #[.slice (some ⟨b,off+i*4,none⟩) (n+1-i) dc, .slice (some ⟨vb,voff,none⟩) 1 vc]).run Tryz.prog W = .ok (goInt ((Nat.min 1 (n+1-i):Nat):Int)) (W.setRow b R2):=fun W hWh ty dc=>by
  rw[hR2]
  refine run_copy_to W _ _ ty 110 b (off+i*4) (n+1-i) dc ⟨vb,voff,none⟩ 1 vc vs 4 R1 t fz hu41 hs4 (by rw[hvl];simp only[Nat.min_def];split<;>omega) (fun j v hj => ?_) (by rw[hWh];exact setRow_heap w.drew b cur R1 t fz hg) (by rw[hR1s];exact hfz) (by rw[hvl,hR1s];omega) h1v
  have:=hvs j v hj
  rw[Addr.add_lit]
  unfold World.cell? at this ⊢
  rw[hWh]
  simpa[World.setRow,hdr,Array.getElem?_modify,Ne.symm hvb] using this
 have hw1:IntKind.i64.wrap ((i:Int)+1)=(i:Int)+1:=by rw[IntKind.wrap_i64];omega
 have hw2:IntKind.i64.wrap ((n:Int)+1)=(n:Int)+1:=by rw[IntKind.wrap_i64];omega
 have hb1:(0:Int)<=(i:Int)+1:=by omega
 have hin:i<=n:=by omega
 have htn:((i:Int)+1).toNat=i+1:=by omega
 have htn2:((n:Int)+1).toNat=n+1:=by omega
 have hb2: ¬(c=i+1):=by omega
 have hb3:(i:Int)<=(n:Int)+1:=by omega
 have hb4: ¬(c=i):=by omega
 have hb5: ¬(c<n+1):=by omega
 have hb6: ¬((c:Int)<(n:Int)+1):=by omega
 have hend: ∀W:World,W.heap=(w.drew.setRow b R1).heap->(W.setRow b R2).heap[b]? = some (.cells R2 t fz)∧(∀k,k≠b->(W.setRow b R2).heap[k]? = w.heap[k]?)∧(W.setRow b R2).heap.size=w.heap.size:=fun W hWh=>by
  refine⟨setRow_heap W b R1 R2 t fz (by rw[hWh];exact setRow_heap w.drew b cur R1 t fz hg),fun k hk => ?_, ?_⟩
  ·simp[World.setRow,hWh,hdr,Array.getElem?_modify,Ne.symm hk]
  ·simp[World.setRow,hWh,hdr]
 clear hR2 hR1 hcat
 have mixed:=mo
 have hF1:(w.drew.setRow b R1).heap=(w.drew.setRow b R1).heap:=rfl
 go_enter Tryz.func139,Tryz.ntmps139
 go_wp2_with (simp only[hov])
 go_region_law_o (refine step_copy_runI rfl _ _ 41 41 rfl (.slice (some ⟨b,off+(i+1)*4,none⟩) (n-i) (c-(i+1))) (.slice (some ⟨b,off+i*4,none⟩) (n+1-i) (c-i)) (by simp[Act.eval,Act.put]) (by simp[Act.eval,Act.put]) (hcp1 3 (c-(i+1)) (c-i)) ?_)
 go_wp2_with (at_builtin;refine wpList_copy_runI _ rfl _ _ 41 41 rfl _ _ rfl rfl (hcp2 _ hF1 _ _) ?_)
 go_ret
 exact⟨R2,rfl,(hend _ rfl).1,hR2s,(hend _ rfl).2.1,(hend _ rfl).2.2,hfin,rfl,rfl,rfl⟩
set_option maxHeartbeats 4000000 in
set_option maxRecDepth 100000 in
theorem ins_growP(b off n c i vb voff vc:Nat)(cs vs:List Value)(w:World)(hi:i<n)(hnc:n<=c)(hroom:c<n+1)(hbig:(n+1)*32<=140737488355328)
  (hcl:cs.length=n*4) (hvl:vs.length=4) (hbw:b<w.heap.size) (hvw:vb<w.heap.size)
  (hcs: ∀j v,cs[j]? = some v->w.cell? ⟨b,off+j,none⟩=some v)
  (hvs: ∀j v,vs[j]? = some v->w.cell? ⟨vb,voff+j,none⟩=some v) (h1c: ∀v∈cs,oneC v=true) (h1v: ∀v∈vs,oneC v=true) :
  Calls Tryz.prog 173 #[.slice (some ⟨b,off,none⟩) n c, .int .i64 i, .slice (some ⟨vb,voff,none⟩) 1 vc] w fun e w'=> ∃(G:Nat) (C:Array Value) (el:TypeId),
   e = .returned (.slice (some ⟨w.heap.size,0,none⟩) (n+1) G)∧n+1<=G∧w'.heap=w.heap.push (.cells C el (0,0))∧C.size=G*4∧C.toList.take ((n+1)*4)=cs.take (i*4)++vs++cs.drop (i*4) ∧
    w'.os=w.os∧w'.tape=w.tape∧w'.output=w.output:=by
 obtain⟨el,i0,z,ht,hi0,hz0,hzc,hpos,hsz,hby⟩:=tapp_spec tapp_31
 have hu41:Tryz.prog.underlying 31=some (.slice 119):=by kernel_rfl
 obtain rfl:el=119:=by rw[hu41] at ht;cases ht;rfl
 have hu3:Tryz.prog.underlying 3=some (.int .i64):=by kernel_rfl
 have hz2: ¬((i:Int)=(n:Int)):=by omega
 have hz3:(c:Int)<(n:Int)+1:=by omega
 have hs4:(Tryz.prog.info? 119).map (·.size)=some 4:=by rw[hi0];simp[hsz]
 have hkk:(n:Int)+1-(i:Int)=((n+1-i:Nat):Int):=by omega
 have hik:i+(n+1-i)=n+1:=by omega
 have htl:(cs.take (i*4)).length=i*4:=by rw[length_take];omega
 have hold:(Builtin.firstCells i0.size i (.slice (some ⟨b,off,none⟩) i c)).run Tryz.prog w.drew = .ok (cs.take (i*4)).toArray w.drew:=by
  refine run_firstCells_some w.drew i0.size i ⟨b,off,none⟩ i c (cs.take (i*4)) (by rw[htl,hsz]) (fun j v hj => ?_)
  rw[Addr.add_lit]
  rw[getElem?_take] at hj
  split at hj
  ·exact hcs j v hj
  ·cases hj
 obtain⟨G,hG⟩: ∃G,G=grownCap w (n+1) c 119:=⟨_,rfl⟩
 obtain⟨ROW,hROW⟩: ∃ROW:Array Value,ROW=(cs.take (i*4)).toArray++Builtin.zeroCells z.cells (n+1-i)++Builtin.zeroCells z.cells (G-(n+1)):=⟨_,rfl⟩
 have hrz: ∀ty,(Builtin.append_ #[31,3] ty #[.slice (some ⟨b,off,none⟩) i c, .int .i64 ((n:Int)+1-(i:Int))]).run Tryz.prog w =
   .ok (.slice (some ⟨w.heap.size,0,none⟩) (n+1) G) (w.drew.alloc (.cells ROW 119)):=fun ty=>by
  have h:=Lib.run_append_grow_zeros w 31 3 ty 119 i0 z .i64 .i64 ht hu3 hi0 hz0 (some ⟨b,off,none⟩) i c (cs.take (i*4)) hold (n+1-i) (by omega) hpos (by omega) (by omega) (by rw[hby];omega) (by rw[hby,hik];exact growslice_fits hroom hbig)
  rw[hik, ←hG, ←hROW] at h
  rw[hkk]
  exact h
 have hGn:n+1<=G:=by rw[hG];exact grownCap_ge w _ _ _
 have hG63:G<=9223372036854775807:=by
  have:=grownCap_le_maxLen w (n+1) c 119 (by unfold maxLen;omega)
  rw[←hG] at this
  unfold maxLen at this
  omega
 have hRs:ROW.size=G*4:=by
  rw[hROW,Array.size_append,Array.size_append,size_zeroCells,size_zeroCells,hzc,hsz,size_toArray,htl]
  omega
 have hRt:ROW.toList.take (i*4)=cs.take (i*4):=by
  rw[hROW]
  simp only[Array.toList_append,append_assoc]
  rw[List.take_append_of_le_length (by simp[htl]),take_of_length_le (by simp[htl])]
 have hdl:(cs.drop (i*4)).length=(n-i)*4:=by rw[length_drop,hcl];omega
 obtain⟨R2,hR2⟩: ∃R2,R2=(HH.setRange ROW.toList (i*4) vs).toArray:=⟨_,rfl⟩
 obtain⟨R3,hR3⟩: ∃R3,R3=(HH.setRange R2.toList ((i+1)*4) (cs.drop (i*4))).toArray:=⟨_,rfl⟩
 have hR2s:R2.size=G*4:=by rw[hR2,size_toArray,HH.setRange_length (by simp[hvl,hRs];omega)];simpa using hRs
 have hR3s:R3.size=G*4:=by rw[hR3,size_toArray,HH.setRange_length (by simp[hdl,hR2s];omega)];simpa using hR2s
 have hfin:R3.toList.take ((n+1)*4)=cs.take (i*4)++vs++cs.drop (i*4):=by
  have e2:R2.toList=cs.take (i*4)++vs++ROW.toList.drop (i*4+4):=by rw[hR2,HH.setRange,hRt,hvl]
  have l2:(cs.take (i*4)++vs).length=(i+1)*4:=by rw[length_append,htl,hvl];omega
  have e3:R3.toList=(cs.take (i*4)++vs)++cs.drop (i*4)++R2.toList.drop ((i+1)*4+(n-i)*4):=by
   have e4:R2.toList.take ((i+1)*4)=cs.take (i*4)++vs:=by rw[e2,take_left' l2]
   rw[hR3]
   show HH.setRange R2.toList ((i+1)*4) (cs.drop (i*4))=_
   rw[HH.setRange,e4,hdl]
  rw[e3,take_left' (by rw[length_append,l2,hdl];omega)]
 obtain⟨W1,hW1⟩: ∃W1,W1=w.drew.alloc (.cells ROW 119):=⟨_,rfl⟩
 rw[←hW1] at hrz
 have hW1h:W1.heap=w.heap.push (.cells ROW 119 (0,0)):=by rw[hW1];rfl
 have hW1N:W1.heap[w.heap.size]? = some (.cells ROW 119 (0,0)):=by rw[hW1h];simp
 have hfz: ∀(R:Array Value),∀j,j<R.size->¬(((0,0):Nat×Nat).1<=j∧j<((0,0):Nat×Nat).2):=fun R j _=>by simp
 have cellEq: ∀(W:World) (x:Addr),(∀k,k<w.heap.size->W.heap[k]? = w.heap[k]?)->x.block<w.heap.size->W.cell? x=w.cell? x:=fun W x h1 h2=>by unfold World.cell?;rw[h1 _ h2]
 have hcpA: ∀(W:World),W.heap=W1.heap->∀ty dc,(Builtin.copy_ #[31,31] ty #[.slice (some ⟨w.heap.size,i*4,none⟩) (n+1-i) dc, .slice (some ⟨vb,voff,none⟩) 1 vc]).run Tryz.prog W = .ok (goInt ((Nat.min 1 (n+1-i):Nat):Int)) (W.setRow w.heap.size R2):=fun W hWh ty dc=>by
  rw[hR2]
  refine run_copy_to W _ _ ty 119 w.heap.size (i*4) (n+1-i) dc ⟨vb,voff,none⟩ 1 vc vs 4 ROW 119 (0,0) ht hs4 (by rw[hvl];simp only[Nat.min_def];split<;>omega) (fun j v hj => ?_) (by rw[hWh];exact hW1N) (hfz _) (by rw[hvl,hRs];omega) h1v
  rw[Addr.add_lit,cellEq W _ (fun k hk=>by rw[hWh,hW1h,Array.getElem?_push,if_neg (by omega)]) hvw]
  exact hvs j v hj
 have hcpB: ∀(W:World),W.heap=(W1.setRow w.heap.size R2).heap->∀ty dc sc,(Builtin.copy_ #[31,31] ty #[.slice (some ⟨w.heap.size,(i+1)*4,none⟩) (n-i) dc, .slice (some ⟨b,off+i*4,none⟩) (n-i) sc]).run Tryz.prog W = .ok (goInt ((Nat.min (n-i) (n-i):Nat):Int)) (W.setRow w.heap.size R3):=fun W hWh ty dc sc=>by
  rw[hR3]
  refine run_copy_to W _ _ ty 119 w.heap.size ((i+1)*4) (n-i) dc ⟨b,off+i*4,none⟩ (n-i) sc (cs.drop (i*4)) 4 R2 119 (0,0) ht hs4 (by rw[hdl];simp only[Nat.min_def];split<;>omega) (fun j v hj => ?_) (by rw[hWh];exact setRow_heap W1 w.heap.size ROW R2 119 (0,0) hW1N) (hfz _) (by rw[hdl,hR2s];omega) (fun v hv=>h1c v (List.mem_of_mem_drop hv))
  rw[Addr.add_lit,cellEq W _ (fun k hk=>by rw[hWh];simp[World.setRow,hW1h,Array.getElem?_modify,Array.getElem?_push];rw[if_neg (by omega),if_neg (by omega)]) hbw,add_assoc]
  exact hcs _ v (by rwa [getElem?_drop] at hj)
 have hw1:IntKind.i64.wrap ((i:Int)+1)=(i:Int)+1:=by rw[IntKind.wrap_i64];omega
 have hb1:(0:Int)<=(i:Int)+1:=by omega
 have hin:i<=n:=by omega
 have htn:((i:Int)+1).toNat=i+1:=by omega
 have hb3:(i:Int)<=(n:Int):=by omega
 have hGi: ¬(G=i):=by omega
 have hGim: ¬(G=i+1):=by omega
 have hci: ¬(c=i):=by omega
 have hbN:b≠w.heap.size:=by omega
 have hheap: ∀W:World,W.heap=(W1.setRow w.heap.size R2).heap->(W.setRow w.heap.size R3).heap=w.heap.push (.cells R3 119 (0,0)):=fun W hWh=>by
  refine Array.ext_getElem? fun k => ?_
  have h1:=setRow_heap W w.heap.size R2 R3 119 (0,0) (by rw[hWh];exact setRow_heap W1 w.heap.size ROW R2 119 (0,0) hW1N)
  by_cases hk:k=w.heap.size
  ·subst hk;rw[h1];simp
  ·simp only[World.setRow,hWh,hW1h,Array.getElem?_modify,Array.getElem?_push,if_neg hk,if_neg (Ne.symm hk)]
 clear hkk hik hold hG hR2 hR3 hROW hRt
 subst hW1
 have hE1:((w.alloc (.cells ROW 119)).drew).heap=(w.drew.alloc (.cells ROW 119)).heap:=rfl
 have hF1:(((w.alloc (.cells ROW 119)).drew.setRow w.heap.size R2).drew).heap=((w.drew.alloc (.cells ROW 119)).setRow w.heap.size R2).heap:=rfl
 have mixed:=mo
 go_enter Tryz.func173,Tryz.ntmps173
 go_wp2_with (first
  | (at_builtin;refine Lib.wpList_append_run _ rfl _ _ _ _ rfl _ _ rfl rfl _ _ (hrz _) ?_)
  | (at_builtin;refine wpList_copy_runI _ rfl _ _ 31 31 rfl _ _ rfl rfl (hcpA _ hE1 _ _) ?_)
  | (at_builtin;refine wpList_copy_runI _ rfl _ _ 31 31 rfl _ _ rfl rfl (hcpB _ hF1 _ _ _) ?_))
 go_region_law_o (refine step_copy_runI rfl _ _ 31 31 rfl (.slice (some ⟨w.heap.size,(i+1)*4,none⟩) (n-i) (G-(i+1))) (.slice (some ⟨b,off+i*4,none⟩) (n-i) (c-i)) (by simp[Act.eval,Act.put]) (by simp[Act.eval,Act.put]) (hcpB _ hF1 3 (G-(i+1)) (c-i)) ?_)
 go_wp2
 go_ret
 exact⟨G,R3,119,rfl,hGn,hheap _ rfl,hR3s,hfin,rfl,rfl,rfl⟩
set_option maxHeartbeats 4000000 in
set_option maxRecDepth 100000 in
theorem ins_shiftP(b off n c i vb voff vc:Nat)(cs vs:List Value)(w:World)(cur:Array Value)(t:TypeId)(fz:Nat×Nat)(cv:Array Value)(tv:TypeId)(fv:Nat×Nat)(hi:i<n)(hroom:n+1<=c)(hn63:n<=1048576)(hvb:vb≠b)
  (hcl:cs.length=n*4) (hvl:vs.length=4) (hg:w.heap[b]? = some (.cells cur t fz)) (hfz: ∀j,j<cur.size->¬(fz.1<=j∧j<fz.2)) (hfit:off+(n+1)*4<=cur.size) (hcs:(cur.toList.drop off).take (n*4)=cs)
  (hgv:w.heap[vb]? = some (.cells cv tv fv)) (hfv: ∀j,j<=cv.size->¬(fv.1<=j∧j<fv.2)) (hvo:voff<=cv.size)
  (hvs: ∀j v,vs[j]? = some v->w.cell? ⟨vb,voff+j,none⟩=some v) (h1c: ∀v∈cs,oneC v=true) (h1v: ∀v∈vs,oneC v=true) :
  Calls Tryz.prog 173 #[.slice (some ⟨b,off,none⟩) n c, .int .i64 i, .slice (some ⟨vb,voff,none⟩) 1 vc] w fun e w'=> ∃(R:Array Value),
   e = .returned (.slice (some ⟨b,off,none⟩) (n+1) c)∧w'.heap[b]? = some (.cells R t fz)∧R.size=cur.size∧(∀k,k≠b->w'.heap[k]? = w.heap[k]?)∧w'.heap.size=w.heap.size∧(R.toList.drop off).take ((n+1)*4)=cs.take (i*4)++vs++cs.drop (i*4) ∧
    w'.os=w.os∧w'.tape=w.tape∧w'.output=w.output:=by
 obtain⟨el,i0,z,ht,hi0,hz0,hzc,hpos,hsz,hby⟩:=tapp_spec tapp_31
 have hu41:Tryz.prog.underlying 31=some (.slice 119):=by kernel_rfl
 obtain rfl:el=119:=by rw[hu41] at ht;cases ht;rfl
 have hz2: ¬((i:Int)=(n:Int)):=by omega
 have hs4:(Tryz.prog.info? 119).map (·.size)=some 4:=by rw[hi0];simp[hsz]
 have hsz4: ∀w,(Go.sizeOf 119).run Tryz.prog w = .ok 4 w:=fun w=>by simp[sizeOf,typeInfo,hi0,hsz]
 have hdl:(cs.drop (i*4)).length=(n-i)*4:=by rw[length_drop,hcl];omega
 have htl:(cs.take (i*4)).length=i*4:=by rw[length_take];omega
 have hov: ∀lb cb,(callFunc 220 #[.slice (some ⟨vb,voff,none⟩) 1 vc, .slice (some ⟨b,off+(i+1)*4,none⟩) lb cb]).run Tryz.prog w = .ok (.value (.bool false)) w:=fun lb cb=>by
  rw[run_callFunc_extern Tryz.func220 (by kernel_rfl) (by kernel_rfl) (by kernel_rfl) (e:=Extern.SlicesOverlaps.overlaps #[31,31] #[4]) (by kernel_rfl),
   Lib.run_overlaps_apart w 31 4 119 hu41 4 hsz4 ⟨vb,voff,none⟩ ⟨b,off+(i+1)*4,none⟩ 1 vc lb cb hvb tv t cv.size cur.size (by unfold World.shape?;rw[hgv]) (by unfold World.shape?;rw[hg]) (by omega) ?_ ?_]
  ·rfl
  ·unfold World.frozen?;rw[hgv];have:=hfv voff hvo;simp;omega
  ·unfold World.frozen?;rw[hgv];have:=hfv cv.size (le_refl _);simp;omega
 obtain⟨R1,hR1⟩: ∃R1,R1=(HH.setRange cur.toList (off+(i+1)*4) (cs.drop (i*4))).toArray:=⟨_,rfl⟩
 obtain⟨R2,hR2⟩: ∃R2,R2=(HH.setRange R1.toList (off+i*4) vs).toArray:=⟨_,rfl⟩
 have hR1s:R1.size=cur.size:=by rw[hR1,size_toArray,HH.setRange_length (by simp[hdl];omega)];simp
 have hR2s:R2.size=cur.size:=by rw[hR2,size_toArray,HH.setRange_length (by simp[hvl,hR1s];omega)];simpa using hR1s
 have hcat: ∀j v,cs[j]? = some v->cur[off+j]? = some v:=fun j v hj=>by
  rw[←hcs,getElem?_take] at hj
  split at hj
  ·rw[getElem?_drop] at hj;simpa using hj
  ·cases hj
 have hfin:(R2.toList.drop off).take ((n+1)*4)=cs.take (i*4)++vs++cs.drop (i*4):=by
  have c1:cur.toList.length=cur.size:=by simp
  have e1:R1.toList=cur.toList.take (off+(i+1)*4)++cs.drop (i*4)++cur.toList.drop (off+(i+1)*4+(n-i)*4):=by
   rw[hR1]
   show HH.setRange cur.toList (off+(i+1)*4) (cs.drop (i*4))=_
   rw[HH.setRange,hdl]
  have l1:(cur.toList.take (off+(i+1)*4)).length=off+(i+1)*4:=by rw[length_take];omega
  have e2:R2.toList=R1.toList.take (off+i*4)++vs++R1.toList.drop (off+i*4+4):=by
   rw[hR2]
   show HH.setRange R1.toList (off+i*4) vs=_
   rw[HH.setRange,hvl]
  have e3:R1.toList.take (off+i*4)=cur.toList.take (off+i*4):=by
   rw[e1,append_assoc,List.take_append_of_le_length (by rw[l1];omega),List.take_take,min_eq_left (by omega)]
  have e4:R1.toList.drop (off+i*4+4)=cs.drop (i*4)++cur.toList.drop (off+(i+1)*4+(n-i)*4):=by
   rw[e1,append_assoc,show off+i*4+4=off+(i+1)*4 by omega,drop_left' l1]
  have l3:(cur.toList.take (off+i*4)).length=off+i*4:=by rw[length_take];omega
  have e5:(cur.toList.take (off+i*4)).drop off=cs.take (i*4):=by
   rw[←hcs,List.drop_take,List.take_take,min_eq_left (by omega)]
   congr 1;omega
  rw[e2,e3,e4,append_assoc,List.drop_append_of_le_length (by rw[l3];omega),e5, ←append_assoc vs, ←append_assoc, ←append_assoc]
  rw[take_left' (by rw[length_append,length_append,htl,hvl,hdl];omega)]
 have hdr:w.drew.heap=w.heap:=rfl
 have hcp1: ∀ty dc sc,(Builtin.copy_ #[31,31] ty #[.slice (some ⟨b,off+(i+1)*4,none⟩) (n-i) dc, .slice (some ⟨b,off+i*4,none⟩) (n+1-i) sc]).run Tryz.prog w.drew = .ok (goInt ((Nat.min (n+1-i) (n-i):Nat):Int)) (w.drew.setRow b R1):=fun ty dc sc=>by
  rw[hR1]
  refine run_copy_to w.drew _ _ ty 119 b (off+(i+1)*4) (n-i) dc ⟨b,off+i*4,none⟩ (n+1-i) sc (cs.drop (i*4)) 4 cur t fz hu41 hs4 (by rw[hdl];simp only[Nat.min_def];split<;>omega) (fun j v hj => ?_) hg hfz (by rw[hdl];omega) (fun v hv=>h1c v (List.mem_of_mem_drop hv))
  rw[getElem?_drop] at hj
  rw[Addr.add_lit,add_assoc]
  have:=hcat _ v hj
  unfold World.cell?
  rw[hdr]
  simp only[hg]
  simpa using this
 have hcp2: ∀(W:World),W.heap=(w.drew.setRow b R1).heap->∀ty dc,(Builtin.copy_ #[31,31] ty #[.slice (some ⟨b,off+i*4,none⟩) (n+1-i) dc, .slice (some ⟨vb,voff,none⟩) 1 vc]).run Tryz.prog W = .ok (goInt ((Nat.min 1 (n+1-i):Nat):Int)) (W.setRow b R2):=fun W hWh ty dc=>by
  rw[hR2]
  refine run_copy_to W _ _ ty 119 b (off+i*4) (n+1-i) dc ⟨vb,voff,none⟩ 1 vc vs 4 R1 t fz hu41 hs4 (by rw[hvl];simp only[Nat.min_def];split<;>omega) (fun j v hj => ?_) (by rw[hWh];exact setRow_heap w.drew b cur R1 t fz hg) (by rw[hR1s];exact hfz) (by rw[hvl,hR1s];omega) h1v
  have:=hvs j v hj
  rw[Addr.add_lit]
  unfold World.cell? at this ⊢
  rw[hWh]
  simpa[World.setRow,hdr,Array.getElem?_modify,Ne.symm hvb] using this
 have hw1:IntKind.i64.wrap ((i:Int)+1)=(i:Int)+1:=by rw[IntKind.wrap_i64];omega
 have hw2:IntKind.i64.wrap ((n:Int)+1)=(n:Int)+1:=by rw[IntKind.wrap_i64];omega
 have hb1:(0:Int)<=(i:Int)+1:=by omega
 have hin:i<=n:=by omega
 have htn:((i:Int)+1).toNat=i+1:=by omega
 have htn2:((n:Int)+1).toNat=n+1:=by omega
 have hb2: ¬(c=i+1):=by omega
 have hb3:(i:Int)<=(n:Int)+1:=by omega
 have hb4: ¬(c=i):=by omega
 have hb5: ¬(c<n+1):=by omega
 have hb6: ¬((c:Int)<(n:Int)+1):=by omega
 have hend: ∀W:World,W.heap=(w.drew.setRow b R1).heap->(W.setRow b R2).heap[b]? = some (.cells R2 t fz)∧(∀k,k≠b->(W.setRow b R2).heap[k]? = w.heap[k]?)∧(W.setRow b R2).heap.size=w.heap.size:=fun W hWh=>by
  refine⟨setRow_heap W b R1 R2 t fz (by rw[hWh];exact setRow_heap w.drew b cur R1 t fz hg),fun k hk => ?_, ?_⟩
  ·simp[World.setRow,hWh,hdr,Array.getElem?_modify,Ne.symm hk]
  ·simp[World.setRow,hWh,hdr]
 clear hR2 hR1 hcat
 have mixed:=mo
 have hF1:(w.drew.setRow b R1).heap=(w.drew.setRow b R1).heap:=rfl
 go_enter Tryz.func173,Tryz.ntmps173
 go_wp2_with (simp only[hov])
 go_region_law_o (refine step_copy_runI rfl _ _ 31 31 rfl (.slice (some ⟨b,off+(i+1)*4,none⟩) (n-i) (c-(i+1))) (.slice (some ⟨b,off+i*4,none⟩) (n+1-i) (c-i)) (by simp[Act.eval,Act.put]) (by simp[Act.eval,Act.put]) (hcp1 3 (c-(i+1)) (c-i)) ?_)
 go_wp2_with (at_builtin;refine wpList_copy_runI _ rfl _ _ 31 31 rfl _ _ rfl rfl (hcp2 _ hF1 _ _) ?_)
 go_ret
 exact⟨R2,rfl,(hend _ rfl).1,hR2s,(hend _ rfl).2.1,(hend _ rfl).2.2,hfin,rfl,rfl,rfl⟩
set_option maxHeartbeats 4000000 in
set_option maxRecDepth 100000 in
theorem ins_oneV(a:Addr)(vb voff vc:Nat)(vs:List Value)(w:World)(hvl:vs.length=4)(hvs: ∀j v,vs[j]? = some v->w.cell? ⟨vb,voff+j,none⟩=some v) :
  Calls Tryz.prog 139 #[.slice (some a) 0 0, .int .i64 0, .slice (some ⟨vb,voff,none⟩) 1 vc] w fun e w'=> ∃(G:Nat) (C:Array Value) (el:TypeId),
   e = .returned (.slice (some ⟨w.heap.size,0,none⟩) 1 G)∧1<=G∧w'.heap=w.heap.push (.cells C el (0,0))∧C.size=G*4∧C.toList.take 4=vs∧w'.os=w.os∧w'.tape=w.tape∧w'.output=w.output:=by
 obtain⟨el,i0,z,ht,hi0,hz0,hzc,hpos,hsz,hby⟩:=tapp_spec tapp_41
 have hu41:Tryz.prog.underlying 41=some (.slice 110):=by kernel_rfl
 obtain rfl:el=110:=by rw[hu41] at ht;cases ht;rfl
 obtain⟨G,hG⟩: ∃G,G=grownCap w 1 0 110:=⟨_,rfl⟩
 obtain⟨C,hC⟩: ∃C:Array Value,C= #[]++vs.toArray++Builtin.zeroCells z.cells (G-1):=⟨_,rfl⟩
 have hrun: ∀ty,(Builtin.append_ #[41,41] ty #[.slice (some a) 0 0, .slice (some ⟨vb,voff,none⟩) 1 vc]).run Tryz.prog w = .ok (.slice (some ⟨w.heap.size,0,none⟩) 1 G) (w.drew.alloc (.cells C 110)):=fun ty=>by
  have h:=run_append_grow (P:=Tryz.prog) w 41 ty 110 i0 z ht hi0 hz0 a 0 0 [] (by simp) (by simp) ⟨vb,voff,none⟩ 1 vc vs (by rw[hvl,hsz]) (fun j v hj=>by rw[Addr.add_lit];exact hvs j v hj) (by omega) (by omega) (growslice_fits (by omega) (by rw[hby];omega))
  rw[hC,hG]
  simpa using h
 have hGn:1<=G:=by rw[hG];exact grownCap_ge w _ _ _
 have hCs:C.size=G*4:=by rw[hC,Array.size_append,size_zeroCells,hzc,hsz];simp[hvl];omega
 have hCt:C.toList.take 4=vs:=by
  rw[hC]
  simp only[Array.toList_append,nil_append]
  rw[List.take_append_of_le_length (by simp[hvl]),take_of_length_le (by simp[hvl])]
 clear hG hC
 have mixed:=mo
 obtain⟨ab,ao,asp⟩:=a
 go_enter Tryz.func139,Tryz.ntmps139
 go_wp2_with (at_builtin;refine Lib.wpList_append_run _ rfl _ _ _ _ rfl _ _ rfl rfl _ _ (hrun _) ?_)
 all_goals (go_ret;exact⟨G,C,110,rfl,hGn,rfl,hCs,hCt,rfl,rfl,rfl⟩)
open Go.HH
def oth(p:Pip)(x:Int):Int:=if x=p.2.1 then p.2.2.1 else if x=p.2.2.1 then p.2.1 else 0
def but(P:List Pip)(wo:Int):List Pip:=P.filter fun p=>decide (p.1≠wo)
theorem ends.but{N:Int}{P:List Pip}(he:ends N P)(wo:Int):ends N (but P wo):=fun p hp=>he p (mem_filter.1 hp).1
theorem but_none{P:List Pip}{wo:Int}(h: ∀p∈P,p.1≠wo):but P wo=P:=by
 unfold but;rw[List.filter_eq_self];intro p hp;simpa using h p hp
theorem oth_pos{N:Int}{P:List Pip}(he:ends N P){p:Pip}(hp:p∈P){x:Int}(h:0<oth p x):(x=p.2.1∧oth p x=p.2.2.1)∨(x=p.2.2.1∧oth p x=p.2.1):=by
 unfold oth at *
 split at h
 ·rename_i h1;exact .inl ⟨h1,by rw[if_pos h1]⟩
 ·rename_i h1
  split at h
  ·rename_i h2;exact .inr ⟨h2,by rw[if_neg h1,if_pos h2]⟩
  ·omega
theorem oth_range{N:Int}{p:Pip}(hp:(1<=p.2.1∧p.2.1<=N)∧(1<=p.2.2.1∧p.2.2.1<=N)∧p.2.1≠p.2.2.1){x:Int}(h:0<oth p x):1<=oth p x∧oth p x<=N:=by
 unfold oth at *
 split at h
 ·rename_i h1;rw[if_pos h1];omega
 ·rename_i h1
  split at h
  ·rename_i h2;rw[if_neg h1,if_pos h2];omega
  ·omega
theorem oth_adj{N:Int}{P:List Pip}(he:ends N P){p:Pip}{wo:Int}(hp:p∈P)(hw:p.1≠wo){x:Int}(h:0<oth p x):adj (but P wo) x (oth p x)∧1<=oth p x∧oth p x<=N:=by
 have h1:=he p hp
 have hm:p∈but P wo:=mem_filter.2 ⟨hp,by simpa using hw⟩
 rcases oth_pos he hp h with⟨h2,h3⟩|⟨h2,h3⟩
 ·exact⟨⟨p,hm, .inl ⟨h2.symm,h3.symm⟩⟩,by omega,by rw[h3];omega⟩
 ·exact⟨⟨p,hm, .inr ⟨h2.symm,h3.symm⟩⟩,by omega,by rw[h3];omega⟩
theorem adj_oth{N:Int}{P:List Pip}(he:ends N P){wo x c:Int}(h:adj (but P wo) x c): ∃p∈P,p.1≠wo∧oth p x=c∧0<c:=by
 obtain⟨p,hp,h⟩:=h
 obtain⟨hp,hw⟩:=mem_filter.1 hp
 have h1:=he p hp
 refine⟨p,hp,by simpa using hw, ?_⟩
 unfold oth
 rcases h with⟨rfl,rfl⟩|⟨rfl,rfl⟩
 ·rw[if_pos rfl];exact⟨rfl,by omega⟩
 ·rw[if_neg (by omega),if_pos rfl];exact⟨rfl,by omega⟩
structure Bin(P:List Pip)(wo s:Int)(N:Nat)(D:List Int)(q:Int)(R:List Int)(i:Nat):Prop where
 b:Bfs (but P wo) s N D (q::R)
 pr: ∀(j:Nat) (hj:j<P.length),j<i->P[j].1≠wo->0<oth P[j] q->0<=dv D (oth P[j] q)∧dv D (oth P[j] q)<=dv D q+1
section
variable {P:List Pip} {wo s:Int} {N:Nat} {D:List Int} {q:Int} {R:List Int}
theorem Bin.init(b:Bfs (but P wo) s N D (q::R)):Bin P wo s N D q R 0:=⟨b,fun j _ hj=>absurd hj (by omega)⟩
theorem Bin.skip(he:ends N P){i:Nat}(b:Bin P wo s N D q R i)(hi:i<P.length)(hno: ¬(0<oth P[i] q∧P[i].1≠wo∧dv D (oth P[i] q)<0)):Bin P wo s N D q R (i+1):=by
 refine⟨b.b,fun j hj hji h1 h2 => ?_⟩
 by_cases hj2:j<i
 ·exact b.pr j hj hj2 h1 h2
 ·obtain rfl:j=i:=by omega
  have h3:=oth_adj he (getElem_mem hj) h1 h2
  have h4:=b.b.top q (by simp) (oth P[j] q) h3.2.1 h3.2.2
  have: ¬dv D (oth P[j] q)<0:=fun h=>hno ⟨h2,h1,h⟩
  omega
theorem Bin.push(he:ends N P)(hs:1<=s∧s<=N){i:Nat}(b:Bin P wo s N D q R i)(hi:i<P.length)(h1:0<oth P[i] q)(h2:P[i].1≠wo)(h3:dv D (oth P[i] q)<0) :
  Bin P wo s N (D.set (oth P[i] q).toNat (dv D q+1)) q (R++ [oth P[i] q]) (i+1):=by
 obtain⟨ha,hb⟩:=oth_adj he (getElem_mem hi) h2 h1
 have hq:=b.b.qin q (by simp)
 have hl:(oth P[i] q).toNat<D.length:=by rw[b.b.len];omega
 have hqv:dv (D.set (oth P[i] q).toNat (dv D q+1)) q=dv D q:=by
  rw[dv_set hb.1 hq.1.1 hl,if_neg]
  intro h;rw[←h] at h3;omega
 refine⟨b.b.push hs hb ha h3,fun j hj hji g1 g2 => ?_⟩
 have g3:=oth_adj he (getElem_mem hj) g1 g2
 rw[hqv,dv_set hb.1 g3.2.1 hl]
 split
 ·omega
 ·rename_i hne
  by_cases hj2:j<i
  ·exact b.pr j hj hj2 g1 g2
  ·obtain rfl:j=i:=by omega
   exact absurd rfl hne
theorem Bin.done(he:ends N P)(b:Bin P wo s N D q R P.length):Bfs (but P wo) s N D R:=by
 refine b.b.pop fun c hc => ?_
 obtain⟨p,hp,hw,ho,hc⟩:=adj_oth he hc
 obtain⟨j,hj,rfl⟩:=mem_iff_getElem.1 hp
 have:=b.pr j hj hj hw (by omega)
 rwa [ho] at this
end
def neg(D:List Int):Nat:=D.countP fun x=>decide (x<0)
theorem neg_set{D:List Int}{v x:Int}(hv:1<=v)(hl:v.toNat<D.length)(h:dv D v<0)(hx:0<=x):neg (D.set v.toNat x)+1=neg D:=by
 unfold neg dv at *
 rw[List.countP_set (by exact hl)]
 have h1:D[v.toNat]<0:=by simpa[List.getD,hl] using h
 have h2:0<D.countP fun x=>decide (x<0):=List.countP_pos_iff.2 ⟨_,getElem_mem hl,by simpa using h1⟩
 simp[h1,show ¬x<0 by omega]
 omega
def Top(D:List Int)(N:Nat):Prop:= ∀v:Int,1<=v->v<=N->dv D v+neg D<=N
theorem Top.init{N:Nat}{s:Int}(hs:1<=s∧s<=N):Top ((List.replicate (N+1) (-1:Int)).set s.toNat 0) N:=by
 have h0:dv (List.replicate (N+1) (-1:Int)) s<0:=by
  have:s.toNat<N+1:=by omega
  simp[dv,List.getD,this]
 have h1:=neg_set (D:=List.replicate (N+1) (-1:Int)) (v:=s) (x:=0) hs.1 (by simp;omega) h0 (by omega)
 have h2:neg (List.replicate (N+1) (-1:Int))=N+1:=by simp[neg,List.countP_replicate]
 intro v hv1 hv2
 rw[dv_set hs.1 hv1 (by simp;omega)]
 have:dv (List.replicate (N+1) (-1:Int)) v = -1:=by
  have:v.toNat<N+1:=by omega
  simp[dv,List.getD,this]
 split<;>omega
theorem Top.set{N:Nat}{D:List Int}{q to:Int}(t:Top D N)(hq:1<=q∧q<=N)(ht:1<=to∧to<=N)(hl:D.length=N+1)(h:dv D to<0)(h0:0<=dv D q):Top (D.set to.toNat (dv D q+1)) N:=by
 have h1:=neg_set (D:=D) (v:=to) (x:=dv D q+1) ht.1 (by omega) h (by omega)
 intro v hv1 hv2
 rw[dv_set ht.1 hv1 (by omega)]
 have h2:=t q hq.1 hq.2
 have h3:=t v hv1 hv2
 split<;>omega
section
variable {h:Heap} {M:Nat->Prop}
theorem c_other(p:Pip)(x:Int):vCall [] Tryz.prog M 119 [.agg #[.int .i64 p.1, .int .i64 p.2.1, .int .i64 p.2.2.1, .int .i64 p.2.2.2], .int .i64 x] h (fun r h'=>r = .int .i64 (oth p x)∧h<+:h'):=by
 refine bo Tryz.func119 rfl rfl ?_
 simp only[go_sem]
 by_cases h1:x=p.2.1
 ·simp only[go_sem,show (x==p.2.1)=true by simpa using h1]
  rw[oth,if_pos h1]
 ·simp only[go_sem,show (x==p.2.1)=false by simpa using h1]
  by_cases h2:x=p.2.2.1
  ·simp only[go_sem,show (x==p.2.2.1)=true by simpa using h2]
   rw[oth,if_neg h1,if_pos h2]
  ·simp only[go_sem,show (x==p.2.2.1)=false by simpa using h2]
   rw[oth,if_neg h1,if_neg h2]
theorem c_distances {n : Nat} (v : Value) (N : Nat) (P : List Pip) (s wo : Int) (hv : NA n h v N P) (g : netGood N P) (hs : 1 ≤ s ∧ s ≤ N) :
    vCall [] Tryz.prog M 185 [v, .int .i64 s, .int .i64 wo] h (fun r h' => (∃ D, FI h.length h'.length h' r D ∧ Bfs (but P wo) s N D []) ∧ h <+: h') := by
  obtain ⟨w, rfl, sP⟩ := hv
  replace sP : Sl h 4 w (P.map pip) := sP.1
  obtain ⟨a, rfl⟩ := Sl.len4 sP
  have hN : N ≤ 8 := by have := g.2.1; omega
  have hP : P.length ≤ 10 := g.2.2
  have he := g.ends
  refine bo Tryz.func185 rfl rfl ?_
  simp only [go_sem]
  have w1 : IntKind.i64.wrap ((N : Int) + 1) = ((N + 1 : Nat) : Int) := by rw [wrap64 (by omega)]; omega
  simp only [go_sem, w1]
  refine ⟨by omega, by omega, ?_⟩
  refine vLoop.count mo (N + 1) (fun i e h' => e 0 = .agg #[.int .i64 N, .slice a P.length 0] ∧ e 1 = .int .i64 s ∧ e 2 = .int .i64 wo ∧ e 3 = .pointer (some ⟨h.length, 0, none⟩) ∧ e 7 = .slice (some ⟨h.length + 1, 0, none⟩) (N + 1) 0 ∧
    e 18 = .int .i64 ((N + 1 : Nat) : Int) ∧ e 19 = .int .i64 i ∧ h' = h ++ [⟨[.int .i64 N, .slice a P.length 0], 2, .rw⟩, ⟨List.replicate i (.int .i64 (-1)) ++ List.replicate (N + 1 - i) (.int .i64 0), 1, .rw⟩]) ?_ ?_
  · refine ⟨rfl, rfl, rfl, rfl, rfl, rfl, rfl, ?_⟩
    simp [zeros_one, List.replicate_succ]
  · rintro i e _ hi ⟨e0, e1, e2, e3, e7, e18, e19, rfl⟩
    simp only [go_sem, e7, e18, e19]
    refine .intro (fun h1 => ?_) (fun h1 => ?_)
    · have hlt : i < N + 1 := by have := of_decide_eq_true h1; omega
      have hz : (i : Int) < (N + 1 : Nat) := by omega
      have hr : setRange (List.replicate i (Value.int .i64 (-1)) ++ List.replicate (N + 1 - i) (.int .i64 0)) i [.int .i64 (-1)] = List.replicate (i + 1) (.int .i64 (-1)) ++ List.replicate (N + 1 - (i + 1)) (.int .i64 0) := by
        have e1 : N + 1 - i = (N + 1 - (i + 1)) + 1 := by omega
        rw [e1, List.replicate_succ, List.replicate_succ', setRange, take_left' (by simp), List.drop_append]
        simp
      simp only [go_sem, e0, e1, e2, e3, e7, e18, e19, hz, hr, List.length_replicate]
      rw [wrap64 (by omega)]
      exact ⟨by omega, hlt, rfl⟩
    · obtain rfl : i = N + 1 := by have := of_decide_eq_false h1
                                   omega
      have hz : s < (N + 1 : Nat) := by omega
      have hs0 : 0 ≤ s := by omega
      have hr : setRange (List.replicate (N + 1) (Value.int .i64 (-1)) ++ List.replicate (N + 1 - (N + 1)) (.int .i64 0)) s.toNat [.int .i64 0] = ((List.replicate (N + 1) (-1 : Int)).set s.toNat 0).map iv := by
        rw [sub_self, List.replicate_zero, append_nil, ← setRange_one (by simp; omega), List.map_set, List.map_replicate]
        rfl
      simp only [go_sem, e0, e1, e2, e3, e7, hz, hs0, hr, List.length_replicate]
      refine ⟨by omega, ?_⟩
      refine vLoop.rank mo (2 * neg ((List.replicate (N + 1) (-1 : Int)).set s.toNat 0) + 1) (fun m e h' => ∃ (D Q : List Int) (t : Heap) (vq : Value), Regs e [(2, .int .i64 wo), (3, .pointer (some ⟨h.length, 0, none⟩)), (7, .slice (some ⟨h.length + 1, 0, none⟩) (N + 1) 0), (9, vq)] ∧
        HeapIs h' (h ++ (⟨[.int .i64 N, .slice a P.length 0], 2, .rw⟩ :: ⟨D.map iv, 1, .rw⟩ :: t)) ∧ OI h.length 2 t vq Q ∧ Bfs (but P wo) s N D Q ∧ Top D N ∧ 2 * neg D + Q.length ≤ m ∧ m ≤ 100) ?_ ?_
      · exact ⟨_, [s], [⟨[.int .i64 s], 1, .rw⟩], .slice (some ⟨h.length + 2, 0, none⟩) 1 0, (by simp [Regs, upd, put, env0, e2, e3, e7]), HeapIs.rfl, .mk' 0 rfl rfl rfl, Bfs.init hs, Top.init hs, by simp, by have := List.countP_le_length (p := fun x : Int => decide (x < 0)) (l := (List.replicate (N + 1) (-1 : Int)).set s.toNat 0); simp at this; unfold neg; omega⟩
      · clear hr hz e0 e1 e2 e3 e7 e18 e19 h1
        rintro m e _ ⟨D, Q, t, vq, ⟨e2, e3, e7, e9, _⟩, rfl, oi, b, tp, hm, hm2⟩
        obtain ⟨j, off, cs, rfl, hj, hcs, hQ⟩ := id oi
        simp only [go_sem, e2, e3, e7, e9]
        cases Q with
        | nil =>
          simp only [go_sem, length_nil, e7]
          refine ⟨D, ?_, b⟩
          refine FI.at' (by rw [b.len]) (by omega) (by simp) ?_
          simp only [go_sem]
        | cons q R =>
          simp only [go_sem, length_cons, show (0 : Int) < ((R.length + 1 : Nat) : Int) by omega, e2, e3, e7, e9]
          obtain ⟨hq1, hq2⟩ := b.qin q (by simp)
          refine vLoop.count mo P.length (fun i e h' => ∃ (D R : List Int) (t : Heap) (vq : Value), Regs e [(2, .int .i64 wo), (3, .pointer (some ⟨h.length, 0, none⟩)), (7, .slice (some ⟨h.length + 1, 0, none⟩) (N + 1) 0), (9, vq), (37, .slice a P.length 0), (38, .int .i64 P.length), (39, .int .i64 i)] ∧
            HeapIs h' (h ++ (⟨[.int .i64 N, .slice a P.length 0], 2, .rw⟩ :: ⟨D.map iv, 1, .rw⟩ :: t)) ∧ OI h.length 2 t vq (q :: R) ∧ Bin P wo s N D q R i ∧ Top D N ∧ 2 * neg D + (R.length + 1) ≤ m) ?_ ?_
          · exact ⟨D, R, t, _, (by simp [Regs, upd, put, env0, e2, e3, e7, e9]), HeapIs.rfl, oi, Bin.init b, tp, hm⟩
          · clear b hm tp hq2 hj hcs hQ e2 e3 e7 e9 oi
            rintro i e _ hi ⟨D, R, t, vq, ⟨e2, e3, e7, e9, e37, e38, e39, _⟩, rfl, oi, b, tp, hm⟩
            obtain ⟨j, off, cs, rfl, hj, hcs, hQ⟩ := id oi
            have hcell := drop_head hQ
            have hq2 := (b.b.qin q (by simp)).2
            simp only [go_sem, e2, e3, e7, e9, e37, e38, e39, length_cons]
            by_cases hlt : i < P.length
            · have hlt' : i < (P.map pip).length := by simpa using hlt
              have hz : (i : Int) < P.length := by omega
              have ws := wsucc hlt (by omega)
              obtain ⟨id, o, k, hv, hk, _, hd, hb, hrow, hat⟩ := sP.at hlt'
              obtain rfl : a = some ⟨id, o, none⟩ := by simpa using hv
              rw [getElem_map] at hrow
              simp only [pip] at hrow
              have z1 : (0 : Int) < ((R.length + 1 : Nat) : Int) := by omega
              have hlen : D.length = N + 1 := b.b.len
              have hdv : ∀ x : Int, 0 ≤ x → x ≤ N → (D.map iv)[x.toNat]? = some (.int .i64 (dv D x)) := fun x h0 h1 => by
                have : x.toNat < D.length := by omega
                rw [getElem?_map, getElem?_eq_getElem this, dv, List.getD, getElem?_eq_getElem this]; rfl
              simp only [go_sem, e2, e3, e7, e9, e37, e38, e39, length_cons, hz, hk, hd, hb, hrow, hj, app_old hj, hcell, z1]
              refine (c_other _ _).go ?_
              rintro _ _ ⟨rfl, ⟨t2, rfl⟩⟩
              have g1 := hdv q (by omega) (by omega)
              have stay : ¬ (0 < oth P[i] q ∧ P[i].1 ≠ wo ∧ dv D (oth P[i] q) < 0) → Bin P wo s N D q R (i + 1) := fun hh => b.skip he hlt hh
              by_cases c1 : 0 < oth P[i] q
              · have c1' := oth_range (he _ (getElem_mem hlt)) c1
                have g2 := hdv (oth P[i] q) (by omega) (by omega)
                have z2 : 0 ≤ oth P[i] q := by omega
                have z3 : oth P[i] q < ((N + 1 : Nat) : Int) := by omega
                have z4 : 0 ≤ q := by omega
                have z5 : q < ((N + 1 : Nat) : Int) := by omega
                by_cases c2 : P[i].1 = wo
                · simp only [go_sem, e2, e3, e7, e9, e37, e38, e39, length_cons, c1, show (P[i].1 != wo) = false by simpa using c2]
                  exact ⟨hlt, D, R, _, _, (by simp [Regs, upd, put, env0, e2, e3, e7, e9, e37, e38, e39, length_cons, ws]), HeapIs.rfl, oi.mono _, stay (fun hh => hh.2.1 c2), tp, hm⟩
                · simp only [go_sem, e2, e3, e7, e9, e37, e38, e39, length_cons, c1, show (P[i].1 != wo) = true by simpa using c2, z2, z3, g2, length_map]
                  by_cases c3 : dv D (oth P[i] q) < 0
                  · have w3 : IntKind.i64.wrap (dv D q + 1) = dv D q + 1 := by
                      have := tp q hq1.1 hq1.2
                      exact wrap64 (by omega)
                    have hset : setRange (D.map iv) (oth P[i] q).toNat [.int .i64 (dv D q + 1)] = (D.set (oth P[i] q).toNat (dv D q + 1)).map iv := by
                      rw [← setRange_one (by simp; omega), List.map_set]; rfl
                    have hng := neg_set (D := D) (v := oth P[i] q) (x := dv D q + 1) (by omega) (by omega) c3 (by omega)
                    simp only [go_sem, e2, e3, e7, e9, e37, e38, e39, length_cons, c3, z1, z2, z3, z4, z5, app_old hj, hcell, g1, g2, w3, hset, length_map, hcs]
                    refine ⟨by omega, hcs, by omega, by omega, hlt, D.set (oth P[i] q).toNat (dv D q + 1), R ++ [oth P[i] q], _, _, ⟨e2, e3, e7, rfl, e37, e38, congrArg _ ws, trivial⟩, HeapIs.rfl, (.mk' (t.length + (t2.length + 1 + 1)) ?_ (by simp) ?_), b.push he hs hlt c1 c2 c3, tp.set hq1 c1' hlen c3 hq2, by simp; omega⟩
                    · simp
                    · rw [hQ]
                      exact (new_at (by simp)).trans (by simp [iv])
                  · simp only [go_sem, e2, e3, e7, e9, e37, e38, e39, length_cons, c3]
                    exact ⟨hlt, D, R, _, _, (by simp [Regs, upd, put, env0, e2, e3, e7, e9, e37, e38, e39, length_cons, ws]), HeapIs.rfl, oi.mono _, stay (fun hh => c3 hh.2.2), tp, hm⟩
              · simp only [go_sem, e2, e3, e7, e9, e37, e38, e39, length_cons, c1]
                exact ⟨hlt, D, R, _, _, (by simp [Regs, upd, put, env0, e2, e3, e7, e9, e37, e38, e39, length_cons, ws]), HeapIs.rfl, oi.mono _, stay (fun hh => c1 hh.1), tp, hm⟩
            · obtain rfl : i = P.length := by omega
              have bd := Bin.done he b
              have w2 : ((R.length + 1 : Nat) : Int) - 1 = R.length := by omega
              simp only [go_sem, show ¬ ((P.length : Int) < P.length) by omega, e2, e3, e7, e9, e37, e38, e39, length_cons, hj]
              exact ⟨2 * neg D + R.length, by omega, D, R, t, _, ⟨e2, e3, e7, rfl, trivial⟩, HeapIs.rfl, .tail j rfl (by omega) hj (by simp at hcs; omega) (drop_tail hQ), bd, tp, le_refl _, by omega⟩
end
end Go.Proofs.YtedidddimikjhaaGreatDoor
