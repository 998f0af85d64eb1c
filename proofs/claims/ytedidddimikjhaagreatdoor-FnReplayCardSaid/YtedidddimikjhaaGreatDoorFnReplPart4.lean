/- Texts of this claim, joined. No condition. -/
import Derived.Test.YtedidddimikjhaaGreatDoorFnReplPart3
import Derived.ChangeArms
import Derived.WideShapes
import Derived.LaidMore
import Derived.Lib.LaidTab
import Derived.Sort.Grow
import Derived.Deep.Draws
import Derived.Shelf.Strings.Builder1
import Derived.Shelf.Strings.Builder2
import Derived.Shelf.Strings.OnBuilder
import Derived.Shelf.Strconv.Atoi
import Derived.Shelf.Strconv.Itoa0
import Derived.Shelf.Strconv.Itoa1
import Derived.Shelf.LaysM
import Derived.Shelf.Strconv.Itoa2
import Derived.Shelf.Strconv.Itoa3
import Derived.Shelf.Strconv.AtoiErrFast
import Derived.Shelf.Strconv.ParseIntEmpty
import Derived.Shelf.Strconv.AtoiFail
import Derived.Shelf.Strconv.Clone
import Derived.Shelf.Strconv.SyntaxError
import Derived.Shelf.LaysC
import Derived.Shelf.Strconv.ToError
import Derived.Shelf.Strconv.AtoiErr
import Derived.Shelf.Strings.Search1
import Derived.Shelf.Strings.Search2
import Derived.Shelf.Strings.Search3
import Derived.Shelf.Strings.Cut
import Derived.Shelf.Strings.Count
import Derived.Shelf.Strings.Shaped
import Derived.Shelf.Unicode.DecodeSlow
import Derived.Test.YtedidddimikjhaaGreatDoorProg
import Derived.KernelRfl
open List (length_map prefix_append prefix_rfl length_append getElem?_eq_getElem getElem_mem getElem?_append_left getElem?_append_right length_cons all_eq_true take_length getElem?_drop map_cons drop_zero size_toArray length_pos_iff getElem?_take getElem?_map mem_append flatten_cons getElem?_set_ne take_add_one flatten_append mem_singleton drop_left' drop_drop take_append_drop)
open Nat (le_refl le_trans add_zero zero_le zero_add add_assoc lt_of_lt_of_le lt_succ_self)
set_option linter.unusedSimpArgs false
set_option linter.unusedVariables false
namespace Go.HH
open Go.RowKit Go.ChangeShapes Go.WideShapes
inductive Ty where
 | int (k:IntKind)|bool|str|unit|pair (a b:Ty)|struct (b:Ty)|slice (e:Ty)
def Ty.size:Ty->Nat
 | .unit=>0
 | .pair a b=>a.size+b.size
 | .struct b=>b.size
 | _=>1
def Fits(h:Heap):Ty->List Value->Prop
 | .int k,cs=> ∃n,cs= [.int k n]∧(Lit.int k n).wf=true
 | .bool,cs=> ∃b,cs= [.bool b]
 | .str,cs=> ∃s:ByteArray,cs= [.string s]∧s.size<=maxLen
 | .unit,cs=>cs= []
 | .pair a b,cs=> ∃c1 c2,cs=c1++c2∧Fits h a c1∧Fits h b c2
 | .struct b,cs=>Fits h b cs
 | .slice e,cs=>cs= [.slice none 0 0]∨∃(id:Nat) (rows:List (List Value)),cs= [.slice (some ⟨id,0,none⟩) rows.length 0]∧hget h id=some ⟨rows.flatten,e.size, .ro⟩ ∧
   rows.length<=maxLen∧∀r∈rows,Fits h e r
theorem Fits.mono{h h':Heap}(hp:h<+:h'): ∀ {ty:Ty} {cs:List Value},Fits h ty cs->Fits h' ty cs
 | .int _,_,f=>f
 | .bool,_,f=>f
 | .str,_,f=>f
 | .unit,_,f=>f
 | .pair _ _,_,⟨c1,c2,e,f1,f2⟩=>⟨c1,c2,e,f1.mono hp,f2.mono hp⟩
 | .struct b,_,f=>Fits.mono (ty:=b) hp f
 | .slice _,_, .inl e => .inl e
 | .slice _,_, .inr ⟨id,rows,e,hg,hl,hf⟩ => .inr ⟨id,rows,e,by rw[hget_prefix hp (hget_lt hg)];exact hg,hl,fun r hr=>(hf r hr).mono hp⟩
theorem Fits.length{h:Heap}: ∀ {ty:Ty} {cs:List Value},Fits h ty cs->cs.length=ty.size
 | .int _,_,⟨_,e,_⟩=>by subst e;rfl
 | .bool,_,⟨_,e⟩=>by subst e;rfl
 | .str,_,⟨_,e,_⟩=>by subst e;rfl
 | .unit,_,e=>by cases e;rfl
 | .pair _ _,_,⟨c1,c2,e,f1,f2⟩=>by subst e;rw[length_append,f1.length,f2.length];rfl
 | .struct b,_,f=>Fits.length (ty:=b) f
 | .slice _,_, .inl e=>by subst e;rfl
 | .slice _,_, .inr ⟨_,_,e,_⟩=>by subst e;rfl
def chk(P:Program):Ty->TypeId ⊕ (List Field×Nat)->Bool
 | .int k, .inl t=>match P.underlying t with
  | some (.int k')=>decide (k'=k)
  | _=>false
 | .bool, .inl t=>match P.underlying t with
  | some .bool=>true
  | _=>false
 | .str, .inl t=>match P.underlying t with
  | some .string=>true
  | _=>false
 | .struct b, .inl t=>match P.underlying t with
  | some (.struct fs)=>decide (P.cellsOf t=b.size)&&chk P b (.inr (fs.toList,0))
  | _=>false
 | .slice e, .inl t=>match P.underlying t with
  | some (.slice el)=>decide (P.cellsOf el=e.size)&&decide (0<e.size)&&chk P e (.inl el)
  | _=>false
 | .unit, .inr ([],_)=>true
 | .pair a b, .inr (f::fs,off)=>decide (f.offset=off)&&decide (P.cellsOf f.type=a.size)&&chk P a (.inl f.type)&&chk P b (.inr (fs,off+a.size))
 | _,_=>false
def CRel(p:Phi)(l l':List Value):Prop:=l.length=l'.length∧∀(i:Nat) (v:Value),l[i]? = some v->∃v',l'[i]? = some v'∧VRel p v v'
theorem CRel.mono{p q:Phi}(hp:p.le q){l l':List Value}(r:CRel p l l'):CRel q l l':=
 ⟨r.1,fun i v e=>let ⟨v',e',h⟩:=r.2 i v e;⟨v',e',h.mono hp⟩⟩
theorem CRel.nil{p:Phi}:CRel p [] []:=⟨rfl,fun i v e=>by simp at e⟩
theorem CRel.one{p:Phi}{v v':Value}(h:VRel p v v'):CRel p [v] [v']:=⟨rfl,fun i u e=>by
 cases i with
 | zero=>simp at e;subst e;exact⟨v',rfl,h⟩
 | succ i=>simp at e⟩
theorem CRel.append{p:Phi}{a a' b b':List Value}(h1:CRel p a a')(h2:CRel p b b'):CRel p (a++b) (a'++b'):=by
 refine⟨by simp[h1.1,h2.1],fun i v e => ?_⟩
 rw[List.getElem?_append] at e ⊢
 rw[←h1.1]
 split at e
 ·rename_i hi;rw[if_pos hi];exact h1.2 i v e
 ·rename_i hi;rw[if_neg hi];exact h2.2 _ v e
def allRo(h:Heap):Prop:= ∀(id:Nat) (k:Blk),h[id]? = some k->k.st = .ro
structure Good(W:World)(ty:Ty)(p:Phi)(h:Heap)(cs:List Value)(p':Phi)(h':Heap)(hcs:List Value):Prop where
 rel:HRel [] p' h' W
 le:p.le p'
 pre:h<+:h'
 ro:allRo h'
 cells:CRel p' hcs cs
 fits:Fits h' ty hcs
theorem HRel.pushRo{p:Phi}{h:Heap}{W:World}(hr:HRel [] p h W)(ro:allRo h){k:Blk}(hk:k.st = .ro) :
  HRel [] p (h++ [k]) W∧allRo (h++ [k]):=by
 refine⟨⟨fun g hg=>by simp at hg,fun id t e => ?_,fun id t k' ht e ek hd => ?_,fun id t k' e ek => ?_,fun id id' t t' k1 k2 e e' ek ek' hrw => ?_⟩, ?_⟩
 ·have:=hr.dom id t e
  exact⟨by simp;omega,this.2⟩
 ·have:=hr.dom id t e
  rw[getElem?_append_left this.1] at ek
  exact hr.blk id t k' ht e ek hd
 ·have:=hr.dom id t e
  rw[getElem?_append_left this.1] at ek
  exact hr.esz id t k' e ek
 ·have:=hr.dom id t e
  rw[getElem?_append_left this.1] at ek
  rw[ro id k1 ek] at hrw;cases hrw
 ·intro id k' e
  rw[List.getElem?_append] at e
  split at e
  ·exact ro id k' e
  ·have:id-h.length=0:=by
    rcases Nat.eq_zero_or_pos (id-h.length) with h0|h0
    ·exact h0
    ·rw[List.getElem?_eq_none (by simp;omega)] at e;cases e
   rw[this] at e
   simp at e
   subst e;exact hk
theorem HRel.pushAt{p:Phi}{h:Heap}{W:World}(hr:HRel [] p h W)(ro:allRo h){k:Blk}(hk:k.st = .ro){t:Tgt}(hb:BRel p k t W)(hp:p h.length=none) :
  ∃q,HRel [] q (h++ [k]) W∧p.le q∧q h.length=some t:=by
 obtain⟨hr',ro'⟩:=hr.pushRo ro hk
 have hle:p.le (fun id=>if id=h.length then some t else p id):=fun id t' e=>by
  by_cases hi:id=h.length
  ·subst hi;rw[hp] at e;cases e
  ·simp[hi,e]
 have hwb:t.b<W.heap.size:=by
  obtain⟨c,el,fr,e,_⟩:=hb.row
  exact (Array.getElem?_eq_some_iff.1 e).1
 have hb':BRel (fun id=>if id=h.length then some t else p id) k t W:=by
  obtain⟨c,el,fr,e1,e2,e3,e4,e5⟩:=hb.row
  exact⟨hb.esz,c,el,fr,e1,e2,e3,fun i v ei=>let ⟨v',a,b⟩:=e4 i v ei;⟨v',a,b.mono hle⟩,e5⟩
 refine⟨fun id=>if id=h.length then some t else p id,⟨fun g hg=>by simp at hg,fun id t' e => ?_,fun id t' k' ht e ek hd => ?_,fun id t' k' e ek => ?_,fun id id' t t' k1 k2 e e' ek ek' hrw => ?_⟩,hle,by simp⟩
 ·by_cases hi:id=h.length
  ·subst hi;simp at e;subst e;exact⟨by simp,hwb⟩
  ·simp[hi] at e;exact hr'.dom id t' e
 ·by_cases hi:id=h.length
  ·subst hi;simp at e ek;subst e ek;exact hb'
  ·simp[hi] at e
   obtain⟨e0,c,el,fr,e1,e2,e3,e4,e5⟩:=hr'.blk id t' k' ht e ek hd
   exact⟨e0,c,el,fr,e1,e2,e3,fun i v ei=>let ⟨v',a,b⟩:=e4 i v ei;⟨v',a,b.mono hle⟩,e5⟩
 ·by_cases hi:id=h.length
  ·subst hi;simp at e ek;subst e ek;exact hb.esz
  ·simp[hi] at e;exact hr'.esz id t' k' e ek
 ·rw[ro' id k1 ek] at hrw;cases hrw
theorem HRel.fresh{p:Phi}{h:Heap}{W:World}(hr:HRel [] p h W):p h.length=none:=by
 cases e:p h.length with
 | none=>rfl
 | some t=>exact absurd (hr.dom _ _ e).1 (Nat.lt_irrefl _)
theorem cells_some{W:World}{base n:Nat}{a:Addr}{l:List Value}(h:W.cells? base a n=some l):l.length=n∧∀i,i<n->W.cell? (a.add i)=l[i]? := by
 unfold World.cells? at h
 split at h
 ·refine⟨by simpa using mapM_some_length h,fun i hi=>mapM_some_get h i i (by simp[hi])⟩
 ·cases h
theorem cell_some{W:World}{a:Addr}{v:Value}(h:W.cell? a=some v): ∃c el fr,W.heap[a.block]? = some (.cells c el fr)∧a.spot=none∧c[a.off]? = some v:=by
 unfold World.cell? at h
 split at h
 ·rename_i c el fr e
  split at h
  ·cases h
  ·rename_i hs
   exact⟨c,el,fr,e,by simpa using hs,h⟩
 ·cases h
theorem add_add(a:Addr)(x y:Nat):(a.add x).add y=a.add (x+y):=by
 unfold Addr.add
 by_cases hx:x=0
 ·subst hx;simp
 ·by_cases hy:y=0
  ·subst hy;simp[hx]
  ·rw[if_neg hx,if_neg hy,if_neg (by omega)]
   simp[add_assoc]
theorem add_plain{a:Addr}(hs:a.spot=none)(i:Nat):a.add i=⟨a.block,a.off+i,none⟩:=by
 unfold Addr.add
 split
 ·rename_i h0;subst h0;cases a;simp at hs ⊢;exact hs
 ·rfl
theorem cell_of{W:World}{a:Addr}{c:Array Value}{el:TypeId}{fr:Nat×Nat}(h:W.heap[a.block]? = some (.cells c el fr))(hs:a.spot=none)(i:Nat):W.cell? (a.add i)=c[a.off+i]? := by
 rw[add_plain hs]
 unfold World.cell?
 simp[h]
section
variable {H:Type} {enc:TypeId×Value->H} {P:Program} {W:World} {base:Nat} {held:Bool}
theorem open_rows{e:Ty}{el:TypeId}{n:Nat}{a:Addr}(hsz:0<e.size){elems:List (DataW H×List MemPlace)}
  (ih: ∀(cs:List Value) (x:DataW H×List MemPlace),DataW.trod enc P W base (fun _=>true) held n el cs=some x->∀p h,HRel [] p h W->allRo h->∃p' h' hcs,Good W e p h cs p' h' hcs) :
  ∀(len:Nat),(∀i,i<len->(W.cells? base (a.add (i*e.size)) e.size).bind (DataW.trod enc P W base (fun _=>true) held n el)=elems[i]?)->len<=elems.length →
  ∀p h,HRel [] p h W->allRo h->∃(p':Phi) (h':Heap) (rows:List (List Value)),HRel [] p' h' W∧p.le p'∧h<+:h'∧allRo h'∧rows.length=len∧(∀r∈rows,Fits h' e r) ∧
   ∀(j:Nat) v,rows.flatten[j]? = some v->∃v',W.cell? (a.add j)=some v'∧VRel p' v v'
 | 0,_,_,p,h,hr,ro=>⟨p,h,[],hr,Phi.le_refl p,prefix_rfl,ro,rfl,fun r hr=>by simp at hr,fun j v e=>by simp at e⟩
 | len+1,hel,hle,p,h,hr,ro=>by
  obtain⟨p1,h1,rows,r1,l1,pre1,ro1,n1,f1,c1⟩:=open_rows hsz ih len (fun i hi=>hel i (by omega)) (by omega) p h hr ro
  have h0:=hel len (by omega)
  have h00:elems[len]? = some elems[len]:=by simp
  rw[h00] at h0
  obtain⟨cs,e1,e2⟩:=Option.bind_eq_some_iff.1 h0
  obtain⟨p2,h2,hcs,g⟩:=ih cs _ e2 p1 h1 r1 ro1
  obtain⟨k1,k2⟩:=cells_some e1
  have hfl:rows.flatten.length=len*e.size:=by
   have: ∀(rs:List (List Value)),(∀r∈rs,r.length=e.size)->rs.flatten.length=rs.length*e.size:=by
    intro rs
    induction rs with
    | nil=>intro _;simp
    | cons r rs ih=>intro hh;rw[flatten_cons,length_append,hh r (by simp),ih (fun r hr=>hh r (by simp[hr])),length_cons,Nat.succ_mul];omega
   rw[this rows (fun r hr=>(f1 r hr).length),n1]
  refine⟨p2,h2,rows++ [hcs],g.rel,Phi.le_trans l1 g.le,pre1.trans g.pre,g.ro,by simp[n1],fun r hr => ?_,fun j v ej => ?_⟩
  ·rcases mem_append.1 hr with hr|hr
   ·exact (f1 r hr).mono g.pre
   ·rw[mem_singleton.1 hr];exact g.fits
  ·rw[flatten_append,List.flatten_singleton,List.getElem?_append] at ej
   split at ej
   ·obtain⟨v',a1,a2⟩:=c1 j v ej
    exact⟨v',a1,a2.mono g.le⟩
   ·rename_i hj
    obtain⟨v',a1,a2⟩:=g.cells.2 _ v ej
    have hlt:j-rows.flatten.length<e.size:=by
     have:=(List.getElem?_eq_some_iff.1 ej).1
     rw[g.fits.length] at this;exact this
    refine⟨v', ?_,a2⟩
    rw[←k2 _ hlt] at a1
    rw[hfl] at a1 hj
    have e3:(a.add (len*e.size)).add (j-len*e.size)=a.add j:=by
     rw[add_add];congr 1;omega
    rw[e3] at a1
    exact a1
theorem open_ty: ∀(ty:Ty),
  (∀t,chk P ty (.inl t)=true->∀(n:Nat) (cs:List Value) (x:DataW H×List MemPlace),DataW.trod enc P W base (fun _=>true) held n t cs=some x->∀p h,HRel [] p h W->allRo h →
   ∃p' h' hcs,Good W ty p h cs p' h' hcs) ∧
  (∀fs off,chk P ty (.inr (fs,off))=true->∀(n:Nat) (cs:List Value),(∀f∈fs,∃y,DataW.trod enc P W base (fun _=>true) held n f.type ((cs.drop f.offset).take (P.cellsOf f.type))=some y)->cs.length=off+ty.size →
   ∀p h,HRel [] p h W->allRo h->∃p' h' hcs,Good W ty p h (cs.drop off) p' h' hcs)
 | .int k=>by
  refine⟨fun t hc n cs x hx p h hr ro => ?_,fun fs off hc=>by simp[chk] at hc⟩
  unfold chk at hc
  split at hc
  ·rename_i k' hu
   have:=of_decide_eq_true hc
   subst this
   obtain⟨m,rfl,_,hw⟩:=DataW.trod_int hu hx
   exact⟨p,h,_,hr,Phi.le_refl p,prefix_rfl,ro, .one (.int _ _),⟨m,rfl,hw⟩⟩
  ·cases hc
 | .bool=>by
  refine⟨fun t hc n cs x hx p h hr ro => ?_,fun fs off hc=>by simp[chk] at hc⟩
  unfold chk at hc
  split at hc
  ·rename_i hu
   obtain⟨m,rfl,_⟩:=DataW.trod_bool hu hx
   exact⟨p,h,_,hr,Phi.le_refl p,prefix_rfl,ro, .one (.bool _),⟨m,rfl⟩⟩
  ·cases hc
 | .str=>by
  refine⟨fun t hc n cs x hx p h hr ro => ?_,fun fs off hc=>by simp[chk] at hc⟩
  unfold chk at hc
  split at hc
  ·rename_i hu
   obtain⟨m,rfl,_,hw⟩:=DataW.trod_string hu hx
   exact⟨p,h,_,hr,Phi.le_refl p,prefix_rfl,ro, .one (.string _),⟨m,rfl,hw⟩⟩
  ·cases hc
 | .unit=>by
  refine⟨fun t hc=>by simp[chk] at hc,fun fs off hc n cs hf hl p h hr ro => ?_⟩
  have:cs.drop off= []:=List.drop_eq_nil_of_le (by simp[Ty.size] at hl;omega)
  rw[this]
  exact⟨p,h,[],hr,Phi.le_refl p,prefix_rfl,ro, .nil,rfl⟩
 | .pair a b=>by
  refine⟨fun t hc=>by simp[chk] at hc,fun fs off hc n cs hf hl p h hr ro => ?_⟩
  cases fs with
  | nil=>simp[chk] at hc
  | cons f fs=>
   simp only[chk,Bool.and_eq_true,decide_eq_true_eq] at hc
   obtain⟨⟨⟨hc1,hc2⟩,hc3⟩,hc4⟩:=hc
   obtain⟨y,hy⟩:=hf f (by simp)
   rw[hc1,hc2] at hy
   obtain⟨p1,h1,c1,g1⟩:=(open_ty a).1 f.type hc3 n _ y hy p h hr ro
   obtain⟨p2,h2,c2,g2⟩:=(open_ty b).2 fs (off+a.size) hc4 n cs (fun f' hf'=>hf f' (by simp[hf'])) (by simp[Ty.size] at hl;omega) p1 h1 g1.rel g1.ro
   have e:cs.drop off=(cs.drop off).take a.size++cs.drop (off+a.size):=by
    rw[←drop_drop,take_append_drop]
   refine⟨p2,h2,c1++c2,g2.rel,Phi.le_trans g1.le g2.le,g1.pre.trans g2.pre,g2.ro, ?_,c1,c2,rfl,g1.fits.mono g2.pre,g2.fits⟩
   rw[e]
   exact (g1.cells.mono g2.le).append g2.cells
 | .struct b=>by
  refine⟨fun t hc n cs x hx p h hr ro => ?_,fun fs off hc=>by simp[chk] at hc⟩
  unfold chk at hc
  split at hc
  ·rename_i fs hu
   simp only[Bool.and_eq_true,decide_eq_true_eq] at hc
   obtain⟨xs,m,_,_,hl,hlen,hf⟩:=DataW.trod_struct hu hx
   obtain⟨p1,h1,c1,g1⟩:=(open_ty b).2 fs.toList 0 hc.2 m cs (fun f hmem=>by
    obtain⟨i,hi⟩:=List.mem_iff_getElem?.1 hmem
    have hi':fs[i]? = some f:=by simpa using hi
    have hlt:i<fs.size:=(Array.getElem?_eq_some_iff.1 hi').1
    exact⟨xs[i],by rw[hf i f hi'];simp⟩) (by rw[hl,hc.1];simp) p h hr ro
   exact⟨p1,h1,c1,g1.rel,g1.le,g1.pre,g1.ro,by simpa using g1.cells,g1.fits⟩
  ·cases hc
 | .slice e=>by
  refine⟨fun t hc n cs x hx p h hr ro => ?_,fun fs off hc=>by simp[chk] at hc⟩
  unfold chk at hc
  split at hc
  ·rename_i el hu
   simp only[Bool.and_eq_true,decide_eq_true_eq] at hc
   obtain⟨⟨hc1,hc2⟩,hc3⟩:=hc
   rcases DataW.trod_slice hu hx with⟨rfl,_⟩|⟨a,len,cap,elems,rest,m,_,rfl,_,_,hlc,hcm,hle,hel,hsp,_⟩
   ·exact⟨p,h,_,hr,Phi.le_refl p,prefix_rfl,ro, .one .sliceNil, .inl rfl⟩
   ·rw[hc1] at hel hsp
    obtain⟨p1,h1,rows,r1,l1,pre1,ro1,n1,f1,c1⟩:=open_rows (enc:=enc) (base:=base) (held:=held) (a:=a) hc2 (fun cs x hx=>(open_ty e).1 el hc3 m cs x hx) len hel (by omega) p h hr ro
    have hfl:rows.flatten.length=len*e.size:=by
     have: ∀(rs:List (List Value)),(∀r∈rs,r.length=e.size)->rs.flatten.length=rs.length*e.size:=by
      intro rs
      induction rs with
      | nil=>intro _;simp
      | cons r rs ih=>intro hh;rw[flatten_cons,length_append,hh r (by simp),ih (fun r hr=>hh r (by simp[hr])),length_cons,Nat.succ_mul];omega
     rw[this rows (fun r hr=>(f1 r hr).length),n1]
    subst n1
    rcases Nat.eq_zero_or_pos cap with h0|h0
    ·subst h0
     have:rows= []:=by cases rows with
      | nil=>rfl
      | cons r rs=>simp at hlc
     subst this
     obtain⟨r2,ro2⟩:=r1.pushRo ro1 (k:=⟨[],e.size, .ro⟩) rfl
     exact⟨p1,h1++ [⟨[],e.size, .ro⟩],[.slice (some ⟨h1.length,0,none⟩) 0 0],r2,l1,pre1.trans (prefix_append _ _),ro2, .one .sliceEmpty,
      .inr ⟨h1.length,[],rfl,by simp[hget],by simp,fun r hr=>by simp at hr⟩⟩
    ·have all: ∀i,i<cap->∃cs',W.cells? base (a.add (i*e.size)) e.size=some cs':=fun i hi=>by
      by_cases hcl:i<rows.length
      ·have h2:=hel i hcl
       rw[getElem?_eq_getElem (by omega)] at h2
       obtain⟨cs',e1,_⟩:=Option.bind_eq_some_iff.1 h2
       exact⟨cs',e1⟩
      ·obtain⟨s1,s2⟩:=hsp rfl
       have h2:=s2 (i-rows.length) (by omega)
       rw[getElem?_eq_getElem (by omega)] at h2
       obtain⟨cs',e1,_⟩:=Option.bind_eq_some_iff.1 h2
       rw[show rows.length+(i-rows.length)=i by omega] at e1
       exact⟨cs',e1⟩
     have cell: ∀i k,i<cap->k<e.size->∃v,W.cell? (a.add (i*e.size+k))=some v:=fun i k hi hk=>by
      obtain⟨cs',e1⟩:=all i hi
      obtain⟨k1,k2⟩:=cells_some e1
      have k3:=k2 k hk
      rw[getElem?_eq_getElem (by omega),add_add] at k3
      exact⟨_,k3⟩
     obtain⟨v0,hv0⟩:=cell 0 0 h0 hc2
     rw[show a.add (0*e.size+0)=a by simp[Addr.add]] at hv0
     obtain⟨c,elt,fr,w1',w2',w3⟩:=cell_some hv0
     obtain⟨v,hv⟩:=cell (cap-1) (e.size-1) (by omega) (by omega)
     have hlast:(cap-1)*e.size+(e.size-1)=cap*e.size-1:=by
      rw[Nat.sub_mul,Nat.one_mul]
      have:e.size<=cap*e.size:=Nat.le_mul_of_pos_left _ h0
      omega
     rw[hlast,cell_of w1' w2'] at hv
     have w4:a.off+(cap*e.size-1)<c.size:=(Array.getElem?_eq_some_iff.1 hv).1
     have w5:0<cap*e.size:=Nat.mul_pos h0 hc2
     have w6:rows.length*e.size<=cap*e.size:=Nat.mul_le_mul_right _ hlc
     have hb:BRel p1 ⟨rows.flatten,e.size, .ro⟩ ⟨a.block,a.off,e.size,c.size⟩ W:=by
      refine⟨rfl,c,elt,fr,w1',rfl, ?_,fun i v ei => ?_,fun hh=>by cases hh⟩
      ·show rows.flatten.length+a.off<=c.size
       omega
      ·obtain⟨v',a1,a2⟩:=c1 i v ei
       rw[cell_of w1' w2'] at a1
       exact⟨v',by rw[Nat.add_comm];exact a1,a2⟩
     obtain⟨q,r2,l2,hq⟩:=r1.pushAt ro1 (k:=⟨rows.flatten,e.size, .ro⟩) rfl hb r1.fresh
     have ea:a=⟨a.block,0+a.off,none⟩:=by
      cases a;simp at w2' ⊢;exact w2'
     refine⟨q,h1++ [⟨rows.flatten,e.size, .ro⟩],[.slice (some ⟨h1.length,0,none⟩) rows.length 0],r2,Phi.le_trans l1 l2,pre1.trans (prefix_append _ _),(r1.pushRo ro1 rfl).2, ?_, .inr ⟨h1.length,rows,rfl,by simp[hget],by omega,fun r hr=>(f1 r hr).mono (prefix_append _ _)⟩⟩
     refine .one ?_
     rw[ea]
     exact .slice (t:=⟨a.block,a.off,e.size,c.size⟩) hq hlc (by show 0+a.off+cap*e.size<=c.size;omega)
  ·cases hc
end
def FitV(h:Heap):Ty->Value->Prop
 | .struct b,v=> ∃cs,v = .agg cs.toArray∧Fits h b cs
 | ty,v=>Fits h ty [v]
def FitsAll(h:Heap):List Ty->List Value->Prop
 | [],[]=>True
 | ty::tys,v::vs=>FitV h ty v∧FitsAll h tys vs
 | _,_=>False
theorem FitsAll.cons{h:Heap}{ty:Ty}{tys:List Ty}{a:List Value}(f:FitsAll h (ty::tys) a): ∃v vs,a=v::vs∧FitV h ty v∧FitsAll h tys vs:=by
 cases a with
 | nil=>exact f.elim
 | cons v vs=>exact⟨v,vs,rfl,f.1,f.2⟩
theorem FitsAll.nil{h:Heap}{a:List Value}(f:FitsAll h [] a):a= []:=by
 cases a with
 | nil=>rfl
 | cons v vs=>exact f.elim
theorem FitV.slice{h:Heap}{e:Ty}{v:Value}(f:FitV h (.slice e) v):v = .slice none 0 0∨∃(id:Nat) (rows:List (List Value)),v = .slice (some ⟨id,0,none⟩) rows.length 0 ∧
  hget h id=some ⟨rows.flatten,e.size, .ro⟩∧rows.length<=maxLen∧∀r∈rows,Fits h e r:=by
 rcases f with e0|⟨id,rows,e0,g⟩
 ·exact .inl (by simpa using e0)
 ·exact .inr ⟨id,rows,by simpa using e0,g⟩
theorem FitV.mono{h h':Heap}(hp:h<+:h'){ty:Ty}{v:Value}(f:FitV h ty v):FitV h' ty v:=by
 cases ty with
 | struct b=>obtain⟨cs,e,f⟩:=f;exact⟨cs,e,f.mono hp⟩
 | int k=>exact Fits.mono (ty := .int k) hp f
 | bool=>exact Fits.mono (ty := .bool) hp f
 | str=>exact Fits.mono (ty := .str) hp f
 | unit=>exact Fits.mono (ty := .unit) hp f
 | pair a b=>exact Fits.mono (ty := .pair a b) hp f
 | slice e=>exact Fits.mono (ty := .slice e) hp f
def chkAll(P:Program):List Ty->List TypeId->Bool
 | [],[]=>true
 | ty::tys,t::ts=>chk P ty (.inl t)&&chkAll P tys ts
 | _,_=>false
theorem agg_rel{p:Phi}{l l':List Value}(r:CRel p l l'):VRel p (.agg l.toArray) (.agg l'.toArray):=by
 refine .agg (by simp[r.1]) fun i h h' => ?_
 obtain⟨v',e,hv⟩:=r.2 i (l[i]'(by simpa using h)) (by simp)
 have:l'[i]'(by simpa using h')=v':=by
  have:=getElem?_eq_getElem (l:=l') (i:=i) (by simpa using h')
  rw[this] at e;simpa using e
 simpa[this] using hv
theorem cells_one{v:Value}(h: ∀c,v ≠ .agg c):v.cells.toList= [v]:=by
 cases v<;>first|rfl|exact absurd rfl (h _)
section
variable {H:Type} {enc:TypeId×Value->H} {P:Program} {W:World} {held:Bool}
theorem open_arg{ty:Ty}{t:TypeId}(hc:chk P ty (.inl t)=true){b0:Nat}{v:Value}{d:DataW H}{ps:List MemPlace}(hval:Value.okWide P W .any b0 t v)
  (hd:DataW.Trod enc P W 0 (fun _=>true) held t v d ps) {p:Phi} {h:Heap} (hr:HRel [] p h W) (ro:allRo h) :
  ∃p' h' u,HRel [] p' h' W∧p.le p'∧h<+:h'∧allRo h'∧VRel p' u v∧FitV h' ty u:=by
 obtain⟨n,hx⟩:=hd
 obtain⟨p',h',hcs,g⟩:=(open_ty ty).1 t hc n _ _ hx p h hr ro
 have one:(∀c,v ≠ .agg c)->(∀b,ty ≠ .struct b)->∃p' h' u,HRel [] p' h' W∧p.le p'∧h<+:h'∧allRo h'∧VRel p' u v∧FitV h' ty u:=fun hv hty=>by
  have gc:=g.cells
  rw[cells_one hv] at gc
  obtain⟨u,rfl⟩: ∃u,hcs= [u]:=by
   have:=gc.1
   match hcs,this with
   | [u],_=>exact⟨u,rfl⟩
  obtain⟨v',e,r⟩:=gc.2 0 u rfl
  simp at e;subst e
  refine⟨p',h',u,g.rel,g.le,g.pre,g.ro,r, ?_⟩
  have:=g.fits
  cases ty with
  | struct b=>exact absurd rfl (hty b)
  | _=>exact this
 cases ty with
 | int k=>
  unfold chk at hc
  split at hc
  ·rename_i k' hu
   obtain⟨m,rfl⟩:=okWide_int hu hval
   exact one (fun c=>by simp) (fun b=>by simp)
  ·cases hc
 | bool=>
  unfold chk at hc
  split at hc
  ·rename_i hu
   obtain⟨m,rfl⟩:=okWide_bool hu hval
   exact one (fun c=>by simp) (fun b=>by simp)
  ·cases hc
 | str=>
  unfold chk at hc
  split at hc
  ·rename_i hu
   obtain⟨m,rfl⟩:=okWide_string hu hval
   exact one (fun c=>by simp) (fun b=>by simp)
  ·cases hc
 | unit=>simp[chk] at hc
 | pair a b=>simp[chk] at hc
 | slice e=>
  unfold chk at hc
  split at hc
  ·rename_i el hu
   obtain⟨a,l,c,rfl⟩:=okWide_slice hu hval
   exact one (fun c=>by simp) (fun b=>by simp)
  ·cases hc
 | struct b=>
  unfold chk at hc
  split at hc
  ·rename_i fs hu
   obtain⟨cs,rfl,_⟩:=okWide_struct hu hval
   have gc:=g.cells
   refine⟨p',h', .agg hcs.toArray,g.rel,g.le,g.pre,g.ro, ?_,hcs,rfl,g.fits⟩
   have:=agg_rel gc
   simpa[Value.cells] using this
  ·cases hc
theorem open_args: ∀ {tys:List Ty} {ts:List TypeId},chkAll P tys ts=true->∀ {b0:Nat} {vs:List Value} {ds:List (DataW H)} {ps:List MemPlace},
  (∀(j:Nat) t v,ts[j]? = some t->vs[j]? = some v->Value.okWide P W .any b0 t v)->DataW.TrodAll enc P W 0 (fun _=>true) held ts vs ds ps->∀ {p:Phi} {h:Heap},HRel [] p h W->allRo h →
  ∃p' h' us,HRel [] p' h' W∧p.le p'∧h<+:h'∧allRo h'∧CRel p' us vs∧FitsAll h' tys us
 | [],[],_,b0,vs,ds,ps,_,hA,p,h,hr,ro=>by
  match vs,ds,hA with
  | [],[],_=>exact⟨p,h,[],hr,Phi.le_refl p,prefix_rfl,ro, .nil,trivial⟩
 | ty::tys,t::ts,hc,b0,vs,ds,ps,hval,hA,p,h,hr,ro=>by
  simp only[chkAll,Bool.and_eq_true] at hc
  match vs,ds,hA with
  | v::vs,d::ds,hA=>
   obtain⟨p0,q0,h1,h2,_⟩:=hA
   obtain⟨p1,k1,u,r1,l1,pre1,ro1,v1,f1⟩:=open_arg hc.1 (hval 0 t v rfl rfl) h1 hr ro
   obtain⟨p2,k2,us,r2,l2,pre2,ro2,c2,f2⟩:=open_args hc.2 (fun j t' v' a b=>hval (j+1) t' v' (by simpa using a) (by simpa using b)) h2 r1 ro1
   exact⟨p2,k2,u::us,r2,Phi.le_trans l1 l2,pre1.trans pre2,ro2,(CRel.one (v1.mono l2)).append c2,f1.mono pre2,f2⟩
 | [],_::_,hc,_,_,_,_,_,_,_,_,_,_=>by simp[chkAll] at hc
 | _::_,[],hc,_,_,_,_,_,_,_,_,_,_=>by simp[chkAll] at hc
end
theorem flatten_len{sz:Nat}: ∀ {rows:List (List Value)},(∀r∈rows,r.length=sz)->rows.flatten.length=rows.length*sz
 | [],_=>by simp
 | r::rs,h=>by
  rw[flatten_cons,length_append,h r (by simp),flatten_len (fun r hr=>h r (by simp[hr])),length_cons,Nat.succ_mul];omega
theorem flatten_row{sz:Nat}: ∀ {rows:List (List Value)},(∀r∈rows,r.length=sz)->∀ {i:Nat} (hi:i<rows.length),(rows.flatten.drop (i*sz)).take sz=rows[i]
 | r::rs,h,0,hi=>by simp[h r (by simp)]
 | r::rs,h,i+1,hi=>by
  have e:(i+1)*sz=r.length+i*sz:=by rw[h r (by simp),Nat.succ_mul];omega
  rw[flatten_cons,e, ←drop_drop,drop_left' rfl]
  simpa using flatten_row (rows:=rs) (fun r hr=>h r (by simp[hr])) (by simpa using hi)
def Sl(h:Heap)(sz:Nat)(v:Value)(rows:List (List Value)):Prop:=
 ∃a,v = .slice a rows.length 0∧(∀r∈rows,r.length=sz)∧(rows≠ []->∃id off k,a=some ⟨id,off,none⟩∧hget h id=some k∧k.st ≠ .dead∧off+rows.length*sz<=k.cells.length ∧
  (k.cells.drop off).take (rows.length*sz)=rows.flatten)
theorem Sl.mono{h h':Heap}(hp:h<+:h'){sz:Nat}{v:Value}{rows:List (List Value)}(s:Sl h sz v rows):Sl h' sz v rows:=by
 obtain⟨a,e,hl,f⟩:=s
 refine⟨a,e,hl,fun hn => ?_⟩
 obtain⟨id,off,k,e1,e2,r⟩:=f hn
 exact⟨id,off,k,e1,by rw[hget_prefix hp (hget_lt e2)];exact e2,r⟩
theorem Sl.nil{h:Heap}{sz:Nat}:Sl h sz (.slice none 0 0) []:=⟨none,rfl,fun r hr=>by simp at hr,fun hn=>absurd rfl hn⟩
theorem Sl.whole{h:Heap}{sz id esz:Nat}{rows:List (List Value)}{st:St}(hst:st ≠ .dead)(hl: ∀r∈rows,r.length=sz)(hg:hget h id=some ⟨rows.flatten,esz,st⟩) :
  Sl h sz (.slice (some ⟨id,0,none⟩) rows.length 0) rows:=
 ⟨_,rfl,hl,fun _=>⟨id,0,_,rfl,hg,hst,by simp[flatten_len hl],by rw[drop_zero, ←flatten_len hl,take_length]⟩⟩
theorem Sl.at{h:Heap}{sz:Nat}{v:Value}{rows:List (List Value)}(s:Sl h sz v rows){i:Nat}(hi:i<rows.length) :
  ∃id off k,v = .slice (some ⟨id,off,none⟩) rows.length 0∧(∀t,hget (h++t) id=some k)∧hget h id=some k∧k.st ≠ .dead∧off+i*sz+sz<=k.cells.length∧(k.cells.drop (off+i*sz)).take sz=rows[i] ∧
   ∀f,f<sz->k.cells[off+i*sz+f]? = rows[i][f]? := by
 obtain⟨a,e,hl,f⟩:=s
 obtain⟨id,off,k,e1,e2,e3,e4,e5⟩:=f (by intro h0;subst h0;simp at hi)
 subst e1
 have hm:i*sz+sz<=rows.length*sz:=by
  rw[←Nat.succ_mul];exact Nat.mul_le_mul_right _ hi
 have hrow:(k.cells.drop (off+i*sz)).take sz=rows[i]:=by
  rw[←flatten_row hl hi, ←e5,List.drop_take,drop_drop,List.take_take]
  congr 1
  omega
 refine⟨id,off,k,e,fun t=>by rw[hget_prefix (prefix_append _ _) (hget_lt e2)];exact e2,e2,e3,by omega,hrow,fun f hf => ?_⟩
 rw[←hrow,List.getElem?_take_of_lt hf,getElem?_drop]
theorem Sl.all{h:Heap}{sz:Nat}{v:Value}{rows:List (List Value)}(s:Sl h sz v rows)(hn:0<rows.length) :
  ∃id off k,v = .slice (some ⟨id,off,none⟩) rows.length 0∧(∀t,hget (h++t) id=some k)∧hget h id=some k∧k.st ≠ .dead ∧
   ∀(i:Nat) (hi:i<rows.length),off+i*sz+sz<=k.cells.length∧(k.cells.drop (off+i*sz)).take sz=rows[i]∧∀f,f<sz->k.cells[off+i*sz+f]? = rows[i][f]? := by
 obtain⟨id,off,k,e,e1,e2,e3,_⟩:=s.at hn
 refine⟨id,off,k,e,e1,e2,e3,fun i hi => ?_⟩
 obtain⟨id',off',k',e',e1',e2',e3',e4',e5',e6'⟩:=s.at hi
 rw[e] at e'
 simp only[Value.slice.injEq,Option.some.injEq,Addr.mk.injEq,and_true,true_and] at e'
 obtain⟨rfl,rfl⟩:=e'
 rw[e2] at e2'
 cases e2'
 exact⟨e4',e5',e6'⟩
theorem rows_map{α:Type}{f:α->List Value}: ∀ {rows:List (List Value)},(∀r∈rows,∃x,r=f x)->∃l:List α,rows=l.map f
 | [],_=>⟨[],rfl⟩
 | r::rs,h=>by
  obtain⟨x,rfl⟩:=h r (by simp)
  obtain⟨l,rfl⟩:=rows_map (rows:=rs) (fun r hr=>h r (by simp[hr]))
  exact⟨x::l,rfl⟩
open Classical in
noncomputable def top(p:Nat->Prop):Nat->Nat
 | 0=>0
 | n+1=>if p (n+1) then n+1 else top p n
theorem top_le{p:Nat->Prop}: ∀n,top p n<=n
 | 0=>le_refl _
 | n+1=>by unfold top;split;exact le_refl _;exact Nat.le_succ_of_le (top_le n)
theorem top_spec {p : Nat → Prop} : ∀ {n i : Nat}, i ≤ n → p i → i ≤ top p n ∧ p (top p n)
  | 0, i, hi, hp => by have : i = 0 := by omega
                       subst this; exact ⟨le_refl _, hp⟩
  | n + 1, i, hi, hp => by
    unfold top
    split
    · rename_i h; exact ⟨hi, h⟩
    · rename_i h
      have : i ≠ n + 1 := by intro e; subst e; exact h hp
      exact top_spec (by omega) hp
section
variable {G:List (Nat×Nat)} {P:Program} {n:Nat} {M:Nat->Prop}
theorem vLoop.count{c:Code}{Q:Exit->Env->Heap->Prop}{e:Env}{h:Heap}(hm:P.follows .mixedOrders=true)(N:Nat)(I:Nat->Env->Heap->Prop)(h0:I 0 e h)
  (round: ∀i e h,i<=N->I i e h->vCode G P n M c (thenQ Q (fun e' h'=>i<N∧I (i+1) e' h')) e h):vLoop G P n M c Q e h:=
 fun hok=>HWp.loop (fun e h=> ∃i,i<=N∧I i e h) (fun e h=>N-top (fun i=>I i e h) N) ⟨0,zero_le _,h0⟩ fun e h ⟨i,hi,hI⟩=>by
  obtain⟨_,ht⟩:=top_spec (p:=fun i=>I i e h) hi hI
  refine (vCode_sound hm c _ e h hok (round _ e h (top_le N) ht)).mono fun z e' h' hz => ?_
  cases z with
  | normal=>
   obtain⟨h1,h2⟩:=hz
   obtain⟨h3,_⟩:=top_spec (p:=fun i=>I i e' h') (Nat.succ_le_of_lt h1) h2
   exact .inl ⟨rfl,⟨_,Nat.succ_le_of_lt h1,h2⟩,by omega⟩
  | _=>exact .inr ⟨by simp,hz⟩
theorem vLoopR.count{L:List (Nat×List Nat)}{c:Code}{Q:Exit->Env->Heap->Prop}{e:Env}{h:Heap}(hm:P.follows .mixedOrders=true)(N:Nat)(I:Nat->Env->Heap->Prop)(h0:I 0 e h)
  (round: ∀i e h,i<=N->I i e h->vCodeR L G P n M c (thenQ Q (fun e' h'=>i<N∧I (i+1) e' h')) e h):vLoopR L G P n M c Q e h:=
 fun hok=>HWp.loop (fun e h=> ∃i,i<=N∧I i e h) (fun e h=>N-top (fun i=>I i e h) N) ⟨0,zero_le _,h0⟩ fun e h ⟨i,hi,hI⟩=>by
  obtain⟨_,ht⟩:=top_spec (p:=fun i=>I i e h) hi hI
  refine (vCodeR_sound hm c _ e h hok (round _ e h (top_le N) ht)).mono fun z e' h' hz => ?_
  cases z with
  | normal=>
   obtain⟨h1,h2⟩:=hz
   obtain⟨h3,_⟩:=top_spec (p:=fun i=>I i e' h') (Nat.succ_le_of_lt h1) h2
   exact .inl ⟨rfl,⟨_,Nat.succ_le_of_lt h1,h2⟩,by omega⟩
  | _=>exact .inr ⟨by simp,hz⟩
end
theorem setRange_one{cells:List Value}{i:Nat}{v:Value}(hi:i<cells.length):cells.set i v=setRange cells i [v]:=by
 rw[setRange,List.set_eq_take_append_cons_drop,if_pos hi]
 simp
theorem HWp.rank{G:List (Nat×Nat)}{P:Program}{n:Nat}{M:Nat->Prop}{Q:Exit->Env->Heap->Prop}{e:Env}{h:Heap}{c:Code}(I:Nat->Env->Heap->Prop)(m0:Nat)(h0:I m0 e h)
  (round: ∀m e h,I m e h->HWp G P n M c (fun z e' h'=>(z = .normal∧∃m',m'<m∧I m' e' h')∨(z ≠ .normal∧Q z e' h')) e h):HWp G P n M (.loop c) Q e h:=by
 have key: ∀m e h,I m e h->∃k z e' h',LoopRun G P n M c k e h z e' h'∧Q z e' h':=by
  intro m
  induction m using Nat.strongRecOn with
  | _ m ih=>
   intro e h hI
   obtain⟨z,e1,h1,hx,hq⟩:=round m e h hI
   rcases hq with⟨rfl,m',hlt,hI1⟩|⟨hz,hq⟩
   ·obtain⟨k,z2,e2,h2,t,q⟩:=ih m' hlt e1 h1 hI1
    exact⟨k+1,z2,e2,h2, .step hx t,q⟩
   ·exact⟨0,z,e1,h1, .out hx hz,hq⟩
 obtain⟨k,z,e',h',t,q⟩:=key m0 e h h0
 exact⟨z,e',h',HExec.loop t,q⟩
theorem vLoop.rank{G:List (Nat×Nat)}{P:Program}{n:Nat}{M:Nat->Prop}{c:Code}{Q:Exit->Env->Heap->Prop}{e:Env}{h:Heap}(hm:P.follows .mixedOrders=true)(m0:Nat)(I:Nat->Env->Heap->Prop)(h0:I m0 e h)
  (round: ∀m e h,I m e h->vCode G P n M c (thenQ Q (fun e' h'=> ∃m',m'<m∧I m' e' h')) e h):vLoop G P n M c Q e h:=fun hok=>
 HWp.rank I m0 h0 fun m e h hI=>(vCode_sound hm c _ e h hok (round m e h hI)).mono fun z e' h' hz=>by
  cases z with
  | normal=>exact .inl ⟨rfl,hz⟩
  | _=>exact .inr ⟨by simp,hz⟩
theorem new_at{u:Heap}{K b:Blk}{j n:Nat}(hn:n=u.length):(u.set j b++ [K])[n]? = some K:=by
 subst hn
 rw[getElem?_append_right (by simp)]
 simp
@[go_sem] theorem pre_self{l:Heap}:(l<+:l)=True:=by simp
@[go_sem] theorem pre_app{l m:Heap}:(l<+:l++m)=True:=by simp
@[go_sem] theorem pre_app2{l m m':Heap}:(l++m<+:l++m')=(m<+:m'):=by simp
@[go_sem] theorem pre_cons{b:Blk}{m m':Heap}:(b::m<+:b::m')=(m<+:m'):=by simp
@[go_sem] theorem pre_nil{m:Heap}:([]<+:m)=True:=by simp
@[go_sem] theorem nat_nn{i:Nat}:(0<=(i:Int))=True:=by simp
def bndV(v:Value):Option Nat:=match v with
 | .int _ n=>if 0<=n then some n.toNat else none
 | _=>none
@[go_sem] theorem bnd_none{e:Env}{d:Nat}:bnd e none d=some d:=(rfl)
@[go_sem] theorem bnd_some{e:Env}{x:Operand}{d:Nat}:bnd e (some x) d=bndV (Opd.val e x):=by
 unfold bnd bndV;rfl
@[go_sem] theorem bndV_int{k:IntKind}{n:Int}:bndV (.int k n)=if 0<=n then some n.toNat else none:=(rfl)
@[go_sem] theorem hBin_and{k:IntKind}{a b:Int}:hBin .and (.int k a) (.int k b)=some (.int k (k.wrap (BitVec.ofInt k.bits a &&& BitVec.ofInt k.bits b).toNat)):=by simp[hBin]
theorem and_bound{x:Int}{y:Nat}(hy:y<=9223372036854775807): ∃m:Int,IntKind.u64.wrap (BitVec.ofInt IntKind.u64.bits x &&& BitVec.ofInt IntKind.u64.bits y).toNat=m∧0<=m∧m<=y:=by
 refine⟨_,rfl, ?_⟩
 have h1:(BitVec.ofInt IntKind.u64.bits x &&& BitVec.ofInt IntKind.u64.bits (y:Int)).toNat<=y:=by
  rw[BitVec.toNat_and]
  refine le_trans Nat.and_le_right ?_
  have h0:(BitVec.ofInt 64 (y:Int)).toNat<=y:=by
   rw[BitVec.ofInt_natCast,BitVec.toNat_ofNat]
   exact Nat.mod_le _ _
  exact h0
 have h2:IntKind.u64.wrap ((BitVec.ofInt IntKind.u64.bits x &&& BitVec.ofInt IntKind.u64.bits (y:Int)).toNat:Int)=((BitVec.ofInt IntKind.u64.bits x &&& BitVec.ofInt IntKind.u64.bits (y:Int)).toNat:Int):=by
  generalize (BitVec.ofInt IntKind.u64.bits x &&& BitVec.ofInt IntKind.u64.bits (y:Int)).toNat=z at h1
  have:(z:Int)<=9223372036854775807:=by omega
  exact IntWalk.u64_in _ (by omega)
 rw[h2]
 omega
attribute [go_sem] Option.isSome_some Int.toNat_natCast
def Agr(lo hi:Nat)(h h':Heap):Prop:=h.length<=h'.length∧∀i,i<h.length->(i<lo∨hi<=i)->hget h' i=hget h i
theorem Agr.pre{lo hi:Nat}{h h':Heap}(hp:h<+:h'):Agr lo hi h h':=
 ⟨hp.length_le,fun i hi _=>hget_prefix hp hi⟩
theorem Agr.app{lo hi:Nat}{h t:Heap}:Agr lo hi h (h++t):=Agr.pre (prefix_append _ _)
theorem Agr.trans{lo hi:Nat}{h h' h'':Heap}(a:Agr lo hi h h')(b:Agr lo hi h' h''):Agr lo hi h h'':=
 ⟨le_trans a.1 b.1,fun i hi ho=>by rw[b.2 i (lt_of_lt_of_le hi a.1) ho,a.2 i hi ho]⟩
theorem Agr.set{lo hi id:Nat}{h:Heap}{b:Blk}(h1:lo<=id)(h2:id<hi):Agr lo hi h (h.set id b):=
 ⟨by simp,fun i _ ho=>hget_set_ne (by omega)⟩
theorem Agr.refl{lo hi:Nat}{h:Heap}:Agr lo hi h h:=Agr.pre prefix_rfl
theorem flat_one{α:Type}{f:α->Value}: ∀ {l:List α},(l.map fun x=> [f x]).flatten=l.map f
 | []=>rfl
 | x::l=>by rw[map_cons,flatten_cons,flat_one];rfl
def iv(n:Int):Value := .int .i64 n
def AI(n:Nat)(h:Heap)(v:Value)(l:List Int):Prop:=
 ∃a,v = .slice a l.length 0∧(0<l.length->∃id off k,a=some ⟨id,off,none⟩∧id<n∧hget h id=some k∧k.st ≠ .dead∧k.esz=1∧off+l.length<=k.cells.length∧(k.cells.drop off).take l.length=l.map iv)
def FI(lo hi:Nat)(h:Heap)(v:Value)(l:List Int):Prop:=
 ∃a,v = .slice a l.length 0∧(0<l.length->∃id,a=some ⟨id,0,none⟩∧lo<=id∧id<hi∧hget h id=some ⟨l.map iv,1, .rw⟩)
theorem AI.mono{n:Nat}{h h':Heap}{v:Value}{l:List Int}(s:AI n h v l)(hp:h<+:h'):AI n h' v l:=by
 obtain⟨p,e,f⟩:=s
 refine⟨p,e,fun h0 => ?_⟩
 obtain⟨id,off,k,e1,e2,e3,r⟩:=f h0
 exact⟨id,off,k,e1,e2,by rw[hget_prefix hp (hget_lt e3)];exact e3,r⟩
theorem AI.le{n m:Nat}{h:Heap}{v:Value}{l:List Int}(s:AI n h v l)(hn:n<=m):AI m h v l:=by
 obtain⟨p,e,f⟩:=s
 refine⟨p,e,fun h0 => ?_⟩
 obtain⟨id,off,k,e1,e2,r⟩:=f h0
 exact⟨id,off,k,e1,by omega,r⟩
theorem FI.ai{n m:Nat}{h:Heap}{v:Value}{l:List Int}(s:FI n m h v l):AI m h v l:=by
 obtain⟨p,e,f⟩:=s
 refine⟨p,e,fun h0 => ?_⟩
 obtain⟨id,e1,e2,e3,e4⟩:=f h0
 exact⟨id,0,_,e1,e3,e4,by simp,rfl,by simp,by simp[←List.map_take]⟩
theorem FI.at{n m:Nat}{h:Heap}{l:List Int}{id:Nat}(h1:n<=id)(h2:id<m)(hg:hget h id=some ⟨l.map iv,1, .rw⟩):FI n m h (.slice (some ⟨id,0,none⟩) l.length 0) l:=
 ⟨_,rfl,fun _=>⟨id,rfl,h1,h2,hg⟩⟩
theorem FI.at'{n m:Nat}{h:Heap}{l:List Int}{id k:Nat}(hk:k=l.length)(h1:n<=id)(h2:id<m)(hg:hget h id=some ⟨l.map iv,1, .rw⟩):FI n m h (.slice (some ⟨id,0,none⟩) k 0) l:=by
 subst hk;exact .at h1 h2 hg
theorem AI.at{n:Nat}{h:Heap}{v:Value}{l:List Int}(s:AI n h v l)(h0:0<l.length) :
  ∃id off k,v = .slice (some ⟨id,off,none⟩) l.length 0∧id<n∧(∀t,hget (h++t) id=some k)∧hget h id=some k∧k.st ≠ .dead∧k.esz=1∧off+l.length<=k.cells.length∧(k.cells.drop off).take l.length=l.map iv ∧
   ∀(i:Nat) (hi:i<l.length),k.cells[off+i]? = some (.int .i64 l[i]):=by
 obtain⟨a,e,f⟩:=s
 obtain⟨id,off,k,rfl,e2,e3,e4,e5,e6,e7⟩:=f h0
 refine⟨id,off,k,e,e2,fun t=>by rw[hget_prefix (prefix_append _ _) (hget_lt e3)];exact e3,e3,e4,e5,e6,e7,fun i hi => ?_⟩
 have:(l.map iv)[i]? = some (.int .i64 l[i]):=by rw[getElem?_map,getElem?_eq_getElem hi];rfl
 rw[←this, ←e7,List.getElem?_take_of_lt hi,getElem?_drop]
theorem AI.len{n:Nat}{h:Heap}{v:Value}{l:List Int}(s:AI n h v l): ∃a,v = .slice a l.length 0:=by
 obtain⟨a,e,_⟩:=s;exact⟨a,e⟩
def marks(k:Int)(n:Nat):List Int:=(List.range n).map fun i:Nat=>k+(i:Int)
theorem app_keep{u:Heap}{j c:Nat}{C b:Blk}(hu:u[c]? = some C)(hj:j≠c)(x y:Heap):((u++x).set j b++y)[c]? = some C:=by
 have:=(List.getElem?_eq_some_iff.1 hu).1
 rw[getElem?_append_left (by simp;omega),getElem?_set_ne hj,getElem?_append_left this];exact hu
theorem app_old{u:Heap}{j:Nat}{K:Blk}(hj:u[j]? = some K)(x:Heap):(u++x)[j]? = some K:=by
 rw[getElem?_append_left (List.getElem?_eq_some_iff.1 hj).1];exact hj
def SB(n sz:Nat)(h:Heap)(v:Value)(rows:List (List Value)):Prop:=Sl h sz v rows∧∀id off len,v = .slice (some ⟨id,off,none⟩) len 0->rows≠ []->id<n
def FR(lo hi sz:Nat)(h:Heap)(v:Value)(rows:List (List Value)):Prop:=
 ∃id,v = .slice (some ⟨id,0,none⟩) rows.length 0∧lo<=id∧id<hi∧hget h id=some ⟨rows.flatten,sz, .rw⟩∧∀r∈rows,r.length=sz
theorem SB.mono{n sz:Nat}{h h':Heap}{v:Value}{rows:List (List Value)}(s:SB n sz h v rows)(hp:h<+:h'):SB n sz h' v rows:=⟨s.1.mono hp,s.2⟩
theorem FR.mono{lo hi sz:Nat}{h h':Heap}{v:Value}{rows:List (List Value)}(s:FR lo hi sz h v rows)(hp:h<+:h'):FR lo hi sz h' v rows:=by
 obtain⟨id,e,e1,e2,e3,e4⟩:=s
 exact⟨id,e,e1,e2,by rw[hget_prefix hp (hget_lt e3)];exact e3,e4⟩
theorem FR.sb{lo hi sz:Nat}{h:Heap}{v:Value}{rows:List (List Value)}(s:FR lo hi sz h v rows):SB hi sz h v rows:=by
 obtain⟨id,rfl,e1,e2,e3,e4⟩:=s
 refine⟨.whole (by simp) e4 e3,fun id' off len e _ => ?_⟩
 simp only[Value.slice.injEq,Option.some.injEq,Addr.mk.injEq] at e
 omega
theorem FR.sl{lo hi sz:Nat}{h:Heap}{v:Value}{rows:List (List Value)}(s:FR lo hi sz h v rows):Sl h sz v rows:=s.sb.1
def Regs(e:Env):List (Nat×Value)->Prop
 | []=>True
 | (i,v)::l=>e i=v∧Regs e l
def HeapIs(h h':Heap):Prop:=h=h'
theorem HeapIs.rfl{h:Heap}:HeapIs h h:=Eq.refl h
theorem wsucc{i N:Nat}(h:i<N)(hN:N<=9223372036854775807):IntKind.i64.wrap ((i:Int)+1)=((i+1:Nat):Int):=by
 rw[IntWalk.i64_in _ (by omega)];rfl
def OI(n k:Nat)(t:Heap)(v:Value)(l:List Int):Prop:=
 ∃j off cs,v = .slice (some ⟨n+(j+k),off,none⟩) l.length 0∧t[j]? = some ⟨cs,1, .rw⟩∧off+l.length=cs.length∧cs.drop off=l.map iv
theorem OI.mono{n k:Nat}{t:Heap}{v:Value}{l:List Int}(o:OI n k t v l)(u:Heap):OI n k (t++u) v l:=by
 obtain⟨j,off,cs,e,hj,r⟩:=o
 exact⟨j,off,cs,e,app_old hj u,r⟩
theorem OI.mk'{n k id len:Nat}{t:Heap}{l:List Int}(j:Nat)(hid:id=n+(j+k))(hl:len=l.length)(hj:t[j]? = some ⟨l.map iv,1, .rw⟩):OI n k t (.slice (some ⟨id,0,none⟩) len 0) l:=by
 subst hid hl
 exact⟨j,0,_,rfl,hj,by simp,rfl⟩
theorem OI.tail{n k id off len:Nat}{t:Heap}{l:List Int}{cs:List Value}(j:Nat)(hid:id=n+(j+k))(hl:len=l.length)(hj:t[j]? = some ⟨cs,1, .rw⟩)(h1:off+l.length=cs.length)(h2:cs.drop off=l.map iv) :
  OI n k t (.slice (some ⟨id,off,none⟩) len 0) l:=by
 subst hid hl
 exact⟨j,off,cs,rfl,hj,h1,h2⟩
def OF(n k:Nat)(t:Heap)(v:Value)(l:List Int):Prop:= ∃j,v = .slice (some ⟨n+(j+k),0,none⟩) l.length 0∧t[j]? = some ⟨l.map iv,1, .rw⟩
theorem OF.mono{n k:Nat}{t:Heap}{v:Value}{l:List Int}(o:OF n k t v l)(u:Heap):OF n k (t++u) v l:=by
 obtain⟨j,e,hj⟩:=o
 exact⟨j,e,app_old hj u⟩
theorem OF.mk'{n k id len:Nat}{t:Heap}{l:List Int}(j:Nat)(hid:id=n+(j+k))(hl:len=l.length)(hj:t[j]? = some ⟨l.map iv,1, .rw⟩):OF n k t (.slice (some ⟨id,0,none⟩) len 0) l:=by
 subst hid hl
 exact⟨j,rfl,hj⟩
theorem OF.fi{n k m:Nat}{h x t:Heap}{v:Value}{l:List Int}(o:OF n k t v l)(hn:n=h.length)(hx:x.length=k)(hm:m<=h.length+k):FI m (h++(x++t)).length (h++(x++t)) v l:=by
 obtain⟨j,rfl,hj⟩:=o
 subst hn
 have hjl:=(List.getElem?_eq_some_iff.1 hj).1
 refine FI.at (by omega) (by simp;omega) ?_
 rw[hget_app,getElem?_append_right (by omega),hx,show j+k-k=j by omega];exact hj
theorem OF.fix{k lo hi:Nat}{h t:Heap}{v:Value}{l:List Int}(x:Heap)(o:OF h.length k t v l)(hx:x.length=k)(hlo:lo<=h.length+k)(hhi:hi=h.length+(t.length+k)):FI lo hi (h++(x++t)) v l:=by
 obtain⟨j,rfl,hj⟩:=o
 subst hhi
 have hjl:=(List.getElem?_eq_some_iff.1 hj).1
 refine FI.at (by omega) (by omega) ?_
 rw[hget_app,getElem?_append_right (by omega),hx,show j+k-k=j by omega];exact hj
theorem OF.fi0{m:Nat}{h t:Heap}{v:Value}{l:List Int}(o:OF h.length 0 t v l)(hm:m<=h.length):FI m (h++t).length (h++t) v l:=o.fi (x:= []) rfl rfl hm
theorem OF.ai{k:Nat}{h t:Heap}{v:Value}{l:List Int}(x:Heap)(o:OF h.length k t v l)(hx:x.length=k):AI (h++(x++t)).length (h++(x++t)) v l:=by
 have f:=OF.fix (lo:=0) (hi:=h.length+(t.length+k)) x o hx (by omega) rfl
 have:h.length+(t.length+k)=(h++(x++t)).length:=by simp;omega
 rw[this] at f
 exact f.ai
theorem drop_get{cs:List Value}{off:Nat}{l:List Int}(h2:cs.drop off=l.map iv){i:Nat}(hi:i<l.length):cs[off+i]? = some (.int .i64 l[i]):=by
 have:(cs.drop off)[i]? = some (.int .i64 l[i]):=by rw[h2,getElem?_map,getElem?_eq_getElem hi];rfl
 rwa [getElem?_drop] at this
theorem drop_head{cs:List Value}{off:Nat}{q:Int}{l:List Int}(h2:cs.drop off=(q::l).map iv):cs[off]? = some (.int .i64 q):=by
 have:=drop_get h2 (i:=0) (by simp)
 simpa using this
theorem drop_tail{cs:List Value}{off:Nat}{q:Int}{l:List Int}(h2:cs.drop off=(q::l).map iv):cs.drop (off+1)=l.map iv:=by
 rw[←drop_drop,h2];rfl
def SI(h:Heap)(v:Value)(l:List Int):Prop:=AI h.length h v l
theorem SI.mono{h h':Heap}{v:Value}{l:List Int}(s:SI h v l)(hp:h<+:h'):SI h' v l:=(AI.mono s hp).le hp.length_le
theorem FI.si{lo hi:Nat}{h:Heap}{v:Value}{l:List Int}(s:FI lo hi h v l)(hn:hi<=h.length):SI h v l:=s.ai.le hn
theorem pre_get{h h1:Heap}(hp:h<+:h1){i:Nat}{b:Blk}(hg:hget h i=some b)(t:Heap):hget (h1++t) i=some b:=by
 rw[hget_prefix (hp.trans (prefix_append _ _)) (hget_lt hg)];exact hg
theorem self_get{h:Heap}{i:Nat}{b:Blk}(hg:hget h i=some b)(t:Heap):hget (h++t) i=some b:=pre_get prefix_rfl hg t
theorem agr_get{lo hi:Nat}{h h':Heap}(a:Agr lo hi h h'){i:Nat}{b:Blk}(hg:hget h i=some b)(ho:i<lo∨hi<=i):hget h' i=some b:=(a.2 i (hget_lt hg) ho).trans hg
theorem hget_lit0{h:Heap}{a b:Blk}:hget (h++ [a,b]) h.length=some a:=by simp[hget]
theorem hget_lit1{h:Heap}{a b:Blk}:hget (h++ [a,b]) (h.length+1)=some b:=by simp[hget]
theorem Sl.copy{h:Heap}{sz:Nat}{v:Value}{rows:List (List Value)}(s:Sl h sz v rows)(h0:rows≠ []) :
  ∃id off k,v = .slice (some ⟨id,off,none⟩) rows.length 0∧(∀t,hget (h++t) id=some k)∧k.st ≠ .dead∧off+rows.length*sz<=k.cells.length∧(k.cells.drop off).take (rows.length*sz)=rows.flatten:=by
 obtain⟨a,e,hl,f⟩:=s
 obtain⟨id,off,k,rfl,hg,hd,hb,hf⟩:=f h0
 exact⟨id,off,k,e,self_get hg,hd,hb,hf⟩
theorem rows_one{rows:List (List Value)}(h: ∀r∈rows,r.all oneC=true):rows.flatten.all oneC=true:=by
 rw[List.all_flatten,all_eq_true];exact h
theorem own_base{m:Nat}{h1:Heap}{M:Nat->Prop}(hp:m<=h1.length)(i:Nat):own m M (h1.length+i)=True:=by simp[own];omega
theorem own_base0{m:Nat}{h1:Heap}{M:Nat->Prop}(hp:m<=h1.length):own m M h1.length=True:=by simp[own];omega
theorem vCall_plain{G:List (Nat×Nat)}{P:Program}{M:Nat->Prop}{f:FuncId}{args:List Value}{h:Heap}{r:Value}(ha:args.all plainB=true)(hr:plainB r=true)
  (hc: ∀w,Calls P f args.toArray w fun e w'=>e = .returned r∧w'=w):vCall G P M f args h (fun r' h'=>r'=r∧h=h'):=by
 refine⟨r,h,fun p w vs hh hv => ?_,rfl,rfl⟩
 have:vs=args.toArray:=by
  refine Array.ext hv.1.symm (fun i h1 h2 => ?_)
  have h3:i<args.length:=by simpa using h2
  have:=(plainB_spec (all_eq_true.1 ha _ (getElem_mem h3))).eq (by simpa using hv.2 i h2 h1)
  simpa using this
 subst this
 refine (hc w).mono ?_
 rintro e w' ⟨rfl,rfl⟩
 exact⟨r,p,rfl,(plainB_spec hr).rel,hh,Ext.refl ..⟩
def bl(s:ByteArray):List UInt8:=s.data.toList
theorem bl_len(s:ByteArray):(bl s).length=s.size:=by simp[bl]
theorem bl_get{s:ByteArray}{i:Nat}(h:i<s.size):s[i]? = some ((bl s)[i]'(by rw[bl_len];exact h)):=by
 rw[getElem?_pos s i h]
 rfl
theorem bl_ext{s t:ByteArray}(h:bl s=bl t):s=t:=by
 cases s;cases t;simpa[bl,Array.toList_inj] using h
theorem take_all{α:Type}{p:α->Bool}{l:List α}{i:Nat}(h:i<l.length)(h1:(l.take i).all p=true)(h2:p l[i]=true):(l.take (i+1)).all p=true:=by
 rw[take_add_one,getElem?_eq_getElem h,List.all_append,h1]
 simp[h2]
theorem not_all{α:Type}{p:α->Bool}{l:List α}{i:Nat}(h:i<l.length)(h2:p l[i]=false):l.all p=false:=by
 rw[Bool.eq_false_iff];intro hh
 have:=all_eq_true.1 hh _ (getElem_mem h)
 rw[h2] at this;cases this
open Go.RowKit Go.ChangeShapes Go.WideShapes
theorem HRuns.addG{G:List (Nat×Nat)}{P:Program}{f:FuncId}{args:List Value}{h:Heap}{M:Nat->Prop}{r:Value}{h':Heap}(hh:HRuns [] P f args h M r h'):HRuns G P f args h M r h':=by
 intro p w vs hr ha
 refine (hh p w vs ⟨fun g hg=>by simp at hg,hr.dom,hr.blk,hr.esz,hr.inj⟩ ha).mono ?_
 rintro e w' ⟨v,q,rfl,hv,hq,ex⟩
 exact⟨v,q,rfl,hv,⟨fun g hg=>by obtain⟨t,a,b,c⟩:=hr.glob g hg;exact⟨t,ex.le _ _ a,b,c⟩,hq.dom,hq.blk,hq.esz,hq.inj⟩,ex⟩
theorem vCall.addG{G:List (Nat×Nat)}{P:Program}{M:Nat->Prop}{f:FuncId}{args:List Value}{h:Heap}{K:Value->Heap->Prop}(hh:vCall [] P M f args h K):vCall G P M f args h K:=
 let ⟨r,h',a,k⟩:=hh
 ⟨r,h',a.addG,k⟩
theorem below_grow{w:World}{k:Nat}{os:Array Obj}:Below w.heap.size w (Sort.grow (w.drewN k) os):=
 ⟨rfl,rfl,rfl,by simp[Sort.grow,World.drewN],fun b hb=>by simp[Sort.grow,World.drewN,Array.getElem?_append_left hb]⟩
theorem Ext.of_below{M:Nat->Prop}{p:Phi}{h:Heap}{w w':World}(b:Below w.heap.size w w'):Ext M p p h h w w':=
 ⟨Phi.le_refl p,fun id t e e'=>(by rw[e] at e';cases e'),le_refl _,fun k hk _=>b.block k hk,b.size,b.os,b.tape,b.output⟩
theorem vCall_below{G:List (Nat×Nat)}{P:Program}{M:Nat->Prop}{f:FuncId}{args:List Value}{h:Heap}{r:Value}(ha:args.all plainB=true)(hr:plainB r=true)
  (hc: ∀p w,HRel G p h w->Calls P f args.toArray w fun e w'=>e = .returned r∧Below w.heap.size w w'):vCall G P M f args h (fun r' h'=>r'=r∧h=h'):=by
 refine⟨r,h,fun p w vs hh hv => ?_,rfl,rfl⟩
 have:vs=args.toArray:=by
  refine Array.ext hv.1.symm (fun i h1 h2 => ?_)
  have h3:i<args.length:=by simpa using h2
  have:=(plainB_spec (all_eq_true.1 ha _ (getElem_mem h3))).eq (by simpa using hv.2 i h2 h1)
  simpa using this
 subst this
 refine (hc p w hh).mono ?_
 rintro e w' ⟨rfl,b⟩
 exact⟨r,p,rfl,(plainB_spec hr).rel,hh.kept b.size (fun k hk=>b.block k hk),Ext.of_below b⟩
theorem var_of{G:List (Nat×Nat)}{P:Program}{p:Phi}{h:Heap}{w:World}(hr:HRel G p h w){g:Nat}{l:List Value}(hg:(g,l.length)∈G)(hp: ∀v∈l,Plain v){b:Blk}(hb:hget h g=some b)(hd:b.st ≠ .dead)(hl:b.cells=l)
  {name:String} (hname:P.globalNamed name=some g):w.var? P name=some l.toArray:=by
 obtain⟨t,e,e1,e2,hn'⟩:=hr.glob _ hg
 obtain⟨_,c,el,fr,h1,h2,h3,h4,_⟩:=hr.blk g t b trivial e hb hd
 simp only at e e1 hn'
 subst hl
 rw[e1] at h1
 simp only[World.var?,hname,Option.bind_some,h1,Option.some.injEq]
 refine Array.ext (by simp;omega) fun i a1 a2 => ?_
 have hi:i<b.cells.length:=by simpa using a2
 obtain⟨v',b1,b2⟩:=h4 i b.cells[i] (getElem?_eq_getElem hi)
 rw[e2,add_zero,Array.getElem?_eq_getElem a1] at b1
 cases b1
 have:=(hp _ (getElem_mem hi)).eq b2
 simpa using this
def globH(L:List (Nat×List Value))(N:Nat):Heap:=(List.range N).map fun i=>⟨(L.lookup i).getD [],1, .ro⟩
def globP(L:List (Nat×List Value))(N:Nat):Phi:=fun i=>if i<N then (L.lookup i).map fun l=>⟨i,0,1,l.length⟩ else none
def globG(L:List (Nat×List Value)):List (Nat×Nat):=L.map fun x=>(x.1,x.2.length)
theorem globH_get{L:List (Nat×List Value)}{N i:Nat}{b:Blk}(h:(globH L N)[i]? = some b):b=⟨(L.lookup i).getD [],1, .ro⟩∧i<N:=by
 unfold globH at h
 rw[getElem?_map] at h
 cases e:(List.range N)[i]? with
 | none=>rw[e] at h;cases h
 | some j=>
  obtain⟨h1,h2⟩:=List.getElem?_eq_some_iff.1 e
  simp at h1 h2
  subst h2
  rw[e] at h
  simp at h
  exact⟨h.symm,h1⟩
theorem law_frameG{H:Type}{enc:TypeId×Value->H}{P:Program}{W:World}{held:Bool}{f:FuncId}{tys:List Ty}{ts:List TypeId}(hc:chkAll P tys ts=true){b0:Nat}{args:Array Value}{ds:List (DataW H)}{ps:List MemPlace}
  (hval: ∀(j:Nat) t v,ts[j]? = some t->args[j]? = some v->Value.okWide P W .any b0 t v) (hA:DataW.TrodAll enc P W 0 (fun _=>true) held ts args.toList ds ps)
  {G:List (Nat×Nat)} {p0:Phi} {h0:Heap} (hr0:HRel G p0 h0 W∧allRo h0)
  (hl: ∀h a,h0<+:h->FitsAll h tys a->vCall G P (fun _=>False) f a h (fun r _=>r = .bool true)) :
  Calls P f args W fun e W'=>e = .returned (.bool true)∧Below W.heap.size W W':=by
 obtain⟨hr0,ro0⟩:=hr0
 obtain⟨p,h,us,r,le,pre,_,c,ft⟩:=open_args hc (fun j t v a b=>hval j t v a (by simpa using b)) hA (p:=p0) (h:=h0) ⟨fun g hg=>by simp at hg,hr0.dom,hr0.blk,hr0.esz,hr0.inj⟩ ro0
 refine law_calls (hl h us pre ft) (⟨fun g hg=>by obtain⟨t,a,b⟩:=hr0.glob g hg;exact⟨t,le _ _ a,b⟩,r.dom,r.blk,r.esz,r.inj⟩:HRel G p h W) ⟨by simp[c.1],fun i h1 h2 => ?_⟩
 obtain⟨v',e,hv⟩:=c.2 i (us[i]'(by simpa using h1)) (by simp)
 have:args[i]'h2=v':=by
  rw[Array.getElem?_toList] at e
  rw[Array.getElem?_eq_getElem h2] at e;simpa using e
 simpa[this] using hv
theorem strs_cells{G:List (Nat×Nat)}{p:Phi}{h:Heap}{w:World}(hr:HRel G p h w){v v':Value}{xs:List ByteArray}(s:Sl h 1 v (xs.map fun x=> [.string x]))(hv:VRel p v v')(h0:xs≠ []) :
  ∃bk o c,v' = .slice (some ⟨bk,o,none⟩) xs.length c∧bk<w.heap.size∧xs.length<=c∧∀(j:Nat) x,xs[j]? = some x->w.cell? ⟨bk,o+j,none⟩=some (.string x):=by
 obtain⟨a,rfl,hl,f⟩:=s
 obtain⟨id,off,k,rfl,hg,hd,hb,hf⟩:=f (by simpa using h0)
 have hne:0<xs.length:=length_pos_iff.2 h0
 simp only[length_map] at hv hb hf
 generalize hx:xs.length=n at hv hb hf hne
 cases hv with
 | sliceEmpty=>omega
 | @slice _ _ t _ cap ht hlc hbd=>
  refine⟨t.b,off+t.d,cap,rfl,(hr.dom _ _ ht).2,hlc,fun j x hj => ?_⟩
  obtain⟨_,c,el,fr,h1,h2,h3,h4,_⟩:=hr.blk id t k trivial ht hg hd
  have hjn:j<n:=by rw[←hx];exact (List.getElem?_eq_some_iff.1 hj).1
  have hcell:k.cells[off+j]? = some (.string x):=by
   have e1:((k.cells.drop off).take (n*1))[j]? = some (.string x):=by
    rw[hf]
    have:(xs.map fun x=> [Value.string x]).flatten=xs.map Value.string:=by
     clear hf f hl h0 hx hj
     induction xs with
     | nil=>rfl
     | cons y ys ih=>simp[ih]
    rw[this,getElem?_map,hj];rfl
   rw[getElem?_take,if_pos (by omega),getElem?_drop] at e1
   exact e1
  obtain⟨v',b1,b2⟩:=h4 _ _ hcell
  cases b2
  unfold World.cell?
  simp only[h1]
  rw[show off+t.d+j=off+j+t.d by omega,b1]
  simp
theorem vCall_err{G:List (Nat×Nat)}{P:Program}{M:Nat->Prop}{f:FuncId}{args:List Value}{h:Heap}{r0:Value}{ty:TypeId}(ha:args.all plainB=true)(hr:plainB r0=true)
  (hc: ∀p w,HRel G p h w->Calls P f args.toArray w fun e w'=> ∃N,e = .returned (.tuple #[r0, .iface ty (.pointer (some ⟨N,0,none⟩))])∧w.heap.size<=N∧N<w'.heap.size∧Below w.heap.size w w') :
  vCall G P M f args h (fun r' h'=>r' = .tuple #[r0, .iface ty (.pointer (some ⟨h.length,0,none⟩))]∧h'=h++ [⟨[],0, .dead⟩]):=by
 refine⟨_,_,fun p w vs hh hv => ?_,rfl,rfl⟩
 have:vs=args.toArray:=by
  refine Array.ext hv.1.symm (fun i h1 h2 => ?_)
  have h3:i<args.length:=by simpa using h2
  have:=(plainB_spec (all_eq_true.1 ha _ (getElem_mem h3))).eq (by simpa using hv.2 i h2 h1)
  simpa using this
 subst this
 refine (hc p w hh).mono ?_
 rintro e w' ⟨N,rfl,hN,hN2,b⟩
 have hk:=hh.kept b.size (fun k hk=>b.block k hk)
 have hnone:p h.length=none:=by
  cases e:p h.length with
  | none=>rfl
  | some t=>have:=(hh.dom _ t e).1;omega
 have hle:p.le (phiPush p h.length ⟨N,0,0,0⟩):=fun id t e=>by
  unfold phiPush
  rw[if_neg]
  ·exact e
  ·intro hid;rw[hid,hnone] at e;cases e
 have split: ∀id t,phiPush p h.length ⟨N,0,0,0⟩ id=some t->(p id=some t∧id<h.length)∨(id=h.length∧t=⟨N,0,0,0⟩):=by
  intro id t e
  unfold phiPush at e
  split at e
  ·rename_i hid;exact .inr ⟨hid,(Option.some.inj e).symm⟩
  ·exact .inl ⟨e,(hh.dom id t e).1⟩
 have hnew:(h++ [(⟨[],0, .dead⟩:Blk)])[h.length]? = some ⟨[],0, .dead⟩:=by simp
 refine⟨_,phiPush p h.length ⟨N,0,0,0⟩,rfl, ?_, ?_, ?_⟩
 ·refine .tuple rfl fun i h1 h2 => ?_
  match i,h1,h2 with
  | 0,_,_=>exact ((plainB_spec hr).rel:VRel _ r0 r0)
  | 1,_,_=>exact .iface (VRel.ptr (off:=0) (t:=⟨N,0,0,0⟩) phiPush_same)
 ·refine⟨fun g hg => ?_,fun id t e => ?_,fun id t k tt e hk2 hd => ?_,fun id t k e hk2 => ?_,fun id id' t t' k k' e e' hk1 hk2 hrw hd hb => ?_⟩
  ·obtain⟨t,a,c⟩:=hk.glob g hg
   exact⟨t,hle _ _ a,c⟩
  ·rcases split id t e with⟨e,h1⟩|⟨rfl,rfl⟩
   ·exact⟨by simp;omega,(hk.dom id t e).2⟩
   ·exact⟨by simp,hN2⟩
  ·rcases split id t e with⟨e,h1⟩|⟨rfl,rfl⟩
   ·rw[getElem?_append_left h1] at hk2
    obtain⟨x1,c,el,f,x2,x3,x4,x5,x6⟩:=hk.blk id t k tt e hk2 hd
    exact⟨x1,c,el,f,x2,x3,x4,fun i v hv=>let ⟨v',y1,y2⟩:=x5 i v hv;⟨v',y1,y2.mono hle⟩,x6⟩
   ·rw[hnew] at hk2;cases hk2;exact absurd rfl hd
  ·rcases split id t e with⟨e,h1⟩|⟨rfl,rfl⟩
   ·rw[getElem?_append_left h1] at hk2
    exact hk.esz id t k e hk2
   ·rw[hnew] at hk2;cases hk2;rfl
  ·rcases split id t e with⟨e,h1⟩|⟨rfl,rfl⟩<;>rcases split id' t' e' with⟨e',h2⟩|⟨rfl,rfl⟩
   ·rw[getElem?_append_left h1] at hk1
    rw[getElem?_append_left h2] at hk2
    exact hk.inj id id' t t' k k' e e' hk1 hk2 hrw hd hb
   ·rw[hnew] at hk2;cases hk2;exact absurd rfl hd
   ·rw[hnew] at hk1;cases hk1;cases hrw
   ·rfl
 ·refine⟨hle,fun id t e en => ?_,by simp,fun k hk _=>b.block k hk,b.size,b.os,b.tape,b.output⟩
  rcases split id t e with⟨e,h1⟩|⟨rfl,rfl⟩
  ·rw[e] at en;cases en
  ·exact⟨le_refl _, .inl hN⟩
end Go.HH
namespace Go.HH
section
variable {G:List (Nat×Nat)} {P:Program} {M:Nat->Prop} {e:Env} {h:Heap} {o:Oper}
theorem HStep.emptyQ{t el:TypeId}{sz X:Nat}{z:List Value}(ho:o.op = .buildSlice t 0 #[])(ht:telem P t=some (sz,el))(hz:tzero P el=some z) :
  HStep G P o allT (fun _=>False) e h (.slice (some ⟨X,0,none⟩) 0 0) h:=
 .of_run fun p a w r hr=>by
  unfold telem at ht
  split at ht
  ·rename_i hu
   rw[Option.map_eq_some_iff] at ht
   obtain⟨i,hi,hs⟩:=ht
   simp only[Prod.mk.injEq] at hs
   obtain⟨rfl,rfl⟩:=hs
   unfold tzero at hz
   rw[hi] at hz
   simp only[Option.bind_some,Option.map_eq_some_iff] at hz
   obtain⟨zv,hz1,rfl⟩:=hz
   obtain⟨h1,h2⟩:=r.push' (M:=fun _=>False) i.size (by assumption) (LRel.nil p)
   have hk:=HRel.kept r h2.size (fun b hb=>h2.frame b hb fun _ _ _ f=>f.elim)
   refine⟨p, .slice (some ⟨w.heap.size,0,none⟩) 0 0,_, .inl ?_,hk.weaken (fun _ _ _ _=>trivial), .sliceEmpty,⟨Phi.le_refl p,fun id t e e'=>(by rw[e] at e';cases e'),le_refl _,h2.frame,h2.size,h2.os,h2.tape,h2.output⟩⟩
   unfold execOp
   rw[ho]
   simp only[Instr.buildSlice,Sem.run_bind,run_underlying hu,Result.andThen_ok,sizeOf,typeInfo,program,Sem.run,hi,Sem.run_pure,gt_iff_lt]
   simp[Array.range_zero',Instr.fill,newRow,newObj,Sem.run]
  ·cases ht
theorem HStep.appendQ{s x:Operand}{t:TypeId}{X off id2 off2 n sz by8:Nat}{k2:Blk}(ho:o.op = .call {callee := .builtin .append,args:= #[s,x],argTypes:= #[t,t]})
  (hs:Opd.val e s = .slice (some ⟨X,off,none⟩) 0 0) (hX:h.length<=X) (hx:Opd.val e x = .slice (some ⟨id2,off2,none⟩) n 0) (ht:tapp P t=some (sz,by8)) (hn:0<n)
  (hk:h[id2]? = some k2) (hd:k2.st ≠ .dead) (hl:off2+n*sz<=k2.cells.length)
  (hmax:n<=9223372036854775807) (hby:n*by8<=140737488355328) :
  HStep G P o allT M e h (.slice (some ⟨h.length,0,none⟩) n 0) (h++ [⟨(k2.cells.drop off2).take (n*sz),sz, .rw⟩]):=
 .of_run fun p a w r hr=>by
  have h1:=hr s (by rw[ho];simp[Op.operands,Call.operands])
  have h2:=hr x (by rw[ho];simp[Op.operands,Call.operands])
  rw[hs] at h1
  rw[hx] at h2
  have h1': ∃b,a.eval s = .slice (some b) 0 0:=by
   generalize a.eval s=u at h1
   cases h1 with
   | slice f1 _ _=>exact absurd (r.dom _ _ f1).1 (by omega)
   | @sliceEmpty _ a'=>exact⟨a',rfl⟩
  obtain⟨b,h1'⟩:=h1'
  obtain⟨ad,cap2,news,s1,s2,s3,s4⟩:=source r h2 hn trivial hk hd hl
  obtain⟨el,i,z,e1,e2,e3,e4,e5,rfl,rfl⟩:=tapp_spec ht
  have hrun:=run_append_grow (P:=P) w t o.type el i z e1 e2 e3 b 0 0 [] (by simp) (by simp) ad n cap2 news s3 s4 (by omega) (by omega) (growslice_fits (by omega) (by simpa using hby))
  simp only[zero_add,Array.empty_append] at hrun
  have hge:=grownCap_ge w n 0 el
  have hz:(Builtin.zeroCells z.cells (grownCap w n 0 el-n)).size=(grownCap w n 0 el-n)*i.size:=by rw[size_zeroCells,e4]
  have hcs:(#[]++news.toArray++Builtin.zeroCells z.cells (grownCap w n 0 el-n)).size=grownCap w n 0 el*i.size:=by
   rw[Array.size_append,hz,Array.empty_append,size_toArray,s3, ←Nat.add_mul];congr 1;omega
  have hlen:((k2.cells.drop off2).take (n*i.size)).length=news.length:=s2.1
  obtain⟨d1,d2⟩:=r.grow (M:=M) i.size el (cells:=(k2.cells.drop off2).take (n*i.size)) (c:= #[]++news.toArray++Builtin.zeroCells z.cells (grownCap w n 0 el-n))
   (by rw[hlen];simpa using s2) (by rw[hlen];simp)
  refine⟨_, .slice (some ⟨w.heap.size,0,none⟩) n (grownCap w n 0 el),_, .inl ?_,d1, ?_,d2⟩
  ·unfold execOp
   rw[ho]
   simp[resolve,invoke,builtin,h1',s1,hrun]
  ·exact VRel.slice (t:=⟨w.heap.size,0,i.size,_⟩) phiPush_same hge (by simp only;rw[hcs];omega)
def onAppQ(u v:Value){Z:Nat->Prop}{K:Nat->Nat->Nat->Nat->Prop}(_:Hold Z)(_:Hold K):Prop:=match u,v with
 | .slice (some ⟨X,0,none⟩) 0 0, .slice _ 0 _=>Z X
 | .slice (some ⟨X,0,none⟩) 0 0, .slice (some ⟨id2,off2,none⟩) (n+1) 0=>K X id2 off2 (n+1)
 | _,_=>False
def vOpQ(G:List (Nat×Nat))(P:Program)(op:Op)(e:Env)(h:Heap)(K:Value->Heap->Prop):Prop:=
 match op with
 | .buildSlice t 0 ⟨[]⟩=>onSome (telem P t) (hold fun te=>(tz P te.2).isSome=true∧∀X,h.length+1000<=X->K (.slice (some ⟨X,0,none⟩) 0 0) h)
 | .call ⟨.builtin .append,⟨[s,x]⟩,⟨[t,t2]⟩⟩=>onAppQ (Opd.val e s) (Opd.val e x)
   (hold fun X=>(tapp P t).isSome=true∧(telem P t2).isSome=true∧K (.slice (some ⟨X,0,none⟩) 0 0) h)
   (hold fun (X id2 off2 n:Nat)=>onSome (tapp P t) (hold fun sb=>onSome (hget h id2) (hold fun k2=>t2=t∧h.length<=X∧k2.st ≠ .dead∧off2+n*sb.1<=k2.cells.length∧n<=9223372036854775807∧n*sb.2<=140737488355328 ∧
     K (.slice (some ⟨h.length,0,none⟩) n 0) (h++ [⟨(k2.cells.drop off2).take (n*sb.1),sb.1, .rw⟩]))))
 | op=>vOp G P (fun _=>False) op e h (fun v h'=>h<+:h'∧K v h')
theorem vOpQ_sound{K:Value->Heap->Prop}(hv:vOpQ G P o.op e h K): ∃v h',HStep G P o allT (fun _=>False) e h v h'∧h<+:h'∧K v h':=by
 unfold vOpQ at hv
 split at hv
 ·rename_i t ho
  obtain⟨te,h1,h2,h3⟩:=hv.elim
  obtain⟨z,hz⟩:=Option.isSome_iff_exists.1 h2
  exact⟨_,h,HStep.emptyQ (sz:=te.1) (el:=te.2) ho h1 (tz_spec hz).1,List.prefix_refl h,h3 (h.length+1000) (le_refl _)⟩
 ·rename_i s x t t2 ho
  unfold onAppQ at hv
  split at hv
  ·rename_i X a2 hc2 hs hx
   obtain⟨h1,h2,h3⟩:=hv
   obtain⟨sb,hsb⟩:=Option.isSome_iff_exists.1 h1
   exact⟨_,h,HStep.append0 (sb:=sb) ho hs hx hsb h2,List.prefix_refl h,h3⟩
  ·rename_i X id2 off2 n hs hx
   obtain⟨sb,h1,hv⟩:=hv.elim
   obtain⟨k2,h2,hv⟩:=hv.elim
   obtain⟨rfl,hX,hd,hl,hmax,hby,hk⟩:=hv
   exact⟨_,_,HStep.appendQ ho hs hX hx h1 (Nat.succ_pos n) h2 hd hl hmax hby,prefix_append _ _,hk⟩
  ·exact hv.elim
 ·obtain⟨v,h',h1,h2⟩:=vOp_sound hv
  exact⟨v,h',h1,h2.1,h2.2⟩
def vOpsQ(G:List (Nat×Nat))(P:Program)(M:Nat->Prop):Nat->List Oper->Env->Heap->(Env->Heap->Prop)->Prop
 | _,[],e,h,K=>K e h
 | 0,o::os,e,h,K=>o.guard=none∧vOp G P M o.op e h (fun v h'=>vOpsQ G P M 0 os (put e o.dst v) h' K)
 | m+1,o::os,e,h,K=>o.guard=none∧vOpQ G P o.op e h (fun v h'=>vOpsQ G P M m os (put e o.dst v) h' K)
theorem vOpsQ_sound{ops:Array Oper}{n:Nat}: ∀(m:Nat) (l:List Oper) (e:Env) (h:Heap) (K:Env->Heap->Prop),vOpsQ G P M m l e h K →
  HOpsX G P ops (l.take m) e h (fun e1 h1=>HOps G P n M ops (l.drop m) e1 h1 K)
 | 0,[],e,h,K,hv=>by
  simp only[List.take_zero,drop_zero]
  unfold HOpsX HOps
  unfold vOpsQ at hv
  exact hv
 | m+1,[],e,h,K,hv=>by
  simp only[List.take_nil,List.drop_nil]
  unfold HOpsX HOps
  unfold vOpsQ at hv
  exact hv
 | 0,o::os,e,h,K,hv=>by
  unfold vOpsQ at hv
  obtain⟨hg,hv⟩:=hv
  obtain⟨v,h',h1,h2⟩:=vOp_sound hv
  have ih:=vOpsQ_sound (ops:=ops) (n:=n) 0 os _ _ K h2
  simp only[List.take_zero,drop_zero] at ih ⊢
  show HOps G P n M ops (o::os) e h K
  replace ih:HOps G P n M ops os (put e o.dst v) h' K:=ih
  unfold HOps
  have hw:wantedH ops o e=true:=by unfold wantedH;rw[hg]
  rw[if_pos hw]
  exact⟨v,h',h1,ih⟩
 | m+1,o::os,e,h,K,hv=>by
  unfold vOpsQ at hv
  obtain⟨hg,hv⟩:=hv
  obtain⟨v,h',h1,h3,h2⟩:=vOpQ_sound hv
  simp only[List.take_succ_cons,List.drop_succ_cons]
  unfold HOpsX
  have hw:wantedH ops o e=true:=by unfold wantedH;rw[hg]
  rw[if_pos hw]
  exact⟨v,h',h1,h3,vOpsQ_sound m os _ _ K h2⟩
def lkQ:List (Nat×Nat)->Nat->Option Nat
 | [],_=>none
 | (a,m)::L,i=>if a=i then some m else lkQ L i
def codeOKQ(L:List (Nat×Nat))(G:List (Nat×Nat))(n:Nat):Code->Bool
 | .region i ops true=>ops.toList.all (operB G n)&&match lkQ L i with
  | some m=>tailOK ops m
  | none=>drawOK ops
 | .seq a b=>codeOKQ L G n a&&codeOKQ L G n b
 | .block _ a=>codeOKQ L G n a
 | c=>codeOK G n c
def onLkQ(o:Option Nat){K:Nat->Prop}{A:Prop}(_:Hold K)(_:Hold A):Prop:=match o with
 | some m=>K m
 | none=>A
def vCodeQ(L:List (Nat×Nat))(G:List (Nat×Nat))(P:Program)(n:Nat)(M:Nat->Prop):Code->(Exit->Env->Heap->Prop)->Env->Heap->Prop
 | .region i ops true,Q,e,h=>onLkQ (lkQ L i) (hold fun m=>vOpsQ G P M m ops.toList e h (Q .normal)) (hold (vOpsD G P M [] ops.toList e h (Q .normal)))
 | .seq a b,Q,e,h=>vCodeQ L G P n M a (thenQ Q (vCodeQ L G P n M b Q)) e h
 | .block i a,Q,e,h=>vCodeQ L G P n M a (blockQ i Q) e h
 | c,Q,e,h=>vCode G P n M c Q e h
theorem vCodeQ_sound{n:Nat}{L:List (Nat×Nat)}(hm:P.follows .mixedOrders=true)(c:Code)(Q:Exit->Env->Heap->Prop)(e:Env)(h:Heap)(hok:codeOKQ L G n c=true)(hv:vCodeQ L G P n M c Q e h):HWp G P n M c Q e h:=by
 induction c generalizing Q e h with
 | region i ops draw=>
  cases draw with
  | false=>exact vCode_sound hm (.region i ops false) Q e h hok hv
  | true=>
   simp only[codeOKQ,Bool.and_eq_true] at hok
   unfold vCodeQ onLkQ at hv
   split at hv
   ·rename_i m hm2
    rw[hm2] at hok
    exact HWp.region_tail hm hok.2 hok.1 (vOpsQ_sound m ops.toList e h _ hv)
   ·rename_i hm2
    rw[hm2] at hok
    exact vCode_sound hm (.region i ops true) Q e h (by simp[codeOK,hok.2];simpa using hok.1) hv
 | seq a b iha ihb=>
  simp only[codeOKQ,Bool.and_eq_true] at hok
  refine HWp.seq ((iha _ e h hok.1 hv).mono ?_)
  intro z e' h' hz
  cases z with
  | normal=>exact .inl ⟨rfl,ihb Q e' h' hok.2 hz⟩
  | _=>exact .inr ⟨by simp,hz⟩
 | block i a iha=>
  refine HWp.block ((iha _ e h hok hv).mono ?_)
  intro z e' h' hz
  cases z with
  | exit j=>
   simp only[blockQ] at hz
   simp only
   split
   ·rename_i hj;rw[if_pos hj] at hz;exact hz
   ·rename_i hj;rw[if_neg hj] at hz;exact hz
  | _=>exact hz
 | _=>exact vCode_sound hm _ Q e h hok hv
theorem body_ofQ{f:FuncId}{fn:Func}{c:Code}{args:List Value}{rs:List ResultVar}{R:Value->Heap->Prop}(L:List (Nat×Nat))(hm:P.follows .mixedOrders=true)(hf:P.funcs[f]? = some fn)(hb:fn.body=some c)(hok:codeOKQ L G fn.ntmps c=true)(hn:args.length<=fn.ntmps)(hrs:fn.results=rs.toArray)
  (hv:vCodeQ L G P fn.ntmps (own h.length M) c (retQ P rs R) (env0 args) h):vCall G P M f args h R:=by
 have key:HWp G P fn.ntmps (own h.length M) c (retQ P rs R) (env0 args) h:=vCodeQ_sound hm c _ _ _ hok hv
 refine HRuns.of_body hf hb hn (key.mono ?_)
 intro z e' h' hz
 have fin: ∀(_:vRes P rs [] R e' h'),∃r,resAll P e' h' fn.results.toList=some r∧R r h':=fun hz=>by
  obtain⟨vs,h1,h2⟩:=vRes_sound rs [] R hz
  refine⟨retVal vs, ?_,by simpa using h2⟩
  rw[hrs]
  exact resAll_eq h1
 cases z with
 | ret=>exact⟨.inl rfl,fin hz⟩
 | normal=>exact⟨.inr rfl,fin hz⟩
 | exit _=>exact hz.elim
 | goto _=>exact hz.elim
 | panic _=>exact hz.elim
 | outgrown=>exact hz.elim
end
section
variable {G:List (Nat×Nat)} {P:Program} {M:Nat->Prop} {e:Env} {h:Heap} {L:List (Nat×Nat)} {n:Nat} {Q:Exit->Env->Heap->Prop} {c b:Code} {i m:Nat}
@[go_sem ↓] theorem lkQ_same:lkQ ((i,m)::L) i=some m:=by simp[lkQ]
@[go_sem ↓] theorem lkQ_other{b:Nat}(hij:(i==b)=false):lkQ ((b,m)::L) i=lkQ L i:=by
 have hh: ¬(b=i):=fun hh=>by rw[hh] at hij;simp at hij
 simp only[lkQ,if_neg hh]
@[go_sem ↓] theorem onLkQ_some{K:Nat->Prop}{A:Prop}{p:Hold K}{q:Hold A}:onLkQ (some m) p q=K m:=(rfl)
@[go_sem ↓] theorem vCodeQ_seq:vCodeQ L G P n M (.seq c b) Q e h=vCodeQ L G P n M c (thenQ Q (vCodeQ L G P n M b Q)) e h:=(rfl)
@[go_sem ↓] theorem vCodeQ_region{os:List Oper}:vCodeQ L G P n M (.region i os.toArray false) Q e h=vOps G P M false [] os e h (Q .normal):=(rfl)
@[go_sem ↓] theorem vCodeQ_regionX{os:List Oper}:vCodeQ L G P n M (.region i os.toArray true) Q e h=onLkQ (lkQ L i) (hold fun m=>vOpsQ G P M m os e h (Q .normal)) (hold (vOpsD G P M [] os e h (Q .normal))):=(rfl)
@[go_sem ↓] theorem vCodeQ_ret:vCodeQ L G P n M .ret Q e h=Q .ret e h:=(rfl)
@[go_sem ↓] theorem vOpsQ_nil{K:Env->Heap->Prop}:vOpsQ G P M m [] e h K=K e h:=by cases m<;>rfl
@[go_sem ↓] theorem vOpsQ_zero{d:Option Tmp}{op:Op}{t:TypeId}{s:String}{a:Array Edge}{os:List Oper}{K:Env->Heap->Prop} :
  vOpsQ G P M 0 (⟨d,op,t,s,a,none⟩::os) e h K=vOp G P M op e h (fun v h'=>vOpsQ G P M 0 os (put e d v) h' K):=by
 simp only[vOpsQ,true_and]
@[go_sem ↓] theorem vOpsQ_more{d:Option Tmp}{op:Op}{t:TypeId}{s:String}{a:Array Edge}{os:List Oper}{K:Env->Heap->Prop}(hm:(m==0)=false) :
  vOpsQ G P M m (⟨d,op,t,s,a,none⟩::os) e h K=vOpQ G P op e h (fun v h'=>vOpsQ G P M (m-1) os (put e d v) h' K):=by
 cases m with
 | zero=>cases hm
 | succ m=>simp only[vOpsQ,true_and,Nat.add_sub_cancel]
attribute [go_sem] Nat.reduceSub
variable {K:Value->Heap->Prop}
@[go_sem ↓] theorem vOpQ_empty{t:TypeId}:vOpQ G P (.buildSlice t 0 #[]) e h K=onSome (telem P t) (hold fun te=>(tz P te.2).isSome=true∧∀X,h.length+1000<=X->K (.slice (some ⟨X,0,none⟩) 0 0) h):=(rfl)
@[go_sem ↓] theorem vOpQ_append {s x : Operand} {t t2 : TypeId} : vOpQ G P (.call { callee := .builtin .append, args := #[s, x], argTypes := #[t, t2] }) e h K = onAppQ (Opd.val e s) (Opd.val e x)
      (hold fun X => (tapp P t).isSome = true ∧ (telem P t2).isSome = true ∧ K (.slice (some ⟨X, 0, none⟩) 0 0) h)
      (hold fun (X id2 off2 n : Nat) => onSome (tapp P t) (hold fun sb => onSome (hget h id2) (hold fun k2 => t2 = t ∧ h.length ≤ X ∧ k2.st ≠ .dead ∧ off2 + n * sb.1 ≤ k2.cells.length ∧ n ≤ 9223372036854775807 ∧ n * sb.2 ≤ 140737488355328 ∧
          K (.slice (some ⟨h.length, 0, none⟩) n 0) (h ++ [⟨(k2.cells.drop off2).take (n * sb.1), sb.1, .rw⟩])))) := (rfl)
@[go_sem ↓] theorem vOpQ_fieldAddr{s:TypeId}{x:Operand}{f:Nat}:vOpQ G P (.fieldAddr s x f) e h K=vOp G P (fun _=>False) (.fieldAddr s x f) e h (fun v h'=>h<+:h'∧K v h'):=(rfl)
@[go_sem ↓] theorem vOpQ_alloc{s:TypeId}:vOpQ G P (.alloc s) e h K=vOp G P (fun _=>False) (.alloc s) e h (fun v h'=>h<+:h'∧K v h'):=(rfl)
@[go_sem ↓] theorem vOpQ_load{s:TypeId}{x:Operand}:vOpQ G P (.load s x) e h K=vOp G P (fun _=>False) (.load s x) e h (fun v h'=>h<+:h'∧K v h'):=(rfl)
@[go_sem ↓] theorem vOpQ_build{s:TypeId}{ps:Array (Nat×Operand)}:vOpQ G P (.build s ps) e h K=vOp G P (fun _=>False) (.build s ps) e h (fun v h'=>h<+:h'∧K v h'):=(rfl)
variable {Z:Nat->Prop} {K4:Nat->Nat->Nat->Nat->Prop} {p:Hold Z} {q:Hold K4}
@[go_sem] theorem onAppQ_nothing{X hc:Nat}{a2:Option Addr}:onAppQ (.slice (some ⟨X,0,none⟩) 0 0) (.slice a2 0 hc) p q=Z X:=(rfl)
theorem onAppQ_more{X id2 off2 n:Nat}(hn:0<n):onAppQ (.slice (some ⟨X,0,none⟩) 0 0) (.slice (some ⟨id2,off2,none⟩) n 0) p q=K4 X id2 off2 n:=by
 cases n with
 | zero=>omega
 | succ n=>rfl
end
end Go.HH
namespace Go.Proofs
open Go.Shelf
def Tryz.lays156_ren:Go.Shelf.Ren:=⟨fun|156=>147|165=>186|166=>187|169=>188|240=>230|241=>231|276=>256|277=>257|n=>n,fun|31=>61|9=>9|3=>3|4=>4|0=>0|20=>20|72=>202|76=>161|70=>200|37=>39|75=>160|127=>235|164=>257|5=>5|80=>204|n=>n,fun|n=>n⟩
theorem Tryz.lays156:Go.Proofs.Lays.n156 Tryz.prog Tryz.lays156_ren:= {
 mixed:=by kernel_rfl
 f156:=Tryz.func147.trans (congrArg some (by kernel_rfl))
 f165:=Tryz.func186.trans (congrArg some (by kernel_rfl))
 f166:=Tryz.func187.trans (congrArg some (by kernel_rfl))
 f169:=Tryz.func188.trans (congrArg some (by kernel_rfl))
 f240:=Tryz.func230.trans (congrArg some (by kernel_rfl))
 f241:=Tryz.func231.trans (congrArg some (by kernel_rfl))
 f276:=Tryz.func256.trans (congrArg some (by kernel_rfl))
 f277:=Tryz.func257.trans (congrArg some (by kernel_rfl))
 t0:=Tryz.underlying0
 a0:=Tryz.isAgg0
 z0:=Tryz.sizeOf0
 v0:=Tryz.zeroValue0
 t3:=Tryz.underlying3
 a3:=Tryz.isAgg3
 z3:=Tryz.sizeOf3
 v3:=Tryz.zeroValue3
 t4:=Tryz.underlying4
 a4:=Tryz.isAgg4
 z4:=Tryz.sizeOf4
 v4:=Tryz.zeroValue4
 t9:=Tryz.underlying9
 a9:=Tryz.isAgg9
 z9:=Tryz.sizeOf9
 v9:=Tryz.zeroValue9
 t20:=Tryz.underlying20
 a20:=Tryz.isAgg20
 z20:=Tryz.sizeOf20
 v20:=Tryz.zeroValue20
 t31:=Tryz.underlying61
 a31:=Tryz.isAgg61
 z31:=Tryz.sizeOf61
 v31:=Tryz.zeroValue61
 t37:=Tryz.underlying39
 a37:=Tryz.isAgg39
 z37:=Tryz.sizeOf39
 v37:=Tryz.zeroValue39
 t70:=Tryz.underlying200
 a70:=Tryz.isAgg200
 z70:=Tryz.sizeOf200
 v70:=Tryz.zeroValue200
 t72:=Tryz.underlying202
 a72:=Tryz.isAgg202
 z72:=Tryz.sizeOf202
 v72:=Tryz.zeroValue202
 t75:=Tryz.underlying160
 a75:=Tryz.isAgg160
 z75:=Tryz.sizeOf160
 v75:=Tryz.zeroValue160
 t76:=Tryz.underlying161
 a76:=Tryz.isAgg161
 z76:=Tryz.sizeOf161
 v76:=Tryz.zeroValue161
 t127:=Tryz.underlying235
 a127:=Tryz.isAgg235
 z127:=Tryz.sizeOf235
 v127:=Tryz.zeroValue235
 t164:=Tryz.underlying257
 a164:=Tryz.isAgg257
 z164:=Tryz.sizeOf257
 v164:=Tryz.zeroValue257}
theorem Tryz.Builder_Extra_156:Builder.Extra Tryz.prog Tryz.lays156_ren:= {
 sizeBuilder:=by kernel_rfl
 liesBuilder:=by kernel_rfl
 t5:=Tryz.underlying5
 a5:=Tryz.isAgg5
 z5:=Tryz.sizeOf5
 v5:=Tryz.zeroValue5
 infoByte:=by kernel_rfl
 cellsByte:=by kernel_rfl
 sizeByte:=by kernel_rfl
 neB5:=by decide}
open Go.RowKit in
theorem Tryz.strings_Join_none(a:Option Addr)(c:Nat)(sep:ByteArray)(w:World) :
  Calls Tryz.prog 147 #[.slice a 0 c, .string sep] w fun e w'=>e = .returned (.string ⟨#[]⟩)∧w'=w:=Any.strings_Join_none Tryz.lays156 Tryz.Builder_Extra_156 a c sep w
open Go.RowKit in
theorem Tryz.strings_Join(bk o c:Nat)(xs:List ByteArray)(sep:ByteArray)(w:World)(hcells: ∀(j:Nat) x,xs[j]? = some x->w.cell? ⟨bk,o+j,none⟩=some (.string x))(hbk:bk<w.heap.size)(hN:xs.length<=140737488355328)(hcap:xs.length<=c)(hlen:(Lib.join (xs.map (·.data.toList)) sep.data.toList).length<=140737488355328) :
  Calls Tryz.prog 147 #[.slice (some ⟨bk,o,none⟩) xs.length c, .string sep] w fun e w'=>e = .returned (.string ⟨(Lib.join (xs.map (·.data.toList)) sep.data.toList).toArray⟩)∧Below w.heap.size w w':=Any.strings_Join Tryz.lays156 Tryz.Builder_Extra_156 bk o c xs sep w hcells hbk hN hcap hlen
def Tryz.lays172_ren:Go.Shelf.Ren:=⟨fun|172=>137|244=>171|245=>172|247=>215|279=>216|280=>217|281=>218|282=>219|287=>248|316=>249|171=>80|205=>250|321=>261|322=>262|243=>128|246=>166|283=>207|284=>208|285=>209|286=>210|129=>242|317=>241|318=>243|319=>244|320=>245|337=>259|338=>260|n=>n,fun|9=>9|3=>3|75=>160|76=>161|4=>4|5=>5|167=>223|37=>39|0=>0|85=>224|2=>2|168=>226|53=>81|175=>248|46=>156|210=>251|127=>235|145=>268|143=>266|21=>21|171=>218|173=>221|212=>242|51=>243|20=>20|213=>244|232=>270|233=>271|80=>204|n=>n,fun|15=>2|16=>3|17=>1|18=>6|19=>7|n=>n⟩
theorem Tryz.lays172:Go.Proofs.Lays.n172 Tryz.prog Tryz.lays172_ren:= {
 mixed:=by kernel_rfl
 f129:=Tryz.func242.trans (congrArg some (by kernel_rfl))
 f171:=Tryz.func80.trans (congrArg some (by kernel_rfl))
 f172:=Tryz.func137.trans (congrArg some (by kernel_rfl))
 f205:=Tryz.func250.trans (congrArg some (by kernel_rfl))
 f243:=Tryz.func128.trans (congrArg some (by kernel_rfl))
 f244:=Tryz.func171.trans (congrArg some (by kernel_rfl))
 f245:=Tryz.func172.trans (congrArg some (by kernel_rfl))
 f246:=Tryz.func166.trans (congrArg some (by kernel_rfl))
 f247:=Tryz.func215.trans (congrArg some (by kernel_rfl))
 f279:=Tryz.func216.trans (congrArg some (by kernel_rfl))
 f280:=Tryz.func217.trans (congrArg some (by kernel_rfl))
 f281:=Tryz.func218.trans (congrArg some (by kernel_rfl))
 f282:=Tryz.func219.trans (congrArg some (by kernel_rfl))
 f283:=Tryz.func207.trans (congrArg some (by kernel_rfl))
 f284:=Tryz.func208.trans (congrArg some (by kernel_rfl))
 f285:=Tryz.func209.trans (congrArg some (by kernel_rfl))
 f286:=Tryz.func210.trans (congrArg some (by kernel_rfl))
 f287:=Tryz.func248.trans (congrArg some (by kernel_rfl))
 f316:=Tryz.func249.trans (congrArg some (by kernel_rfl))
 f317:=Tryz.func241.trans (congrArg some (by kernel_rfl))
 f318:=Tryz.func243.trans (congrArg some (by kernel_rfl))
 f319:=Tryz.func244.trans (congrArg some (by kernel_rfl))
 f320:=Tryz.func245.trans (congrArg some (by kernel_rfl))
 f321:=Tryz.func261.trans (congrArg some (by kernel_rfl))
 f322:=Tryz.func262.trans (congrArg some (by kernel_rfl))
 f337:=Tryz.func259.trans (congrArg some (by kernel_rfl))
 f338:=Tryz.func260.trans (congrArg some (by kernel_rfl))
 t0:=Tryz.underlying0
 a0:=Tryz.isAgg0
 z0:=Tryz.sizeOf0
 v0:=Tryz.zeroValue0
 t2:=Tryz.underlying2
 a2:=Tryz.isAgg2
 z2:=Tryz.sizeOf2
 v2:=Tryz.zeroValue2
 t3:=Tryz.underlying3
 a3:=Tryz.isAgg3
 z3:=Tryz.sizeOf3
 v3:=Tryz.zeroValue3
 t4:=Tryz.underlying4
 a4:=Tryz.isAgg4
 z4:=Tryz.sizeOf4
 v4:=Tryz.zeroValue4
 t5:=Tryz.underlying5
 a5:=Tryz.isAgg5
 z5:=Tryz.sizeOf5
 v5:=Tryz.zeroValue5
 t9:=Tryz.underlying9
 a9:=Tryz.isAgg9
 z9:=Tryz.sizeOf9
 v9:=Tryz.zeroValue9
 t20:=Tryz.underlying20
 a20:=Tryz.isAgg20
 z20:=Tryz.sizeOf20
 v20:=Tryz.zeroValue20
 t21:=Tryz.underlying21
 a21:=Tryz.isAgg21
 z21:=Tryz.sizeOf21
 v21:=Tryz.zeroValue21
 t37:=Tryz.underlying39
 a37:=Tryz.isAgg39
 z37:=Tryz.sizeOf39
 v37:=Tryz.zeroValue39
 t46:=Tryz.underlying156
 a46:=Tryz.isAgg156
 z46:=Tryz.sizeOf156
 v46:=Tryz.zeroValue156
 t51:=Tryz.underlying243
 a51:=Tryz.isAgg243
 z51:=Tryz.sizeOf243
 v51:=Tryz.zeroValue243
 t53:=Tryz.underlying81
 a53:=Tryz.isAgg81
 z53:=Tryz.sizeOf81
 v53:=Tryz.zeroValue81
 t75:=Tryz.underlying160
 a75:=Tryz.isAgg160
 z75:=Tryz.sizeOf160
 v75:=Tryz.zeroValue160
 t76:=Tryz.underlying161
 a76:=Tryz.isAgg161
 z76:=Tryz.sizeOf161
 v76:=Tryz.zeroValue161
 t85:=Tryz.underlying224
 a85:=Tryz.isAgg224
 z85:=Tryz.sizeOf224
 v85:=Tryz.zeroValue224
 t127:=Tryz.underlying235
 a127:=Tryz.isAgg235
 z127:=Tryz.sizeOf235
 v127:=Tryz.zeroValue235
 t143:=Tryz.underlying266
 a143:=Tryz.isAgg266
 z143:=Tryz.sizeOf266
 v143:=Tryz.zeroValue266
 t145:=Tryz.underlying268
 a145:=Tryz.isAgg268
 z145:=Tryz.sizeOf268
 v145:=Tryz.zeroValue268
 t167:=Tryz.underlying223
 a167:=Tryz.isAgg223
 z167:=Tryz.sizeOf223
 v167:=Tryz.zeroValue223
 t168:=Tryz.underlying226
 a168:=Tryz.isAgg226
 z168:=Tryz.sizeOf226
 v168:=Tryz.zeroValue226
 t171:=Tryz.underlying218
 a171:=Tryz.isAgg218
 z171:=Tryz.sizeOf218
 v171:=Tryz.zeroValue218
 t173:=Tryz.underlying221
 a173:=Tryz.isAgg221
 z173:=Tryz.sizeOf221
 v173:=Tryz.zeroValue221
 t175:=Tryz.underlying248
 a175:=Tryz.isAgg248
 z175:=Tryz.sizeOf248
 v175:=Tryz.zeroValue248
 t210:=Tryz.underlying251
 a210:=Tryz.isAgg251
 z210:=Tryz.sizeOf251
 v210:=Tryz.zeroValue251
 t212:=Tryz.underlying242
 a212:=Tryz.isAgg242
 z212:=Tryz.sizeOf242
 v212:=Tryz.zeroValue242
 t213:=Tryz.underlying244
 a213:=Tryz.isAgg244
 z213:=Tryz.sizeOf244
 t232:=Tryz.underlying270
 a232:=Tryz.isAgg270
 z232:=Tryz.sizeOf270
 v232:=Tryz.zeroValue270
 t233:=Tryz.underlying271
 a233:=Tryz.isAgg271
 z233:=Tryz.sizeOf271
 v233:=Tryz.zeroValue271
 g15:=by kernel_rfl
 g16:=by kernel_rfl
 g17:=by kernel_rfl
 g18:=by kernel_rfl
 g19:=by kernel_rfl}
open Go.RowKit in
theorem Tryz.strconv_Atoi(s:ByteArray)(n:Int)(hl:s.size<=18)(h:Lib.atoi s.data.toList=some n)(w:World) :
  Calls Tryz.prog 137 #[.string s] w fun e w'=>e = .returned (.tuple #[.int .i64 n, .nilIface])∧∃t,w'=Lib.bytesWorld w 5 t:=Any.strconv_Atoi Tryz.lays172 s n hl h w
def Tryz.laysM246_ren:Go.Shelf.Ren:=⟨fun|246=>166|283=>207|284=>208|285=>209|286=>210|129=>242|317=>241|318=>243|319=>244|320=>245|337=>259|338=>260|n=>n,fun|2=>2|3=>3|9=>9|4=>4|171=>218|0=>0|53=>81|37=>39|5=>5|173=>221|212=>242|51=>243|20=>20|213=>244|46=>156|232=>270|233=>271|n=>n,fun|17=>1|18=>6|19=>7|n=>n⟩
def Tryz.laysM243_ren:Go.Shelf.Ren:=⟨fun|243=>128|246=>166|283=>207|284=>208|285=>209|286=>210|129=>242|317=>241|318=>243|319=>244|320=>245|337=>259|338=>260|n=>n,fun|3=>3|9=>9|2=>2|4=>4|171=>218|0=>0|53=>81|37=>39|5=>5|173=>221|212=>242|51=>243|20=>20|213=>244|46=>156|232=>270|233=>271|n=>n,fun|17=>1|18=>6|19=>7|n=>n⟩
def Tryz.laysM171_ren:Go.Shelf.Ren:=⟨fun|171=>80|243=>128|246=>166|283=>207|284=>208|285=>209|286=>210|129=>242|317=>241|318=>243|319=>244|320=>245|337=>259|338=>260|n=>n,fun|3=>3|9=>9|2=>2|4=>4|171=>218|0=>0|53=>81|37=>39|5=>5|173=>221|212=>242|51=>243|20=>20|213=>244|46=>156|232=>270|233=>271|n=>n,fun|17=>1|18=>6|19=>7|n=>n⟩
theorem Tryz.laysM171:Go.Proofs.LaysM.n171 Tryz.prog Tryz.laysM171_ren:= {
 mixed:=by kernel_rfl
 f129:=Tryz.func242.trans (congrArg some (by kernel_rfl))
 f171:=Tryz.func80.trans (congrArg some (by kernel_rfl))
 f243:=Tryz.func128.trans (congrArg some (by kernel_rfl))
 f246:=Tryz.func166.trans (congrArg some (by kernel_rfl))
 f283:=Tryz.func207.trans (congrArg some (by kernel_rfl))
 f284:=Tryz.func208.trans (congrArg some (by kernel_rfl))
 f285:=Tryz.func209.trans (congrArg some (by kernel_rfl))
 f286:=Tryz.func210.trans (congrArg some (by kernel_rfl))
 f317:=Tryz.func241.trans (congrArg some (by kernel_rfl))
 f318:=Tryz.func243.trans (congrArg some (by kernel_rfl))
 f319:=Tryz.func244.trans (congrArg some (by kernel_rfl))
 f320:=Tryz.func245.trans (congrArg some (by kernel_rfl))
 f337:=Tryz.func259.trans (congrArg some (by kernel_rfl))
 f338:=Tryz.func260.trans (congrArg some (by kernel_rfl))
 t0:=Tryz.underlying0
 a0:=Tryz.isAgg0
 z0:=Tryz.sizeOf0
 v0:=Tryz.zeroValue0
 t2:=Tryz.underlying2
 a2:=Tryz.isAgg2
 z2:=Tryz.sizeOf2
 v2:=Tryz.zeroValue2
 t3:=Tryz.underlying3
 a3:=Tryz.isAgg3
 z3:=Tryz.sizeOf3
 v3:=Tryz.zeroValue3
 t4:=Tryz.underlying4
 a4:=Tryz.isAgg4
 z4:=Tryz.sizeOf4
 v4:=Tryz.zeroValue4
 t5:=Tryz.underlying5
 a5:=Tryz.isAgg5
 z5:=Tryz.sizeOf5
 v5:=Tryz.zeroValue5
 t9:=Tryz.underlying9
 a9:=Tryz.isAgg9
 z9:=Tryz.sizeOf9
 v9:=Tryz.zeroValue9
 t20:=Tryz.underlying20
 a20:=Tryz.isAgg20
 z20:=Tryz.sizeOf20
 v20:=Tryz.zeroValue20
 t37:=Tryz.underlying39
 a37:=Tryz.isAgg39
 z37:=Tryz.sizeOf39
 v37:=Tryz.zeroValue39
 t46:=Tryz.underlying156
 a46:=Tryz.isAgg156
 z46:=Tryz.sizeOf156
 v46:=Tryz.zeroValue156
 t51:=Tryz.underlying243
 a51:=Tryz.isAgg243
 z51:=Tryz.sizeOf243
 v51:=Tryz.zeroValue243
 t53:=Tryz.underlying81
 a53:=Tryz.isAgg81
 z53:=Tryz.sizeOf81
 v53:=Tryz.zeroValue81
 t171:=Tryz.underlying218
 a171:=Tryz.isAgg218
 z171:=Tryz.sizeOf218
 v171:=Tryz.zeroValue218
 t173:=Tryz.underlying221
 a173:=Tryz.isAgg221
 z173:=Tryz.sizeOf221
 v173:=Tryz.zeroValue221
 t212:=Tryz.underlying242
 a212:=Tryz.isAgg242
 z212:=Tryz.sizeOf242
 v212:=Tryz.zeroValue242
 t213:=Tryz.underlying244
 a213:=Tryz.isAgg244
 z213:=Tryz.sizeOf244
 t232:=Tryz.underlying270
 a232:=Tryz.isAgg270
 z232:=Tryz.sizeOf270
 v232:=Tryz.zeroValue270
 t233:=Tryz.underlying271
 a233:=Tryz.isAgg271
 z233:=Tryz.sizeOf271
 v233:=Tryz.zeroValue271
 g17:=by kernel_rfl
 g18:=by kernel_rfl
 g19:=by kernel_rfl
 i0:=by kernel_rfl
 i2:=by kernel_rfl
 i3:=by kernel_rfl
 i4:=by kernel_rfl
 i5:=by kernel_rfl
 i9:=by kernel_rfl
 i20:=by kernel_rfl
 i37:=by kernel_rfl
 i46:=by kernel_rfl
 i51:=by kernel_rfl
 i53:=by kernel_rfl
 i171:=by kernel_rfl
 i173:=by kernel_rfl
 i212:=by kernel_rfl
 i232:=by kernel_rfl
 i233:=by kernel_rfl
 m17:=by kernel_rfl
 m18:=by kernel_rfl
 m19:=by kernel_rfl}
open Go.RowKit Go.Sort Go.Lib in
theorem Tryz.strconv_Itoa (n : Int) (h0 : -9223372036854775808 ≤ n) (h1 : n ≤ 9223372036854775807) (w : World) (htab : Lib.TabIs Tryz.prog w "internal/strconv.uint64pow10" .u64 Lib.pow10Tab) :
  Calls Tryz.prog 80 #[.int .i64 n] w fun e w'=>e = .returned (.string ⟨(Lib.itoa n).toArray⟩)∧∃k os,w'=grow (w.drewN k) os:=Any.strconv_Itoa Tryz.laysM171 n h0 h1 w htab
def Tryz.lays171_ren:Go.Shelf.Ren:=⟨fun|171=>80|243=>128|246=>166|283=>207|284=>208|285=>209|286=>210|129=>242|317=>241|318=>243|319=>244|320=>245|337=>259|338=>260|n=>n,fun|3=>3|9=>9|2=>2|4=>4|171=>218|0=>0|53=>81|37=>39|5=>5|173=>221|212=>242|51=>243|20=>20|213=>244|46=>156|232=>270|233=>271|n=>n,fun|17=>1|18=>6|19=>7|n=>n⟩
theorem Tryz.lays171:Go.Proofs.Lays.n171 Tryz.prog Tryz.lays171_ren:= {
 mixed:=by kernel_rfl
 f129:=Tryz.func242.trans (congrArg some (by kernel_rfl))
 f171:=Tryz.func80.trans (congrArg some (by kernel_rfl))
 f243:=Tryz.func128.trans (congrArg some (by kernel_rfl))
 f246:=Tryz.func166.trans (congrArg some (by kernel_rfl))
 f283:=Tryz.func207.trans (congrArg some (by kernel_rfl))
 f284:=Tryz.func208.trans (congrArg some (by kernel_rfl))
 f285:=Tryz.func209.trans (congrArg some (by kernel_rfl))
 f286:=Tryz.func210.trans (congrArg some (by kernel_rfl))
 f317:=Tryz.func241.trans (congrArg some (by kernel_rfl))
 f318:=Tryz.func243.trans (congrArg some (by kernel_rfl))
 f319:=Tryz.func244.trans (congrArg some (by kernel_rfl))
 f320:=Tryz.func245.trans (congrArg some (by kernel_rfl))
 f337:=Tryz.func259.trans (congrArg some (by kernel_rfl))
 f338:=Tryz.func260.trans (congrArg some (by kernel_rfl))
 t0:=Tryz.underlying0
 a0:=Tryz.isAgg0
 z0:=Tryz.sizeOf0
 v0:=Tryz.zeroValue0
 t2:=Tryz.underlying2
 a2:=Tryz.isAgg2
 z2:=Tryz.sizeOf2
 v2:=Tryz.zeroValue2
 t3:=Tryz.underlying3
 a3:=Tryz.isAgg3
 z3:=Tryz.sizeOf3
 v3:=Tryz.zeroValue3
 t4:=Tryz.underlying4
 a4:=Tryz.isAgg4
 z4:=Tryz.sizeOf4
 v4:=Tryz.zeroValue4
 t5:=Tryz.underlying5
 a5:=Tryz.isAgg5
 z5:=Tryz.sizeOf5
 v5:=Tryz.zeroValue5
 t9:=Tryz.underlying9
 a9:=Tryz.isAgg9
 z9:=Tryz.sizeOf9
 v9:=Tryz.zeroValue9
 t20:=Tryz.underlying20
 a20:=Tryz.isAgg20
 z20:=Tryz.sizeOf20
 v20:=Tryz.zeroValue20
 t37:=Tryz.underlying39
 a37:=Tryz.isAgg39
 z37:=Tryz.sizeOf39
 v37:=Tryz.zeroValue39
 t46:=Tryz.underlying156
 a46:=Tryz.isAgg156
 z46:=Tryz.sizeOf156
 v46:=Tryz.zeroValue156
 t51:=Tryz.underlying243
 a51:=Tryz.isAgg243
 z51:=Tryz.sizeOf243
 v51:=Tryz.zeroValue243
 t53:=Tryz.underlying81
 a53:=Tryz.isAgg81
 z53:=Tryz.sizeOf81
 v53:=Tryz.zeroValue81
 t171:=Tryz.underlying218
 a171:=Tryz.isAgg218
 z171:=Tryz.sizeOf218
 v171:=Tryz.zeroValue218
 t173:=Tryz.underlying221
 a173:=Tryz.isAgg221
 z173:=Tryz.sizeOf221
 v173:=Tryz.zeroValue221
 t212:=Tryz.underlying242
 a212:=Tryz.isAgg242
 z212:=Tryz.sizeOf242
 v212:=Tryz.zeroValue242
 t213:=Tryz.underlying244
 a213:=Tryz.isAgg244
 z213:=Tryz.sizeOf244
 t232:=Tryz.underlying270
 a232:=Tryz.isAgg270
 z232:=Tryz.sizeOf270
 v232:=Tryz.zeroValue270
 t233:=Tryz.underlying271
 a233:=Tryz.isAgg271
 z233:=Tryz.sizeOf271
 v233:=Tryz.zeroValue271
 g17:=by kernel_rfl
 g18:=by kernel_rfl
 g19:=by kernel_rfl}
open Go.RowKit Go.Sort Go.Lib in
theorem Tryz.strconv_Itoa_small(i:Nat)(hi:i<100)(w:World) :
  Calls Tryz.prog 80 #[.int .i64 i] w fun e w'=>e = .returned (.string ⟨(Lib.decDigits i).toArray⟩)∧w'=w:=Any.strconv_Itoa_small Tryz.lays171 i hi w
def Tryz.laysC172_ren:Go.Shelf.Ren:=⟨fun|172=>137|244=>171|245=>172|247=>215|279=>216|280=>217|281=>218|282=>219|287=>248|316=>249|171=>80|205=>250|321=>261|322=>262|243=>128|246=>166|283=>207|284=>208|285=>209|286=>210|129=>242|317=>241|318=>243|319=>244|320=>245|337=>259|338=>260|n=>n,fun|9=>9|3=>3|75=>160|76=>161|4=>4|5=>5|167=>223|37=>39|0=>0|85=>224|2=>2|168=>226|53=>81|175=>248|46=>156|210=>251|127=>235|145=>268|143=>266|21=>21|171=>218|173=>221|212=>242|51=>243|20=>20|213=>244|232=>270|233=>271|80=>204|n=>n,fun|15=>2|16=>3|17=>1|18=>6|19=>7|n=>n⟩
theorem Tryz.laysC172:Go.Proofs.LaysC.n172 Tryz.prog Tryz.laysC172_ren:= {
 mixed:=by kernel_rfl
 f129:=Tryz.func242.trans (congrArg some (by kernel_rfl))
 f171:=Tryz.func80.trans (congrArg some (by kernel_rfl))
 f172:=Tryz.func137.trans (congrArg some (by kernel_rfl))
 f205:=Tryz.func250.trans (congrArg some (by kernel_rfl))
 f243:=Tryz.func128.trans (congrArg some (by kernel_rfl))
 f244:=Tryz.func171.trans (congrArg some (by kernel_rfl))
 f245:=Tryz.func172.trans (congrArg some (by kernel_rfl))
 f246:=Tryz.func166.trans (congrArg some (by kernel_rfl))
 f247:=Tryz.func215.trans (congrArg some (by kernel_rfl))
 f279:=Tryz.func216.trans (congrArg some (by kernel_rfl))
 f280:=Tryz.func217.trans (congrArg some (by kernel_rfl))
 f281:=Tryz.func218.trans (congrArg some (by kernel_rfl))
 f282:=Tryz.func219.trans (congrArg some (by kernel_rfl))
 f283:=Tryz.func207.trans (congrArg some (by kernel_rfl))
 f284:=Tryz.func208.trans (congrArg some (by kernel_rfl))
 f285:=Tryz.func209.trans (congrArg some (by kernel_rfl))
 f286:=Tryz.func210.trans (congrArg some (by kernel_rfl))
 f287:=Tryz.func248.trans (congrArg some (by kernel_rfl))
 f316:=Tryz.func249.trans (congrArg some (by kernel_rfl))
 f317:=Tryz.func241.trans (congrArg some (by kernel_rfl))
 f318:=Tryz.func243.trans (congrArg some (by kernel_rfl))
 f319:=Tryz.func244.trans (congrArg some (by kernel_rfl))
 f320:=Tryz.func245.trans (congrArg some (by kernel_rfl))
 f321:=Tryz.func261.trans (congrArg some (by kernel_rfl))
 f322:=Tryz.func262.trans (congrArg some (by kernel_rfl))
 f337:=Tryz.func259.trans (congrArg some (by kernel_rfl))
 f338:=Tryz.func260.trans (congrArg some (by kernel_rfl))
 t0:=Tryz.underlying0
 a0:=Tryz.isAgg0
 z0:=Tryz.sizeOf0
 v0:=Tryz.zeroValue0
 t2:=Tryz.underlying2
 a2:=Tryz.isAgg2
 z2:=Tryz.sizeOf2
 v2:=Tryz.zeroValue2
 t3:=Tryz.underlying3
 a3:=Tryz.isAgg3
 z3:=Tryz.sizeOf3
 v3:=Tryz.zeroValue3
 t4:=Tryz.underlying4
 a4:=Tryz.isAgg4
 z4:=Tryz.sizeOf4
 v4:=Tryz.zeroValue4
 t5:=Tryz.underlying5
 a5:=Tryz.isAgg5
 z5:=Tryz.sizeOf5
 v5:=Tryz.zeroValue5
 t9:=Tryz.underlying9
 a9:=Tryz.isAgg9
 z9:=Tryz.sizeOf9
 v9:=Tryz.zeroValue9
 t20:=Tryz.underlying20
 a20:=Tryz.isAgg20
 z20:=Tryz.sizeOf20
 v20:=Tryz.zeroValue20
 t21:=Tryz.underlying21
 a21:=Tryz.isAgg21
 z21:=Tryz.sizeOf21
 v21:=Tryz.zeroValue21
 t37:=Tryz.underlying39
 a37:=Tryz.isAgg39
 z37:=Tryz.sizeOf39
 v37:=Tryz.zeroValue39
 t46:=Tryz.underlying156
 a46:=Tryz.isAgg156
 z46:=Tryz.sizeOf156
 v46:=Tryz.zeroValue156
 t51:=Tryz.underlying243
 a51:=Tryz.isAgg243
 z51:=Tryz.sizeOf243
 v51:=Tryz.zeroValue243
 t53:=Tryz.underlying81
 a53:=Tryz.isAgg81
 z53:=Tryz.sizeOf81
 v53:=Tryz.zeroValue81
 t75:=Tryz.underlying160
 a75:=Tryz.isAgg160
 z75:=Tryz.sizeOf160
 v75:=Tryz.zeroValue160
 t76:=Tryz.underlying161
 a76:=Tryz.isAgg161
 z76:=Tryz.sizeOf161
 v76:=Tryz.zeroValue161
 t85:=Tryz.underlying224
 a85:=Tryz.isAgg224
 z85:=Tryz.sizeOf224
 v85:=Tryz.zeroValue224
 t127:=Tryz.underlying235
 a127:=Tryz.isAgg235
 z127:=Tryz.sizeOf235
 v127:=Tryz.zeroValue235
 t143:=Tryz.underlying266
 a143:=Tryz.isAgg266
 z143:=Tryz.sizeOf266
 v143:=Tryz.zeroValue266
 t145:=Tryz.underlying268
 a145:=Tryz.isAgg268
 z145:=Tryz.sizeOf268
 v145:=Tryz.zeroValue268
 t167:=Tryz.underlying223
 a167:=Tryz.isAgg223
 z167:=Tryz.sizeOf223
 v167:=Tryz.zeroValue223
 t168:=Tryz.underlying226
 a168:=Tryz.isAgg226
 z168:=Tryz.sizeOf226
 v168:=Tryz.zeroValue226
 t171:=Tryz.underlying218
 a171:=Tryz.isAgg218
 z171:=Tryz.sizeOf218
 v171:=Tryz.zeroValue218
 t173:=Tryz.underlying221
 a173:=Tryz.isAgg221
 z173:=Tryz.sizeOf221
 v173:=Tryz.zeroValue221
 t175:=Tryz.underlying248
 a175:=Tryz.isAgg248
 z175:=Tryz.sizeOf248
 v175:=Tryz.zeroValue248
 t210:=Tryz.underlying251
 a210:=Tryz.isAgg251
 z210:=Tryz.sizeOf251
 v210:=Tryz.zeroValue251
 t212:=Tryz.underlying242
 a212:=Tryz.isAgg242
 z212:=Tryz.sizeOf242
 v212:=Tryz.zeroValue242
 t213:=Tryz.underlying244
 a213:=Tryz.isAgg244
 z213:=Tryz.sizeOf244
 t232:=Tryz.underlying270
 a232:=Tryz.isAgg270
 z232:=Tryz.sizeOf270
 v232:=Tryz.zeroValue270
 t233:=Tryz.underlying271
 a233:=Tryz.isAgg271
 z233:=Tryz.sizeOf271
 v233:=Tryz.zeroValue271
 g15:=by kernel_rfl
 g16:=by kernel_rfl
 g17:=by kernel_rfl
 g18:=by kernel_rfl
 g19:=by kernel_rfl
 t80:=Tryz.underlying204
 a80:=Tryz.isAgg204
 z80:=Tryz.sizeOf204
 v80:=Tryz.zeroValue204
 i0:=by kernel_rfl
 i2:=by kernel_rfl
 i3:=by kernel_rfl
 i4:=by kernel_rfl
 i5:=by kernel_rfl
 i9:=by kernel_rfl
 i20:=by kernel_rfl
 i21:=by kernel_rfl
 i37:=by kernel_rfl
 i46:=by kernel_rfl
 i51:=by kernel_rfl
 i53:=by kernel_rfl
 i75:=by kernel_rfl
 i76:=by kernel_rfl
 i80:=by kernel_rfl
 i85:=by kernel_rfl
 i127:=by kernel_rfl
 i143:=by kernel_rfl
 i145:=by kernel_rfl
 i167:=by kernel_rfl
 i168:=by kernel_rfl
 i171:=by kernel_rfl
 i173:=by kernel_rfl
 i175:=by kernel_rfl
 i210:=by kernel_rfl
 i212:=by kernel_rfl
 i232:=by kernel_rfl
 i233:=by kernel_rfl
 m15:=by kernel_rfl
 m16:=by kernel_rfl
 m17:=by kernel_rfl
 m18:=by kernel_rfl
 m19:=by kernel_rfl
 c0:=by kernel_rfl
 c2:=by kernel_rfl
 c3:=by kernel_rfl
 c4:=by kernel_rfl
 c5:=by kernel_rfl
 c9:=by kernel_rfl
 c20:=by kernel_rfl
 c21:=by kernel_rfl
 c37:=by kernel_rfl
 c46:=by kernel_rfl
 c51:=by kernel_rfl
 c53:=by kernel_rfl
 c75:=by kernel_rfl
 c76:=by kernel_rfl
 c80:=by kernel_rfl
 c85:=by kernel_rfl
 c127:=by kernel_rfl
 c143:=by kernel_rfl
 c145:=by kernel_rfl
 c167:=by kernel_rfl
 c168:=by kernel_rfl
 c171:=by kernel_rfl
 c173:=by kernel_rfl
 c175:=by kernel_rfl
 c210:=by kernel_rfl
 c212:=by kernel_rfl
 c213:=by kernel_rfl
 c232:=by kernel_rfl
 c233:=by kernel_rfl}
open Go.RowKit in
theorem Tryz.strconv_Atoi_err(s:ByteArray)(hl:s.size<=18)(h:Lib.atoi s.data.toList=none)(ev:Value)(w:World)(hv:w.cell? ⟨2,0,none⟩=some ev)(hev:ev = .nilIface∨∃te pe,ev = .iface te pe) :
  Calls Tryz.prog 137 #[.string s] w fun e w'=> ∃N,e = .returned (.tuple #[.int .i64 0, .iface 226 (.pointer (some ⟨N,0,none⟩))])∧w.heap.size<=N∧w'.heap[N]? = some (.cells #[.string ⟨#[65,116,111,105]⟩, .string s,ev] 251 (0,0))∧Below w.heap.size w w':=Any.strconv_Atoi_err Tryz.laysC172 s hl h ev w hv hev
def Tryz.lays219_ren:Go.Shelf.Ren:=⟨fun|219=>170|217=>211|225=>212|224=>213|267=>214|266=>246|314=>247|n=>n,fun|9=>9|3=>3|4=>4|5=>5|46=>156|146=>246|51=>243|n=>n,fun|1=>0|n=>n⟩
theorem Tryz.lays219:Go.Proofs.Lays.n219 Tryz.prog Tryz.lays219_ren:= {
 mixed:=by kernel_rfl
 f217:=Tryz.func211.trans (congrArg some (by kernel_rfl))
 f219:=Tryz.func170.trans (congrArg some (by kernel_rfl))
 f224:=Tryz.func213.trans (congrArg some (by kernel_rfl))
 f225:=Tryz.func212.trans (congrArg some (by kernel_rfl))
 f266:=Tryz.func246.trans (congrArg some (by kernel_rfl))
 f267:=Tryz.func214.trans (congrArg some (by kernel_rfl))
 f314:=Tryz.func247.trans (congrArg some (by kernel_rfl))
 t3:=Tryz.underlying3
 a3:=Tryz.isAgg3
 z3:=Tryz.sizeOf3
 v3:=Tryz.zeroValue3
 t4:=Tryz.underlying4
 a4:=Tryz.isAgg4
 z4:=Tryz.sizeOf4
 v4:=Tryz.zeroValue4
 t5:=Tryz.underlying5
 a5:=Tryz.isAgg5
 z5:=Tryz.sizeOf5
 v5:=Tryz.zeroValue5
 t9:=Tryz.underlying9
 a9:=Tryz.isAgg9
 z9:=Tryz.sizeOf9
 v9:=Tryz.zeroValue9
 t46:=Tryz.underlying156
 a46:=Tryz.isAgg156
 z46:=Tryz.sizeOf156
 v46:=Tryz.zeroValue156
 t51:=Tryz.underlying243
 a51:=Tryz.isAgg243
 z51:=Tryz.sizeOf243
 v51:=Tryz.zeroValue243
 t146:=Tryz.underlying246
 a146:=Tryz.isAgg246
 z146:=Tryz.sizeOf246
 v146:=Tryz.zeroValue246
 g1:=by kernel_rfl}
open Go.RowKit Go.Lib in
theorem Tryz.stringslite_Index_one(s:ByteArray)(c:UInt8)(w:World) :
  Calls Tryz.prog 170 #[.string s, .string ⟨#[c]⟩] w fun e w'=>e = .returned (.int .i64 (Lib.indexByte s.data.toList c))∧w'=w:=Any.stringslite_Index_one Tryz.lays219 s c w
def Tryz.lays143_ren:Go.Shelf.Ren:=⟨fun|143=>136|219=>170|217=>211|225=>212|224=>213|267=>214|266=>246|314=>247|n=>n,fun|9=>9|3=>3|4=>4|5=>5|46=>156|146=>246|51=>243|n=>n,fun|1=>0|n=>n⟩
theorem Tryz.lays143:Go.Proofs.Lays.n143 Tryz.prog Tryz.lays143_ren:= {
 mixed:=by kernel_rfl
 f143:=Tryz.func136.trans (congrArg some (by kernel_rfl))
 f217:=Tryz.func211.trans (congrArg some (by kernel_rfl))
 f219:=Tryz.func170.trans (congrArg some (by kernel_rfl))
 f224:=Tryz.func213.trans (congrArg some (by kernel_rfl))
 f225:=Tryz.func212.trans (congrArg some (by kernel_rfl))
 f266:=Tryz.func246.trans (congrArg some (by kernel_rfl))
 f267:=Tryz.func214.trans (congrArg some (by kernel_rfl))
 f314:=Tryz.func247.trans (congrArg some (by kernel_rfl))
 t3:=Tryz.underlying3
 a3:=Tryz.isAgg3
 z3:=Tryz.sizeOf3
 v3:=Tryz.zeroValue3
 t4:=Tryz.underlying4
 a4:=Tryz.isAgg4
 z4:=Tryz.sizeOf4
 v4:=Tryz.zeroValue4
 t5:=Tryz.underlying5
 a5:=Tryz.isAgg5
 z5:=Tryz.sizeOf5
 v5:=Tryz.zeroValue5
 t9:=Tryz.underlying9
 a9:=Tryz.isAgg9
 z9:=Tryz.sizeOf9
 v9:=Tryz.zeroValue9
 t46:=Tryz.underlying156
 a46:=Tryz.isAgg156
 z46:=Tryz.sizeOf156
 v46:=Tryz.zeroValue156
 t51:=Tryz.underlying243
 a51:=Tryz.isAgg243
 z51:=Tryz.sizeOf243
 v51:=Tryz.zeroValue243
 t146:=Tryz.underlying246
 a146:=Tryz.isAgg246
 z146:=Tryz.sizeOf246
 v146:=Tryz.zeroValue246
 g1:=by kernel_rfl}
open Go.RowKit Go.Lib in
theorem Tryz.strings_Index_one(s:ByteArray)(c:UInt8)(w:World) :
  Calls Tryz.prog 136 #[.string s, .string ⟨#[c]⟩] w fun e w'=>e = .returned (.int .i64 (Lib.indexByte s.data.toList c))∧w'=w:=Any.strings_Index_one Tryz.lays143 s c w
def Tryz.lays144_ren:Go.Shelf.Ren:=⟨fun|144=>103|143=>136|219=>170|217=>211|225=>212|224=>213|267=>214|266=>246|314=>247|n=>n,fun|9=>9|4=>4|3=>3|5=>5|46=>156|146=>246|51=>243|n=>n,fun|1=>0|n=>n⟩
theorem Tryz.lays144:Go.Proofs.Lays.n144 Tryz.prog Tryz.lays144_ren:= {
 mixed:=by kernel_rfl
 f143:=Tryz.func136.trans (congrArg some (by kernel_rfl))
 f144:=Tryz.func103.trans (congrArg some (by kernel_rfl))
 f217:=Tryz.func211.trans (congrArg some (by kernel_rfl))
 f219:=Tryz.func170.trans (congrArg some (by kernel_rfl))
 f224:=Tryz.func213.trans (congrArg some (by kernel_rfl))
 f225:=Tryz.func212.trans (congrArg some (by kernel_rfl))
 f266:=Tryz.func246.trans (congrArg some (by kernel_rfl))
 f267:=Tryz.func214.trans (congrArg some (by kernel_rfl))
 f314:=Tryz.func247.trans (congrArg some (by kernel_rfl))
 t3:=Tryz.underlying3
 a3:=Tryz.isAgg3
 z3:=Tryz.sizeOf3
 v3:=Tryz.zeroValue3
 t4:=Tryz.underlying4
 a4:=Tryz.isAgg4
 z4:=Tryz.sizeOf4
 v4:=Tryz.zeroValue4
 t5:=Tryz.underlying5
 a5:=Tryz.isAgg5
 z5:=Tryz.sizeOf5
 v5:=Tryz.zeroValue5
 t9:=Tryz.underlying9
 a9:=Tryz.isAgg9
 z9:=Tryz.sizeOf9
 v9:=Tryz.zeroValue9
 t46:=Tryz.underlying156
 a46:=Tryz.isAgg156
 z46:=Tryz.sizeOf156
 v46:=Tryz.zeroValue156
 t51:=Tryz.underlying243
 a51:=Tryz.isAgg243
 z51:=Tryz.sizeOf243
 v51:=Tryz.zeroValue243
 t146:=Tryz.underlying246
 a146:=Tryz.isAgg246
 z146:=Tryz.sizeOf246
 v146:=Tryz.zeroValue246
 g1:=by kernel_rfl}
open Go.RowKit Go.Lib in
theorem Tryz.strings_Contains_one(s:ByteArray)(c:UInt8)(w:World) :
  Calls Tryz.prog 103 #[.string s, .string ⟨#[c]⟩] w fun e w'=>e = .returned (.bool (decide (0<=Lib.indexByte s.data.toList c)))∧w'=w:=Any.strings_Contains_one Tryz.lays144 s c w
def Tryz.lays138_ren:Go.Shelf.Ren:=⟨fun|138=>165|195=>204|218=>206|143=>136|219=>170|217=>211|225=>212|224=>213|267=>214|266=>246|314=>247|n=>n,fun|9=>9|3=>3|4=>4|5=>5|0=>0|46=>156|146=>246|51=>243|n=>n,fun|1=>0|n=>n⟩
theorem Tryz.lays138:Go.Proofs.Lays.n138 Tryz.prog Tryz.lays138_ren:= {
 mixed:=by kernel_rfl
 f138:=Tryz.func165.trans (congrArg some (by kernel_rfl))
 f143:=Tryz.func136.trans (congrArg some (by kernel_rfl))
 f195:=Tryz.func204.trans (congrArg some (by kernel_rfl))
 f217:=Tryz.func211.trans (congrArg some (by kernel_rfl))
 f218:=Tryz.func206.trans (congrArg some (by kernel_rfl))
 f219:=Tryz.func170.trans (congrArg some (by kernel_rfl))
 f224:=Tryz.func213.trans (congrArg some (by kernel_rfl))
 f225:=Tryz.func212.trans (congrArg some (by kernel_rfl))
 f266:=Tryz.func246.trans (congrArg some (by kernel_rfl))
 f267:=Tryz.func214.trans (congrArg some (by kernel_rfl))
 f314:=Tryz.func247.trans (congrArg some (by kernel_rfl))
 t0:=Tryz.underlying0
 a0:=Tryz.isAgg0
 z0:=Tryz.sizeOf0
 v0:=Tryz.zeroValue0
 t3:=Tryz.underlying3
 a3:=Tryz.isAgg3
 z3:=Tryz.sizeOf3
 v3:=Tryz.zeroValue3
 t4:=Tryz.underlying4
 a4:=Tryz.isAgg4
 z4:=Tryz.sizeOf4
 v4:=Tryz.zeroValue4
 t5:=Tryz.underlying5
 a5:=Tryz.isAgg5
 z5:=Tryz.sizeOf5
 v5:=Tryz.zeroValue5
 t9:=Tryz.underlying9
 a9:=Tryz.isAgg9
 z9:=Tryz.sizeOf9
 v9:=Tryz.zeroValue9
 t46:=Tryz.underlying156
 a46:=Tryz.isAgg156
 z46:=Tryz.sizeOf156
 v46:=Tryz.zeroValue156
 t51:=Tryz.underlying243
 a51:=Tryz.isAgg243
 z51:=Tryz.sizeOf243
 v51:=Tryz.zeroValue243
 t146:=Tryz.underlying246
 a146:=Tryz.isAgg246
 z146:=Tryz.sizeOf246
 v146:=Tryz.zeroValue246
 g1:=by kernel_rfl}
open Go.RowKit Go.Lib in
theorem Tryz.strings_Count_one(s:ByteArray)(c:UInt8)(w:World) :
  Calls Tryz.prog 165 #[.string s, .string ⟨#[c]⟩] w fun e w'=>e = .returned (.int .i64 (Lib.countByte s.data.toList c))∧w'=w:=Any.strings_Count_one Tryz.lays138 s c w
end Go.Proofs
namespace Go.Proofs.YtedidddimikjhaaGreatDoor
open Go.HH
theorem mo:Tryz.prog.follows .mixedOrders=true:=by kernel_rfl
theorem bo{G:List (Nat×Nat)}{h:Heap}{M:Nat->Prop}{f:FuncId}{fn:Func}{c:Code}{args:List Value}{rs:List ResultVar}{R:Value->Heap->Prop}(hf:Tryz.prog.funcs[f]? = some fn)(hb:fn.body=some c)(hrs:fn.results=rs.toArray)(hv:vCode G Tryz.prog fn.ntmps (own h.length M) c (retQ Tryz.prog rs R) (env0 args) h)(hok:codeOK G fn.ntmps c=true:=by kernel_rfl)(hn:args.length<=fn.ntmps:=by exact Nat.le_of_ble_eq_true (by kernel_rfl)):vCall G Tryz.prog M f args h R:=body_of mo hf hb hok hn hrs hv
theorem boR{G:List (Nat×Nat)}{h:Heap}{M:Nat->Prop}{f:FuncId}{fn:Func}{c:Code}{args:List Value}{rs:List ResultVar}{R:Value->Heap->Prop}(L:List (Nat×List Nat))(hf:Tryz.prog.funcs[f]? = some fn)(hb:fn.body=some c)(hrs:fn.results=rs.toArray)(hv:vCodeR L G Tryz.prog fn.ntmps (own h.length M) c (retQ Tryz.prog rs R) (env0 args) h)(hok:codeOKR L G fn.ntmps c=true:=by kernel_rfl)(hn:args.length<=fn.ntmps:=by exact Nat.le_of_ble_eq_true (by kernel_rfl)):vCall G Tryz.prog M f args h R:=body_ofR L mo hf hb hok hn hrs hv
theorem boQ{G:List (Nat×Nat)}{h:Heap}{M:Nat->Prop}{f:FuncId}{fn:Func}{c:Code}{args:List Value}{rs:List ResultVar}{R:Value->Heap->Prop}(L:List (Nat×Nat))(hf:Tryz.prog.funcs[f]? = some fn)(hb:fn.body=some c)(hrs:fn.results=rs.toArray)(hv:vCodeQ L G Tryz.prog fn.ntmps (own h.length M) c (retQ Tryz.prog rs R) (env0 args) h)(hok:codeOKQ L G fn.ntmps c=true:=by kernel_rfl)(hn:args.length<=fn.ntmps:=by exact Nat.le_of_ble_eq_true (by kernel_rfl)):vCall G Tryz.prog M f args h R:=body_ofQ L mo hf hb hok hn hrs hv
theorem wrap64{n:Int}(h : -9223372036854775808<=n∧n<=9223372036854775807):IntKind.i64.wrap n=n:=IntWalk.i64_in n h
theorem decb{p:Prop}[Decidable p](h:p):decide p=true:=decide_eq_true h
theorem dect{p:Prop}[Decidable p](h: ¬p):decide p=false:=decide_eq_false h
@[go_sem] theorem tload_3:tload Tryz.prog 3=some none:=by kernel_rfl
@[go_sem] theorem tsize_3:tsize Tryz.prog 3=some 1:=by kernel_rfl
@[go_sem] theorem tbytes_3:tbytes Tryz.prog 3=some 8:=by kernel_rfl
@[go_sem] theorem tcells_3:Program.cellsOf Tryz.prog 3=1:=by kernel_rfl
@[go_sem] theorem tz_3:tz Tryz.prog 3=some [.int .i64 0]:=by kernel_rfl
@[go_sem] theorem tload_4:tload Tryz.prog 4=some none:=by kernel_rfl
@[go_sem] theorem tsize_4:tsize Tryz.prog 4=some 1:=by kernel_rfl
@[go_sem] theorem tload_5:tload Tryz.prog 5=some none:=by kernel_rfl
@[go_sem] theorem tsize_5:tsize Tryz.prog 5=some 1:=by kernel_rfl
@[go_sem] theorem tbytes_5:tbytes Tryz.prog 5=some 1:=by kernel_rfl
@[go_sem] theorem tz_5:tz Tryz.prog 5=some [.int .u8 0]:=by kernel_rfl
@[go_sem] theorem tload_9:tload Tryz.prog 9=some none:=by kernel_rfl
@[go_sem] theorem tsize_9:tsize Tryz.prog 9=some 1:=by kernel_rfl
@[go_sem] theorem tbytes_9:tbytes Tryz.prog 9=some 16:=by kernel_rfl
@[go_sem] theorem tz_9:tz Tryz.prog 9=some [.string ⟨#[]⟩]:=by kernel_rfl
@[go_sem] theorem tload_31:tload Tryz.prog 31=some none:=by kernel_rfl
@[go_sem] theorem tsize_31:tsize Tryz.prog 31=some 1:=by kernel_rfl
@[go_sem] theorem telem_31:telem Tryz.prog 31=some (4,119):=by kernel_rfl
@[go_sem] theorem tapp_31:tapp Tryz.prog 31=some (4,32):=by kernel_rfl
@[go_sem] theorem tload_33:tload Tryz.prog 33=some (some 2):=by kernel_rfl
@[go_sem] theorem tsize_33:tsize Tryz.prog 33=some 2:=by kernel_rfl
@[go_sem] theorem tcells_33:Program.cellsOf Tryz.prog 33=2:=by kernel_rfl
@[go_sem] theorem tz_33:tz Tryz.prog 33=some [.int .i64 0, .slice none 0 0]:=by kernel_rfl
@[go_sem] theorem tfield_33_0:tfield Tryz.prog 33 0=some (0,3):=by kernel_rfl
@[go_sem] theorem tfield_33_1:tfield Tryz.prog 33 1=some (1,31):=by kernel_rfl
@[go_sem] theorem tplaces_33:tplaces Tryz.prog 33=some [(0,1),(1,1)]:=by kernel_rfl
@[go_sem] theorem tload_35:tload Tryz.prog 35=some (some 3):=by kernel_rfl
@[go_sem] theorem tsize_35:tsize Tryz.prog 35=some 3:=by kernel_rfl
@[go_sem] theorem tcells_35:Program.cellsOf Tryz.prog 35=3:=by kernel_rfl
@[go_sem] theorem tz_35:tz Tryz.prog 35=some [.string ⟨#[]⟩, .string ⟨#[]⟩, .int .i64 0]:=by kernel_rfl
@[go_sem] theorem tfield_35_0:tfield Tryz.prog 35 0=some (0,9):=by kernel_rfl
@[go_sem] theorem tfield_35_1:tfield Tryz.prog 35 1=some (1,9):=by kernel_rfl
@[go_sem] theorem tfield_35_2:tfield Tryz.prog 35 2=some (2,3):=by kernel_rfl
@[go_sem] theorem tflat_35:flatK Tryz.prog 35=some [1,1,0]:=by kernel_rfl
@[go_sem] theorem tplaces_35:tplaces Tryz.prog 35=some [(0,1),(1,1),(2,1)]:=by kernel_rfl
@[go_sem] theorem tload_39:tload Tryz.prog 39=some none:=by kernel_rfl
@[go_sem] theorem telem_39:telem Tryz.prog 39=some (1,5):=by kernel_rfl
@[go_sem] theorem tload_41:tload Tryz.prog 41=some none:=by kernel_rfl
@[go_sem] theorem tsize_41:tsize Tryz.prog 41=some 1:=by kernel_rfl
@[go_sem] theorem tcells_41:Program.cellsOf Tryz.prog 41=1:=by kernel_rfl
@[go_sem] theorem telem_41:telem Tryz.prog 41=some (4,110):=by kernel_rfl
@[go_sem] theorem tapp_41:tapp Tryz.prog 41=some (4,32):=by kernel_rfl
@[go_sem] theorem tload_43:tload Tryz.prog 43=some (some 7):=by kernel_rfl
@[go_sem] theorem tsize_43:tsize Tryz.prog 43=some 7:=by kernel_rfl
@[go_sem] theorem tcells_43:Program.cellsOf Tryz.prog 43=7:=by kernel_rfl
@[go_sem] theorem tz_43:tz Tryz.prog 43=some [.int .i64 0, .slice none 0 0, .slice none 0 0, .int .i64 0, .string ⟨#[]⟩, .string ⟨#[]⟩, .int .i64 0]:=by kernel_rfl
@[go_sem] theorem tfield_43_0:tfield Tryz.prog 43 0=some (0,33):=by kernel_rfl
@[go_sem] theorem tfield_43_1:tfield Tryz.prog 43 1=some (2,41):=by kernel_rfl
@[go_sem] theorem tfield_43_2:tfield Tryz.prog 43 2=some (3,3):=by kernel_rfl
@[go_sem] theorem tfield_43_3:tfield Tryz.prog 43 3=some (4,35):=by kernel_rfl
@[go_sem] theorem tplaces_43:tplaces Tryz.prog 43=some [(0,2),(2,1),(3,1),(4,3)]:=by kernel_rfl
@[go_sem] theorem telem_49:telem Tryz.prog 49=some (2,53):=by kernel_rfl
@[go_sem] theorem tapp_49:tapp Tryz.prog 49=some (2,32):=by kernel_rfl
@[go_sem] theorem tload_53:tload Tryz.prog 53=some (some 2):=by kernel_rfl
@[go_sem] theorem tsize_53:tsize Tryz.prog 53=some 2:=by kernel_rfl
@[go_sem] theorem tcells_53:Program.cellsOf Tryz.prog 53=2:=by kernel_rfl
@[go_sem] theorem tz_53:tz Tryz.prog 53=some [.string ⟨#[]⟩, .string ⟨#[]⟩]:=by kernel_rfl
@[go_sem] theorem tfield_53_0:tfield Tryz.prog 53 0=some (0,9):=by kernel_rfl
@[go_sem] theorem tfield_53_1:tfield Tryz.prog 53 1=some (1,9):=by kernel_rfl
@[go_sem] theorem tplaces_53:tplaces Tryz.prog 53=some [(0,1),(1,1)]:=by kernel_rfl
@[go_sem] theorem telem_61:telem Tryz.prog 61=some (1,9):=by kernel_rfl
@[go_sem] theorem tapp_61:tapp Tryz.prog 61=some (1,16):=by kernel_rfl
@[go_sem] theorem tload_81:tload Tryz.prog 81=some none:=by kernel_rfl
@[go_sem] theorem tsize_81:tsize Tryz.prog 81=some 1:=by kernel_rfl
@[go_sem] theorem tcells_83:Program.cellsOf Tryz.prog 83=3:=by kernel_rfl
@[go_sem] theorem tz_83:tz Tryz.prog 83=some [.slice none 0 0, .int .i64 0, .int .u64 0]:=by kernel_rfl
@[go_sem] theorem tfield_83_0:tfield Tryz.prog 83 0=some (0,39):=by kernel_rfl
@[go_sem] theorem tfield_83_1:tfield Tryz.prog 83 1=some (1,3):=by kernel_rfl
@[go_sem] theorem tfield_83_2:tfield Tryz.prog 83 2=some (2,81):=by kernel_rfl
@[go_sem] theorem tplaces_83:tplaces Tryz.prog 83=some [(0,1),(1,1),(2,1)]:=by kernel_rfl
@[go_sem] theorem telem_97:telem Tryz.prog 97=some (1,3):=by kernel_rfl
@[go_sem] theorem tapp_97:tapp Tryz.prog 97=some (1,8):=by kernel_rfl
@[go_sem] theorem tload_110:tload Tryz.prog 110=some (some 4):=by kernel_rfl
@[go_sem] theorem tsize_110:tsize Tryz.prog 110=some 4:=by kernel_rfl
@[go_sem] theorem tcells_110:Program.cellsOf Tryz.prog 110=4:=by kernel_rfl
@[go_sem] theorem tz_110:tz Tryz.prog 110=some [.int .i64 0, .int .i64 0, .int .i64 0, .bool false]:=by kernel_rfl
@[go_sem] theorem tfield_110_0:tfield Tryz.prog 110 0=some (0,3):=by kernel_rfl
@[go_sem] theorem tfield_110_1:tfield Tryz.prog 110 1=some (1,3):=by kernel_rfl
@[go_sem] theorem tfield_110_2:tfield Tryz.prog 110 2=some (2,3):=by kernel_rfl
@[go_sem] theorem tfield_110_3:tfield Tryz.prog 110 3=some (3,4):=by kernel_rfl
@[go_sem] theorem tflat_110:flatK Tryz.prog 110=some [0,0,0,2]:=by kernel_rfl
@[go_sem] theorem tplaces_110:tplaces Tryz.prog 110=some [(0,1),(1,1),(2,1),(3,1)]:=by kernel_rfl
@[go_sem] theorem tload_119:tload Tryz.prog 119=some (some 4):=by kernel_rfl
@[go_sem] theorem tsize_119:tsize Tryz.prog 119=some 4:=by kernel_rfl
@[go_sem] theorem tcells_119:Program.cellsOf Tryz.prog 119=4:=by kernel_rfl
@[go_sem] theorem tz_119:tz Tryz.prog 119=some [.int .i64 0, .int .i64 0, .int .i64 0, .int .i64 0]:=by kernel_rfl
@[go_sem] theorem tfield_119_0:tfield Tryz.prog 119 0=some (0,3):=by kernel_rfl
@[go_sem] theorem tfield_119_1:tfield Tryz.prog 119 1=some (1,3):=by kernel_rfl
@[go_sem] theorem tfield_119_2:tfield Tryz.prog 119 2=some (2,3):=by kernel_rfl
@[go_sem] theorem tfield_119_3:tfield Tryz.prog 119 3=some (3,3):=by kernel_rfl
@[go_sem] theorem tflat_119:flatK Tryz.prog 119=some [0,0,0,0]:=by kernel_rfl
@[go_sem] theorem tplaces_119:tplaces Tryz.prog 119=some [(0,1),(1,1),(2,1),(3,1)]:=by kernel_rfl
@[go_sem] theorem tcells_255:Program.cellsOf Tryz.prog 255=19:=by kernel_rfl
@[go_sem] theorem tz_255:tz Tryz.prog 255=some [.bool false, .bool false, .bool false, .bool false, .bool false, .bool false, .bool false, .bool false, .bool false, .bool false, .bool false, .bool false, .bool false, .bool false, .bool false, .bool false, .bool false, .bool false, .bool false]:=by kernel_rfl
@[go_sem] theorem tplaces_255:tplaces Tryz.prog 255=none:=by kernel_rfl
@[go_sem] theorem tarr_255:tarr Tryz.prog 255=some (19,1,4):=by kernel_rfl
attribute [go_sem] Tryz.underlying2
attribute [go_sem] Tryz.underlying3
attribute [go_sem] Tryz.underlying4
attribute [go_sem] Tryz.underlying5
attribute [go_sem] Tryz.underlying9
attribute [go_sem] Tryz.underlying12
attribute [go_sem] Tryz.underlying21
attribute [go_sem] Tryz.underlying81
attribute [go_sem] Tryz.underlying156
attribute [go_sem] Tryz.underlying243
open Go.HH
section
variable {h:Heap} {M:Nat->Prop}
theorem c_inside(n a b:Int):vCall [] Tryz.prog M 88 [.int .i64 n, .int .i64 a, .int .i64 b] h (fun r h'=>r = .bool (decide (a<=n∧n<=b))∧h=h'):=by
 refine bo Tryz.func88 rfl rfl ?_
 simp only[go_sem]
 refine .intro (fun h1 => ?_) (fun h1 => ?_)<;>simp only[go_sem,h1]<;>simp at h1 ⊢ <;> omega
theorem c_l1In(n a b:Int):vCall [] Tryz.prog M 130 [.int .i64 n, .int .i64 a, .int .i64 b] h (fun r h'=>r = .bool (decide (a<=n∧n<=b))∧h=h'):=by
 refine bo Tryz.func130 rfl rfl ?_
 simp only[go_sem]
 refine .intro (fun h1 => ?_) (fun h1 => ?_)<;>simp only[go_sem,h1]<;>simp at h1 ⊢ <;> omega
theorem c_l1Most(a b:Int):vCall [] Tryz.prog M 132 [.int .i64 a, .int .i64 b] h (fun r h'=>r = .int .i64 (if b<a then a else b)∧h=h'):=by
 refine bo Tryz.func132 rfl rfl ?_
 simp only[go_sem]
 refine .intro (fun h1 => ?_) (fun h1 => ?_)
 ·simp only[go_sem]
  all_goals first|(rw[if_pos (by simpa using h1)];done)|exact⟨by rw[if_pos (by simpa using h1)],rfl⟩|exact⟨by rw[if_pos (by simpa using h1)],prefix_rfl⟩|exact⟨by rw[if_pos (by simpa using h1)],prefix_append _ _⟩|exact⟨by rw[if_pos (by simpa using h1)],by assumption⟩
 ·simp only[go_sem]
  all_goals first|(rw[if_neg (by simpa using h1)];done)|exact⟨by rw[if_neg (by simpa using h1)],rfl⟩|exact⟨by rw[if_neg (by simpa using h1)],prefix_rfl⟩|exact⟨by rw[if_neg (by simpa using h1)],prefix_append _ _⟩|exact⟨by rw[if_neg (by simpa using h1)],by assumption⟩
end
open Go.HH
def CodeOk(h:Heap)(a:Option Addr)(n:Nat):Prop:=n<=9223372036854775807∧(0<n->∃id off k,a=some ⟨id,off,none⟩∧hget h id=some k∧k.st = .ro∧∀i,i<n->∃b:Int,k.cells[off+i]? = some (.int .u8 b)∧0<=b∧b<=255)
def curB(a:Option Addr)(n:Nat)(p s:Int):Blk:=⟨[.slice a n 0, .int .i64 p, .int .u64 s],3, .rw⟩
section
variable {h:Heap} {M:Nat->Prop}
theorem c_next(id n:Nat)(a:Option Addr)(p s:Int)(hM:M id)(hc:hget h id=some (curB a n p s))(hcode:CodeOk h a n)(hp:0<=p∧p<1000000000000) :
  vCall [] Tryz.prog M 95 [.pointer (some ⟨id,0,none⟩)] h (fun r h'=>(∃m,r = .int .i64 m∧0<=m∧m<=255)∧∃s',h'=h.set id (curB a n (p+1) s')):=by
 have hid:=hget_lt hc
 refine bo Tryz.func95 rfl rfl ?_
 unfold curB at hc
 have hown:own h.length M id:=Or.inr hM
 have hs: ∀b,hget (h.set id b) id=some b:=fun b=>hget_set_same hid
 simp only[go_sem,hc]
 by_cases h1:p<n
 ·obtain⟨hn,hk⟩:=hcode
  obtain⟨id2,off,k,rfl,hk2,hro,hby⟩:=hk (by omega)
  obtain⟨b,hb,hb0,hb1⟩:=hby p.toNat (by omega)
  have hd:k.st ≠ .dead:=by rw[hro];simp
  have e1:IntKind.i64.wrap (p+1)=p+1:=wrap64 (by omega)
  have e2:IntKind.i64.wrap b=b:=wrap64 (by omega)
  simp only[go_sem,hc,h1,hk2,hp.1,hd,Nat.mul_one,hb,hown,hs,List.set_set,e1,e2]
  by_cases h2:p+1<=n
  ·simp only[go_sem,h2,List.set_set]
   exact⟨⟨b,rfl,hb0,hb1⟩,_,rfl⟩
  ·omega
 ·have e1:IntKind.i64.wrap (p+1)=p+1:=wrap64 (by omega)
  simp only[go_sem,hc,h1,hown,hs,List.set_set,e1]
  have h2: ¬p+1<=n:=by omega
  simp only[go_sem,h2,hs,hBin_shr (show (0:Int)<=40 by omega),List.set_set]
  obtain⟨m,e3,m0,m1⟩:=and_bound (x:=(IntKind.u64.wrap (IntKind.u64.wrap (IntKind.u64.wrap (s*6364136223846793005)+IntKind.u64.wrap 0)+853853)).fdiv (2 ^ min 40 64)) (y:=255) (by omega)
  refine⟨⟨m, ?_,m0,m1⟩,_,rfl⟩
  have e4:IntKind.i64.wrap m=m:=wrap64 (by omega)
  rw[←e4, ←e3]
  rfl
def Cur2(h h':Heap)(id n:Nat)(a:Option Addr)(p:Int)(j:Nat):Prop:= ∃p' s' t,h'=h.set id (curB a n p' s')++t∧p<=p'∧p'<=p+j
theorem CodeOk.set{h:Heap}{a:Option Addr}{n id:Nat}(hcode:CodeOk h a n){b c:Blk}(hc:hget h id=some c)(hrw:c.st = .rw):CodeOk (h.set id b) a n:=by
 refine⟨hcode.1,fun h0 => ?_⟩
 obtain⟨id2,off,k,e,e1,e2,e3⟩:=hcode.2 h0
 have:id≠id2:=by intro hh;subst hh;rw[hc] at e1;cases e1;rw[hrw] at e2;cases e2
 exact⟨id2,off,k,e,by rw[hget_set_ne this];exact e1,e2,e3⟩
theorem CodeOk.app{h t:Heap}{a:Option Addr}{n:Nat}(hcode:CodeOk h a n):CodeOk (h++t) a n:=by
 refine⟨hcode.1,fun h0 => ?_⟩
 obtain⟨id2,off,k,e,e1,e2,e3⟩:=hcode.2 h0
 exact⟨id2,off,k,e,by rw[hget_prefix (prefix_append _ _) (hget_lt e1)];exact e1,e2,e3⟩
theorem c_pick(id n:Nat)(a:Option Addr)(p s k:Int)(hM:M id)(hc:hget h id=some (curB a n p s))(hcode:CodeOk h a n)(hp:0<=p∧p<100000000000) :
  vCall [] Tryz.prog M 50 [.pointer (some ⟨id,0,none⟩), .int .i64 k] h (fun r h'=>(∃m,r = .int .i64 m∧0<=m∧(m<k∨m=0))∧Cur2 h h' id n a p 2):=by
 have hid:=hget_lt hc
 have hown:own h.length M id:=Or.inr hM
 refine bo Tryz.func50 rfl rfl ?_
 simp only[go_sem]
 have hset:h.set id (curB a n p s)=h:=by
  refine List.ext_getElem (by simp) fun i h1 h2 => ?_
  rw[List.getElem_set]
  split
  ·rename_i hi;subst hi;have:h[id]? = some (curB a n p s):=hc
   rw[getElem?_eq_getElem hid] at this;simpa using this.symm
  ·rfl
 by_cases h1:k<=1
 ·simp only[go_sem,h1]
  exact⟨⟨0,rfl,by omega, .inr rfl⟩,p,s,[],by rw[hset];simp,by omega,by omega⟩
 ·simp only[go_sem,h1]
  refine (c_next id n a p s hown hc hcode (by omega)).go ?_
  rintro _ _⟨⟨m,rfl,m0,m1⟩,s',rfl⟩
  by_cases h2:200<k
  ·simp only[go_sem,h2]
   have e1:IntKind.i64.wrap (m*256)=m*256:=wrap64 (by omega)
   rw[e1]
   refine (c_next id n a (p+1) s' hown (hget_set_same hid) (hcode.set hc rfl) (by omega)).go ?_
   rintro _ _⟨⟨m',rfl,m0',m1'⟩,s'',rfl⟩
   have e2:IntKind.i64.wrap (m*256+m')=m*256+m':=wrap64 (by omega)
   simp only[go_sem,e2,hBin_rem (show k≠0 by omega)]
   rw[Int.tmod_eq_emod_of_nonneg (by omega),List.set_set]
   exact⟨⟨_,rfl,Int.emod_nonneg _ (by omega), .inl (Int.emod_lt_of_pos _ (by omega))⟩,p+1+1,s'',[],by simp,by omega,by omega⟩
  ·simp only[go_sem,h2,hBin_rem (show k≠0 by omega)]
   rw[Int.tmod_eq_emod_of_nonneg (by omega)]
   exact⟨⟨_,rfl,Int.emod_nonneg _ (by omega), .inl (Int.emod_lt_of_pos _ (by omega))⟩,p+1,s',[],by simp,by omega,by omega⟩
def isI64:Value->Bool
 | .int .i64 _=>true
 | _=>false
theorem isI64_at{l:List Value}(hl:l.all isI64=true){i:Nat}(hi:i<l.length): ∃m,l[i]? = some (.int .i64 m):=by
 have h:=all_eq_true.1 hl l[i] (getElem_mem hi)
 rw[getElem?_eq_getElem hi]
 cases e:l[i] with
 | int k m=>cases k<;>first|exact⟨m,rfl⟩|(rw[e] at h;cases h)
 | _=>rw[e] at h;cases h
end
theorem flat_one{α:Type}{f:α->Value}: ∀ {l:List α},(l.map fun x=> [f x]).flatten=l.map f
 | []=>rfl
 | x::l=>by rw[map_cons,flatten_cons,flat_one];rfl
theorem Fits.code{h:Heap}{v:Value}(f:FitV h (.slice (.int .u8)) v): ∃b n,v = .slice b n 0∧CodeOk h b n:=by
 rcases f.slice with rfl|⟨id,rows,rfl,hg,hl,hf⟩
 ·exact⟨none,0,rfl,by omega,by omega⟩
 ·obtain⟨l,rfl⟩:=rows_map (f:=fun x: {n:Int // (Lit.int .u8 n).wf=true}=> [Value.int .u8 x.1]) (rows:=rows) (fun r hr=>by
   obtain⟨n,rfl,hw⟩:=hf r hr
   exact⟨⟨n,hw⟩,rfl⟩)
  rw[length_map] at hl ⊢
  refine⟨_,_,rfl,hl,fun _=>⟨id,0,_,rfl,hg,rfl,fun i hi => ?_⟩⟩
  have e:= @flat_one {n:Int // (Lit.int .u8 n).wf=true} (fun x=>Value.int .u8 x.1) l
  refine⟨l[i].1, ?_, ?_⟩
  ·simp only[e,zero_add]
   rw[getElem?_map,getElem?_eq_getElem hi];rfl
  ·have:=l[i].2
   have h2:decide (IntKind.u8.min<=l[i].val)=true∧decide (l[i].val<=IntKind.u8.max)=true:=by simpa[Lit.wf] using this
   exact⟨of_decide_eq_true h2.1,of_decide_eq_true h2.2⟩
open Go.HH
open Go.HH
def St(H:Heap)(id n:Nat)(a:Option Addr)(B:Nat):Prop:=(∃p s:Int,hget H id=some (curB a n p s)∧0<=p∧p<=B)∧CodeOk H a n
theorem St.lt{H:Heap}{id n B:Nat}{a:Option Addr}(s:St H id n a B):id<H.length:=let ⟨⟨_,_,h,_⟩,_⟩:=s;hget_lt h
theorem St.more{H:Heap}{id n B:Nat}{a:Option Addr}(s:St H id n a B){B':Nat}(h:B<=B'):St H id n a B':=let ⟨⟨p,q,h1,h2,h3⟩,h4⟩:=s;⟨⟨p,q,h1,h2,by omega⟩,h4⟩
theorem CodeOk.agr{H H':Heap}{a:Option Addr}{n id:Nat}{c:Blk}(k:CodeOk H a n)(hc:hget H id=some c)(hrw:c.st = .rw)(g:Agr id (id+1) H H'):CodeOk H' a n:=by
 refine⟨k.1,fun h0 => ?_⟩
 obtain⟨id2,off,b,e,e1,e2,e3⟩:=k.2 h0
 have:id≠id2:=by intro hh;subst hh;rw[hc] at e1;cases e1;rw[hrw] at e2;cases e2
 exact⟨id2,off,b,e,agr_get g e1 (by omega),e2,e3⟩
theorem CodeOk.mono{H H':Heap}{a:Option Addr}{n:Nat}(k:CodeOk H a n)(hp:H<+:H'):CodeOk H' a n:=by
 obtain⟨t,rfl⟩:=hp;exact k.app
theorem St.app{H:Heap}{id n B:Nat}{a:Option Addr}(s:St H id n a B)(t:Heap):St (H++t) id n a B:=by
 obtain⟨⟨p,q,h1,h2⟩,h4⟩:=s
 exact⟨⟨p,q,self_get h1 t,h2⟩,h4.app⟩
theorem St.set{H:Heap}{id n B:Nat}{a:Option Addr}(s:St H id n a B){j:Nat}{b c:Blk}(hj:hget H j=some c)(hrw:c.st = .rw)(hne:j≠id):St (H.set j b) id n a B:=by
 obtain⟨⟨p,q,h1,h2⟩,h4⟩:=s
 exact⟨⟨p,q,by rw[hget_set_ne hne];exact h1,h2⟩,h4.set hj hrw⟩
theorem Cur2.out{H H':Heap}{id n B:Nat}{a:Option Addr}{p s:Int}{j:Nat}(h1:hget H id=some (curB a n p s))(h4:CodeOk H a n)(h2:0<=p)(h3:p<=B)(c:Cur2 H H' id n a p j):St H' id n a (B+j)∧Agr id (id+1) H H':=by
 obtain⟨p',s',t,rfl,e1,e2⟩:=c
 have g:Agr id (id+1) H (H.set id (curB a n p' s')++t):=(Agr.set (le_refl _) (lt_succ_self _)).trans Agr.app
 exact⟨⟨⟨p',s',self_get (hget_set_same (hget_lt h1)) t,by omega,by omega⟩,h4.agr h1 rfl g⟩,g⟩
section
variable {H:Heap} {M:Nat->Prop}
theorem d_pick{id n B:Nat}{a:Option Addr}(k:Int)(s:St H id n a B)(hM:M id)(hB:B<=1000000) :
  vCall [] Tryz.prog M 50 [.pointer (some ⟨id,0,none⟩), .int .i64 k] H (fun r H'=>(∃m,r = .int .i64 m∧0<=m∧(m<k∨m=0))∧St H' id n a (B+2)∧Agr id (id+1) H H'):=by
 obtain⟨⟨p,q,h1,h2,h3⟩,h4⟩:=s
 obtain⟨r,H',hr,hm,c⟩:=c_pick (M:=M) id n a p q k hM h1 h4 (by omega)
 exact⟨r,H',hr,hm,c.out h1 h4 h2 h3⟩
theorem d_one{id n B:Nat}{a:Option Addr}(k:Int)(s:St H id n a B)(hM:M id)(hB:B<=1000000) :
  vCall [] Tryz.prog M 49 [.pointer (some ⟨id,0,none⟩), .int .i64 k] H (fun r H'=>(∃g:Bool,r = .bool g)∧St H' id n a (B+2)∧Agr id (id+1) H H'):=by
 refine bo Tryz.func49 rfl rfl ?_
 simp only[go_sem]
 refine (d_pick _ s (Or.inr hM) hB).go ?_
 rintro _ H' ⟨⟨m,rfl,_⟩,s',g⟩
 simp only[go_sem]
 exact⟨⟨_,rfl⟩,s',g⟩
end
theorem kill_get{H t u:Heap}{sid i:Nat}{b d:Blk}(hb:hget H i=some b)(hi:sid≠i):hget (List.set (H++t) sid d++u) i=some b:=self_get (by rw[hget_set_ne hi];exact self_get hb _) _
theorem own_ge{m i:Nat}{M:Nat->Prop}(hi:m<=i):own m M i=True:=by simp[own,hi]
def FC(lo hi sz len:Nat)(h:Heap)(v:Value)(cs:List Value):Prop:=
 (v = .slice none 0 0∧len=0∧cs= [])∨∃id,v = .slice (some ⟨id,0,none⟩) len 0∧lo<=id∧id<hi∧hget h id=some ⟨cs,sz, .rw⟩∧cs.length=len*sz
theorem FC.nil{lo hi sz:Nat}{h:Heap}:FC lo hi sz 0 h (.slice none 0 0) [] := .inl ⟨rfl,rfl,rfl⟩
theorem FC.agr{n m sz len lo hi:Nat}{h h':Heap}{v:Value}{cs:List Value}(s:FC n m sz len h v cs)(a:Agr lo hi h h')(hn:m<=lo∨hi<=n):FC n m sz len h' v cs:=by
 rcases s with s|⟨id,e,e1,e2,e3,e4⟩
 ·exact .inl s
 ·exact .inr ⟨id,e,e1,e2,agr_get a e3 (by omega),e4⟩
theorem FC.app{n m sz len:Nat}{h:Heap}{v:Value}{cs:List Value}(s:FC n m sz len h v cs)(t:Heap):FC n m sz len (h++t) v cs:=s.agr (lo:=m) (hi:=m) Agr.app (by omega)
theorem FC.wide{n m n' m' sz len:Nat}{h:Heap}{v:Value}{cs:List Value}(s:FC n m sz len h v cs)(h1:n'<=n)(h2:m<=m'):FC n' m' sz len h v cs:=by
 rcases s with s|⟨id,e,e1,e2,e3⟩
 ·exact .inl s
 ·exact .inr ⟨id,e,by omega,by omega,e3⟩
theorem FC.len{n m sz len:Nat}{h:Heap}{v:Value}{cs:List Value}(s:FC n m sz len h v cs): ∃a,v = .slice a len 0:=by
 rcases s with⟨rfl,rfl,_⟩|⟨id,e,_⟩
 ·exact⟨_,rfl⟩
 ·exact⟨_,e⟩
theorem FC.one{n m sz len:Nat}{h:Heap}{v:Value}{cs:List Value}(s:FC n m sz len h v cs):oneC v=true:=by
 obtain⟨a,rfl⟩:=s.len
 rfl
theorem set_get{H:Heap}{i:Nat}{b:Blk}(hg:hget H i=some b)(c:Blk):hget (List.set H i c) i=some c:=hget_set_same (hget_lt hg)
structure Bst(h H:Heap)(id n:Nat)(a:Option Addr)(B b2 b3:Nat)(z2:Blk)(x v:Value)(sz len:Nat)(cs:List Value):Prop where
 st:St H id n a B
 out:Agr id (id+1) h H
 r:hget H b2=some z2
 b:hget H b3=some ⟨[x,v],2, .rw⟩
 s:FC (b3+1) H.length sz len H v cs
 low:h.length<=b2∧b2<b3∧id<h.length
section
variable {h H H':Heap} {id n B B' b2 b3 sz len:Nat} {a:Option Addr} {z2:Blk} {x v:Value} {cs:List Value}
theorem Bst.step(s:Bst h H id n a B b2 b3 z2 x v sz len cs)(s':St H' id n a B')(g:Agr id (id+1) H H'):Bst h H' id n a B' b2 b3 z2 x v sz len cs:=by
 have h1:=s.low
 have h2:=g.1
 exact⟨s',s.out.trans g,agr_get g s.r (by omega),agr_get g s.b (by omega),(s.s.agr g (by omega)).wide (le_refl _) h2,h1⟩
theorem Bst.grow(s:Bst h H id n a B b2 b3 z2 x v sz len cs)(t:Heap):Bst h (H++t) id n a B b2 b3 z2 x v sz len cs:=s.step (s.st.app t) Agr.app
theorem agr_set_out{lo hi j:Nat}{H H7:Heap}{b:Blk}(g:Agr lo hi H H7)(hj:H.length<=j):Agr lo hi H (H7.set j b):=
 ⟨by simpa using g.1,fun i h1 h2=>by rw[hget_set_ne (by omega)];exact g.2 i h1 h2⟩
theorem Bst.done(s:Bst h H id n a B b2 b3 z2 x v sz len cs)(hz:z2.st = .rw)(c:Blk):St (H.set b2 c) id n a B∧Agr id (id+1) h (H.set b2 c)∧FC (b3+1) (H.set b2 c).length sz len (H.set b2 c) v cs∧hget (H.set b2 c) b2=some c:=by
 have h1:=s.low
 have g:Agr b2 (b2+1) H (H.set b2 c):=Agr.set (le_refl _) (lt_succ_self _)
 exact⟨s.st.set s.r hz (by omega),⟨by simpa using s.out.1,fun i h2 h3=>by rw[hget_set_ne (by omega)];exact s.out.2 i h2 h3⟩,by simpa using s.s.agr g (by omega),hget_set_same (hget_lt s.r)⟩
theorem Bst.app0{new:List Value}(s:Bst h H id n a B b2 b3 z2 x (.slice none 0 0) sz len cs)(hn:new.length=sz) :
  Bst h ((H++ [(⟨new,sz, .rw⟩:Blk),(⟨new,sz, .rw⟩:Blk)]).set b3 ⟨[x, .slice (some ⟨H.length+1,0,none⟩) 1 0],2, .rw⟩) id n a B b2 b3 z2 x (.slice (some ⟨H.length+1,0,none⟩) 1 0) sz 1 new:=by
 have h1:=s.low
 have h2:=hget_lt s.b
 have h0:=s.out.1
 have s1:=s.grow [(⟨new,sz, .rw⟩:Blk),(⟨new,sz, .rw⟩:Blk)]
 refine⟨s1.st.set s1.b rfl (by omega),⟨by have:=s1.out.1;simpa using this,fun i e1 e2=>by rw[hget_set_ne (by omega)];exact s1.out.2 i e1 e2⟩,by rw[hget_set_ne (by omega)];exact s1.r,hget_set_same (hget_lt s1.b), .inr ⟨_,rfl,by omega,by simp, ?_,by omega⟩,h1⟩
 rw[hget_set_ne (by omega)]
 exact hget_lit1
theorem Bst.app1{new:List Value}{sid:Nat}(s:Bst h H id n a B b2 b3 z2 x (.slice (some ⟨sid,0,none⟩) len 0) sz len cs)(hn:new.length=sz) :
  Bst h (((H++ [(⟨new,sz, .rw⟩:Blk)]).set sid (⟨cs,sz, .dead⟩:Blk)++ [(⟨cs++new,sz, .rw⟩:Blk)]).set b3 ⟨[x, .slice (some ⟨H.length+1,0,none⟩) (len+1) 0],2, .rw⟩) id n a B b2 b3 z2 x (.slice (some ⟨H.length+1,0,none⟩) (len+1) 0) sz (len+1) (cs++new):=by
 have h1:=s.low
 have h2:=hget_lt s.b
 have h0:=s.out.1
 rcases s.s with⟨e,_⟩|⟨sid',e,e1,e2,e3,e4⟩
 ·cases e
 obtain rfl:sid'=sid:=by simpa using e.symm
 have s1:=s.grow [(⟨new,sz, .rw⟩:Blk)]
 have s2:St ((H++ [(⟨new,sz, .rw⟩:Blk)]).set sid' (⟨cs,sz, .dead⟩:Blk)) id n a B:=s1.st.set (self_get e3 _) rfl (by omega)
 have s3:=s2.app [(⟨cs++new,sz, .rw⟩:Blk)]
 have key: ∀i b,hget H i=some b->i≠sid'->hget ((H++ [(⟨new,sz, .rw⟩:Blk)]).set sid' (⟨cs,sz, .dead⟩:Blk)++ [(⟨cs++new,sz, .rw⟩:Blk)]) i=some b:=fun i b hb hi=>self_get (by rw[hget_set_ne (by omega)];exact self_get hb _) _
 have b0:=key _ _ s.b (by omega)
 refine⟨s3.set b0 rfl (by omega),⟨by simp;omega,fun i e1 e2 => ?_⟩,by rw[hget_set_ne (by omega)];exact key _ _ s.r (by omega),hget_set_same (hget_lt b0), .inr ⟨_,rfl,by omega,by simp, ?_,by simp[e4,hn,Nat.add_mul]⟩,h1⟩
 ·rw[hget_set_ne (by omega)]
  have e5:=s.out.2 i e1 e2
  have e6:i<H.length:=by omega
  rw[←e5]
  have e7:hget H i=some H[i]:=by unfold hget;exact getElem?_eq_getElem e6
  rw[e7]
  exact key _ _ e7 (by omega)
 ·rw[hget_set_ne (by omega)]
  have e5:((H++ [(⟨new,sz, .rw⟩:Blk)]).set sid' (⟨cs,sz, .dead⟩:Blk)).length=H.length+1:=by simp
  rw[←e5]
  exact hget_new
end
open Go.HH
abbrev Pip:=Int×Int×Int×Int
section
variable {h:Heap} {M:Nat->Prop}
def pip(x:Pip):List Value:= [.int .i64 x.1, .int .i64 x.2.1, .int .i64 x.2.2.1, .int .i64 x.2.2.2]
end
def NA(n:Nat)(h:Heap)(v:Value)(N:Int)(P:List Pip):Prop:= ∃w,v = .agg #[.int .i64 N,w]∧SB n 4 h w (P.map pip)
theorem NA.mono{n:Nat}{h h':Heap}{v:Value}{N:Int}{P:List Pip}(s:NA n h v N P)(hp:h<+:h'):NA n h' v N P:=by
 obtain⟨w,e,s⟩:=s;exact⟨w,e,s.mono hp⟩
theorem Sl.len4{h:Heap}{v:Value}{P:List Pip}(s:Sl h 4 v (P.map pip)): ∃a,v = .slice a P.length 0:=by
 obtain⟨a,e,_⟩:=s
 rw[length_map] at e
 exact⟨a,e⟩
end Go.Proofs.YtedidddimikjhaaGreatDoor
