/- Texts of this claim, joined. No condition. -/
import Derived.Test.YtedidddimikjhaaGreatDoorFnReplPart7
import Derived.Test.YtedidddimikjhaaGreatDoorFnReplPart5
import Derived.Test.YtedidddimikjhaaGreatDoorFnReplPart4
open List (length_map prefix_append append_assoc length_append getElem?_eq_getElem getElem_map length_take getElem_mem getElem?_append_left getElem?_append_right length_cons getElem?_cons_zero all_eq_true mem_map take_length getElem?_cons_succ cons_append map_append length_nil mem_iff_getElem getElem?_drop take_of_length_le mem_cons map_cons drop_zero append_nil mem_range length_pos_iff getElem?_take getElem?_map nil_append mem_append mem_cons_of_mem length_drop flatten_cons getElem?_set_ne any_eq_true take_left' take_add_one mem_filter flatten_append mem_singleton take_succ_eq_append_getElem drop_left' drop_drop take_append_drop)
open Nat (le_refl le_trans add_zero lt_or_ge zero_le zero_add sub_self lt_succ_self min_eq_left zero_lt_of_lt add_sub_cancel_left)
set_option linter.unusedSimpArgs false
set_option linter.unusedVariables false
namespace Go.Proofs.YtedidddimikjhaaGreatDoor
open Go.HH
def putL:List Int->Int->List Int
 | [],x=> [x]
 | y::ys,x=>if y<x then y::putL ys x else if y=x then y::ys else x::y::ys
theorem mem_putL{l:List Int}{x y:Int}:y∈putL l x↔y=x∨y∈l:=by
 induction l with
 | nil=>simp[putL]
 | cons z zs ih=>
  unfold putL
  split
  ·simp only[mem_cons,ih];constructor
   ·rintro (h|h|h)<;>simp[h]
   ·rintro (h|h|h)<;>simp[h]
  ·split
   ·rename_i h1 h2;subst h2;simp
   ·simp
theorem putL_len {l : List Int} {x : Int} : (putL l x).length ≤ l.length + 1 := by
  induction l with
  | nil => simp [putL]
  | cons z zs ih => unfold putL; split; · simp; omega
                    split <;> simp
theorem putL_sorted{l:List Int}{x:Int}(h:l.Pairwise (· < ·)):(putL l x).Pairwise (· < ·):=by
 induction l with
 | nil=>simp[putL]
 | cons z zs ih=>
  obtain⟨h1,h2⟩:=List.pairwise_cons.1 h
  unfold putL
  split
  ·rename_i hz
   refine List.pairwise_cons.2 ⟨fun y hy => ?_,ih h2⟩
   rcases mem_putL.1 hy with rfl|hy
   ·exact hz
   ·exact h1 y hy
  ·split
   ·exact h
   ·refine List.pairwise_cons.2 ⟨fun y hy => ?_,h⟩
    rcases mem_cons.1 hy with rfl|hy
    ·omega
    ·have:=h1 y hy;omega
theorem putL_at{l:List Int}{x:Int}: ∀ {k:Nat},k<=l.length->(∀(j:Nat) (hj:j<l.length),j<k->l[j]<x)->(∀hk:k<l.length,¬l[k]<x) →
  putL l x=if l[k]? = some x then l else l.take k++x::l.drop k:=by
 induction l with
 | nil=>intro k hk _ _;simp[putL]
 | cons z zs ih=>
  intro k hk h1 h2
  cases k with
  | zero=>
   have h3:=h2 (by simp)
   simp only[List.getElem_cons_zero] at h3
   unfold putL
   rw[if_neg h3]
   simp only[getElem?_cons_zero,Option.some.injEq,List.take_zero,nil_append,drop_zero]
  | succ k=>
   have h3:=h1 0 (by simp) (by omega)
   simp only[List.getElem_cons_zero] at h3
   unfold putL
   rw[if_pos h3,ih (k:=k) (by simpa using hk) (fun j hj hjk=>by have:=h1 (j+1) (by simpa using hj) (by omega);rwa [List.getElem_cons_succ] at this) (fun hk=>by have:=h2 (by simpa using hk);rwa [List.getElem_cons_succ] at this)]
   simp only[getElem?_cons_succ,List.take_succ_cons,List.drop_succ_cons,cons_append]
   split<;>rfl
section
variable {h:Heap} {M:Nat->Prop}
theorem c_l1Has{n:Nat}(v:Value)(l:List Int)(x:Int)(s:AI n h v l)(hmax:l.length<=1048576):vCall [] Tryz.prog M 194 [v, .int .i64 x] h (fun r h'=>r = .bool (decide (x∈l))∧h=h'):=by
 obtain⟨a,rfl⟩:=s.len
 refine bo Tryz.func194 rfl rfl ?_
 simp only[go_sem]
 refine vLoop.count mo l.length (fun i e h'=>Regs e [(0, .slice a l.length 0),(1, .int .i64 x),(5, .int .i64 i)]∧HeapIs h' h∧x∉l.take i) ?_ ?_
 ·exact⟨⟨rfl,rfl,rfl,trivial⟩, .rfl,by simp⟩
 ·rintro i e _ hi ⟨⟨e0,e1,e5,_⟩,rfl,hx⟩
  simp only[go_sem,e0,e1,e5]
  by_cases hlt:i<l.length
  ·have ws:=wsucc hlt (by omega)
   have hz:(i:Int)<l.length:=by omega
   obtain⟨id,off,k,hv,_,_,hk,hd,_,_,_,hat⟩:=s.at (zero_lt_of_lt hlt)
   obtain rfl:a=some ⟨id,off,none⟩:=by simpa using hv
   simp only[go_sem,e0,e1,e5,hk,hat i hlt,hz,hd]
   by_cases h2:l[i]=x
   ·simp only[go_sem,e0,e1,e5,show (l[i]==x)=true by simpa using h2]
    exact congrArg Value.bool (decide_eq_true (h2▸getElem_mem hlt)).symm
   ·simp only[go_sem,e0,e1,e5,show (l[i]==x)=false by simpa using h2]
    refine⟨hlt,⟨e0,e1,congrArg _ ws,trivial⟩, .rfl, ?_⟩
    rw[take_add_one,getElem?_eq_getElem hlt,mem_append]
    simp[hx,Ne.symm h2]
  ·obtain rfl:i=l.length:=by omega
   rw[take_length] at hx
   simp only[go_sem,e0,e1,e5,show ¬((l.length:Int)<l.length) by omega]
   exact congrArg Value.bool (decide_eq_false hx).symm
theorem ints_one{l:List Int}:((l.map iv).all oneC)=true:=by rw[all_eq_true];intro x hx;obtain⟨y,_,rfl⟩:=mem_map.1 hx;rfl
theorem c_l1Put{n:Nat}(v:Value)(l:List Int)(x:Int)(s:AI n h v l)(hn:n<=h.length)(hmax:l.length<=1000):vCall [] Tryz.prog M 232 [v, .int .i64 x] h (fun r h'=>AI h'.length h' r (putL l x)∧h<+:h'):=by
 obtain⟨a,rfl⟩:=s.len
 refine bo Tryz.func232 rfl rfl ?_
 simp only[go_sem]
 refine vLoop.count mo l.length (fun i e h'=>Regs e [(0, .slice a l.length 0),(1, .int .i64 x),(5, .int .i64 i)]∧HeapIs h' h∧∀(j:Nat) (hj:j<l.length),j<i->l[j]<x) ?_ ?_
 ·exact⟨⟨rfl,rfl,rfl,trivial⟩, .rfl,fun j _ hj=>absurd hj (by omega)⟩
 ·rintro i e H hi ⟨⟨e0,e1,e5,_⟩,rfl,hx⟩
  simp only[go_sem,e0,e1,e5]
  by_cases hlt:i<l.length
  ·have ws:=wsucc hlt (by omega)
   have hz:(i:Int)<l.length:=by omega
   obtain⟨id,off,k,hv,hidn,hkt,hk,hd,he,hb,hrow,hat⟩:=s.at (zero_lt_of_lt hlt)
   obtain rfl:a=some ⟨id,off,none⟩:=by simpa using hv
   by_cases h2:l[i]<x
   ·simp only[go_sem,e0,e1,e5,hk,hat i hlt,hz,hd,h2]
    refine⟨hlt,⟨e0,e1,congrArg _ ws,trivial⟩, .rfl,fun j hj hji => ?_⟩
    by_cases h3:j<i
    ·exact hx j hj h3
    ·obtain rfl:j=i:=by omega
     exact h2
   ·have hput:=putL_at (Nat.le_of_lt hlt) hx (fun _=>h2)
    rw[getElem?_eq_getElem hlt] at hput
    simp only[go_sem,e0,e1,e5,hk,hat i hlt,hz,hd,h2]
    by_cases h3:l[i]=x
    ·rw[if_pos (by rw[h3])] at hput
     simp only[go_sem,e0,e1,e5,hk,hat i hlt,hz,hd,h2,show (l[i]==x)=true by simpa using h3]
     rw[hput]
     exact s.le hn
    ·rw[if_neg (by simpa using h3)] at hput
     have hp:0<l.length:=by omega
     have hp2:0<l.length-i:=by omega
     have f1:(k.cells.drop off).take i=(l.take i).map iv:=by
      have:=congrArg (List.take i) hrow
      rw[List.take_take,min_eq_left (by omega)] at this
      rw[this,List.map_take]
     have f2:(k.cells.drop (off+i)).take (l.length-i)=(l.drop i).map iv:=by
      have:=congrArg (List.drop i) hrow
      rw[List.drop_take,drop_drop] at this
      rw[this,List.map_drop]
     have o1:((l.take i).map iv).all oneC=true:=ints_one
     have o2:((l.drop i).map iv).all oneC=true:=ints_one
     have hil:i<=l.length:=hi
     have h4:(i:Int).toNat=i:=by omega
     by_cases h5:i=0
     ·subst h5
      simp only[Nat.sub_zero,add_zero,drop_zero] at f2 o2
      simp only[go_sem,e0,e1,e5,hkt,hat 0 hlt,hz,hd,h2,show (l[0]==x)=false by simpa using h3,onSl_more hp,he,hp,h4,onApp_more hp,show off+l.length<=k.cells.length by omega,f2,o2]
      refine⟨by omega,by omega,by omega,by omega, ?_⟩
      rw[hput]
      refine AI.le (FI.ai (n:=0) (FI.at' (m:=H.length+4) ?_ (zero_le _) (by omega) ?_)) (by simp)
      ·simp;omega
      ·simp only[go_sem,List.take_zero,drop_zero,map_cons]
       rfl
     ·have hp3:0<i:=by omega
      simp only[go_sem,e0,e1,e5,hkt,hat i hlt,hz,hd,h2,show (l[i]==x)=false by simpa using h3,onSl_more hp,he,hp,h4,onApp_more hp2,onApp_more hp3,f1,f2,o1,o2,hil]
      have e1:((l.take i).map iv).length=i:=by simp;omega
      refine⟨by omega,hp3,by omega,by omega,by omega,e1.symm,by omega,by omega,hp2,e1.symm,by omega,by omega,by omega, ?_⟩
      rw[hput]
      refine FI.ai (n:=0) (FI.at' ?_ (zero_le _) (by omega) ?_)
      ·simp;omega
      ·simp only[go_sem,map_append,map_cons]
       rfl
  ·obtain rfl:i=l.length:=by omega
   have hput:=putL_at (le_refl _) hx (fun hh=>absurd hh (by omega))
   rw[if_neg (by simp),take_length,List.drop_length] at hput
   by_cases h0:l.length=0
   ·obtain rfl:l= []:=List.length_eq_zero_iff.1 h0
    simp only[go_sem,e0,e1,e5]
    rw[hput]
    refine FI.ai (n:=0) (FI.at' rfl (zero_le _) (lt_succ_self _) ?_)
    simp only[go_sem]
    rfl
   ·obtain⟨id,off,k,hv,hidn,hkt,hk,hd,he,hb,hrow,hat⟩:=s.at (by omega)
    obtain rfl:a=some ⟨id,off,none⟩:=by simpa using hv
    have hp:0<l.length:=by omega
    have h4:(l.length:Int).toNat=l.length:=by omega
    simp only[go_sem,e0,e1,e5,show ¬((l.length:Int)<l.length) by omega,hkt,hd,he,hp,onSl_more hp,onApp_more hp,h4,sub_self,hrow,ints_one]
    refine⟨by omega,by omega,by omega,by omega,by simp,by omega,by omega, ?_⟩
    rw[hput]
    refine FI.ai (n:=0) (FI.at' (by simp) (zero_le _) (by omega) ?_)
    simp only[go_sem,map_append,map_cons]
    rfl
def seen(P:List Pip)(s:Int)(k:Nat)(L:List Int):Prop:= ∀v,v∈L↔ball P s k v=true
end
open Go.HH Go.Proofs
theorem rising_ext: ∀ {a b:List Int},a.Pairwise (· < ·)->b.Pairwise (· < ·)->(∀x,x∈a↔x∈b)->a=b
 | [],[],_,_,_=>rfl
 | [],y::b,_,_,h=>absurd ((h y).2 (by simp)) (by simp)
 | x::a,[],_,_,h=>absurd ((h x).1 (by simp)) (by simp)
 | x::a,y::b,ha,hb,h=>by
  obtain⟨a1,a2⟩:=List.pairwise_cons.1 ha
  obtain⟨b1,b2⟩:=List.pairwise_cons.1 hb
  have hxy:x=y:=by
   rcases mem_cons.1 ((h x).1 (by simp)) with h1|h1
   ·exact h1
   ·rcases mem_cons.1 ((h y).2 (by simp)) with h2|h2
    ·exact h2.symm
    ·have:=a1 y h2;have:=b1 x h1;omega
  subst hxy
  congr 1
  refine rising_ext a2 b2 fun z=>⟨fun hz => ?_,fun hz => ?_⟩
  ·rcases mem_cons.1 ((h z).1 (mem_cons_of_mem _ hz)) with h1|h1
   ·subst h1;have:=a1 z hz;omega
   ·exact h1
  ·rcases mem_cons.1 ((h z).2 (mem_cons_of_mem _ hz)) with h1|h1
   ·subst h1;have:=b1 z hz;omega
   ·exact h1
theorem nodesOf_rising{N:Nat}{f:Nat->Bool}:(nodesOf N f).Pairwise (· < ·):=by
 induction N with
 | zero=>simp[nodesOf]
 | succ N ih=>
  rw[nodesOf_succ,List.pairwise_append]
  refine⟨ih,by split<;>simp,fun x hx y hy => ?_⟩
  have hx2:x<=N:=by
   obtain⟨i,hi,rfl⟩:=mem_map.1 hx
   have:=mem_range.1 (mem_filter.1 hi).1
   omega
  split at hy
  ·have:y=((N+1:Nat):Int):=by simpa using hy
   omega
  ·simp at hy
theorem nodesOf_mem{N:Nat}{f:Nat->Bool}{x:Int}:x∈nodesOf N f↔1<=x∧x<=N∧f x.toNat=true:=by
 unfold nodesOf
 constructor
 ·intro hx
  obtain⟨i,hi,rfl⟩:=mem_map.1 hx
  obtain⟨h1,h2⟩:=mem_filter.1 hi
  have:=mem_range.1 h1
  exact⟨by omega,by omega,by simpa using h2⟩
 ·rintro⟨h1,h2,h3⟩
  refine mem_map.2 ⟨x.toNat-1,mem_filter.2 ⟨mem_range.2 (by omega), ?_⟩,by omega⟩
  rw[show x.toNat-1+1=x.toNat by omega]
  exact h3
structure Rep(e:List Bool)(S T:List Int):Prop where
 sS:S.Pairwise (· < ·)
 sT:T.Pairwise (· < ·)
 mS: ∀v,v∈S↔(0<=v∧v<=8∧ev e v.toNat=true)
 mT: ∀i,i∈T↔(0<=i∧i<10∧ev e (9+i.toNat)=true)
 ln:S.length+T.length+2*lacks e<=40
theorem lacks_init{s:Nat}:lacks ((List.replicate 19 false).set s true)<=19:=by
 have:=List.countP_le_length (p:=fun b:Bool => !b) (l:=(List.replicate 19 false).set s true)
 simpa[lacks] using this
theorem ev_init{s x:Nat}(hs:s<19):ev ((List.replicate 19 false).set s true) x=decide (s=x):=by
 rw[ev_set (by simpa using hs)]
 have h0:ev (List.replicate 19 false) x=false:=by
  unfold ev
  rw[List.getD_eq_getElem?_getD,List.getElem?_replicate]
  split<;>rfl
 rw[h0];rfl
theorem Rep.node{s:Nat}(h1:s<=8):Rep ((List.replicate 19 false).set s true) [(s:Int)] []:=by
 refine⟨by simp,by simp,fun v => ?_,fun i => ?_, ?_⟩
 ·rw[ev_init (by omega)]
  simp only[mem_singleton,decide_eq_true_eq]
  omega
 ·rw[ev_init (by omega)]
  simp only[List.not_mem_nil,false_iff,decide_eq_true_eq]
  omega
 ·have:=lacks_init (s:=s)
  simp only[length_cons,length_nil];omega
theorem Rep.pipe{k:Nat}(h1:k<10):Rep ((List.replicate 19 false).set (9+k) true) [] [(k:Int)]:=by
 refine⟨by simp,by simp,fun v => ?_,fun i => ?_, ?_⟩
 ·rw[ev_init (by omega)]
  simp only[List.not_mem_nil,false_iff,decide_eq_true_eq]
  omega
 ·rw[ev_init (by omega)]
  simp only[mem_singleton,decide_eq_true_eq]
  omega
 ·have:=lacks_init (s:=9+k)
  simp only[length_cons,length_nil];omega
theorem Rep.mark{e:List Bool}{S T:List Int}(r:Rep e S T)(hl:e.length=19){i:Nat}(hi:i<10){nd:Int}(hr:0<=nd∧nd<=8)(hk:lacks ((e.set nd.toNat true).set (9+i) true)+1=lacks e) :
  Rep ((e.set nd.toNat true).set (9+i) true) (putL S nd) (putL T i):=by
 have h1:nd.toNat<e.length:=by omega
 have h2:9+i<(e.set nd.toNat true).length:=by simp;omega
 refine⟨putL_sorted r.sS,putL_sorted r.sT,fun v => ?_,fun j => ?_, ?_⟩
 ·rw[mem_putL,r.mS,ev_set h2,ev_set h1]
  simp only[Bool.or_eq_true,decide_eq_true_eq]
  constructor
  ·rintro (rfl|⟨a,b,c⟩)
   ·exact⟨hr.1,hr.2, .inl (.inr rfl)⟩
   ·exact⟨a,b, .inl (.inl c)⟩
  ·rintro⟨a,b,(c|c)|c⟩
   ·exact .inr ⟨a,b,c⟩
   ·exact .inl (by omega)
   ·omega
 ·rw[mem_putL,r.mT,ev_set h2,ev_set h1]
  simp only[Bool.or_eq_true,decide_eq_true_eq]
  constructor
  ·rintro (rfl|⟨a,b,c⟩)
   ·exact⟨by omega,by omega, .inr (by omega)⟩
   ·exact⟨a,b, .inl (.inl c)⟩
  ·rintro⟨a,b,(c|c)|c⟩
   ·exact .inr ⟨a,b,c⟩
   ·omega
   ·exact .inl (by omega)
 ·have a:=putL_len (l:=S) (x:=nd)
  have b:=putL_len (l:=T) (x:=(i:Int))
  have:=r.ln
  omega
section
variable {h:Heap} {M:Nat->Prop}
theorem c_l4Blocked(w:Value)(V:List Vlv)(pid nd:Int)(sh:Bool)(s:Sl h 4 w (V.map vlv))(hV:V.length<=1048576) :
  vCall [] Tryz.prog M 238 [w, .int .i64 pid, .int .i64 nd, .bool sh] h (fun r h'=>r = .bool (blk V pid nd sh)∧h<+:h'):=by
 obtain⟨a,ew,_,_⟩:=id s
 rw[length_map] at ew
 subst ew
 refine bo Tryz.func238 rfl rfl ?_
 simp only[go_sem]
 refine vLoop.count mo V.length (fun i e h'=>Regs e [(0, .slice a V.length 0),(1, .int .i64 pid),(2, .int .i64 nd),(3, .bool sh),(9, .int .i64 i)]∧HeapIs h' h∧∀(j:Nat) (hj:j<V.length),j<i->((decide (V[j].2.1=pid)&&decide (V[j].2.2.1=nd))&&(!sh||V[j].2.2.2))=false) ?_ ?_
 ·exact⟨⟨rfl,rfl,rfl,rfl,rfl,trivial⟩, .rfl,fun j _ hj=>absurd hj (by omega)⟩
 ·rintro i e _ hi ⟨⟨e0,e1,e2,e3,e9,_⟩,rfl,hno⟩
  simp only[go_sem,e0,e1,e2,e3,e9]
  by_cases hlt:i<V.length
  ·have hlt':i<(V.map vlv).length:=by simpa using hlt
   have hz:(i:Int)<V.length:=by omega
   have ws:=wsucc hlt (by omega)
   obtain⟨id,o,K,hv,hK,hK0,hd,hb,hrow,hat⟩:=s.at hlt'
   obtain rfl:a=some ⟨id,o,none⟩:=by simpa using hv
   have g1:=hat 1 (by omega)
   have g2:=hat 2 (by omega)
   have g3:=hat 3 (by omega)
   rw[getElem_map] at g1 g2 g3
   simp only[vlv,getElem?_cons_zero,getElem?_cons_succ] at g1 g2 g3
   have no:((decide (V[i].2.1=pid)&&decide (V[i].2.2.1=nd))&&(!sh||V[i].2.2.2))=false->∀(j:Nat) (hj:j<V.length),j<i+1->((decide (V[j].2.1=pid)&&decide (V[j].2.2.1=nd))&&(!sh||V[j].2.2.2))=false:=fun hh j hj hji=>by
    by_cases h3:j<i
    ·exact hno j hj h3
    ·obtain rfl:j=i:=by omega
     exact hh
   have yes:((decide (V[i].2.1=pid)&&decide (V[i].2.2.1=nd))&&(!sh||V[i].2.2.2))=true->Value.bool true=Value.bool (blk V pid nd sh):=fun hh=>
    congrArg Value.bool (any_eq_true.2 ⟨_,getElem_mem hlt,hh⟩).symm
   simp only[go_sem,e0,e1,e2,e3,e9,hz,hK0,hd,g1,g2,g3]
   by_cases q1:V[i].2.1=pid
   ·simp only[go_sem,e0,e1,e2,e3,e9,hz,hK0,hd,g1,g2,g3,show (V[i].2.1==pid)=true by simpa using q1]
    by_cases q2:V[i].2.2.1=nd
    ·simp only[go_sem,e0,e1,e2,e3,e9,hz,hK0,hd,g1,g2,g3,show (V[i].2.2.1==nd)=true by simpa using q2]
     cases sh with
     | true=>
      simp only[go_sem,e0,e1,e2,e3,e9,hz,hK0,hd,g1,g2,g3,show (V[i].2.1==pid)=true by simpa using q1,show (V[i].2.2.1==nd)=true by simpa using q2]
      cases q3:V[i].2.2.2 with
      | true=>
       simp only[go_sem,e0,e1,e2,e3,e9,hz,hK0,hd,g1,g2,g3,q3]
       exact yes (by simp[q1,q2,q3])
      | false=>
       simp only[go_sem,e0,e1,e2,e3,e9,hz,hK0,hd,g1,g2,g3,q3]
       exact⟨hlt,⟨e0,e1,e2,e3,congrArg _ ws,trivial⟩, .rfl,no (by simp[q3])⟩
     | false=>
      simp only[go_sem,e0,e1,e2,e3,e9,hz,hK0,hd,g1,g2,g3,show (V[i].2.1==pid)=true by simpa using q1,show (V[i].2.2.1==nd)=true by simpa using q2]
      exact yes (by simp[q1,q2])
    ·simp only[go_sem,e0,e1,e2,e3,e9,hz,hK0,hd,g1,g2,g3,show (V[i].2.2.1==nd)=false by simpa using q2]
     exact⟨hlt,⟨e0,e1,e2,e3,congrArg _ ws,trivial⟩, .rfl,no (by simp[q2])⟩
   ·simp only[go_sem,e0,e1,e2,e3,e9,hz,hK0,hd,g1,g2,g3,show (V[i].2.1==pid)=false by simpa using q1]
    exact⟨hlt,⟨e0,e1,e2,e3,congrArg _ ws,trivial⟩, .rfl,no (by simp[q1])⟩
  ·obtain rfl:i=V.length:=by omega
   simp only[go_sem,e0,e1,e2,e3,e9,show ¬((V.length:Int)<V.length) by omega]
   refine congrArg Value.bool (List.any_eq_false.2 fun x hx => ?_).symm
   obtain⟨j,hj,rfl⟩:=mem_iff_getElem.1 hx
   rw[hno j hj hj];simp
theorem c_l4Spread{n:Nat}(v w vS0 vT0:Value)(N:Nat)(P:List Pip)(V:List Vlv)(sh:Bool)(s:Nat)(e0:List Bool)(S0 T0:List Int)(hv:NA n h v N P)(sv:Sl h 4 w (V.map vlv))(g:netGood N P)(hV:V.length<=1048576)
  (sS:SI h vS0 S0) (sT:SI h vT0 T0) (r0:Rep e0 S0 T0) (m0:Mks P (opn V sh) s e0) :
  vCall [] Tryz.prog M 199 [v,w, .bool sh,vS0,vT0] h (fun r h'=>(∃e S T x y,r = .tuple #[x,y]∧SI h' x S∧SI h' y T∧Rep e S T∧∀x,ev e x=true↔Rch P (opn V sh) s x)∧h<+:h'):=by
 obtain⟨wp,rfl,sP⟩:=id hv
 replace sP:Sl h 4 wp (P.map pip):=sP.1
 obtain⟨a,rfl⟩:=Sl.len4 sP
 have hN:N<=8:=by have:=g.2.1;omega
 have hP:P.length<=10:=g.2.2
 have he:=g.ends
 refine bo Tryz.func199 rfl rfl ?_
 simp only[go_sem]
 refine vLoop.rank mo 41 (fun m e h'=> ∃(E:List Bool) (S T:List Int) (vS vT:Value) (ag:Bool) (t:Heap),Regs e [(1,w),(2, .bool sh),(3,vS),(4,vT),(5, .pointer (some ⟨h.length,0,none⟩)),(12, .bool ag)] ∧
  HeapIs h' (h++(⟨[.int .i64 N, .slice a P.length 0],2, .rw⟩::t))∧SI h' vS S∧SI h' vT T∧Rep E S T∧Mks P (opn V sh) s E∧(ag=false->evenTo P (opn V sh) E P.length 0)∧2*lacks E+ag.toNat<=m) ?_ ?_
 ·refine⟨e0,S0,T0,vS0,vT0,true,[],⟨rfl,rfl,rfl,rfl,rfl,rfl,trivial⟩, .rfl,sS.mono (by simp),sT.mono (by simp),r0,m0,(fun h=>by cases h), ?_⟩
  have:=r0.ln
  simp only[Bool.toNat_true]
  omega
 ·rintro m e _ ⟨E,S,T,vS,vT,ag,t,⟨e1,e2,e3,e4,e5,e12,_⟩,rfl,qS,qT,rp,mk,ev0,hm⟩
  simp only[go_sem,e1,e2,e3,e4,e5,e12]
  cases ag with
  | false=>
   simp only[go_sem,e1,e2,e3,e4,e5,e12]
   exact⟨E,S,T,vS,vT,rfl,qS,qT,rp,mk.done (ev0 rfl)⟩
  | true=>
   simp only[go_sem,e1,e2,e3,e4,e5,e12]
   refine vLoop.count mo P.length (fun i e h'=> ∃(E:List Bool) (S T:List Int) (vS vT:Value) (ag:Bool) (t:Heap),Regs e [(1,w),(2, .bool sh),(3,vS),(4,vT),(5, .pointer (some ⟨h.length,0,none⟩)),(12, .bool ag),(13, .int .i64 i)] ∧
    HeapIs h' (h++(⟨[.int .i64 N, .slice a P.length 0],2, .rw⟩::t))∧SI h' vS S∧SI h' vT T∧Rep E S T∧Mks P (opn V sh) s E∧(ag=false->evenTo P (opn V sh) E i 0)∧2*lacks E+ag.toNat+1<=m) ?_ ?_
   ·exact⟨E,S,T,vS,vT,false,t,⟨e1,e2,e3,e4,e5,rfl,rfl,trivial⟩, .rfl,qS,qT,rp,mk,fun _=>evenTo.zero,by simpa using hm⟩
   ·clear mk ev0 hm e1 e2 e3 e4 e5 e12 qS qT rp
    rintro i e _ hi ⟨E,S,T,vS,vT,ag,t,⟨e1,e2,e3,e4,e5,e12,e13,_⟩,rfl,qS,qT,rp,mk,ev0,hm⟩
    simp only[go_sem,e1,e2,e3,e4,e5,e12,e13]
    by_cases hlt:i<P.length
    ·have hlt':i<(P.map pip).length:=by simpa using hlt
     have hz:(i:Int)<P.length:=by omega
     have ws:=wsucc hlt (by omega)
     obtain⟨id,o,k,hv',hk,_,hd,hb,hrow,hat⟩:=sP.at hlt'
     obtain rfl:a=some ⟨id,o,none⟩:=by simpa using hv'
     rw[getElem_map] at hrow
     simp only[pip] at hrow
     simp only[go_sem,e1,e2,e3,e4,e5,e12,e13,hz,hk,hd,hb,hrow]
     refine vLoop.count mo 2 (fun j e h'=> ∃(E:List Bool) (S T:List Int) (vS vT:Value) (ag:Bool) (u:Heap),Regs e [(1,w),(2, .bool sh),(3,vS),(4,vT),(5, .pointer (some ⟨h.length,0,none⟩)),(12, .bool ag),(13, .int .i64 i),(14, .pointer (some ⟨h.length+(t.length+1),0,none⟩)),(15, .int .i64 j)] ∧
      HeapIs h' (h++(⟨[.int .i64 N, .slice (some ⟨id,o,none⟩) P.length 0],2, .rw⟩::(t++(⟨[.int .i64 P[i].1, .int .i64 P[i].2.1, .int .i64 P[i].2.2.1, .int .i64 P[i].2.2.2],4, .rw⟩::u))))∧SI h' vS S∧SI h' vT T∧Rep E S T∧Mks P (opn V sh) s E∧(ag=false->evenTo P (opn V sh) E i j)∧2*lacks E+ag.toNat+1<=m) ?_ ?_
     ·exact⟨E,S,T,vS,vT,ag,[],⟨e1,e2,e3,e4,e5,e12,e13,rfl,rfl,trivial⟩, .rfl,qS.mono (by simp),qT.mono (by simp),rp,mk,ev0,hm⟩
     ·clear mk ev0 hm e1 e2 e3 e4 e5 e12 e13 qS qT rp
      rintro j e _ hj ⟨E,S,T,vS,vT,ag,u,⟨e1,e2,e3,e4,e5,e12,e13,e14,e15,_⟩,rfl,qS,qT,rp,mk,ev0,hm⟩
      simp only[go_sem,e1,e2,e3,e4,e5,e12,e13,e14,e15]
      by_cases hjl:j<2
      ·have hz2:(j:Int)<2:=by omega
       have hpi:=(he _ (getElem_mem hlt))
       obtain⟨nd,hnd⟩: ∃nd,nd=if j=0 then P[i].2.1 else P[i].2.2.1:=⟨_,rfl⟩
       have hnd':nd=P[i].2.1∨nd=P[i].2.2.1:=by rw[hnd];split<;>simp
       have hr:1<=nd∧nd<=N:=by rcases hnd' with h|h<;>(rw[h];omega)
       have hcell: [Value.int .i64 P[i].2.1, .int .i64 P[i].2.2.1][j]? = some (.int .i64 nd):=by
        rw[hnd]
        obtain rfl|rfl:j=0∨j=1:=by omega
        ·rfl
        ·rfl
       have wj:=wsucc hjl (by omega)
       have hl:=mk.len
       have hrl:=rp.ln
       simp only[go_sem,e1,e2,e3,e4,e5,e12,e13,e14,e15,hz2,hcell]
       refine (c_l4Blocked _ V _ _ _ (sv.mono (by simp)) hV).go ?_
       rintro _ _⟨rfl,⟨u2,rfl⟩⟩
       cases hb2:blk V P[i].1 nd sh with
       | true=>
        simp only[go_sem,e1,e2,e3,e4,e5,e12,e13,e14,e15,hb2]
        exact⟨hjl,E,S,T,vS,vT,ag,_,⟨e1,e2,e3,e4,e5,e12,e13,e14,congrArg _ wj,trivial⟩, .rfl,qS.mono (by simp),qT.mono (by simp),rp,mk,fun h0=>(ev0 h0).more hjl hlt hnd (fun _ h1=>by rw[opn,hb2] at h1;cases h1),hm⟩
       | false=>
        have ho:opn V sh P[i] nd=true:=by rw[opn,hb2];rfl
        have c1:decide (nd∈S)=ev E nd.toNat:=by
         cases hh:ev E nd.toNat
         ·rw[decide_eq_false];intro h1;have:=((rp.mS nd).1 h1).2.2;rw[hh] at this;cases this
         ·rw[decide_eq_true];exact (rp.mS nd).2 ⟨by omega,by omega,hh⟩
        have c2:decide ((i:Int)∈T)=ev E (9+i):=by
         cases hh:ev E (9+i)
         ·rw[decide_eq_false];intro h1;have:=((rp.mT i).1 h1).2.2;rw[Int.toNat_natCast,hh] at this;cases this
         ·rw[decide_eq_true];exact (rp.mT i).2 ⟨by omega,by omega,by rw[Int.toNat_natCast];exact hh⟩
        simp only[go_sem,e1,e2,e3,e4,e5,e12,e13,e14,e15,hb2]
        refine (c_l1Has _ S nd (qS.mono (by simp)) (by omega)).go ?_
        rintro _ _⟨rfl,rfl⟩
        rw[c1]
        try simp only[go_sem]
        refine (c_l1Has _ T i (qT.mono (by simp)) (by omega)).go ?_
        rintro _ _⟨rfl,rfl⟩
        rw[c2]
        by_cases hx:ev E nd.toNat=ev E (9+i)
        ·simp only[go_sem,e1,e2,e3,e4,e5,e12,e13,e14,e15,hb2,Tryz.underlying4,show (ev E nd.toNat==ev E (9+i))=true by simp[hx]]
         exact⟨hjl,E,S,T,vS,vT,ag,_,⟨e1,e2,e3,e4,e5,e12,e13,e14,congrArg _ wj,trivial⟩, .rfl,qS.mono (by simp),qT.mono (by simp),rp,mk,fun h0=>(ev0 h0).more hjl hlt hnd (fun _ _=>hx),hm⟩
        ·obtain⟨mk2,hlk⟩:=mk.mark hlt hP hnd' (by omega) ho hx
         have rp2:=rp.mark hl (by omega) (by omega) hlk
         simp only[go_sem,e1,e2,e3,e4,e5,e12,e13,e14,e15,hb2,Tryz.underlying4,show (ev E nd.toNat==ev E (9+i))=false by simp[hx]]
         refine (c_l1Put _ S nd (qS.mono (by simp)) (by simp) (by omega)).go ?_
         rintro vS2 _ ⟨qS2,⟨u3,rfl⟩⟩
         simp only[go_sem,e1,e2,e3,e4,e5,e12,e13,e14,e15]
         refine (c_l1Put _ T i (qT.mono (by simp)) (by simp) (by omega)).go ?_
         rintro vT2 _ ⟨qT2,⟨u4,rfl⟩⟩
         simp only[go_sem,e1,e2,e3,e4,e5,e12,e13,e14,e15]
         refine⟨hjl,_,_,_,vS2,vT2,true,_,⟨e1,e2,rfl,rfl,e5,rfl,e13,e14,congrArg _ wj,trivial⟩, .rfl, ?_, ?_,rp2,mk2,(fun h0=>by cases h0), ?_⟩
         ·exact SI.mono (h:=_) (qS2:SI _ vS2 _) (by simp)
         ·unfold SI
          simpa using qT2
         ·have:ag.toNat<=1:=by cases ag<;>decide
          simp only[Bool.toNat_true]
          omega
      ·obtain rfl:j=2:=by omega
       have ws:=wsucc hlt (by omega)
       simp only[go_sem,e1,e2,e3,e4,e5,e12,e13,e14,e15]
       exact⟨hlt,E,S,T,vS,vT,ag,_,⟨e1,e2,e3,e4,e5,e12,congrArg _ ws,trivial⟩, .rfl,qS,qT,rp,mk,fun h0=>(ev0 h0).next,hm⟩
    ·obtain rfl:i=P.length:=by omega
     simp only[go_sem,show ¬((P.length:Int)<P.length) by omega,e1,e2,e3,e4,e5,e12,e13]
     exact⟨2*lacks E+ag.toNat,by omega,E,S,T,vS,vT,ag,t,⟨e1,e2,e3,e4,e5,e12,trivial⟩, .rfl,qS,qT,rp,mk,ev0,le_refl _⟩
end
open Go.HH Go.Proofs
def plI(n:Nat)(f:Nat->Bool):List Int:=((List.range n).filter f).map Int.ofNat
theorem plI_succ{n:Nat}{f:Nat->Bool}:plI (n+1) f=plI n f++if f n then [Int.ofNat n] else []:=by
 unfold plI
 rw[List.range_succ,List.filter_append,map_append]
 cases h:f n<;>simp[h]
theorem plI_len{n:Nat}{f:Nat->Bool}:(plI n f).length<=n:=by
 unfold plI
 rw[length_map]
 exact le_trans (List.length_filter_le _ _) (by simp)
theorem plI_mem{n:Nat}{f:Nat->Bool}{x:Int}:x∈plI n f↔0<=x∧x<n∧f x.toNat=true:=by
 unfold plI
 constructor
 ·intro hx
  obtain⟨i,hi,rfl⟩:=mem_map.1 hx
  obtain⟨h1,h2⟩:=mem_filter.1 hi
  have:=mem_range.1 h1
  simp only[Int.ofNat_eq_natCast,Int.toNat_natCast]
  exact⟨by omega,by omega,h2⟩
 ·rintro⟨h1,h2,h3⟩
  exact mem_map.2 ⟨x.toNat,mem_filter.2 ⟨mem_range.2 (by omega),h3⟩,by simp only[Int.ofNat_eq_natCast];omega⟩
theorem plI_rising{n:Nat}{f:Nat->Bool}:(plI n f).Pairwise (· < ·):=by
 induction n with
 | zero=>simp[plI]
 | succ n ih=>
  rw[plI_succ,List.pairwise_append]
  refine⟨ih,by split<;>simp,fun x hx y hy => ?_⟩
  have hx2:=(plI_mem.1 hx).2.1
  split at hy
  ·have:y=Int.ofNat n:=by simpa using hy
   rw[this];simpa using hx2
  ·simp at hy
theorem nodesOf_len{N:Nat}{f:Nat->Bool}:(nodesOf N f).length<=N:=by
 unfold nodesOf
 rw[length_map]
 exact le_trans (List.length_filter_le _ _) (by simp)
section
variable {h:Heap} {M:Nat->Prop}
theorem c_l4Dry{n:Nat}(v w:Value)(N:Nat)(P:List Pip)(V:List Vlv)(s:Nat)(hv:NA n h v N P)(sv:Sl h 4 w (V.map vlv))(g:netGood N P)(hV:V.length<=1048576)(hs:1<=s∧s<=N) :
  vCall [] Tryz.prog M 193 [v,w, .int .i64 s] h (fun r h'=>(∃x y,r = .tuple #[x,y]∧SI h' x (nodesOf N (fun k => !decide (Rch P (opn V true) s k)))∧SI h' y (plI P.length (fun i => !decide (Rch P (opn V true) s (9+i)))))∧h<+:h'):=by
 obtain⟨wp,rfl,sP⟩:=id hv
 replace sP:Sl h 4 wp (P.map pip):=sP.1
 obtain⟨a,rfl⟩:=Sl.len4 sP
 have hN:N<=8:=by have:=g.2.1;omega
 have hP:P.length<=10:=g.2.2
 refine bo Tryz.func193 rfl rfl ?_
 simp only[go_sem]
 refine (c_l4Spread _ w _ _ N P V true s ((List.replicate 19 false).set s true) [(s:Int)] [] (hv.mono (by simp)) (sv.mono (by simp)) g hV ?_ ?_ (Rep.node (by omega)) (Mks.init (by omega))).go ?_
 ·refine FI.si (lo:=0) (hi:=(h++_).length) (FI.at' rfl (by omega) (by simp) ?_) (le_refl _)
  simp only[go_sem]
  rfl
 ·exact⟨_,rfl,fun h0=>absurd h0 (by simp)⟩
 rintro _ _⟨⟨e,S,T,x,y,rfl,qS,qT,rp,he⟩,⟨t,rfl⟩⟩
 try simp only[append_assoc,cons_append,nil_append] at qS qT
 have hrl:=rp.ln
 simp only[go_sem]
 obtain⟨H,hH⟩: ∃H:Heap,H=h++⟨[.int .i64 N, .slice a P.length 0],2, .rw⟩::⟨[.int .i64 s],1, .rw⟩::⟨[],1, .rw⟩::t:=⟨_,rfl⟩
 have hp:h<+:H:=by rw[hH];exact prefix_append _ _
 have hHl:=hp.length_le
 rw[←hH] at qS qT
 have gB: ∀u,hget (H++u) h.length=some ⟨[.int .i64 N, .slice a P.length 0],2, .rw⟩:=self_get (by rw[hH];simp only[go_sem])
 have eL:H.length=h.length+(t.length+1+1+1):=by rw[hH];simp
 have eH:h++⟨[.int .i64 N, .slice a P.length 0],2, .rw⟩::⟨[.int .i64 s],1, .rw⟩::⟨[],1, .rw⟩::(t++ [⟨[],1, .rw⟩,⟨[],1, .rw⟩])=H++ [⟨[],1, .rw⟩,⟨[],1, .rw⟩]:=by rw[hH];simp
 have hown: ∀k,own h.length M (H.length+k):=fun k=>Or.inl (by omega)
 have c1: ∀k:Nat,k<=8->decide ((k:Int)∈S)=decide (Rch P (opn V true) s k):=fun k hk=>by
  rw[←ev_dec he]
  cases hh:ev e k
  ·rw[decide_eq_false];intro h1;have:=((rp.mS k).1 h1).2.2;rw[Int.toNat_natCast,hh] at this;cases this
  ·rw[decide_eq_true];exact (rp.mS k).2 ⟨by omega,by omega,by rw[Int.toNat_natCast];exact hh⟩
 have c2: ∀k:Nat,k<10->decide ((k:Int)∈T)=decide (Rch P (opn V true) s (9+k)):=fun k hk=>by
  rw[←ev_dec he]
  cases hh:ev e (9+k)
  ·rw[decide_eq_false];intro h1;have:=((rp.mT k).1 h1).2.2;rw[Int.toNat_natCast,hh] at this;cases this
  ·rw[decide_eq_true];exact (rp.mT k).2 ⟨by omega,by omega,by rw[Int.toNat_natCast];exact hh⟩
 obtain⟨fN,hfN⟩: ∃f:Nat->Bool,f=fun k => !decide (Rch P (opn V true) s k):=⟨_,rfl⟩
 obtain⟨fP,hfP⟩: ∃f:Nat->Bool,f=fun i => !decide (Rch P (opn V true) s (9+i)):=⟨_,rfl⟩
 rw[←hfN, ←hfP,eH]
 clear hH eH
 refine vLoop.count mo N (fun i z h'=> ∃(u:Heap) (j:Nat),Regs z [(3, .pointer (some ⟨h.length,0,none⟩)),(8,x),(9,y),(10, .slice (some ⟨H.length+j,0,none⟩) (nodesOf i fN).length 0),(11, .slice (some ⟨H.length+1,0,none⟩) 0 0),(12, .int .i64 ((i+1:Nat):Int))] ∧
  HeapIs h' (H++u)∧u[j]? = some ⟨(nodesOf i fN).map iv,1, .rw⟩∧u[1]? = some ⟨[],1, .rw⟩∧j≠1) ?_ ?_
 ·refine⟨_,0,⟨rfl,rfl,rfl, ?_, ?_,rfl,trivial⟩, .rfl,rfl,rfl,by omega⟩
  ·rw[eL];rfl
  ·rw[eL];rfl
 ·rintro i z _ hi ⟨u,j,⟨e3,e8,e9,e10,e11,e12,_⟩,rfl,hj,h1,hj1⟩
  simp only[go_sem,e3,e8,e9,e10,e11,e12,gB]
  by_cases hlt:i<N
  ·have wi:=wsucc (i:=i+1) (N:=N+1) (by omega) (by omega)
   have hlen:=nodesOf_len (N:=i) (f:=fN)
   simp only[go_sem,e3,e8,e9,e10,e11,e12,gB,show ((i+1:Nat):Int)<=N by omega]
   refine (c_l1Has _ S _ (qS.mono (prefix_append _ _)) (by omega)).go ?_
   rintro _ _⟨rfl,rfl⟩
   rw[c1 (i+1) (by omega)]
   by_cases c:Rch P (opn V true) s (i+1)
   ·have hno:nodesOf (i+1) fN=nodesOf i fN:=by rw[nodesOf_succ,hfN];simp[c]
    simp only[go_sem,e3,e8,e9,e10,e11,e12,decb c]
    exact⟨hlt,u,j,⟨e3,e8,e9,by rw[hno];exact e10,e11,congrArg _ wi,trivial⟩, .rfl,by rw[hno];exact hj,h1,hj1⟩
   ·have hyes:nodesOf (i+1) fN=nodesOf i fN++ [((i+1:Nat):Int)]:=by rw[nodesOf_succ,hfN];simp[c]
    have hjl:=(List.getElem?_eq_some_iff.1 hj).1
    have h1l:=(List.getElem?_eq_some_iff.1 h1).1
    simp only[go_sem,e3,e8,e9,e10,e11,e12,dect c,app_old hj,length_map,hown]
    refine⟨by omega,by omega,hlt,_,u.length+1,⟨e3,e8,e9, ?_,e11,congrArg _ wi,trivial⟩, .rfl, ?_, ?_,by omega⟩
    ·rw[hyes,length_append];rfl
    ·exact (new_at (by simp)).trans (by simp[iv,hyes])
    ·rw[getElem?_append_left (by simp;omega),getElem?_set_ne (by omega)];exact app_old h1 _
  ·obtain rfl:i=N:=by omega
   simp only[go_sem,e3,e8,e9,e10,e11,e12,gB,show ¬(((i+1:Nat):Int)<=i) by omega]
   refine vLoop.count mo P.length (fun q z h'=> ∃(u:Heap) (j9:Nat),Regs z [(3, .pointer (some ⟨h.length,0,none⟩)),(9,y),(10, .slice (some ⟨H.length+j,0,none⟩) (nodesOf i fN).length 0),(11, .slice (some ⟨H.length+j9,0,none⟩) (plI q fP).length 0),(13, .int .i64 q)] ∧
    HeapIs h' (H++u)∧u[j]? = some ⟨(nodesOf i fN).map iv,1, .rw⟩∧u[j9]? = some ⟨(plI q fP).map iv,1, .rw⟩∧j≠j9) ?_ ?_
   ·exact⟨u,1,⟨e3,e9,e10,e11,rfl,trivial⟩, .rfl,hj,h1,hj1⟩
   ·clear e3 e8 e9 e10 e11 e12 hj h1 hj1 hi hlt
    rintro q z _ hi ⟨u,j9,⟨e3,e9,e10,e11,e13,_⟩,rfl,hj,h9,hj9⟩
    simp only[go_sem,e3,e9,e10,e11,e13,gB]
    by_cases hlt:q<P.length
    ·have ws:=wsucc hlt (by omega)
     have hlen:=plI_len (n:=q) (f:=fP)
     simp only[go_sem,e3,e9,e10,e11,e13,gB,show ((q:Nat):Int)<P.length by omega]
     refine (c_l1Has _ T _ (qT.mono (prefix_append _ _)) (by omega)).go ?_
     rintro _ _⟨rfl,rfl⟩
     rw[c2 q (by omega)]
     by_cases c:Rch P (opn V true) s (9+q)
     ·have hno:plI (q+1) fP=plI q fP:=by rw[plI_succ,hfP];simp[c]
      simp only[go_sem,e3,e9,e10,e11,e13,decb c]
      exact⟨hlt,u,j9,⟨e3,e9,e10,by rw[hno];exact e11,congrArg _ ws,trivial⟩, .rfl,hj,by rw[hno];exact h9,hj9⟩
     ·have hyes:plI (q+1) fP=plI q fP++ [(q:Int)]:=by rw[plI_succ,hfP];simp[c]
      have hjl:=(List.getElem?_eq_some_iff.1 hj).1
      have h9l:=(List.getElem?_eq_some_iff.1 h9).1
      simp only[go_sem,e3,e9,e10,e11,e13,dect c,app_old h9,length_map,hown]
      refine⟨by omega,by omega,hlt,_,u.length+1,⟨e3,e9,e10, ?_,congrArg _ ws,trivial⟩, .rfl, ?_, ?_,by omega⟩
      ·rw[hyes,length_append];rfl
      ·rw[getElem?_append_left (by simp;omega),getElem?_set_ne (by omega)];exact app_old hj _
      ·exact (new_at (by simp)).trans (by simp[iv,hyes])
    ·obtain rfl:q=P.length:=by omega
     simp only[go_sem,e3,e9,e10,e11,e13,gB,show ¬((P.length:Int)<P.length) by omega]
     have hjl:=(List.getElem?_eq_some_iff.1 hj).1
     have h9l:=(List.getElem?_eq_some_iff.1 h9).1
     refine⟨⟨_,_,rfl,FI.si (lo:=0) (hi:=(H++u).length) (FI.at (by omega) (by simp;omega) ?_) (le_refl _),FI.si (lo:=0) (hi:=(H++u).length) (FI.at (by omega) (by simp;omega) ?_) (le_refl _)⟩,hp.trans (prefix_append _ _)⟩
     ·rw[hget_app];exact hj
     ·rw[hget_app];exact h9
theorem c_sDryNodes{n:Nat}(v w:Value)(N:Int)(P:List Pip)(V:List Vlv)(s:Int)(hv:NA n h v N P)(sv:Sl h 4 w (V.map vlv))(hP:P.length<=1048576)(hV:V.length<=1048576) :
  vCall [] Tryz.prog M 153 [v,w, .int .i64 s] h (fun r h'=>(∃x,r = .tuple #[x, .bool (decide (valOk N P V∧1<=s∧s<=N))]∧SI h' x (dryL N P V s))∧h<+:h'):=by
 obtain⟨wp,rfl,sp⟩:=id hv
 refine bo Tryz.func153 rfl rfl ?_
 simp only[go_sem]
 refine (c_l4Good _ _ N P V (hv.mono (by simp)) (sv.mono (by simp)) hP hV).go ?_
 rintro _ _⟨rfl,⟨t,rfl⟩⟩
 by_cases h1:valOk N P V
 ·simp only[go_sem,decb h1]
  refine (c_l2NodeN _ N P s (hv.mono (by simp)) hP).go ?_
  rintro _ _⟨rfl,⟨t2,rfl⟩⟩
  by_cases h2:1<=s∧s<=N
  ·obtain⟨N,rfl⟩: ∃N':Nat,N=N':=⟨N.toNat,by omega⟩
   have hN:N<=8:=by have:=h1.1.2.1;omega
   obtain⟨s,rfl⟩: ∃s':Nat,s=s':=⟨s.toNat,by omega⟩
   have h3:netGood N P∧1<=(s:Int)∧(s:Int)<=N:=⟨h1.1,h2⟩
   simp only[go_sem,decb h1,decb h3]
   refine (c_l4Dry _ _ N P V s (hv.mono (by simp)) (sv.mono (by simp)) h1.1 hV (by omega)).go ?_
   rintro _ _⟨⟨x,y,rfl,qx,qy⟩,⟨t3,rfl⟩⟩
   simp only[go_sem,decb h1,decb h3]
   refine⟨_,congrArg (fun b=>Value.tuple #[_,Value.bool b]) (decide_eq_true (p:=valOk N P V∧1<=(s:Int)∧(s:Int)<=N) ⟨h1,h2⟩).symm, ?_⟩
   rw[dryL,if_pos ⟨h1,h2⟩]
   simpa only[append_assoc,cons_append,Int.toNat_natCast] using qx
  ·have h3: ¬(netGood N P∧1<=s∧s<=N):=fun hh=>h2 hh.2
   simp only[go_sem,decb h1,dect h3]
   refine⟨_,congrArg (fun b=>Value.tuple #[_,Value.bool b]) (decide_eq_false (fun hh:valOk N P V∧1<=s∧s<=N=>h2 hh.2)).symm, ?_⟩
   rw[dryL,if_neg (fun hh=>h2 hh.2)]
   exact⟨_,rfl,fun h0=>absurd h0 (by simp)⟩
 ·simp only[go_sem,dect h1]
  refine⟨_,congrArg (fun b=>Value.tuple #[_,Value.bool b]) (decide_eq_false (fun hh:valOk N P V∧1<=s∧s<=N=>h1 hh.1)).symm, ?_⟩
  rw[dryL,if_neg (fun hh=>h1 hh.1)]
  exact⟨_,rfl,fun h0=>absurd h0 (by simp)⟩
theorem c_l4Ids{n:Nat}(v w:Value)(N:Nat)(P:List Pip)(T:List Int)(hv:NA n h v N P)(sT:SI h w T)(hT: ∀x∈T,0<=x∧x<P.length)(hP:P.length<=1048576)(hl:T.length<=1000) :
  vCall [] Tryz.prog M 200 [v,w] h (fun r h'=>h<+:h'):=by
 obtain⟨wp,rfl,sP⟩:=id hv
 replace sP:Sl h 4 wp (P.map pip):=sP.1
 obtain⟨a,rfl⟩:=Sl.len4 sP
 obtain⟨b,rfl⟩:=AI.len sT
 refine bo Tryz.func200 rfl rfl ?_
 simp only[go_sem]
 refine vLoop.count mo T.length (fun i z h'=> ∃(u:Heap) (j:Nat) (X:List Int),Regs z [(1, .slice b T.length 0),(2, .pointer (some ⟨h.length,0,none⟩)),(5, .slice (some ⟨h.length+(j+1),0,none⟩) X.length 0),(6, .int .i64 i)] ∧
  HeapIs h' (h++(⟨[.int .i64 N, .slice a P.length 0],2, .rw⟩::u))∧u[j]? = some ⟨X.map iv,1, .rw⟩∧X.length<=i) ?_ ?_
 ·exact⟨_,0,[],⟨rfl,rfl,rfl,rfl,trivial⟩, .rfl,rfl,le_refl _⟩
 ·rintro i z _ hi ⟨u,j,X,⟨e1,e2,e5,e6,_⟩,rfl,hj,hX⟩
  simp only[go_sem,e1,e2,e5,e6]
  by_cases hlt:i<T.length
  ·have hz:(i:Int)<T.length:=by omega
   have ws:=wsucc hlt (by omega)
   obtain⟨id2,o2,K2,hv2,_,hK2,_,hd2,_,_,_,hcell⟩:=AI.at sT (by omega)
   obtain rfl:b=some ⟨id2,o2,none⟩:=by simpa using hv2
   obtain⟨x1,x2⟩:=hT _ (getElem_mem hlt)
   obtain⟨q,hq⟩: ∃q:Nat,T[i]=q:=⟨T[i].toNat,by omega⟩
   have hc:=hcell i hlt
   rw[hq] at x1 x2 hc
   have hqP:q<(P.map pip).length:=by simp;omega
   obtain⟨id,o,k,hv',hk,_,hd,hb,hrow,hat⟩:=sP.at hqP
   obtain rfl:a=some ⟨id,o,none⟩:=by simpa using hv'
   have g0:=hat 0 (by omega)
   rw[getElem_map] at g0
   simp only[pip,getElem?_cons_zero,add_zero] at g0
   simp only[go_sem,e1,e2,e5,e6,hz,hK2,hd2,hc,x1,x2,hk,hd,g0,app_old hj,length_map]
   refine⟨by omega,by omega,hlt,_,u.length+1,X++ [(P[q]'(by simpa using hqP)).1],⟨e1,e2, ?_,congrArg _ ws,trivial⟩, .rfl, ?_,by simp;omega⟩
   ·rw[length_append];rfl
   ·exact (new_at (by simp)).trans (by simp[iv])
  ·obtain rfl:i=T.length:=by omega
   simp only[go_sem,e1,e2,e5,e6,show ¬((T.length:Int)<T.length) by omega]
theorem c_segLists{n:Nat}(v w vS vT:Value)(N:Nat)(P:List Pip)(V:List Vlv)(k:Nat)(hv:NA n h v N P)(sv:Sl h 4 w (V.map vlv))(g:netGood N P)(hV:V.length<=1048576)(hk:k<P.length)
  (sS:SI h vS []) (sT:SI h vT [(k:Int)]) :
  vCall [] Tryz.prog M 199 [v,w, .bool false,vS,vT] h (fun r h'=>(∃x y,r = .tuple #[x,y]∧SI h' x (nodesOf N (fun j=>decide (Rch P (opn V false) (9+k) j)))∧SI h' y (plI P.length (fun i=>decide (Rch P (opn V false) (9+k) (9+i)))))∧h<+:h'):=by
 have hN:N<=8:=by have:=g.2.1;omega
 have hP:P.length<=10:=g.2.2
 refine (c_l4Spread _ w _ _ N P V false (9+k) ((List.replicate 19 false).set (9+k) true) [] [(k:Int)] hv sv g hV sS sT (Rep.pipe (by omega)) (Mks.init (by omega))).use (fun _ m=>m) ?_
 rintro _ _⟨⟨e,S,T,x,y,rfl,qS,qT,rp,he⟩,hp⟩
 have bound: ∀ {x:Nat},Rch P (opn V false) (9+k) x->(1<=x∧x<=N)∨(9<=x∧x<9+P.length):=by
  intro x r
  induction r with
  | here=>exact .inr ⟨by omega,by omega⟩
  | step _ l _=>
   obtain⟨i,hi,nd,hnd,_,⟨_,rfl⟩|⟨_,rfl⟩⟩:=l
   ·exact .inr ⟨by omega,by omega⟩
   ·have:=g.ends _ (getElem_mem hi)
    rcases hnd with rfl|rfl
    ·exact .inl (by omega)
    ·exact .inl (by omega)
 have eS:S=nodesOf N (fun j=>decide (Rch P (opn V false) (9+k) j)):=by
  refine rising_ext rp.sS nodesOf_rising fun z => ?_
  rw[rp.mS,nodesOf_mem]
  constructor
  ·rintro⟨a,b,c⟩
   have hr:=(he _).1 c
   have:=bound hr
   exact⟨by omega,by omega,decide_eq_true hr⟩
  ·rintro⟨a,b,c⟩
   exact⟨by omega,by omega,(he _).2 (of_decide_eq_true c)⟩
 have eT:T=plI P.length (fun i=>decide (Rch P (opn V false) (9+k) (9+i))):=by
  refine rising_ext rp.sT plI_rising fun z => ?_
  rw[rp.mT,plI_mem]
  constructor
  ·rintro⟨a,b,c⟩
   have hr:=(he _).1 c
   have:=bound hr
   exact⟨by omega,by omega,decide_eq_true hr⟩
  ·rintro⟨a,b,c⟩
   exact⟨by omega,by omega,(he _).2 (of_decide_eq_true c)⟩
 exact⟨⟨x,y,rfl,by rw[←eS];exact qS,by rw[←eT];exact qT⟩,hp⟩
theorem c_sSegmentOfPipe{n:Nat}(v w:Value)(N:Int)(P:List Pip)(V:List Vlv)(pi:Int)(hv:NA n h v N P)(sv:Sl h 4 w (V.map vlv))(hP:P.length<=1048576)(hV:V.length<=1048576) :
  vCall [] Tryz.prog M 156 [v,w, .int .i64 pi] h (fun r h'=>(∃x y,r = .tuple #[x,y, .bool (decide (valOk N P V∧0<=pidx P pi))]∧SI h' x (segL N P V pi))∧h<+:h'):=by
 obtain⟨wp,rfl,sp⟩:=id hv
 refine bo Tryz.func156 rfl rfl ?_
 simp only[go_sem]
 refine (c_l2Find _ N P pi (hv.mono (by simp)) hP).go ?_
 rintro _ _⟨rfl,⟨t,rfl⟩⟩
 simp only[go_sem]
 refine (c_l4Good _ _ N P V (hv.mono (by simp)) (sv.mono (by simp)) hP hV).go ?_
 rintro _ _⟨rfl,⟨t2,rfl⟩⟩
 by_cases h1:valOk N P V
 ·by_cases h2:pidx P pi<0
  ·simp only[go_sem,decb h1,decb h2]
   refine⟨_,_,congrArg (fun b=>Value.tuple #[_,_,Value.bool b]) (decide_eq_false (fun hh:valOk N P V∧0<=pidx P pi=>by omega)).symm, ?_⟩
   rw[segL,if_neg (by omega)]
   exact⟨_,rfl,fun h0=>absurd h0 (by simp)⟩
  ·have hN:1<=N∧N<=8:=h1.1.2.1
   have hP10:=h1.1.2.2
   have hk:=pidx_lt (P:=P) (id:=pi) (by omega)
   obtain⟨k,hk2⟩: ∃k:Nat,pidx P pi=k:=⟨(pidx P pi).toNat,by omega⟩
   obtain⟨N,rfl⟩: ∃N':Nat,N=N':=⟨N.toNat,by omega⟩
   rw[hk2] at hk h2 ⊢
   simp only[go_sem,decb h1,dect h2]
   refine (c_segLists _ _ _ _ N P V k (hv.mono (by simp)) (sv.mono (by simp)) h1.1 hV (by omega) ?_ ?_).go ?_
   ·exact⟨_,rfl,fun h0=>absurd h0 (by simp)⟩
   ·refine FI.si (lo:=0) (hi:=(h++_).length) (FI.at' rfl (by omega) (by simp) ?_) (le_refl _)
    simp only[go_sem]
    rfl
   rintro _ _⟨⟨x,y,rfl,qx,qy⟩,⟨t3,rfl⟩⟩
   try simp only[append_assoc,cons_append,nil_append] at qx qy
   simp only[go_sem,decb h1,dect h2]
   refine (c_l4Ids _ _ N P _ (hv.mono (by simp)) qy (fun x hx=>by have:=plI_mem.1 hx;omega) (by omega) (le_trans plI_len (by omega))).go ?_
   rintro v' _ ⟨t4,rfl⟩
   simp only[go_sem]
   refine⟨_,_,rfl, ?_⟩
   have e2:segL N P V pi=nodesOf N (fun j=>decide (Rch P (opn V false) (9+k) j)):=by
    rw[segL,if_pos ⟨h1,by omega⟩,hk2];rfl
   rw[e2]
   exact SI.mono qx (by simp)
 ·simp only[go_sem,dect h1]
  refine⟨_,_,congrArg (fun b=>Value.tuple #[_,_,Value.bool b]) (decide_eq_false (fun hh:valOk N P V∧0<=pidx P pi=>h1 hh.1)).symm, ?_⟩
  rw[segL,if_neg (fun hh=>h1 hh.1)]
  exact⟨_,rfl,fun h0=>absurd h0 (by simp)⟩
theorem c_l4Around{n:Nat}(v w vS vT:Value)(N:Nat)(P:List Pip)(V:List Vlv)(st:Nat)(hv:NA n h v N P)(sv:Sl h 4 w (V.map vlv))(g:valOk N P V)
  (sS:SI h vS (nodesOf N (fun j=>decide (Rch P (opn V false) st j)))) (sT:SI h vT (plI P.length (fun i=>decide (Rch P (opn V false) st (9+i))))) :
  vCall [] Tryz.prog M 201 [v,w,vS,vT] h (fun r h'=>FI h.length h'.length h' r (arI P V st V.length)∧h<+:h'):=by
 obtain⟨wp,rfl,sP⟩:=id hv
 obtain⟨a,ew,_,_⟩:=id sv
 rw[length_map] at ew
 subst ew
 have hN:1<=(N:Int)∧(N:Int)<=8:=g.1.2.1
 have hP:P.length<=10:=g.1.2.2
 have hV10:=g.2.1
 have lS:=nodesOf_len (N:=N) (f:=fun j=>decide (Rch P (opn V false) st j))
 have lT:=plI_len (n:=P.length) (f:=fun i=>decide (Rch P (opn V false) st (9+i)))
 refine bo Tryz.func201 rfl rfl ?_
 simp only[go_sem]
 refine vLoop.count mo V.length (fun i x h'=> ∃(u:Heap) (v9:Value),Regs x [(1, .slice a V.length 0),(2,vS),(3,vT),(4, .pointer (some ⟨h.length,0,none⟩)),(9,v9),(10, .int .i64 i)] ∧
  HeapIs h' (h++(⟨[.int .i64 N,wp],2, .rw⟩::u))∧OF h.length 1 u v9 (arI P V st i)) ?_ ?_
 ·exact⟨_,_,⟨rfl,rfl,rfl,rfl,rfl,rfl,trivial⟩, .rfl, .mk' 0 rfl rfl rfl⟩
 ·rintro i x _ hi ⟨u,v9,⟨e1,e2,e3,e4,e9,e10,_⟩,rfl,oi⟩
  obtain⟨j,rfl,hj⟩:=id oi
  simp only[go_sem,e1,e2,e3,e4,e9,e10]
  by_cases hlt:i<V.length
  ·have hlt':i<(V.map vlv).length:=by simpa using hlt
   have hz:(i:Int)<V.length:=by omega
   have ws:=wsucc hlt (by omega)
   obtain⟨id2,o,K,hvv,hK,_,hd,hb,hrow,hat⟩:=sv.at hlt'
   obtain rfl:a=some ⟨id2,o,none⟩:=by simpa using hvv
   have g1:=hat 1 (by omega)
   have g2:=hat 2 (by omega)
   rw[getElem_map] at g1 g2
   simp only[vlv,getElem?_cons_zero,getElem?_cons_succ] at g1 g2
   obtain⟨hn1,hp0,hpk⟩:=g.at hlt
   obtain⟨q,hq⟩: ∃q:Nat,pidx P V[i].2.1=q:=⟨(pidx P V[i].2.1).toNat,by omega⟩
   have hlen:=arI_len (P:=P) (V:=V) (st:=st) (n:=i)
   simp only[go_sem,e1,e2,e3,e4,e9,e10,hz,hK,hd,g1,g2]
   refine (c_l1Has _ _ _ (sS.mono (by simp)) (by omega)).go ?_
   rintro _ _⟨rfl,rfl⟩
   simp only[go_sem,e1,e2,e3,e4,e9,e10,hz,hK,hd,g1,g2]
   refine (c_l2Find _ N P _ (hv.mono (by simp)) (by omega)).go ?_
   rintro _ _⟨rfl,⟨t2,rfl⟩⟩
   rw[hq]
   try simp only[go_sem]
   refine (c_l1Has _ _ _ (sT.mono (by simp)) (by omega)).go ?_
   rintro _ _⟨rfl,rfl⟩
   have d1:decide (V[i].2.2.1∈nodesOf N (fun j=>decide (Rch P (opn V false) st j)))=decide (Rch P (opn V false) st V[i].2.2.1.toNat):=by
    refine decide_eq_decide.2 (nodesOf_mem.trans ⟨fun hh=>of_decide_eq_true hh.2.2,fun hh=>⟨by omega,by omega,decide_eq_true hh⟩⟩)
   have d2:decide ((q:Int)∈plI P.length (fun i=>decide (Rch P (opn V false) st (9+i))))=decide (Rch P (opn V false) st (9+q)):=by
    refine decide_eq_decide.2 (plI_mem.trans ⟨fun hh=>of_decide_eq_true hh.2.2,fun hh=>⟨by omega,by omega,decide_eq_true hh⟩⟩)
   have hcut:cutV P V st i=(decide (Rch P (opn V false) st V[i].2.2.1.toNat) != decide (Rch P (opn V false) st (9+q))):=by
    rw[cutV,getDv hlt,hq];rfl
   rw[d1,d2]
   cases c:(decide (Rch P (opn V false) st V[i].2.2.1.toNat) != decide (Rch P (opn V false) st (9+q))) with
   | false=>
    have hno:arI P V st (i+1)=arI P V st i:=by rw[arI_succ,hcut,c];simp
    simp only[go_sem,e1,e2,e3,e4,e9,e10,Tryz.underlying4,c]
    exact⟨hlt,_,_,⟨e1,e2,e3,e4,e9,congrArg _ ws,trivial⟩, .rfl,by rw[hno];exact oi.mono _⟩
   | true=>
    have hyes:arI P V st (i+1)=arI P V st i++ [(i:Int)]:=by rw[arI_succ,hcut,c];rfl
    simp only[go_sem,e1,e2,e3,e4,e9,e10,Tryz.underlying4,c,app_old hj,length_map]
    refine⟨by omega,by omega,hlt,_,_,⟨e1,e2,e3,e4,rfl,congrArg _ ws,trivial⟩, .rfl,(.mk' (u.length+t2.length+1) ?_ (by rw[hyes];simp) ?_)⟩
    ·simp;try omega
    ·exact (new_at (by simp;try omega)).trans (by simp[iv,hyes])
  ·obtain rfl:i=V.length:=by omega
   simp only[go_sem,e1,e2,e3,e4,e9,e10,show ¬((V.length:Int)<V.length) by omega]
   exact OF.fix [_] oi rfl (by omega) (by omega)
theorem c_sValvesAround{n:Nat}(v w:Value)(N:Int)(P:List Pip)(V:List Vlv)(pi:Int)(hv:NA n h v N P)(sv:Sl h 4 w (V.map vlv))(hP:P.length<=1048576)(hV:V.length<=1048576) :
  vCall [] Tryz.prog M 157 [v,w, .int .i64 pi] h (fun r h'=>(∃x,r = .tuple #[x, .bool (decide (valOk N P V∧0<=pidx P pi))]∧SI h' x (arndL N P V pi))∧h<+:h'):=by
 obtain⟨wp,rfl,sp⟩:=id hv
 obtain⟨a,ew,_,_⟩:=id sv
 rw[length_map] at ew
 subst ew
 refine bo Tryz.func157 rfl rfl ?_
 simp only[go_sem]
 refine (c_l2Find _ N P pi (hv.mono (by simp)) hP).go ?_
 rintro _ _⟨rfl,⟨t,rfl⟩⟩
 simp only[go_sem]
 refine (c_l4Good _ _ N P V (hv.mono (by simp)) (sv.mono (by simp)) hP hV).go ?_
 rintro _ _⟨rfl,⟨t2,rfl⟩⟩
 by_cases h1:valOk N P V
 ·by_cases h2:pidx P pi<0
  ·simp only[go_sem,decb h1,decb h2]
   refine⟨_,congrArg (fun b=>Value.tuple #[_,Value.bool b]) (decide_eq_false (fun hh:valOk N P V∧0<=pidx P pi=>by omega)).symm, ?_⟩
   rw[arndL,if_neg (by omega)]
   exact⟨_,rfl,fun h0=>absurd h0 (by simp)⟩
  ·have hN:1<=N∧N<=8:=h1.1.2.1
   have hP10:=h1.1.2.2
   have hV10:=h1.2.1
   have hk:=pidx_lt (P:=P) (id:=pi) (by omega)
   obtain⟨k,hk2⟩: ∃k:Nat,pidx P pi=k:=⟨(pidx P pi).toNat,by omega⟩
   obtain⟨N,rfl⟩: ∃N':Nat,N=N':=⟨N.toNat,by omega⟩
   simp only[go_sem,decb h1,dect h2]
   rw[hk2] at hk ⊢
   refine (c_segLists _ _ _ _ N P V k (hv.mono (by simp)) (sv.mono (by simp)) h1.1 hV (by omega) ?_ ?_).go ?_
   ·exact⟨_,rfl,fun h0=>absurd h0 (by simp)⟩
   ·refine FI.si (lo:=0) (hi:=(h++_).length) (FI.at' rfl (by omega) (by simp) ?_) (le_refl _)
    simp only[go_sem]
    rfl
   rintro _ _⟨⟨x,y,rfl,qx,qy⟩,⟨t3,rfl⟩⟩
   try simp only[append_assoc,cons_append,nil_append] at qx qy
   simp only[go_sem]
   refine (c_l4Around _ _ _ _ N P V (9+k) (hv.mono (by simp)) (sv.mono (by simp)) h1 qx qy).go ?_
   rintro vl _ ⟨fi,⟨t4,rfl⟩⟩
   try simp only[append_assoc,cons_append,nil_append] at fi
   obtain⟨L,hL⟩: ∃L,L=arI P V (9+k) V.length:=⟨_,rfl⟩
   have hin:=arI_in (P:=P) (V:=V) (st:=9+k) (n:=V.length)
   have hll:=arI_len (P:=P) (V:=V) (st:=9+k) (n:=V.length)
   have eA:arndL N P V pi=L.map fun i=>(V.getD i.toNat vlv0).1:=by rw[arndL,if_pos ⟨h1,by omega⟩,hL,hk2];rfl
   rw[←hL] at fi hin hll
   obtain⟨b,rfl,hb0⟩:=id fi
   obtain⟨W,hW⟩: ∃W:Heap,W=t++(t2++⟨[],1, .rw⟩::⟨[.int .i64 k],1, .rw⟩::(t3++t4)):=⟨_,rfl⟩
   rw[←hW] at hb0
   simp only[go_sem]
   rw[←hW]
   obtain⟨H,hH⟩: ∃H:Heap,H=h++ [⟨[.int .i64 N,wp],2, .rw⟩]:=⟨_,rfl⟩
   have hp:h<+:H:=by rw[hH];exact prefix_append _ _
   have hHl:=hp.length_le
   have eH:h++⟨[.int .i64 N,wp],2, .rw⟩::⟨[],1, .rw⟩::W=H++⟨[],1, .rw⟩::W:=by rw[hH];simp
   have eL:H.length=h.length+1:=by rw[hH];simp
   have hown: ∀k,own h.length M (H.length+k):=fun k=>Or.inl (by omega)
   obtain⟨jd,hjd⟩: ∃jd,0<L.length->b=some ⟨H.length+jd,0,none⟩∧((⟨[],1, .rw⟩::W:List Blk))[jd]? = some ⟨L.map iv,1, .rw⟩∧0≠jd:=by
    by_cases h0:0<L.length
    ·obtain⟨id,e1,e2,e3,e4⟩:=hb0 h0
     simp only[length_append,length_cons,length_nil] at e2
     refine⟨id-H.length,fun _=>⟨?_, ?_, ?_⟩⟩
     ·rw[e1,show H.length+(id-H.length)=id by omega]
     ·have e5:hget (H++⟨[],1, .rw⟩::W) (H.length+(id-H.length))=some ⟨L.map iv,1, .rw⟩:=by
       rw[show H.length+(id-H.length)=id by omega,hH]
       simpa using e4
      rwa [hget_app] at e5
     ·omega
    ·exact⟨0,fun h=>absurd h h0⟩
   rw[eH]
   refine vLoop.count mo L.length (fun i x h'=> ∃(u:Heap) (v8:Value) (j:Nat),Regs x [(1, .slice a V.length 0),(8,v8),(12, .slice b L.length 0),(13, .int .i64 i)] ∧
    HeapIs h' (H++u)∧(v8 = .slice (some ⟨H.length+j,0,none⟩) i 0∧u[j]? = some ⟨((L.take i).map fun i=>(V.getD i.toNat vlv0).1).map iv,1, .rw⟩)∧(0<L.length->u[jd]? = some ⟨L.map iv,1, .rw⟩∧j≠jd)) ?_ ?_
   ·refine⟨_,_,0,⟨rfl,rfl,rfl,rfl,trivial⟩, .rfl,⟨?_,rfl⟩,fun h0=>(hjd h0).2⟩
    rw[eL];rfl
   ·clear hb0 fi
    rintro i x _ hi ⟨u,v8,j,⟨e1,e8,e12,e13,_⟩,rfl,⟨rfl,hj⟩,hu⟩
    simp only[go_sem,e1,e8,e12,e13]
    by_cases hlt:i<L.length
    ·have hz:(i:Int)<L.length:=by omega
     have ws:=wsucc hlt (by omega)
     obtain⟨hu1,hju⟩:=hu (by omega)
     obtain⟨hb1,_⟩:=hjd (by omega)
     subst hb1
     obtain⟨x1,x2⟩:=hin _ (getElem_mem hlt)
     obtain⟨q,hq⟩: ∃q:Nat,L[i]=q:=⟨L[i].toNat,by omega⟩
     rw[hq] at x1 x2
     have hqV:q<V.length:=by omega
     have hqV':q<(V.map vlv).length:=by simpa using hqV
     obtain⟨id2,o,K,hvv,hK,_,hd,hb,hrow,hat⟩:=(sv.mono hp).at hqV'
     obtain rfl:a=some ⟨id2,o,none⟩:=by simpa using hvv
     have g0:=hat 0 (by omega)
     rw[getElem_map] at g0
     simp only[vlv,getElem?_cons_zero,add_zero] at g0
     have hc:(L.map iv)[i]? = some (.int .i64 q):=by
      rw[getElem?_map,getElem?_eq_getElem hlt,hq];rfl
     have htk:(L.take (i+1)).map (fun i=>(V.getD i.toNat vlv0).1)=(L.take i).map (fun i=>(V.getD i.toNat vlv0).1)++ [V[q].1]:=by
      rw[take_succ_eq_append_getElem hlt,map_append,hq]
      simp only[map_cons,List.map_nil,Int.toNat_natCast,getDv hqV]
     have hjl:=(List.getElem?_eq_some_iff.1 hj).1
     have hul:=(List.getElem?_eq_some_iff.1 hu1).1
     have htl:((L.take i).map fun i=>(V.getD i.toNat vlv0).1).length=i:=by rw[length_map,length_take];omega
     obtain⟨X,hX⟩: ∃X,X=(L.take i).map fun i=>(V.getD i.toNat vlv0).1:=⟨_,rfl⟩
     rw[←hX] at hj htl htk
     simp only[go_sem,e1,e8,e12,e13,hz,hu1,hc,hK,hd,g0,x1,x2,hown,app_old hj,length_map,htl]
     refine⟨by omega,by omega,hlt,_,_,u.length+1,⟨e1,rfl,e12,congrArg _ ws,trivial⟩, .rfl,⟨?_, ?_⟩,fun _=>⟨?_,by omega⟩⟩
     ·rfl
     ·rw[htk]
      exact (new_at (by simp)).trans (by simp[iv])
     ·rw[getElem?_append_left (by simp;omega),getElem?_set_ne (by omega)];exact app_old hu1 _
    ·obtain rfl:i=L.length:=by omega
     simp only[go_sem,e1,e8,e12,e13,show ¬((L.length:Int)<L.length) by omega]
     rw[take_length] at hj
     have hjl:=(List.getElem?_eq_some_iff.1 hj).1
     refine⟨⟨_,congrArg (fun b=>Value.tuple #[_,Value.bool b]) (decide_eq_true (p:=valOk N P V) h1).symm, ?_⟩,hp.trans (prefix_append _ _)⟩
     rw[eA]
     refine FI.si (lo:=0) (hi:=(H++u).length) (FI.at' (by rw[length_map]) (by omega) (by simp;omega) ?_) (le_refl _)
     rw[hget_app]
     exact hj
 ·simp only[go_sem,dect h1]
  refine⟨_,congrArg (fun b=>Value.tuple #[_,Value.bool b]) (decide_eq_false (fun hh:valOk N P V∧0<=pidx P pi=>h1 hh.1)).symm, ?_⟩
  rw[arndL,if_neg (fun hh=>h1 hh.1)]
  exact⟨_,rfl,fun h0=>absurd h0 (by simp)⟩
end
open Go.HH Go.Proofs
def isBri(N:Nat)(P:List Pip)(p:Pip):Bool := !ball (but P p.1) p.2.1 N p.2.2.1
def briL(N:Nat)(P Q:List Pip):List Int:=(Q.filter (isBri N P)).map fun p=>p.1
theorem briL_take{N:Nat}{P:List Pip}{i:Nat}(hi:i<P.length):briL N P (P.take (i+1))=briL N P (P.take i)++if isBri N P P[i] then [P[i].1] else []:=by
 unfold briL
 rw[take_succ_eq_append_getElem hi,List.filter_append,map_append]
 cases h:isBri N P P[i]<;>simp[h]
theorem briL_len{N:Nat}{P Q:List Pip}:(briL N P Q).length<=Q.length:=by
 unfold briL
 rw[length_map]
 exact List.length_filter_le _ _
noncomputable def briR(N:Int)(P:List Pip):List Int:=if netGood N P then briL N.toNat P P else []
theorem Bfs.neg{P:List Pip}{s:Int}{N:Nat}{D:List Int}(he:ends N P)(hs:1<=s∧s<=N)(b:Bfs P s N D []){v:Int}(h1:1<=v)(h2:v<=N):dv D v<0↔ball P s N v=false:=by
 constructor
 ·intro h
  cases hb:ball P s N v
  ·rfl
  ·have:=(b.fin he hs h1 h2 N).2 hb;omega
 ·intro h
  by_cases h3:dv D v<0
  ·exact h3
  ·have:=(b.fin he hs h1 h2 (dv D v).toNat).1 ⟨by omega,by omega⟩
   rw[ball_stop he hs this] at h;cases h
def lackN(S:List Int):Nat:=(List.range 9).countP fun v:Nat => !decide ((v:Int)∈S)
theorem lackN_lt{S T:List Int}(hs: ∀x,x∈S->x∈T){x:Int}(h0:0<=x∧x<=8)(h1:x∈T)(h2:x∉S):lackN T<lackN S:=by
 refine countP_lt (fun v _ hv => ?_) ⟨x.toNat,mem_range.2 (by omega), ?_, ?_⟩
 ·simp only[Bool.not_eq_true',decide_eq_false_iff_not] at hv ⊢
  exact fun hh=>hv (hs _ hh)
 ·rw[show ((x.toNat:Nat):Int)=x by omega];simp[h2]
 ·rw[show ((x.toNat:Nat):Int)=x by omega];simp[h1]
structure Fnd(P:List Pip)(s:Int)(N:Nat)(S:List Int):Prop where
 sS:S.Pairwise (· < ·)
 has:s∈S
 ok: ∀v,v∈S->ball P s N v=true
 ln:S.length+2*lackN S<=20
def evenP(P:List Pip)(S:List Int)(i:Nat):Prop:= ∀(j:Nat) (hj:j<P.length),j<i->(P[j].2.1∈S↔P[j].2.2.1∈S)
theorem Fnd.init{P:List Pip}{s:Int}{N:Nat}:Fnd P s N [s]:=by
 refine⟨by simp,by simp,fun v hv => ?_, ?_⟩
 ·rw[mem_singleton.1 hv]
  exact ball_mono (zero_le _) (ball_zero.2 rfl)
 ·have:=List.countP_le_length (p:=fun v:Nat => !decide ((v:Int)∈ [s])) (l:=List.range 9)
  simp only[List.length_range] at this
  simp only[lackN,length_cons,length_nil]
  omega
theorem Fnd.put{P:List Pip}{s:Int}{N:Nat}{S:List Int}(he:ends N P)(hN:N<=8)(hs:1<=s∧s<=N)(f:Fnd P s N S){i:Nat}(hi:i<P.length)(hne: ¬(P[i].2.1∈S↔P[i].2.2.1∈S)) :
  Fnd P s N (putL (putL S P[i].2.1) P[i].2.2.1)∧lackN (putL (putL S P[i].2.1) P[i].2.2.1)<lackN S:=by
 have hp:=he _ (getElem_mem hi)
 have lt:lackN (putL (putL S P[i].2.1) P[i].2.2.1)<lackN S:=by
  by_cases h1:P[i].2.1∈S
  ·exact lackN_lt (fun x hx=>mem_putL.2 (.inr (mem_putL.2 (.inr hx)))) (x:=P[i].2.2.1) (by omega) (mem_putL.2 (.inl rfl)) (fun h2=>hne ⟨fun _=>h2,fun _=>h1⟩)
  ·exact lackN_lt (fun x hx=>mem_putL.2 (.inr (mem_putL.2 (.inr hx)))) (x:=P[i].2.1) (by omega) (mem_putL.2 (.inr (mem_putL.2 (.inl rfl)))) h1
 have a1:=putL_len (l:=S) (x:=P[i].2.1)
 have a2:=putL_len (l:=putL S P[i].2.1) (x:=P[i].2.2.1)
 have adj1:adj P P[i].2.1 P[i].2.2.1:=⟨_,getElem_mem hi, .inl ⟨rfl,rfl⟩⟩
 have nxt: ∀ {a b:Int},ball P s N a=true->adj P a b->ball P s N b=true:=fun ha hab=>ball_stop he hs (k:=N+1) (ball_succ.2 (.inr ⟨_,ha,hab⟩))
 refine⟨⟨putL_sorted (putL_sorted f.sS),mem_putL.2 (.inr (mem_putL.2 (.inr f.has))),fun v hv => ?_,by have:=f.ln;omega⟩,lt⟩
 by_cases h1:P[i].2.1∈S
 ·rcases mem_putL.1 hv with rfl|hv
  ·exact nxt (f.ok _ h1) adj1
  ·rcases mem_putL.1 hv with rfl|hv
   ·exact f.ok _ h1
   ·exact f.ok _ hv
 ·have h2:P[i].2.2.1∈S:=by
   by_cases h2:P[i].2.2.1∈S
   ·exact h2
   ·exact absurd ⟨fun hh=>absurd hh h1,fun hh=>absurd hh h2⟩ hne
  rcases mem_putL.1 hv with rfl|hv
  ·exact f.ok _ h2
  ·rcases mem_putL.1 hv with rfl|hv
   ·exact nxt (f.ok _ h2) adj1.symm
   ·exact f.ok _ hv
theorem Fnd.done{P:List Pip}{s:Int}{N:Nat}{S:List Int}(f:Fnd P s N S)(c:evenP P S P.length)(v:Int):v∈S↔ball P s N v=true:=by
 refine⟨f.ok v,fun hb => ?_⟩
 have key: ∀k v,ball P s k v=true->v∈S:=by
  intro k
  induction k with
  | zero=>intro v hv;rw[ball_zero.1 hv];exact f.has
  | succ k ih=>
   intro v hv
   rcases ball_succ.1 hv with h1|⟨a,h1,p,hp,h2⟩
   ·exact ih v h1
   ·obtain⟨j,hj,rfl⟩:=mem_iff_getElem.1 hp
    have hc:=c j hj hj
    rcases h2 with⟨rfl,rfl⟩|⟨rfl,rfl⟩
    ·exact hc.1 (ih _ h1)
    ·exact hc.2 (ih _ h1)
 exact key N v hb
section
variable {h:Heap} {M:Nat->Prop}
theorem c_BridgePipes{n:Nat}(v:Value)(N:Int)(P:List Pip)(hv:NA n h v N P)(hP:P.length<=1048576) :
  vCall [] Tryz.prog M 146 [v] h (fun r h'=>(∃x,r = .tuple #[x, .bool (decide (netGood N P))]∧SI h' x (briR N P))∧h<+:h'):=by
 obtain⟨wp,rfl,sP0⟩:=id hv
 have sP:Sl h 4 wp (P.map pip):=sP0.1
 obtain⟨a,rfl⟩:=Sl.len4 sP
 refine bo Tryz.func146 rfl rfl ?_
 simp only[go_sem]
 refine (c_IsValidNetwork _ N P (hv.mono (by simp)) hP).go ?_
 rintro _ _⟨rfl,⟨t0,rfl⟩⟩
 by_cases h1:netGood N P
 ·have hN:1<=N∧N<=8:=h1.2.1
  have hP10:P.length<=10:=h1.2.2
  obtain⟨N,rfl⟩: ∃N':Nat,N=N':=⟨N.toNat,by omega⟩
  have he:=h1.ends
  simp only[go_sem,decb h1]
  refine vLoop.count mo P.length (fun i e h'=> ∃(t:Heap) (v4:Value),Regs e [(1, .pointer (some ⟨h.length,0,none⟩)),(4,v4),(12, .slice a P.length 0),(13, .int .i64 P.length),(14, .int .i64 i)] ∧
   HeapIs h' (h++(⟨[.int .i64 N, .slice a P.length 0],2, .rw⟩::t))∧OF h.length 1 t v4 (briL N P (P.take i))) ?_ ?_
  ·refine⟨_,_,⟨rfl,rfl,rfl,rfl,rfl,trivial⟩, .rfl, .mk' t0.length ?_ rfl ?_⟩
   ·simp
   ·rw[getElem?_append_right (by omega),sub_self];rfl
  ·rintro i e _ hi ⟨t,v4,⟨e1,e4,e12,e13,e14,_⟩,rfl,oi⟩
   obtain⟨j,rfl,hj⟩:=id oi
   simp only[go_sem,e1,e4,e12,e13,e14]
   by_cases hlt:i<P.length
   ·have hlt':i<(P.map pip).length:=by simpa using hlt
    have hz:(i:Int)<P.length:=by omega
    have ws:=wsucc hlt (by omega)
    obtain⟨id2,o,k,hv',hk,_,hd,hb,hrow,hat⟩:=sP.at hlt'
    obtain rfl:a=some ⟨id2,o,none⟩:=by simpa using hv'
    rw[getElem_map] at hrow
    simp only[pip] at hrow
    have hpi:=he _ (getElem_mem hlt)
    have hlen:=briL_len (N:=N) (P:=P) (Q:=P.take i)
    have htl:(P.take i).length<=i:=by rw[length_take];omega
    have htk:=briL_take (N:=N) hlt
    simp only[go_sem,e1,e4,e12,e13,e14,hz,hk,hd,hb,hrow]
    refine (c_distances _ N P P[i].2.1 P[i].1 (hv.mono (by simp)) h1 hpi.1).go ?_
    rintro vd _ ⟨⟨D,fD,bD⟩,⟨t2,rfl⟩⟩
    have hneg:=Bfs.neg (he.but P[i].1) hpi.1 bD hpi.2.1.1 hpi.2.1.2
    have hDl:=bD.len
    obtain⟨c,rfl,hc0⟩:=id fD
    obtain⟨idd,rfl,_,_,hgd⟩:=hc0 (by omega)
    try simp only[append_assoc,cons_append,nil_append] at hgd
    have hdv:(D.map iv)[P[i].2.2.1.toNat]? = some (.int .i64 (dv D P[i].2.2.1)):=by
     have:P[i].2.2.1.toNat<D.length:=by omega
     rw[getElem?_map,getElem?_eq_getElem this,dv,List.getD,getElem?_eq_getElem this];rfl
    simp only[go_sem,e1,e4,e12,e13,e14,hgd,hdv,hDl,show 0<=P[i].2.2.1 by omega,show P[i].2.2.1<((N+1:Nat):Int) by omega]
    by_cases c:dv D P[i].2.2.1<0
    ·have hb2:isBri N P P[i]=true:=by rw[isBri,hneg.1 c];rfl
     rw[hb2] at htk
     simp only[go_sem,e1,e4,e12,e13,e14,c,app_old hj,length_map]
     refine⟨by omega,by omega,hlt,_,_,⟨e1,rfl,e12,e13,congrArg _ ws,trivial⟩, .rfl,(.mk' (t.length+t2.length+2) ?_ (by rw[htk];simp) ?_)⟩
     ·simp;try omega
     ·exact (new_at (by simp;try omega)).trans (by simp[iv,htk])
    ·have hb2:isBri N P P[i]=false:=by
      rw[isBri]
      cases hh:ball (but P P[i].1) P[i].2.1 N P[i].2.2.1
      ·exact absurd (hneg.2 hh) c
      ·rfl
     rw[hb2] at htk
     simp only[go_sem,e1,e4,e12,e13,e14,c]
     exact⟨hlt,_,_,⟨e1,e4,e12,e13,congrArg _ ws,trivial⟩, .rfl,by rw[htk];simpa using oi.mono _⟩
   ·obtain rfl:i=P.length:=by omega
    simp only[go_sem,e1,e4,e12,e13,e14,show ¬((P.length:Int)<P.length) by omega]
    rw[take_length] at oi ⊢
    have:=OF.ai [⟨[.int .i64 N, .slice a P.length 0],2, .rw⟩] oi rfl
    refine⟨_,rfl, ?_⟩
    rw[briR,if_pos h1,Int.toNat_natCast]
    exact this
 ·simp only[go_sem,dect h1]
  rw[briR,if_neg h1]
  exact⟨_,rfl,AI.none⟩
theorem c_l2Reached{n:Nat}(v:Value)(N:Nat)(P:List Pip)(s:Int)(hv:NA n h v N P)(he:ends N P)(hN:N<=8)(hP:P.length<=10)(hs:1<=s∧s<=N) :
  vCall [] Tryz.prog M 195 [v, .int .i64 s] h (fun r h'=>(∃S,SI h' r S∧S.length<=20∧∀x,x∈S↔ball P s N x=true)∧h<+:h'):=by
 obtain⟨wp,rfl,sP0⟩:=id hv
 have sP:Sl h 4 wp (P.map pip):=sP0.1
 obtain⟨a,rfl⟩:=Sl.len4 sP
 refine bo Tryz.func195 rfl rfl ?_
 simp only[go_sem]
 refine vLoop.rank mo 21 (fun m e h'=> ∃(S:List Int) (vS:Value) (ag:Bool) (t:Heap),Regs e [(2, .pointer (some ⟨h.length,0,none⟩)),(5,vS),(6, .bool ag)] ∧
  HeapIs h' (h++(⟨[.int .i64 N, .slice a P.length 0],2, .rw⟩::t))∧SI h' vS S∧Fnd P s N S∧(ag=false->evenP P S P.length)∧2*lackN S+ag.toNat<=m) ?_ ?_
 ·refine⟨[s],_,true,_,⟨rfl,rfl,rfl,trivial⟩, .rfl, ?_,Fnd.init,(fun h=>by cases h), ?_⟩
  ·refine FI.si (lo:=0) (hi:=(h++_).length) (FI.at' rfl (by omega) (by simp) ?_) (le_refl _)
   simp only[go_sem]
   rfl
  ·have:=(Fnd.init (P:=P) (s:=s) (N:=N)).ln
   simp only[Bool.toNat_true,length_cons,length_nil] at this ⊢
   omega
 ·rintro m e _ ⟨S,vS,ag,t,⟨e2,e5,e6,_⟩,rfl,qS,f,ev0,hm⟩
  simp only[go_sem,e2,e5,e6]
  cases ag with
  | false=>
   simp only[go_sem,e2,e5,e6]
   exact⟨S,qS,by have:=f.ln;omega,f.done (ev0 rfl)⟩
  | true=>
   simp only[go_sem,e2,e5,e6]
   refine vLoop.count mo P.length (fun i e h'=> ∃(S:List Int) (vS:Value) (ag:Bool) (t:Heap),Regs e [(2, .pointer (some ⟨h.length,0,none⟩)),(5,vS),(6, .bool ag),(7, .int .i64 i)] ∧
    HeapIs h' (h++(⟨[.int .i64 N, .slice a P.length 0],2, .rw⟩::t))∧SI h' vS S∧Fnd P s N S∧(ag=false->evenP P S i)∧2*lackN S+ag.toNat+1<=m) ?_ ?_
   ·exact⟨S,vS,false,t,⟨e2,e5,rfl,rfl,trivial⟩, .rfl,qS,f,fun _ j hj h0=>absurd h0 (by omega),by simpa using hm⟩
   ·clear f ev0 hm e2 e5 e6 qS
    rintro i e _ hi ⟨S,vS,ag,t,⟨e2,e5,e6,e7,_⟩,rfl,qS,f,ev0,hm⟩
    simp only[go_sem,e2,e5,e6,e7]
    by_cases hlt:i<P.length
    ·have hlt':i<(P.map pip).length:=by simpa using hlt
     have hz:(i:Int)<P.length:=by omega
     have ws:=wsucc hlt (by omega)
     obtain⟨id2,o,k,hv',hk,_,hd,hb,hrow,hat⟩:=sP.at hlt'
     obtain rfl:a=some ⟨id2,o,none⟩:=by simpa using hv'
     have g1:=hat 1 (by omega)
     have g2:=hat 2 (by omega)
     rw[getElem_map] at g1 g2
     simp only[pip,getElem?_cons_zero,getElem?_cons_succ] at g1 g2
     have hln:=f.ln
     have more:(P[i].2.1∈S↔P[i].2.2.1∈S)->ag=false->evenP P S (i+1):=fun hh h0 j hj hji=>by
      by_cases h3:j<i
      ·exact ev0 h0 j hj h3
      ·obtain rfl:j=i:=by omega
       exact hh
     simp only[go_sem,e2,e5,e6,e7,hz,hk,hd,g1,g2]
     refine (c_l1Has _ S _ qS (by omega)).go ?_
     rintro _ _⟨rfl,rfl⟩
     simp only[go_sem,e2,e5,e6,e7,hz,hk,hd,g1,g2]
     refine (c_l1Has _ S _ qS (by omega)).go ?_
     rintro _ _⟨rfl,rfl⟩
     by_cases c:P[i].2.1∈S↔P[i].2.2.1∈S
     ·have hde:(decide (P[i].2.1∈S)==decide (P[i].2.2.1∈S))=true:=beq_iff_eq.2 (decide_eq_decide.2 c)
      simp only[go_sem,e2,e5,e6,e7,Tryz.underlying4,hde]
      exact⟨hlt,S,vS,ag,_,⟨e2,e5,e6,congrArg _ ws,trivial⟩, .rfl,qS,f,more c,hm⟩
     ·have hde:(decide (P[i].2.1∈S)==decide (P[i].2.2.1∈S))=false:=by
       cases hh:(decide (P[i].2.1∈S)==decide (P[i].2.2.1∈S))
       ·rfl
       ·exact absurd (decide_eq_decide.1 (beq_iff_eq.1 hh)) c
      obtain⟨f2,hl2⟩:=f.put he hN hs hlt c
      have pl:=putL_len (l:=S) (x:=P[i].2.1)
      simp only[go_sem,e2,e5,e6,e7,Tryz.underlying4,hde,hz,hk,hd,g1,g2]
      refine (c_l1Put _ S _ qS (le_refl _) (by omega)).go ?_
      rintro vS2 _ ⟨qS2,⟨u3,rfl⟩⟩
      try simp only[append_assoc,cons_append] at qS2
      simp only[go_sem,e2,e5,e6,e7,hz,hk,hd,g1,g2]
      refine (c_l1Put _ _ _ qS2 (by simp) (by omega)).go ?_
      rintro vS3 _ ⟨qS3,⟨u4,rfl⟩⟩
      simp only[go_sem,e2,e5,e6,e7]
      have:ag.toNat<=1:=by cases ag<;>decide
      refine⟨hlt,_,vS3,true,_,⟨e2,rfl,rfl,congrArg _ ws,trivial⟩, .rfl, ?_,f2,(fun h0=>by cases h0), ?_⟩
      ·unfold SI
       simpa using qS3
      ·simp only[Bool.toNat_true]
       omega
    ·obtain rfl:i=P.length:=by omega
     simp only[go_sem,show ¬((P.length:Int)<P.length) by omega,e2,e5,e6,e7]
     exact⟨2*lackN S+ag.toNat,by omega,S,vS,ag,t,⟨e2,e5,e6,trivial⟩, .rfl,qS,f,ev0,le_refl _⟩
end
open Go.HH Go.Proofs
theorem rowsLen{α:Type}{f:α->List Value}{sz:Nat}(hf: ∀x,(f x).length=sz)(L:List α):((L.map f).flatten).length=L.length*sz:=by
 rw[flatten_len (sz:=sz) (fun r hr=>by obtain⟨x,_,rfl⟩:=mem_map.1 hr;exact hf x),length_map]
theorem rowsTake{α:Type}{f:α->List Value}{sz:Nat}(hf: ∀x,(f x).length=sz){L:List α}{cs:List Value}{off:Nat}(h:(cs.drop off).take (L.length*sz)=(L.map f).flatten){i:Nat}(hi:i<=L.length) :
  (cs.drop off).take (i*sz)=((L.take i).map f).flatten:=by
 have hle:i*sz<=L.length*sz:=Nat.mul_le_mul_right _ hi
 have e:((cs.drop off).take (L.length*sz)).take (i*sz)=(cs.drop off).take (i*sz):=by rw[List.take_take,min_eq_left hle]
 rw[←e,h]
 conv=>lhs;rw[←take_append_drop i L,map_append,flatten_append]
 rw[take_left' (by rw[rowsLen hf,length_take];congr 1;omega)]
theorem rowsDrop{α:Type}{f:α->List Value}{sz:Nat}(hf: ∀x,(f x).length=sz){L:List α}{cs:List Value}{off:Nat}(h:(cs.drop off).take (L.length*sz)=(L.map f).flatten){i:Nat}(hi:i<=L.length) :
  (cs.drop (off+i*sz)).take ((L.length-i)*sz)=((L.drop i).map f).flatten:=by
 have e:((cs.drop off).take (L.length*sz)).drop (i*sz)=(cs.drop (off+i*sz)).take ((L.length-i)*sz):=by rw[List.drop_take,drop_drop,Nat.sub_mul]
 rw[←e,h]
 conv=>lhs;rw[←take_append_drop i L,map_append,flatten_append]
 rw[drop_left' (by rw[rowsLen hf,length_take];congr 1;omega)]
theorem pip4(x:Pip):(pip x).length=4:=rfl
theorem vlv4(x:Vlv):(vlv x).length=4:=rfl
theorem frG{α:Type}{f:α->List Value}(hf: ∀x,(f x).length=4){h t:Heap}{j n lo hi:Nat}{P:List α}(hj:t[j]? = some ⟨(P.map f).flatten,4, .rw⟩)(hn:n=P.length)(h1:lo<=h.length+j)(h2:h.length+j<hi):FQs lo hi 4 (h++t) (.slice (some ⟨h.length+j,0,none⟩) n 0) (P.map f):=
 .inl ⟨h.length+j,by rw[length_map,hn],h1,h2,by rw[hget_app];exact hj,fun r hr=>by obtain⟨x,_,rfl⟩:=mem_map.1 hr;exact hf x⟩
open Go.HH Go.Proofs
section
variable {h:Heap} {M:Nat->Prop}
set_option maxRecDepth 4000 in
theorem c_l2Without(w:Value)(N:Int)(P:List Pip)(i:Nat)(sP:Sl h 4 w (P.map pip))(es:EszC h 4 w)(hi:i<P.length)(hP:P.length<=1048576) :
  vCall [] Tryz.prog M 196 [.agg #[.int .i64 N,w], .int .i64 i] h (fun r h'=>(∃x,r = .agg #[.int .i64 N,x]∧FQs h.length h'.length 4 h' x ((P.eraseIdx i).map pip))∧h<+:h'):=by
 have hne:P.map pip≠ []:=by intro hh;rw[List.map_eq_nil_iff] at hh;subst hh;simp at hi
 obtain⟨id,off,k,ev,hk,hd,hbb,hfl⟩:=sP.copy hne
 rw[length_map] at ev hbb hfl
 subst ev
 obtain⟨k2,hk2,hez⟩:=es id off P.length rfl (by omega)
 have hk0:=hk []
 rw[append_nil,hk2] at hk0
 cases hk0
 have hn:0<P.length:=by omega
 have hlt:=hget_lt hk2
 have hne2:(id==h.length)=false:=by simp;omega
 have w1:IntKind.i64.wrap ((i:Int)+1)=((i+1:Nat):Int):=by rw[wrap64 (by omega)];omega
 have f1:=rowsTake pip4 hfl (i:=i) (by omega)
 have f2:=rowsDrop pip4 hfl (i:=i+1) (by omega)
 have o1:=oneP (P.take i)
 have o2:=oneP (P.drop (i+1))
 have e0:P.eraseIdx i=P.take i++P.drop (i+1):=List.eraseIdx_eq_take_drop_succ P i
 refine boR ([(1,[1,4006,4012,2009,2012,5000])]) Tryz.func196 rfl rfl ?_
 simp only[go_sem]
 refine onEarly_on [h.length,id] [] (by simp) ?_
 have big:P.length*32<=140737488355328:=by omega
 by_cases c0:i=0
 ·subst c0
  simp only[zero_add,Nat.one_mul,List.take_zero,nil_append] at f2 o2 e0
  by_cases c1:0<P.length-1
  ·simp only[go_sem,hne2,onSl_more hn,slId_more hn,hk,hd,hez,show IntKind.i64.wrap 1=1 from rfl,onApp_more c1,f2,o2,c1,big]
   refine⟨by omega,by omega,by omega,by omega,by omega,_,rfl, ?_⟩
   rw[e0]
   exact frG (j:=3) pip4 rfl (by simp) (by omega) (by omega)
  ·simp only[go_sem,hne2,onSl_more hn,slId_more hn,hk,hd,hez,show IntKind.i64.wrap 1=1 from rfl,show P.length-1=0 by omega]
   refine⟨by omega,by omega,_,rfl, .inr ⟨?_,_,rfl⟩⟩
   rw[e0,List.drop_eq_nil_of_le (by omega)]
   rfl
 ·have hip:0<i:=by omega
  by_cases c1:0<P.length-(i+1)
  ·simp only[go_sem,hne2,onSl_more hn,slId_more hn,hk,hd,hez,w1,onApp_more hip,onApp_more c1,f1,f2,o1,o2,c1]
   refine⟨by omega,by omega,hip,by omega,by omega,by omega,by omega, ?_,by omega,by omega,by omega,_,rfl, ?_⟩
   ·rw[flP,length_take];omega
   ·rw[e0]
    exact frG (j:=4) pip4 (by simp) (by simp;omega) (by omega) (by omega)
  ·simp only[go_sem,hne2,onSl_more hn,slId_more hn,hk,hd,hez,w1,onApp_more hip,show P.length-(i+1)=0 by omega,f1,o1]
   refine⟨by omega,by omega,hip,by omega,by omega,by omega,by omega,_,rfl, ?_⟩
   rw[e0,List.drop_eq_nil_of_le (by omega),append_nil]
   exact frG (j:=3) pip4 rfl (by simp;omega) (by omega) (by omega)
end
open Go.HH Go.Proofs
open Go.HH Go.Proofs
theorem FQs.sbQ{lo hi sz:Nat}{h:Heap}{v:Value}{rows:List (List Value)}(s:FQs lo hi sz h v rows):SB hi sz h v rows:=by
 rcases s with s|⟨rfl,a,rfl⟩
 ·exact s.sb
 ·exact⟨⟨a,rfl,fun r hr=>by simp at hr,fun h0=>absurd rfl h0⟩,fun _ _ _ _ h0=>absurd rfl h0⟩
theorem ConQ.s{lo hi:Nat}{h:Heap}{c:Con}{wP wV:Value}(s:ConQ lo hi h c wP wV):ConS hi h c wP wV:=by
 obtain⟨a,b,x,y,hh,p,v⟩:=s.p
 exact⟨(p.wide (le_refl _) hh.2.1).sbQ,(v.wide (le_refl _) hh.2.2.2.1).sbQ⟩
theorem ConQ.mono{lo hi:Nat}{h h':Heap}{c:Con}{wP wV:Value}(s:ConQ lo hi h c wP wV)(hp:h<+:h'):ConQ lo hi h' c wP wV:=by
 obtain⟨a,b,x,y,hh,p,v⟩:=s.p
 exact⟨a,b,x,y,hh,p.mono hp,v.mono hp⟩
theorem ConQ.agr{lo hi l r:Nat}{h h':Heap}{c:Con}{wP wV:Value}(s:ConQ lo hi h c wP wV)(g:Agr l r h h')(hn:hi<=l∨r<=lo):ConQ lo hi h' c wP wV:=by
 obtain⟨a,b,x,y,hh,p,v⟩:=s.p
 exact⟨a,b,x,y,hh,p.agr g (by omega),v.agr g (by omega)⟩
theorem newC_P{N:Int}{P:List Pip}{x:Int}(hP:P.length<=1048576):(newC N P x).P.length<=1048576:=by
 unfold newC
 split
 ·exact hP
 ·simp
theorem newC_V{N:Int}{P:List Pip}{x:Int}:(newC N P x).V.length<=1048576:=by
 unfold newC
 split<;>simp
theorem newC_small{N:Int}{P:List Pip}{x:Int}(hP:P.length<=1048576):conSmall (newC N P x):=by
 refine⟨newC_P hP,newC_V, ?_⟩
 unfold newC
 split<;>simp
theorem at_app{α:Type}{l m:List α}{j:Nat}:(l++m)[l.length+j]? = m[j]? := by
 rw[getElem?_append_right (by omega),add_sub_cancel_left]
theorem at_app0{α:Type}{l m:List α}:(l++m)[l.length]? = m[0]? := by
 rw[getElem?_append_right (by omega),sub_self]
theorem ConQ.wide{lo hi lo' hi':Nat}{h:Heap}{c:Con}{wP wV:Value}(s:ConQ lo hi h c wP wV)(h1:lo'<=lo)(h2:hi<=hi'):ConQ lo' hi' h c wP wV:=by
 obtain⟨a,b,x,y,hh,p,v⟩:=s.p
 exact⟨a,b,x,y,by omega,p,v⟩
section
variable {h:Heap} {M:Nat->Prop}
set_option maxHeartbeats 4000000 in
end
open Go.HH Go.Proofs
theorem netGood.asc{N:Int}{P:List Pip}(g:netGood N P): ∀(i j:Nat) (hi:i<P.length) (hj:j<i),P[j].1<P[i].1
 | 0,j,_,hj=>absurd hj (by omega)
 | i+1,j,hi,hj=>by
  have h1:=(g.1 (i+1) hi).2 (by omega)
  rw[getDp hi,Nat.add_sub_cancel,getDp (by omega)] at h1
  by_cases h:j=i
  ·subst h;exact h1
  ·exact Int.lt_trans (netGood.asc g i j (by omega) (by omega)) h1
theorem netGood.ids{N:Int}{P:List Pip}(g:netGood N P): ∀p∈P,1<=p.1∧p.1<=99:=fun p hp=>by
 obtain⟨i,hi,rfl⟩:=mem_iff_getElem.1 hp
 have h1:=(g.1 i hi).1
 rw[getDp hi] at h1
 exact h1.1
theorem but_erase{N:Int}{P:List Pip}(g:netGood N P){i:Nat}(hi:i<P.length):but P P[i].1=P.eraseIdx i:=by
 have e:P=P.take i++P[i]::P.drop (i+1):=by rw[List.getElem_cons_drop hi,take_append_drop]
 rw[List.eraseIdx_eq_take_drop_succ]
 conv=>lhs;arg 1;rw[e]
 unfold but
 rw[List.filter_append,List.filter_cons,if_neg (by simp)]
 congr 1
 ·rw[List.filter_eq_self]
  intro p hp
  obtain⟨j,hj,rfl⟩:=mem_iff_getElem.1 hp
  rw[length_take] at hj
  have:=g.asc i j hi (by omega)
  rw[List.getElem_take]
  simp only[decide_eq_true_eq]
  omega
 ·rw[List.filter_eq_self]
  intro p hp
  obtain⟨j,hj,rfl⟩:=mem_iff_getElem.1 hp
  rw[length_drop] at hj
  have:=g.asc (i+1+j) i (by omega) (by omega)
  rw[List.getElem_drop]
  simp only[decide_eq_true_eq]
  omega
theorem briL_ids{N:Nat}{P Q:List Pip}(h: ∀p∈Q,1<=p.1∧p.1<=99): ∀x∈briL N P Q,0<=x∧x<100:=fun x hx=>by
 unfold briL at hx
 obtain⟨p,hp,rfl⟩:=mem_map.1 hx
 have:=h p (mem_filter.1 hp).1
 omega
section
variable {h:Heap} {M:Nat->Prop}
theorem c_sBridgePipes{n:Nat}(w:Value)(N:Int)(P:List Pip)(sB:SB n 4 h w (P.map pip))(es:EszC h 4 w)(hP:P.length<=1048576) :
  vCall [] Tryz.prog M 154 [.agg #[.int .i64 N,w]] h (fun r h'=>(∃x,r = .tuple #[x, .bool (decide (netGood N P))]∧SI h' x (briR N P))∧h<+:h'):=by
 have hv:NA n h (.agg #[.int .i64 N,w]) N P:=⟨w,rfl,sB⟩
 have sP:Sl h 4 w (P.map pip):=sB.1
 obtain⟨a,rfl⟩:=Sl.len4 sP
 refine bo Tryz.func154 rfl rfl ?_
 simp only[go_sem]
 refine (c_l2Good _ N P (hv.mono (by simp)) hP).go ?_
 rintro _ _⟨rfl,⟨t0,rfl⟩⟩
 by_cases h1:netGood N P
 ·have hN:1<=N∧N<=8:=h1.2.1
  have hP10:P.length<=10:=h1.2.2
  obtain⟨N,rfl⟩: ∃N':Nat,N=N':=⟨N.toNat,by omega⟩
  have he:=h1.ends
  simp only[go_sem,decb h1]
  refine vLoop.count mo P.length (fun i e h'=> ∃(t:Heap) (v4:Value),Regs e [(1, .pointer (some ⟨h.length,0,none⟩)),(4,v4),(5, .int .i64 i)] ∧
   HeapIs h' (h++(⟨[.int .i64 N, .slice a P.length 0],2, .rw⟩::t))∧OF h.length 1 t v4 (briL N P (P.take i))) ?_ ?_
  ·refine⟨_,_,⟨rfl,rfl,rfl,trivial⟩, .rfl, .mk' 0 rfl rfl ?_⟩
   rfl
  ·rintro i e _ hi ⟨t,v4,⟨e1,e4,e5,_⟩,rfl,oi⟩
   obtain⟨j,rfl,hj⟩:=id oi
   simp only[go_sem,e1,e4,e5]
   by_cases hlt:i<P.length
   ·have hlt':i<(P.map pip).length:=by simpa using hlt
    have hz:(i:Int)<P.length:=by omega
    have ws:=wsucc hlt (by omega)
    obtain⟨id2,o,k,hv',hk,_,hd,hb,hrow,hat⟩:=sP.at hlt'
    obtain rfl:a=some ⟨id2,o,none⟩:=by simpa using hv'
    have g0:=hat 0 (by omega)
    have g1:=hat 1 (by omega)
    have g2:=hat 2 (by omega)
    rw[getElem_map] at g0 g1 g2
    simp only[pip,getElem?_cons_zero,getElem?_cons_succ,add_zero] at g0 g1 g2
    have hpi:=he _ (getElem_mem hlt)
    have hlen:=briL_len (N:=N) (P:=P) (Q:=P.take i)
    have htl:(P.take i).length<=i:=by rw[length_take];omega
    have htk:=briL_take (N:=N) hlt
    have hel:(P.eraseIdx i).length<=10:=by rw[List.length_eraseIdx];split<;>omega
    have hee:ends (N:Int) (P.eraseIdx i):=fun p hp=>he p (List.mem_of_mem_eraseIdx hp)
    have hbe:=but_erase h1 hlt
    simp only[go_sem,e1,e4,e5,hz,hk,hd,g0,g1,g2]
    refine (c_l2Without _ N P i (sP.mono (by simp)) (es.mono (by simp)) hlt hP).go ?_
    rintro _ _⟨⟨x,rfl,fx⟩,⟨t2,rfl⟩⟩
    try simp only[append_assoc,cons_append] at fx
    simp only[go_sem,e1,e4,e5,hz,hk,hd,g0,g1,g2]
    refine (c_l2Reached _ N (P.eraseIdx i) P[i].2.1 ⟨x,rfl,fx.sbQ⟩ hee (by omega) hel hpi.1).go ?_
    rintro vS _ ⟨⟨S,sS,hS1,hS2⟩,⟨t3,rfl⟩⟩
    try simp only[append_assoc,cons_append] at sS
    simp only[go_sem,e1,e4,e5,hz,hk,hd,g0,g1,g2]
    refine (c_l1Has _ S _ sS (by omega)).go ?_
    rintro _ _⟨rfl,rfl⟩
    have hmem:=hS2 P[i].2.2.1
    rw[←hbe] at hmem
    by_cases c:P[i].2.2.1∈S
    ·have hb2:isBri N P P[i]=false:=by rw[isBri,hmem.1 c];rfl
     rw[hb2] at htk
     simp only[go_sem,e1,e4,e5,decb c]
     exact⟨hlt,_,_,⟨e1,e4,congrArg _ ws,trivial⟩, .rfl,by rw[htk];simpa using oi.mono _⟩
    ·have hb2:isBri N P P[i]=true:=by
      rw[isBri]
      cases hh:ball (but P P[i].1) P[i].2.1 N P[i].2.2.1
      ·rfl
      ·exact absurd (hmem.2 hh) c
     rw[hb2] at htk
     simp only[go_sem,e1,e4,e5,dect c,hz,hk,hd,g0,g1,g2,app_old hj,length_map]
     refine⟨by omega,by omega,hlt,_,_,⟨e1,rfl,congrArg _ ws,trivial⟩, .rfl,(.mk' (t.length+(t2.length+(t3.length+1))) ?_ (by rw[htk];simp) ?_)⟩
     ·simp;try omega
     ·exact (new_at (by simp;try omega)).trans (by simp[iv,htk])
   ·obtain rfl:i=P.length:=by omega
    simp only[go_sem,e1,e4,e5,show ¬((P.length:Int)<P.length) by omega]
    rw[take_length] at oi ⊢
    have:=OF.ai [⟨[.int .i64 N, .slice a P.length 0],2, .rw⟩] oi rfl
    refine⟨_,rfl, ?_⟩
    rw[briR,if_pos h1,Int.toNat_natCast]
    exact this
 ·simp only[go_sem,dect h1]
  rw[briR,if_neg h1]
  refine⟨_,rfl, ?_⟩
  refine FI.si (lo:=0) (hi:=(h++_).length) (FI.at' rfl (by omega) (by simp) ?_) (le_refl _)
  simp only[go_sem]
  try rfl
end
open Go.HH Go.Proofs
def low(l:List Int)(x:Int):Nat:=(l.takeWhile fun y=>decide (y<x)).length
theorem low_eq{x:Int}: ∀ {l:List Int} {i:Nat},i<=l.length->(∀(j:Nat) (hj:j<l.length),j<i->l[j]<x)->(∀hi:i<l.length,¬l[i]<x)->low l x=i
 | [],i,hi,_,_=>by simp at hi;subst hi;rfl
 | y::l,0,_,_,h=>by
  have:=h (by simp)
  simp at this
  unfold low
  rw[List.takeWhile_cons,if_neg (by simpa using this)]
  rfl
 | y::l,i+1,hi,hb,h=>by
  have h0:=hb 0 (by simp) (by omega)
  simp at h0
  have:=low_eq (x:=x) (l:=l) (i:=i) (by simpa using hi) (fun j hj hji=>by have:=hb (j+1) (by simpa using hj) (by omega);simpa using this) (fun hi=>by have:=h (by simpa using hi);simpa using this)
  unfold low at this ⊢
  rw[List.takeWhile_cons,if_pos (by simpa using h0),length_cons,this]
theorem low_le{x:Int}{l:List Int}:low l x<=l.length:=List.Sublist.length_le (List.takeWhile_sublist _)
theorem low_lt{x:Int}: ∀ {l:List Int} {j:Nat} (hj:j<l.length),j<low l x->l[j]<x
 | [],j,hj,_=>by simp at hj
 | y::l,j,hj,h=>by
  unfold low at h
  rw[List.takeWhile_cons] at h
  split at h
  ·rename_i hy
   cases j with
   | zero=>simpa using hy
   | succ j=>simpa using low_lt (l:=l) (j:=j) (by simpa using hj) (by simpa[low] using h)
  ·simp at h
def insAt{α:Type}(L:List α)(k:Nat)(v:α):List α:=L.take k++v::L.drop k
theorem insAt_len{α:Type}{L:List α}{k:Nat}{v:α}(hk:k<=L.length):(insAt L k v).length=L.length+1:=by
 unfold insAt
 rw[length_append,length_cons,length_take,length_drop];omega
def insP(P:List Pip)(p:Pip):List Pip:=insAt P (low (P.map fun q=>q.1) p.1) p
theorem insP_k{P:List Pip}{p:Pip}:low (P.map fun q=>q.1) p.1<=P.length:=by have:=low_le (l:=P.map fun q=>q.1) (x:=p.1);simpa using this
theorem insP_find{N:Int}{P:List Pip}{p:Pip}(g:netGood N (insP P p)): ∀q∈P,q.1≠p.1:=fun q hq he=>by
 have hk:=insP_k (P:=P) (p:=p)
 have hl:=insAt_len (v:=p) hk
 obtain⟨j,hj,rfl⟩:=mem_iff_getElem.1 hq
 rcases lt_or_ge j (low (P.map fun q=>q.1) p.1) with h|h
 ·have:=low_lt (l:=P.map fun q=>q.1) (x:=p.1) (j:=j) (by simpa using hj) h
  rw[getElem_map] at this
  omega
 ·have h1:(low (P.map fun q=>q.1) p.1)<(insP P p).length:=by unfold insP;omega
  have h2:j+1<(insP P p).length:=by unfold insP;omega
  have:=g.asc (j+1) (low (P.map fun q=>q.1) p.1) h2 (by omega)
  have e1:(insP P p)[low (P.map fun q=>q.1) p.1]=p:=by
   have hh:(insP P p)[low (P.map fun q=>q.1) p.1]? = some p:=by
    unfold insP insAt
    rw[getElem?_append_right (by rw[length_take];omega),length_take,min_eq_left hk,sub_self,getElem?_cons_zero]
   rw[getElem?_eq_getElem h1] at hh
   exact Option.some.inj hh
  have e2:(insP P p)[j+1]=P[j]:=by
   have hh:(insP P p)[j+1]? = some P[j]:=by
    unfold insP insAt
    rw[getElem?_append_right (by rw[length_take];omega),length_take,min_eq_left hk]
    obtain⟨d,hd⟩: ∃d,j+1-low (P.map fun q=>q.1) p.1=d+1:=⟨j-low (P.map fun q=>q.1) p.1,by omega⟩
    rw[hd,getElem?_cons_succ,getElem?_drop,show low (P.map fun q=>q.1) p.1+d=j by omega,getElem?_eq_getElem hj]
   rw[getElem?_eq_getElem h2] at hh
   exact Option.some.inj hh
  rw[e1,e2] at this
  omega
def addOk(N:Int)(P:List Pip)(p:Pip):Prop:=netGood N P∧netGood N (insP P p)
open Classical in
noncomputable instance {N:Int} {P:List Pip} {p:Pip}:Decidable (addOk N P p):=propDecidable _
noncomputable def addN(N:Int)(P:List Pip)(p:Pip):Int:=if addOk N P p then N else 0
noncomputable def addR(N:Int)(P:List Pip)(p:Pip):List Pip:=if addOk N P p then insP P p else []
theorem pidx_mem{P:List Pip}{id:Int}(h:0<=pidx P id): ∃q∈P,q.1=id:=by
 obtain⟨hk,hp⟩:=idxI_at (p:=fun q:Pip=>decide (q.1=id)) (l:=P) (k:=(pidx P id).toNat) (by unfold pidx at h ⊢;omega)
 exact⟨_,getElem_mem hk,by simpa using hp⟩
section
variable {h:Heap} {M:Nat->Prop}
set_option maxRecDepth 4000 in
theorem c_sAddPipe{n:Nat}(w:Value)(N:Int)(P:List Pip)(p:Pip)(sB:SB n 4 h w (P.map pip))(es:EszC h 4 w)(hP:P.length<=1048576) :
  vCall [] Tryz.prog M 150 [.agg #[.int .i64 N,w], .agg #[.int .i64 p.1, .int .i64 p.2.1, .int .i64 p.2.2.1, .int .i64 p.2.2.2]] h
   (fun r h'=>(∃x,r = .tuple #[.agg #[.int .i64 (addN N P p),x], .bool (decide (addOk N P p))]∧FQs h.length h'.length 4 h' x ((addR N P p).map pip))∧h<+:h'):=by
 have hv:NA n h (.agg #[.int .i64 N,w]) N P:=⟨w,rfl,sB⟩
 have sP:Sl h 4 w (P.map pip):=sB.1
 obtain⟨a,rfl⟩:=Sl.len4 sP
 have no: ∀(lo hi:Nat) (H:Heap),¬addOk N P p->∃x,Value.tuple #[.agg #[.int .i64 0, .slice none 0 0], .bool false] = .tuple #[.agg #[.int .i64 (addN N P p),x], .bool (decide (addOk N P p))]∧FQs lo hi 4 H x ((addR N P p).map pip):=fun lo hi H hn=>by
  rw[decide_eq_false hn,addN,addR,if_neg hn,if_neg hn]
  exact⟨_,rfl,fq0⟩
 refine boR ([(6,[1,4006,4014,2008,2012,2014,3009,5000])]) Tryz.func150 rfl rfl ?_
 simp only[go_sem]
 refine (c_l2Good _ N P (hv.mono (by simp)) hP).go ?_
 rintro _ _⟨rfl,⟨t0,rfl⟩⟩
 by_cases h1:netGood N P
 ·have hP10:P.length<=10:=h1.2.2
  simp only[go_sem,decb h1]
  refine (c_l2Find _ N P p.1 (hv.mono (by simp)) hP).go ?_
  rintro _ _⟨rfl,⟨t1,rfl⟩⟩
  by_cases h2:0<=pidx P p.1
  ·have nok: ¬addOk N P p:=fun hh=>by
    obtain⟨q,hq,he⟩:=pidx_mem h2
    exact insP_find hh.2 q hq he
   simp only[go_sem,decb h1,h2]
   exact no _ _ _ nok
  ·simp only[go_sem,decb h1,h2]
   refine vLoopR.count mo P.length (fun i e h'=> ∃(t:Heap),Regs e [(2, .pointer (some ⟨h.length,0,none⟩)),(3, .pointer (some ⟨h.length+1,0,none⟩)),(4, .pointer (some ⟨h.length+2,0,none⟩)),(6, .int .i64 i)] ∧
    HeapIs h' (h++(⟨[.int .i64 N, .slice a P.length 0],2, .rw⟩::⟨[.int .i64 p.1, .int .i64 p.2.1, .int .i64 p.2.2.1, .int .i64 p.2.2.2],4, .rw⟩::⟨[.int .i64 0, .slice none 0 0],2, .rw⟩::t)) ∧
    ∀(j:Nat) (hj:j<P.length),j<i->P[j].1<p.1) ?_ ?_
   ·exact⟨_,⟨rfl,rfl,rfl,rfl,trivial⟩, .rfl,fun j _ hj=>absurd hj (by omega)⟩
   ·rintro i e _ hi ⟨t,⟨e2,e3,e4,e6,_⟩,rfl,hlo⟩
    have fin:(∀hi:i<P.length,¬P[i].1<p.1)->low (P.map fun q=>q.1) p.1=i:=fun hn=>
     low_eq (by simpa using hi) (fun j hj hji=>by rw[getElem_map];exact hlo j (by simpa using hj) hji) (fun hi=>by rw[getElem_map];exact hn (by simpa using hi))
    have ne3:(h.length+1==h.length)=false:=by simp
    have hins:((insP P p).map pip).flatten=((P.take (low (P.map fun q=>q.1) p.1)).map pip).flatten ++ .int .i64 p.1 :: .int .i64 p.2.1 :: .int .i64 p.2.2.1 :: .int .i64 p.2.2.2::((P.drop (low (P.map fun q=>q.1) p.1)).map pip).flatten:=by
     simp[insP,insAt,pip]
    have hlen:(insP P p).length=P.length+1:=insAt_len insP_k
    have hidx:h.length+(t.length+1+1+1)+1=h.length+(t.length+1+1+1+1):=rfl
    have big:P.length*32<=140737488355328:=by omega
    by_cases hlt:i<P.length
    ·have hlt':i<(P.map pip).length:=by simpa using hlt
     have hz:(i:Int)<P.length:=by omega
     have ws:=wsucc hlt (by omega)
     obtain⟨id2,o,k,hv',hk,_,hd,hb,hrow,hat⟩:=sP.at hlt'
     obtain rfl:a=some ⟨id2,o,none⟩:=by simpa using hv'
     have g0:=hat 0 (by omega)
     rw[getElem_map] at g0
     simp only[pip,getElem?_cons_zero,add_zero] at g0
     by_cases c:P[i].1<p.1
     ·simp only[go_sem,e2,e3,e4,e6,hz,hk,hd,g0,c]
      refine⟨hlt,t,⟨e2,e3,e4,congrArg _ ws,trivial⟩, .rfl,fun j hj hji => ?_⟩
      by_cases hj2:j<i
      ·exact hlo j hj hj2
      ·obtain rfl:j=i:=by omega
       exact c
     ·have hlow:=fin (fun _=>c)
      rw[hlow] at hins
      simp only[go_sem,e2,e3,e4,e6,hz,hk,hd,g0,c]
      have hn:0<P.length:=by omega
      have c1:0<P.length-i:=by omega
      have hne:P.map pip≠ []:=by intro hh;rw[List.map_eq_nil_iff] at hh;subst hh;simp at hn
      obtain⟨id3,off,k3,ev,hk3,hd3,hbb,hfl⟩:=sP.copy hne
      rw[length_map] at ev hbb hfl
      obtain⟨rfl,rfl⟩:id3=id2∧off=o:=by
       simp only[Value.slice.injEq,Option.some.injEq,Addr.mk.injEq] at ev
       omega
      obtain⟨k4,hk4,hez⟩:=es id3 off P.length rfl (by omega)
      have hk0:=hk3 []
      rw[append_nil,hk4] at hk0
      cases hk0
      have hidl:=hget_lt hk4
      have ne1:(id3==h.length)=false:=by simp;omega
      have ne2:(id3==h.length+1)=false:=by simp;omega
      have f1:=rowsTake pip4 hfl (i:=i) (by omega)
      have f2:=rowsDrop pip4 hfl (i:=i) (by omega)
      have o1:=oneP (P.take i)
      have o2:=oneP (P.drop i)
      refine onEarly_on [h.length,h.length+1,id3] [⟨[.int .i64 p.1, .int .i64 p.2.1, .int .i64 p.2.2.1, .int .i64 p.2.2.2],4, .rw⟩] (by simp) ?_
      by_cases i0:i=0
      ·subst i0
       simp only[Nat.zero_mul,Nat.sub_zero,add_zero,drop_zero] at f2 o2
       simp only[go_sem,e2,e3,e4,e6,ne1,ne2,ne3,hidx,onSl_more hn,slId_more hn,hk3,hd3,hez,onApp_more hn,f2,o2,hn,big]
       refine⟨by omega,by omega,by omega,by omega,by omega, ?_⟩
       refine (c_l2Good _ N (insP P p) ⟨_,rfl,FQs.sbQ (frG (lo:=0) (hi:=h.length+(t.length+12)) (j:=t.length+4+1+1+1) pip4 (by first|(rw[hins];done)|(rw[hins];simp;done)| (rw[hins];simp;omega)) (by rw[hlen];omega) (zero_le _) (by omega))⟩ (by rw[hlen];omega)).go ?_
       rintro _ _⟨rfl,⟨t5,rfl⟩⟩
       by_cases h3:netGood N (insP P p)
       ·have ok:addOk N P p:=⟨h1,h3⟩
        simp only[go_sem,e2,e3,e4,e6,decb h3,hidx]
        refine⟨_,by rw[decide_eq_true ok,addN,if_pos ok], ?_⟩
        rw[addR,if_pos ok]
        exact frG (j:=t.length+4+1+1+1) pip4 (by first|(rw[hins];done)|(rw[hins];simp;done)| (rw[hins];simp;omega)) (by rw[hlen];omega) (by omega) (by omega)
       ·have nok: ¬addOk N P p:=fun hh=>h3 hh.2
        simp only[go_sem,e2,e3,e4,e6,dect h3,hidx]
        exact no _ _ _ nok
      ·have hip:0<i:=by omega
       simp only[go_sem,e2,e3,e4,e6,ne1,ne2,ne3,hidx,onSl_more hn,slId_more hn,hk3,hd3,hez,onApp_more hip,onApp_more c1,f1,f2,o1,o2,c1]
       refine⟨by omega,by omega,hip,by omega,by omega,by omega,by rw[flP,length_take];omega,by omega,by omega,by omega,by rw[flP,length_take];omega,by omega,by omega,by omega, ?_⟩
       refine (c_l2Good _ N (insP P p) ⟨_,rfl,FQs.sbQ (frG (lo:=0) (hi:=h.length+(t.length+12)) (j:=t.length+5+1+1+1) pip4 (by first|(rw[hins];done)|(rw[hins];simp;done)| (rw[hins];simp;omega)) (by rw[hlen];omega) (zero_le _) (by omega))⟩ (by rw[hlen];omega)).go ?_
       rintro _ _⟨rfl,⟨t5,rfl⟩⟩
       by_cases h3:netGood N (insP P p)
       ·have ok:addOk N P p:=⟨h1,h3⟩
        simp only[go_sem,e2,e3,e4,e6,decb h3,hidx]
        refine⟨_,by rw[decide_eq_true ok,addN,if_pos ok], ?_⟩
        rw[addR,if_pos ok]
        exact frG (j:=t.length+5+1+1+1) pip4 (by first|(rw[hins];done)|(rw[hins];simp;done)| (rw[hins];simp;omega)) (by rw[hlen];omega) (by omega) (by omega)
       ·have nok: ¬addOk N P p:=fun hh=>h3 hh.2
        simp only[go_sem,e2,e3,e4,e6,dect h3,hidx]
        exact no _ _ _ nok
    ·obtain rfl:i=P.length:=by omega
     have hlow:=fin (fun hi=>absurd hi (by omega))
     rw[hlow] at hins
     simp only[go_sem,e2,e3,e4,e6,show ¬((P.length:Int)<P.length) by omega]
     by_cases p0:P= []
     ·have l0:P.length=0:=by simp[p0]
      refine onEarly_on [h.length,h.length+1] [⟨[.int .i64 p.1, .int .i64 p.2.1, .int .i64 p.2.2.1, .int .i64 p.2.2.2],4, .rw⟩] (by simp) ?_
      simp only[go_sem,e2,e3,e4,e6,ne3,hidx,l0]
      refine (c_l2Good _ N (insP P p) ⟨_,rfl,FQs.sbQ (frG (lo:=0) (hi:=h.length+(t.length+12)) (j:=t.length+3+1+1+1) pip4 (by rw[hins];simp[p0]) (by rw[hlen];omega) (zero_le _) (by omega))⟩ (by rw[hlen];omega)).go ?_
      rintro _ _⟨rfl,⟨t5,rfl⟩⟩
      by_cases h3:netGood N (insP P p)
      ·have ok:addOk N P p:=⟨h1,h3⟩
       simp only[go_sem,e2,e3,e4,e6,decb h3,hidx,l0]
       refine⟨_,by rw[decide_eq_true ok,addN,if_pos ok], ?_⟩
       rw[addR,if_pos ok]
       exact frG (j:=t.length+3+1+1+1) pip4 (by rw[hins];simp[p0]) (by rw[hlen];omega) (by omega) (by omega)
      ·have nok: ¬addOk N P p:=fun hh=>h3 hh.2
       simp only[go_sem,e2,e3,e4,e6,dect h3,hidx,l0]
       exact no _ _ _ nok
     ·have hn:0<P.length:=length_pos_iff.2 p0
      have hne:P.map pip≠ []:=by intro hh;rw[List.map_eq_nil_iff] at hh;subst hh;simp at hn
      obtain⟨id3,off,k3,ev,hk3,hd3,hbb,hfl⟩:=sP.copy hne
      rw[length_map] at ev hbb hfl
      obtain rfl:a=some ⟨id3,off,none⟩:=by simpa using ev
      obtain⟨k4,hk4,hez⟩:=es id3 off P.length rfl (by omega)
      have hk0:=hk3 []
      rw[append_nil,hk4] at hk0
      cases hk0
      have hidl:=hget_lt hk4
      have ne1:(id3==h.length)=false:=by simp;omega
      have ne2:(id3==h.length+1)=false:=by simp;omega
      have f1:=rowsTake pip4 hfl (i:=P.length) (by omega)
      have f2:=rowsDrop pip4 hfl (i:=P.length) (by omega)
      have o1:=oneP (P.take P.length)
      have o2:=oneP (P.drop P.length)
      refine onEarly_on [h.length,h.length+1,id3] [⟨[.int .i64 p.1, .int .i64 p.2.1, .int .i64 p.2.2.1, .int .i64 p.2.2.2],4, .rw⟩] (by simp) ?_
      simp only[go_sem,e2,e3,e4,e6,ne1,ne2,ne3,hidx,onSl_more hn,slId_more hn,hk3,hd3,hez,onApp_more hn,f1,o1,sub_self,big]
      refine⟨by omega,by omega,by omega,by omega,by rw[flP,length_take];omega,by omega,by omega, ?_⟩
      refine (c_l2Good _ N (insP P p) ⟨_,rfl,FQs.sbQ (frG (lo:=0) (hi:=h.length+(t.length+12)) (j:=t.length+4+1+1+1) pip4 (by first|(rw[hins];done)|(rw[hins];simp;done)| (rw[hins];simp;omega)) (by first|exact hlen.symm|(rw[hlen];omega)) (zero_le _) (by omega))⟩ (by rw[hlen];omega)).go ?_
      rintro _ _⟨rfl,⟨t5,rfl⟩⟩
      by_cases h3:netGood N (insP P p)
      ·have ok:addOk N P p:=⟨h1,h3⟩
       simp only[go_sem,e2,e3,e4,e6,decb h3,hidx]
       refine⟨_,by rw[decide_eq_true ok,addN,if_pos ok], ?_⟩
       rw[addR,if_pos ok]
       exact frG (j:=t.length+4+1+1+1) pip4 (by first|(rw[hins];done)|(rw[hins];simp;done)| (rw[hins];simp;omega)) (by first|exact hlen.symm|(rw[hlen];omega)) (by omega) (by omega)
      ·have nok: ¬addOk N P p:=fun hh=>h3 hh.2
       simp only[go_sem,e2,e3,e4,e6,dect h3,hidx]
       exact no _ _ _ nok
 ·have nok: ¬addOk N P p:=fun hh=>h1 hh.1
  simp only[go_sem,dect h1]
  exact no _ _ _ nok
end
open Go Go.HH Go.Proofs Go.RowKit
section
variable {h:Heap} {M:Nat->Prop}
theorem c_insV(id jd:Nat)(L:List Vlv)(x:Vlv)(i:Nat)(hi:i<=L.length)(hid:hget h id=some ⟨(L.map vlv).flatten,4, .rw⟩)(hM:M id)(hjd:hget h jd=some ⟨vlv x,4, .rw⟩)(hne:jd≠id)(hl:L.length<=1048576) :
  vCall [] Tryz.prog M 139 [.slice (some ⟨id,0,none⟩) L.length 0, .int .i64 i, .slice (some ⟨jd,0,none⟩) 1 0] h
   (fun r h'=>r = .slice (some ⟨h.length,0,none⟩) (L.length+1) 0∧h'=h.set id ⟨(L.map vlv).flatten,4, .dead⟩++ [⟨((insAt L i x).map vlv).flatten,4, .rw⟩]):=by
 have hcl:=rowsLen vlv4 L
 have hins:((insAt L i x).map vlv).flatten=((L.map vlv).flatten).take (i*4)++vlv x++((L.map vlv).flatten).drop (i*4):=by
  have h0:(((L.map vlv).flatten).drop 0).take (L.length*4)=(L.map vlv).flatten:=by rw[drop_zero,take_of_length_le (by rw[hcl];exact le_refl _)]
  have f1:=rowsTake vlv4 h0 hi
  have f2:=rowsDrop vlv4 h0 hi
  rw[drop_zero] at f1
  have h3:(((L.map vlv).flatten).drop (i*4)).length<=(L.length-i)*4:=by rw[length_drop,hcl];omega
  rw[zero_add,take_of_length_le h3] at f2
  rw[f1,f2,insAt,map_append,map_cons,flatten_append,flatten_cons,append_assoc]
 have hone: ∀v∈(L.map vlv).flatten,oneC v=true:=all_eq_true.1 (rows_one fun r hr=>by obtain⟨x,_,rfl⟩:=mem_map.1 hr;rfl)
 have honex: ∀v∈vlv x,oneC v=true:=fun v hv=>by simp only[vlv,mem_cons,List.not_mem_nil,or_false] at hv;rcases hv with rfl|rfl|rfl|rfl<;>rfl
 rcases Nat.lt_or_eq_of_le hi with hlt|rfl
 ·refine⟨_,_,fun p w vs hh hv => ?_,rfl,rfl⟩
  have hn:0<L.length:=by omega
  obtain⟨hvl,hv⟩:=hv
  have v0:=hv 0 (by simp) (by simp at hvl;omega)
  have v1:=hv 1 (by simp) (by simp at hvl;omega)
  have v2:=hv 2 (by simp) (by simp at hvl;omega)
  simp only[List.getElem_toArray,List.getElem_cons_zero,List.getElem_cons_succ] at v0 v1 v2
  obtain⟨tg,cap,p0,hcap,hfit,e0⟩:=v0.slice_inv hn
  obtain⟨tj,capj,pj,hcapj,hfitj,ej⟩:=v2.slice_inv (by omega)
  have e1:=(Plain.int .i64 (i:Int)).eq v1
  have hvs:vs= #[.slice (some ⟨tg.b,0+tg.d,none⟩) L.length cap, .int .i64 i, .slice (some ⟨tj.b,0+tj.d,none⟩) 1 capj]:=by
   refine Array.ext (by simpa using hvl.symm) fun k a b => ?_
   match k,a,b with
   | 0,_,_=>exact e0
   | 1,_,_=>exact e1
   | 2,_,_=>exact ej
  subst hvs
  have hid':h[id]? = some ⟨(L.map vlv).flatten,4, .rw⟩:=hid
  have hjd':h[jd]? = some ⟨vlv x,4, .rw⟩:=hjd
  obtain⟨b1,c,ele,fr,b2,b3,b4,b5,b6⟩:=hh.blk id tg _ trivial p0 hid' (fun hh=>by cases hh)
  obtain⟨j1,cj,elj,frj,j2,j3,j4,j5,j6⟩:=hh.blk jd tj _ trivial pj hjd' (fun hh=>by cases hh)
  simp only at b1 b4 b5 b6 j1 j4 j5 j6
  have hbne:tj.b≠tg.b:=fun hb=>hne (hh.inj jd id tj tg _ _ pj p0 hjd' hid' rfl (fun hh=>by cases hh) hb)
  obtain⟨cs,l1,l2,l3⟩:=hh.cells (off:=0) (n:=L.length*4) trivial p0 hid' (fun hh=>by cases hh) (by rw[hcl];omega)
  obtain⟨xs,x1,x2,x3⟩:=hh.cells (off:=0) (n:=4) trivial pj hjd' (fun hh=>by cases hh) (by simp[vlv])
  simp only[drop_zero] at l1 x1
  rw[take_of_length_le (by rw[hcl];exact le_refl _)] at l1
  rw[take_of_length_le (by simp[vlv])] at x1
  have oc: ∀v∈cs,oneC v=true:=l1.oneC hone
  have ox: ∀v∈xs,oneC v=true:=x1.oneC honex
  have hbw:=(hh.dom id tg p0).2
  have hjw:=(hh.dom jd tj pj).2
  have hx3: ∀j v,xs[j]? = some v->w.cell? ⟨tj.b,0+tj.d+j,none⟩=some v:=fun j v hj=>by have:=x3 j v hj;rwa [Addr.add_lit] at this
  have hl3: ∀j v,cs[j]? = some v->w.cell? ⟨tg.b,0+tg.d+j,none⟩=some v:=fun j v hj=>by have:=l3 j v hj;rwa [Addr.add_lit] at this
  have hrel:LRel p (((insAt L i x).map vlv).flatten) (cs.take (i*4)++xs++cs.drop (i*4)):=by
   rw[hins]
   exact ((l1.take _).append x1).append (l1.drop _)
  have hnl:(((insAt L i x).map vlv).flatten).length=(L.length+1)*4:=by rw[rowsLen vlv4,insAt_len hi]
  by_cases hroom:L.length+1<=cap
  ·have htg:tg.esz=4:=b1.symm
   have hmul:(L.length+1)*4<=cap*4:=Nat.mul_le_mul_right _ hroom
   rw[htg] at hfit
   have hcs:(c.toList.drop (0+tg.d)).take (L.length*4)=cs:=by
    refine List.ext_getElem? fun j => ?_
    rcases lt_or_ge j (L.length*4) with hj|hj
    ·have:=hl3 j cs[j] (getElem?_eq_getElem (by omega))
     unfold World.cell? at this
     simp only[b2] at this
     rw[getElem?_take,if_pos hj,getElem?_drop,Array.getElem?_toList,getElem?_eq_getElem (by omega)]
     simpa using this
    ·rw[List.getElem?_eq_none (by rw[length_take];omega),List.getElem?_eq_none (by omega)]
   refine (ins_shiftV tg.b (0+tg.d) L.length cap i tj.b (0+tj.d) capj cs xs w c ele fr cj elj frj hlt hroom hl hbne (by omega) x2 b2 (fun o ho=>b6 trivial o (by omega)) (by omega) hcs j2 (fun o ho=>j6 trivial o (by omega)) (by omega) hx3 oc ox).mono ?_
   ·rintro e w' ⟨R,rfl,g1,g2,g3,g4,g5,g6,g7,g8⟩
    obtain⟨r1,x1⟩:=hh.over (M:=M) (off:=0) (C:=R) p0 hid' rfl hM b2 g1 g2 g3 g4 g6 g7 g8 (cells:=((insAt L i x).map vlv).flatten) (by rw[hnl,g5];exact hrel) (by rw[hnl];omega)
    refine⟨_,_,rfl, ?_,r1,x1⟩
    have:=VRel.slice (p:=phiPush p h.length ⟨tg.b,0+tg.d,4,tg.n⟩) (off:=0) (len:=L.length+1) (cap:=cap) phiPush_same hroom (by simp only;omega)
    simpa using this
  ·refine (ins_growV tg.b (0+tg.d) L.length cap i tj.b (0+tj.d) capj cs xs w hlt hcap (by omega) (by omega) (by omega) x2 hbw hjw hl3 hx3 oc ox).mono ?_
   rintro e w' ⟨Gc,C,el,rfl,g1,g2,g3,g4,g6,g7,g8⟩
   obtain⟨r1,x1⟩:=hh.anew (M:=M) (id:=id) hid' (esz:=4) g2 g6 g7 g8 (cells:=((insAt L i x).map vlv).flatten) (by rw[hnl,g4];exact hrel) (by rw[hnl,g3];omega)
   refine⟨_,_,rfl, ?_,r1,x1⟩
   have:=VRel.slice (p:=phiPush p h.length ⟨w.heap.size,0,4,C.size⟩) (off:=0) (len:=L.length+1) (cap:=Gc) phiPush_same g1 (by simp only;omega)
   simpa using this
 ·have hx1:insAt L L.length x=L++ [x]:=by rw[insAt,take_length,List.drop_length]
  rw[hx1]
  have hfl:((L++ [x]).map vlv).flatten=(L.map vlv).flatten++vlv x:=by simp
  have ox1:(vlv x).all oneC=true:=all_eq_true.2 honex
  refine bo Tryz.func139 rfl rfl ?_
  by_cases l0:L= []
  ·subst l0
   simp only[go_sem,hid,hjd,length_nil,show ((1:Int)==0)=false from rfl,beq_self_eq_true,ox1]
   have t4:List.take 4 (vlv x)=vlv x:=rfl
   refine⟨.inr hM,rfl,le_refl _,by rw[t4];exact ox1, ?_⟩
   rw[t4];simp
  ·have hn:0<L.length:=length_pos_iff.2 l0
   simp only[go_sem,hid,hjd,onSl_more hn,show ((1:Int)==0)=false from rfl,beq_self_eq_true,ox1]
   have t4:List.take 4 (vlv x)=vlv x:=rfl
   refine⟨.inr hM,hcl.symm,le_refl _,by rw[t4];exact ox1,by omega,by omega, ?_⟩
   rw[t4,hfl]
theorem c_insP(id jd:Nat)(L:List Pip)(x:Pip)(i:Nat)(hi:i<=L.length)(hid:hget h id=some ⟨(L.map pip).flatten,4, .rw⟩)(hM:M id)(hjd:hget h jd=some ⟨pip x,4, .rw⟩)(hne:jd≠id)(hl:L.length<=1048576) :
  vCall [] Tryz.prog M 173 [.slice (some ⟨id,0,none⟩) L.length 0, .int .i64 i, .slice (some ⟨jd,0,none⟩) 1 0] h
   (fun r h'=>r = .slice (some ⟨h.length,0,none⟩) (L.length+1) 0∧h'=h.set id ⟨(L.map pip).flatten,4, .dead⟩++ [⟨((insAt L i x).map pip).flatten,4, .rw⟩]):=by
 have hcl:=rowsLen pip4 L
 have hins:((insAt L i x).map pip).flatten=((L.map pip).flatten).take (i*4)++pip x++((L.map pip).flatten).drop (i*4):=by
  have h0:(((L.map pip).flatten).drop 0).take (L.length*4)=(L.map pip).flatten:=by rw[drop_zero,take_of_length_le (by rw[hcl];exact le_refl _)]
  have f1:=rowsTake pip4 h0 hi
  have f2:=rowsDrop pip4 h0 hi
  rw[drop_zero] at f1
  have h3:(((L.map pip).flatten).drop (i*4)).length<=(L.length-i)*4:=by rw[length_drop,hcl];omega
  rw[zero_add,take_of_length_le h3] at f2
  rw[f1,f2,insAt,map_append,map_cons,flatten_append,flatten_cons,append_assoc]
 have hone: ∀v∈(L.map pip).flatten,oneC v=true:=all_eq_true.1 (rows_one fun r hr=>by obtain⟨x,_,rfl⟩:=mem_map.1 hr;rfl)
 have honex: ∀v∈pip x,oneC v=true:=fun v hv=>by simp only[pip,mem_cons,List.not_mem_nil,or_false] at hv;rcases hv with rfl|rfl|rfl|rfl<;>rfl
 rcases Nat.lt_or_eq_of_le hi with hlt|rfl
 ·refine⟨_,_,fun p w vs hh hv => ?_,rfl,rfl⟩
  have hn:0<L.length:=by omega
  obtain⟨hvl,hv⟩:=hv
  have v0:=hv 0 (by simp) (by simp at hvl;omega)
  have v1:=hv 1 (by simp) (by simp at hvl;omega)
  have v2:=hv 2 (by simp) (by simp at hvl;omega)
  simp only[List.getElem_toArray,List.getElem_cons_zero,List.getElem_cons_succ] at v0 v1 v2
  obtain⟨tg,cap,p0,hcap,hfit,e0⟩:=v0.slice_inv hn
  obtain⟨tj,capj,pj,hcapj,hfitj,ej⟩:=v2.slice_inv (by omega)
  have e1:=(Plain.int .i64 (i:Int)).eq v1
  have hvs:vs= #[.slice (some ⟨tg.b,0+tg.d,none⟩) L.length cap, .int .i64 i, .slice (some ⟨tj.b,0+tj.d,none⟩) 1 capj]:=by
   refine Array.ext (by simpa using hvl.symm) fun k a b => ?_
   match k,a,b with
   | 0,_,_=>exact e0
   | 1,_,_=>exact e1
   | 2,_,_=>exact ej
  subst hvs
  have hid':h[id]? = some ⟨(L.map pip).flatten,4, .rw⟩:=hid
  have hjd':h[jd]? = some ⟨pip x,4, .rw⟩:=hjd
  obtain⟨b1,c,ele,fr,b2,b3,b4,b5,b6⟩:=hh.blk id tg _ trivial p0 hid' (fun hh=>by cases hh)
  obtain⟨j1,cj,elj,frj,j2,j3,j4,j5,j6⟩:=hh.blk jd tj _ trivial pj hjd' (fun hh=>by cases hh)
  simp only at b1 b4 b5 b6 j1 j4 j5 j6
  have hbne:tj.b≠tg.b:=fun hb=>hne (hh.inj jd id tj tg _ _ pj p0 hjd' hid' rfl (fun hh=>by cases hh) hb)
  obtain⟨cs,l1,l2,l3⟩:=hh.cells (off:=0) (n:=L.length*4) trivial p0 hid' (fun hh=>by cases hh) (by rw[hcl];omega)
  obtain⟨xs,x1,x2,x3⟩:=hh.cells (off:=0) (n:=4) trivial pj hjd' (fun hh=>by cases hh) (by simp[pip])
  simp only[drop_zero] at l1 x1
  rw[take_of_length_le (by rw[hcl];exact le_refl _)] at l1
  rw[take_of_length_le (by simp[pip])] at x1
  have oc: ∀v∈cs,oneC v=true:=l1.oneC hone
  have ox: ∀v∈xs,oneC v=true:=x1.oneC honex
  have hbw:=(hh.dom id tg p0).2
  have hjw:=(hh.dom jd tj pj).2
  have hx3: ∀j v,xs[j]? = some v->w.cell? ⟨tj.b,0+tj.d+j,none⟩=some v:=fun j v hj=>by have:=x3 j v hj;rwa [Addr.add_lit] at this
  have hl3: ∀j v,cs[j]? = some v->w.cell? ⟨tg.b,0+tg.d+j,none⟩=some v:=fun j v hj=>by have:=l3 j v hj;rwa [Addr.add_lit] at this
  have hrel:LRel p (((insAt L i x).map pip).flatten) (cs.take (i*4)++xs++cs.drop (i*4)):=by
   rw[hins]
   exact ((l1.take _).append x1).append (l1.drop _)
  have hnl:(((insAt L i x).map pip).flatten).length=(L.length+1)*4:=by rw[rowsLen pip4,insAt_len hi]
  by_cases hroom:L.length+1<=cap
  ·have htg:tg.esz=4:=b1.symm
   have hmul:(L.length+1)*4<=cap*4:=Nat.mul_le_mul_right _ hroom
   rw[htg] at hfit
   have hcs:(c.toList.drop (0+tg.d)).take (L.length*4)=cs:=by
    refine List.ext_getElem? fun j => ?_
    rcases lt_or_ge j (L.length*4) with hj|hj
    ·have:=hl3 j cs[j] (getElem?_eq_getElem (by omega))
     unfold World.cell? at this
     simp only[b2] at this
     rw[getElem?_take,if_pos hj,getElem?_drop,Array.getElem?_toList,getElem?_eq_getElem (by omega)]
     simpa using this
    ·rw[List.getElem?_eq_none (by rw[length_take];omega),List.getElem?_eq_none (by omega)]
   refine (ins_shiftP tg.b (0+tg.d) L.length cap i tj.b (0+tj.d) capj cs xs w c ele fr cj elj frj hlt hroom hl hbne (by omega) x2 b2 (fun o ho=>b6 trivial o (by omega)) (by omega) hcs j2 (fun o ho=>j6 trivial o (by omega)) (by omega) hx3 oc ox).mono ?_
   ·rintro e w' ⟨R,rfl,g1,g2,g3,g4,g5,g6,g7,g8⟩
    obtain⟨r1,x1⟩:=hh.over (M:=M) (off:=0) (C:=R) p0 hid' rfl hM b2 g1 g2 g3 g4 g6 g7 g8 (cells:=((insAt L i x).map pip).flatten) (by rw[hnl,g5];exact hrel) (by rw[hnl];omega)
    refine⟨_,_,rfl, ?_,r1,x1⟩
    have:=VRel.slice (p:=phiPush p h.length ⟨tg.b,0+tg.d,4,tg.n⟩) (off:=0) (len:=L.length+1) (cap:=cap) phiPush_same hroom (by simp only;omega)
    simpa using this
  ·refine (ins_growP tg.b (0+tg.d) L.length cap i tj.b (0+tj.d) capj cs xs w hlt hcap (by omega) (by omega) (by omega) x2 hbw hjw hl3 hx3 oc ox).mono ?_
   rintro e w' ⟨Gc,C,el,rfl,g1,g2,g3,g4,g6,g7,g8⟩
   obtain⟨r1,x1⟩:=hh.anew (M:=M) (id:=id) hid' (esz:=4) g2 g6 g7 g8 (cells:=((insAt L i x).map pip).flatten) (by rw[hnl,g4];exact hrel) (by rw[hnl,g3];omega)
   refine⟨_,_,rfl, ?_,r1,x1⟩
   have:=VRel.slice (p:=phiPush p h.length ⟨w.heap.size,0,4,C.size⟩) (off:=0) (len:=L.length+1) (cap:=Gc) phiPush_same g1 (by simp only;omega)
   simpa using this
 ·have hx1:insAt L L.length x=L++ [x]:=by rw[insAt,take_length,List.drop_length]
  rw[hx1]
  have hfl:((L++ [x]).map pip).flatten=(L.map pip).flatten++pip x:=by simp
  have ox1:(pip x).all oneC=true:=all_eq_true.2 honex
  refine bo Tryz.func173 rfl rfl ?_
  by_cases l0:L= []
  ·subst l0
   simp only[go_sem,hid,hjd,length_nil,show ((1:Int)==0)=false from rfl,beq_self_eq_true,ox1]
   have t4:List.take 4 (pip x)=pip x:=rfl
   refine⟨.inr hM,rfl,le_refl _,by rw[t4];exact ox1, ?_⟩
   rw[t4];simp
  ·have hn:0<L.length:=length_pos_iff.2 l0
   simp only[go_sem,hid,hjd,onSl_more hn,show ((1:Int)==0)=false from rfl,beq_self_eq_true,ox1]
   have t4:List.take 4 (pip x)=pip x:=rfl
   refine⟨.inr hM,hcl.symm,le_refl _,by rw[t4];exact ox1,by omega,by omega, ?_⟩
   rw[t4,hfl]
theorem c_ins0V(X jd:Nat)(x:Vlv)(hX:h.length<=X)(hjd:hget h jd=some ⟨vlv x,4, .rw⟩) :
  vCall [] Tryz.prog M 139 [.slice (some ⟨X,0,none⟩) 0 0, .int .i64 0, .slice (some ⟨jd,0,none⟩) 1 0] h
   (fun r h'=>r = .slice (some ⟨h.length,0,none⟩) 1 0∧h'=h++ [⟨vlv x,4, .rw⟩]):=by
 refine⟨_,_,fun p w vs hh hv => ?_,rfl,rfl⟩
 obtain⟨hvl,hv⟩:=hv
 have v0:=hv 0 (by simp) (by simp at hvl;omega)
 have v1:=hv 1 (by simp) (by simp at hvl;omega)
 have v2:=hv 2 (by simp) (by simp at hvl;omega)
 simp only[List.getElem_toArray,List.getElem_cons_zero,List.getElem_cons_succ] at v0 v1 v2
 obtain⟨b,e0⟩: ∃b,vs[0]'(by simp at hvl;omega) = .slice (some b) 0 0:=by
  generalize vs[0]'(by simp at hvl;omega)=u at v0
  cases v0 with
  | slice f1 _ _=>exact absurd (hh.dom _ _ f1).1 (by omega)
  | @sliceEmpty _ a'=>exact⟨a',rfl⟩
 obtain⟨tj,capj,pj,hcapj,hfitj,ej⟩:=v2.slice_inv (by omega)
 have e1:=(Plain.int .i64 0).eq v1
 have hvs:vs= #[.slice (some b) 0 0, .int .i64 0, .slice (some ⟨tj.b,0+tj.d,none⟩) 1 capj]:=by
  refine Array.ext (by simpa using hvl.symm) fun k a b => ?_
  match k,a,b with
  | 0,_,_=>exact e0
  | 1,_,_=>exact e1
  | 2,_,_=>exact ej
 subst hvs
 have hjd':h[jd]? = some ⟨vlv x,4, .rw⟩:=hjd
 obtain⟨xs,x1,x2,x3⟩:=hh.cells (off:=0) (n:=4) trivial pj hjd' (fun hh=>by cases hh) (by simp[vlv])
 simp only[drop_zero] at x1
 rw[take_of_length_le (by simp[vlv])] at x1
 refine (ins_oneV b tj.b (0+tj.d) capj xs w x2 (fun j v hj=>by have:=x3 j v hj;rwa [Addr.add_lit] at this)).mono ?_
 rintro e w' ⟨Gc,C,el,rfl,g1,g2,g3,g4,g6,g7,g8⟩
 obtain⟨d1,d2⟩:=hh.push (M:=M) (cells:=vlv x) (c:=C) 4 el .rw (0,0) (by rw[show (vlv x).length=4 from rfl,g4];exact x1) (by rw[show (vlv x).length=4 from rfl,g3];omega) (fun o _=>by omega)
 refine⟨_,_,rfl, ?_,(d1.sameHeap g2).weaken fun _ _ _ _ => .inl trivial,⟨d2.le,d2.new,d2.len,fun b hb hm=>by rw[g2];exact d2.frame b hb hm,by rw[g2];exact d2.size,g6,g7,g8⟩⟩
 have:=VRel.slice (p:=phiPush p h.length ⟨w.heap.size,0,4,C.size⟩) (off:=0) (len:=1) (cap:=Gc) phiPush_same g1 (by simp only;omega)
 simpa using this
end
open Go.HH Go.Proofs
section
variable {h:Heap} {M:Nat->Prop}
set_option maxRecDepth 4000 in
theorem c_AddPipe{n:Nat}(w:Value)(N:Int)(P:List Pip)(p:Pip)(sB:SB n 4 h w (P.map pip))(hP:P.length<=1048576) :
  vCall [] Tryz.prog M 138 [.agg #[.int .i64 N,w], .agg #[.int .i64 p.1, .int .i64 p.2.1, .int .i64 p.2.2.1, .int .i64 p.2.2.2]] h
   (fun r h'=>(∃x,r = .tuple #[.agg #[.int .i64 (addN N P p),x], .bool (decide (addOk N P p))]∧FQs h.length h'.length 4 h' x ((addR N P p).map pip))∧h<+:h'):=by
 have hv:NA n h (.agg #[.int .i64 N,w]) N P:=⟨w,rfl,sB⟩
 have sP:Sl h 4 w (P.map pip):=sB.1
 obtain⟨a,rfl⟩:=Sl.len4 sP
 have no: ∀(lo hi:Nat) (H:Heap),¬addOk N P p->∃x,Value.tuple #[.agg #[.int .i64 0, .slice none 0 0], .bool false] = .tuple #[.agg #[.int .i64 (addN N P p),x], .bool (decide (addOk N P p))]∧FQs lo hi 4 H x ((addR N P p).map pip):=fun lo hi H hn=>by
  rw[decide_eq_false hn,addN,addR,if_neg hn,if_neg hn]
  exact⟨_,rfl,fq0⟩
 refine boR ([(6,[1,9,2007,3008,5000])]) Tryz.func138 rfl rfl ?_
 simp only[go_sem]
 refine (c_IsValidNetwork _ N P (hv.mono (by simp)) hP).go ?_
 rintro _ _⟨rfl,⟨t0,rfl⟩⟩
 by_cases h1:netGood N P
 ·have hP10:P.length<=10:=h1.2.2
  simp only[go_sem,decb h1]
  refine vLoopR.count mo P.length (fun i e h'=> ∃(t:Heap),Regs e [(2, .pointer (some ⟨h.length,0,none⟩)),(3, .pointer (some ⟨h.length+1,0,none⟩)),(4, .pointer (some ⟨h.length+2,0,none⟩)),(6, .int .i64 i)] ∧
   HeapIs h' (h++(⟨[.int .i64 N, .slice a P.length 0],2, .rw⟩::⟨[.int .i64 p.1, .int .i64 p.2.1, .int .i64 p.2.2.1, .int .i64 p.2.2.2],4, .rw⟩::⟨[.int .i64 0, .slice none 0 0],2, .rw⟩::t)) ∧
   ∀(j:Nat) (hj:j<P.length),j<i->P[j].1<p.1) ?_ ?_
  ·exact⟨_,⟨rfl,rfl,rfl,rfl,trivial⟩, .rfl,fun j _ hj=>absurd hj (by omega)⟩
  ·rintro i e _ hi ⟨t,⟨e2,e3,e4,e6,_⟩,rfl,hlo⟩
   have fin:(∀hi:i<P.length,¬P[i].1<p.1)->low (P.map fun q=>q.1) p.1=i:=fun hn=>
    low_eq (by simpa using hi) (fun j hj hji=>by rw[getElem_map];exact hlo j (by simpa using hj) hji) (fun hi=>by rw[getElem_map];exact hn (by simpa using hi))
   have ne3:(h.length+1==h.length)=false:=by simp
   have o1:=oneP P
   have hins:((insP P p).map pip).flatten=((P.take (low (P.map fun q=>q.1) p.1)).map pip).flatten ++ .int .i64 p.1 :: .int .i64 p.2.1 :: .int .i64 p.2.2.1 :: .int .i64 p.2.2.2::((P.drop (low (P.map fun q=>q.1) p.1)).map pip).flatten:=by
    simp[insP,insAt,pip]
   have hlen:(insP P p).length=P.length+1:=insAt_len insP_k
   have hidx:h.length+(t.length+1+1+1)+1=h.length+(t.length+1+1+1+1):=rfl
   have big:P.length*32<=140737488355328:=by omega
   by_cases hlt:i<P.length
   ·have hlt':i<(P.map pip).length:=by simpa using hlt
    have hz:(i:Int)<P.length:=by omega
    have ws:=wsucc hlt (by omega)
    obtain⟨id2,o,k,hv',hk,_,hd,hb,hrow,hat⟩:=sP.at hlt'
    obtain rfl:a=some ⟨id2,o,none⟩:=by simpa using hv'
    have g0:=hat 0 (by omega)
    rw[getElem_map] at g0
    simp only[pip,getElem?_cons_zero,add_zero] at g0
    by_cases c:P[i].1<p.1
    ·simp only[go_sem,e2,e3,e4,e6,hz,hk,hd,g0,c]
     refine⟨hlt,t,⟨e2,e3,e4,congrArg _ ws,trivial⟩, .rfl,fun j hj hji => ?_⟩
     by_cases hj2:j<i
     ·exact hlo j hj hj2
     ·obtain rfl:j=i:=by omega
      exact c
    ·have hlow:=fin (fun _=>c)
     rw[hlow] at hins
     simp only[go_sem,e2,e3,e4,e6,hz,hk,hd,g0,c]
     have hn:0<P.length:=by omega
     have hne:P.map pip≠ []:=by intro hh;rw[List.map_eq_nil_iff] at hh;subst hh;simp at hn
     obtain⟨id3,off,k3,ev,hk3,hd3,hbb,hfl⟩:=sP.copy hne
     rw[length_map] at ev hbb hfl
     obtain⟨rfl,rfl⟩:id3=id2∧off=o:=by
      simp only[Value.slice.injEq,Option.some.injEq,Addr.mk.injEq] at ev
      omega
     refine onEarly_on [h.length+1] [⟨[.int .i64 p.1, .int .i64 p.2.1, .int .i64 p.2.2.1, .int .i64 p.2.2.2],4, .rw⟩] (by simp) ?_
     simp only[go_sem,e2,e3,e4,e6,ne3,hidx,hk3,hd3,onApp_more hn,hfl,o1,hn,big]
     refine⟨by omega,by omega, ?_⟩
     refine (c_insP (h.length+(t.length+3+1+1+1)) (h.length+(t.length+1+1+1)) P p i (by first|exact le_refl _|omega) (by first|(simp only[go_sem];done)|(simp only[go_sem];rfl)) (.inl (by omega)) (by simp only[go_sem,pip]) (by omega) (by first|omega|simp)).go ?_
     rintro _ _⟨rfl,rfl⟩
     have hnew:insP P p=insAt P i p:=by rw[insP,hlow]
     simp only[go_sem,e2,e3,e4,e6,ne3,hidx]
     refine⟨by omega, ?_⟩
     refine (c_IsValidNetwork _ N (insP P p) ⟨_,rfl,FQs.sbQ (frG (lo:=0) (hi:=h.length+(t.length+12)) (j:=t.length+4+1+1+1) pip4 (by rw[hnew];simp) (by first|exact hlen.symm|(rw[hlen];omega)) (zero_le _) (by omega))⟩ (by rw[hlen];omega)).go ?_
     rintro _ _⟨rfl,⟨t5,rfl⟩⟩
     by_cases h3:netGood N (insP P p)
     ·have ok:addOk N P p:=⟨h1,h3⟩
      simp only[go_sem,e2,e3,e4,e6,decb h3,hidx]
      refine⟨_,by rw[decide_eq_true ok,addN,if_pos ok], ?_⟩
      rw[addR,if_pos ok]
      exact frG (j:=t.length+4+1+1+1) pip4 (by rw[hnew];simp) (by first|exact hlen.symm|(rw[hlen];omega)) (by omega) (by omega)
     ·have nok: ¬addOk N P p:=fun hh=>h3 hh.2
      simp only[go_sem,e2,e3,e4,e6,dect h3,hidx]
      exact no _ _ _ nok
   ·obtain rfl:i=P.length:=by omega
    have hlow:=fin (fun hi=>absurd hi (by omega))
    rw[hlow] at hins
    simp only[go_sem,e2,e3,e4,e6,show ¬((P.length:Int)<P.length) by omega]
    by_cases p0:P= []
    ·have l0:P.length=0:=by simp[p0]
     refine onEarly_on [h.length+1] [⟨[.int .i64 p.1, .int .i64 p.2.1, .int .i64 p.2.2.1, .int .i64 p.2.2.2],4, .rw⟩] (by simp) ?_
     simp only[go_sem,e2,e3,e4,e6,ne3,hidx,l0]
     refine (c_insP (h.length+(t.length+2+1+1+1)) (h.length+(t.length+1+1+1)) [] p 0 (by first|exact le_refl _|omega) (by first|(simp only[go_sem];done)|(simp only[go_sem];rfl)) (.inl (by omega)) (by simp only[go_sem,pip]) (by omega) (by first|omega|simp)).go ?_
     rintro _ _⟨rfl,rfl⟩
     have hnew:insP P p=insAt [] 0 p:=by rw[insP,hlow,p0];rfl
     simp only[go_sem,e2,e3,e4,e6,ne3,hidx,l0]
     refine⟨by omega, ?_⟩
     refine (c_IsValidNetwork _ N (insP P p) ⟨_,rfl,FQs.sbQ (frG (lo:=0) (hi:=h.length+(t.length+12)) (j:=t.length+3+1+1+1) pip4 (by rw[hnew];simp) (by first|exact hlen.symm|(rw[hlen];omega)) (zero_le _) (by omega))⟩ (by rw[hlen];omega)).go ?_
     rintro _ _⟨rfl,⟨t5,rfl⟩⟩
     by_cases h3:netGood N (insP P p)
     ·have ok:addOk N P p:=⟨h1,h3⟩
      simp only[go_sem,e2,e3,e4,e6,decb h3,hidx,l0]
      refine⟨_,by rw[decide_eq_true ok,addN,if_pos ok], ?_⟩
      rw[addR,if_pos ok]
      exact frG (j:=t.length+3+1+1+1) pip4 (by rw[hnew];simp) (by first|exact hlen.symm|(rw[hlen];omega)) (by omega) (by omega)
     ·have nok: ¬addOk N P p:=fun hh=>h3 hh.2
      simp only[go_sem,e2,e3,e4,e6,dect h3,hidx,l0]
      exact no _ _ _ nok
    ·have hn:0<P.length:=length_pos_iff.2 p0
     have hne:P.map pip≠ []:=by intro hh;rw[List.map_eq_nil_iff] at hh;subst hh;simp at hn
     obtain⟨id3,off,k3,ev,hk3,hd3,hbb,hfl⟩:=sP.copy hne
     rw[length_map] at ev hbb hfl
     obtain rfl:a=some ⟨id3,off,none⟩:=by simpa using ev
     refine onEarly_on [h.length+1] [⟨[.int .i64 p.1, .int .i64 p.2.1, .int .i64 p.2.2.1, .int .i64 p.2.2.2],4, .rw⟩] (by simp) ?_
     simp only[go_sem,e2,e3,e4,e6,ne3,hidx,hk3,hd3,onApp_more hn,hfl,o1,hn,big]
     refine⟨by omega,by omega, ?_⟩
     refine (c_insP (h.length+(t.length+3+1+1+1)) (h.length+(t.length+1+1+1)) P p P.length (by first|exact le_refl _|omega) (by first|(simp only[go_sem];done)|(simp only[go_sem];rfl)) (.inl (by omega)) (by simp only[go_sem,pip]) (by omega) (by first|omega|simp)).go ?_
     rintro _ _⟨rfl,rfl⟩
     have hnew:insP P p=insAt P P.length p:=by rw[insP,hlow]
     simp only[go_sem,e2,e3,e4,e6,ne3,hidx]
     refine⟨by omega, ?_⟩
     refine (c_IsValidNetwork _ N (insP P p) ⟨_,rfl,FQs.sbQ (frG (lo:=0) (hi:=h.length+(t.length+12)) (j:=t.length+4+1+1+1) pip4 (by rw[hnew];simp) (by first|exact hlen.symm|(rw[hlen];omega)) (zero_le _) (by omega))⟩ (by rw[hlen];omega)).go ?_
     rintro _ _⟨rfl,⟨t5,rfl⟩⟩
     by_cases h3:netGood N (insP P p)
     ·have ok:addOk N P p:=⟨h1,h3⟩
      simp only[go_sem,e2,e3,e4,e6,decb h3,hidx]
      refine⟨_,by rw[decide_eq_true ok,addN,if_pos ok], ?_⟩
      rw[addR,if_pos ok]
      exact frG (j:=t.length+4+1+1+1) pip4 (by rw[hnew];simp) (by first|exact hlen.symm|(rw[hlen];omega)) (by omega) (by omega)
     ·have nok: ¬addOk N P p:=fun hh=>h3 hh.2
      simp only[go_sem,e2,e3,e4,e6,dect h3,hidx]
      exact no _ _ _ nok
 ·have nok: ¬addOk N P p:=fun hh=>h1 hh.1
  simp only[go_sem,dect h1]
  exact no _ _ _ nok
end
open Go.HH Go.Proofs
structure Dst(P:List Pip)(s:Int)(N:Nat)(D:List Int):Prop where
 len:D.length=N+1
 rng: ∀v:Int,1<=v->v<=N -> -1<=dv D v∧dv D v<=N
 ok: ∀v:Int,1<=v->v<=N->∀m:Nat,m<=N->((0<=dv D v∧dv D v<=m)↔ball P s m v=true)
section
variable {P:List Pip} {s:Int} {N:Nat} {D E:List Int}
theorem Bfs.dst(he:ends N P)(hs:1<=s∧s<=N)(b:Bfs P s N D []):Dst P s N D:=by
 refine⟨b.len,fun v h1 h2=>⟨b.low v h1 h2, ?_⟩,fun v h1 h2 m _=>b.fin he hs h1 h2 m⟩
 by_cases h:0<=dv D v
 ·have:=(b.fin he hs h1 h2 (dv D v).toNat).1 ⟨h,by omega⟩
  exact ((b.fin he hs h1 h2 N).2 (ball_stop he hs this)).2
 ·omega
theorem Dst.uniq(a:Dst P s N D)(b:Dst P s N E){v:Int}(h1:1<=v)(h2:v<=N):dv D v=dv E v:=by
 have ra:=a.rng v h1 h2
 have rb:=b.rng v h1 h2
 by_cases h:0<=dv D v
 ·have e1:=(b.ok v h1 h2 (dv D v).toNat (by omega)).2 ((a.ok v h1 h2 _ (by omega)).1 ⟨h,by omega⟩)
  have e2:=(a.ok v h1 h2 (dv E v).toNat (by omega)).2 ((b.ok v h1 h2 _ (by omega)).1 ⟨e1.1,by omega⟩)
  omega
 ·by_cases h':0<=dv E v
  ·have e2:=(a.ok v h1 h2 (dv E v).toNat (by omega)).2 ((b.ok v h1 h2 _ (by omega)).1 ⟨h',by omega⟩)
   omega
  ·omega
open Classical in
noncomputable def dst(P:List Pip)(s:Int)(N:Nat)(v:Int):Int:=if h: ∃D,Dst P s N D then dv h.choose v else 0
theorem Dst.eq(a:Dst P s N D){v:Int}(h1:1<=v)(h2:v<=N):dv D v=dst P s N v:=by
 have h: ∃D,Dst P s N D:=⟨D,a⟩
 unfold dst
 rw[dif_pos h]
 exact a.uniq h.choose_spec h1 h2
noncomputable def nx(P:List Pip)(f:Int->Int)(x:Int):Option Pip:=P.find? fun p=>decide (0<oth p x∧f (oth p x)=f x-1)
noncomputable def wayL(P:List Pip)(f:Int->Int)(to:Int):Nat->Int->List Int
 | 0,_=> []
 | k+1,x=>if x=to then [] else match nx P f x with
  | none=> []
  | some p=>p.1::wayL P f to k (oth p x)
theorem find_first{α:Type}{c:α->Bool}: ∀ {l:List α} {i:Nat} (hi:i<l.length),(∀(j:Nat) (hj:j<l.length),j<i->c l[j]=false)->c l[i]=true->l.find? c=some l[i]
 | [],i,hi,_,_=>by simp at hi
 | x::l,0,_,_,h=>by simp at h;simp[List.find?_cons,h]
 | x::l,i+1,hi,hb,h=>by
  have h0:=hb 0 (by simp) (by omega)
  simp at h0 h
  rw[List.find?_cons,h0]
  simp
  exact find_first (by simpa using hi) (fun j hj hji=>by have:=hb (j+1) (by simpa using hj) (by omega);simpa using this) h
theorem nx_some(he:ends N P)(hs:1<=s∧s<=N)(a:Dst P s N D){x:Int}(h1:1<=x)(h2:x<=N)(h0:0<=dst P s N x)(hne:x≠s) :
  0<dst P s N x∧∃p∈P,nx P (dst P s N) x=some p∧(1<=oth p x∧oth p x<=N)∧dst P s N (oth p x)=dst P s N x-1:=by
 have ex:=a.eq h1 h2
 have rx:=a.rng x h1 h2
 have hpos:0<dst P s N x:=by
  rcases Int.lt_or_eq_of_le h0 with h|h
  ·exact h
  ·have:=(a.ok x h1 h2 0 (by omega)).1 (by omega)
   exact absurd (ball_zero.1 this) hne
 obtain⟨d,hd⟩: ∃d:Nat,dst P s N x=d+1:=⟨(dst P s N x-1).toNat,by omega⟩
 have hb:=(a.ok x h1 h2 (d+1) (by omega)).1 (by omega)
 have hnb:ball P s d x=false:=by
  cases h:ball P s d x
  ·rfl
  ·have:=(a.ok x h1 h2 d (by omega)).2 h;omega
 rcases ball_succ.1 hb with h|⟨c,hc,hadj⟩
 ·rw[hnb] at h;cases h
 ·have hcn:=ball_in he hs hc
  have ec:=a.eq hcn.1 hcn.2
  have rc:=(a.ok c hcn.1 hcn.2 d (by omega)).2 hc
  have hcd:dst P s N c=d:=by
   rcases Int.lt_or_eq_of_le rc.2 with h|h
   ·exfalso
    have:=(a.ok c hcn.1 hcn.2 (dv D c).toNat (by omega)).1 ⟨rc.1,by omega⟩
    have h3:=ball_succ.2 (.inr ⟨c,this,hadj⟩)
    have:=ball_mono (show (dv D c).toNat+1<=d by omega) h3
    rw[hnb] at this;cases this
   ·omega
  obtain⟨p,hp,hpe⟩:=hadj
  have hep:=he p hp
  have hoth:oth p x=c:=by
   unfold oth
   rcases hpe with⟨rfl,rfl⟩|⟨rfl,rfl⟩
   ·rw[if_neg (by omega),if_pos rfl]
   ·rw[if_pos rfl]
  refine⟨hpos, ?_⟩
  have hex:(nx P (dst P s N) x).isSome:=by
   unfold nx
   rw[List.find?_isSome]
   exact⟨p,hp,by simp[hoth];omega⟩
  obtain⟨q,hq⟩:=Option.isSome_iff_exists.1 hex
  have hq2:=List.find?_some hq
  have hqm:=List.mem_of_find?_eq_some hq
  simp only[decide_eq_true_eq] at hq2
  exact⟨q,hqm,hq,oth_range (he q hqm) hq2.1,hq2.2⟩
theorem wayL_step(he:ends N P)(hs:1<=s∧s<=N)(a:Dst P s N D){x:Int}(h1:1<=x)(h2:x<=N)(h0:0<=dst P s N x)(hne:x≠s){i:Nat}(hi:i<P.length)
  (hb: ∀(j:Nat) (hj:j<P.length),j<i->¬(0<oth P[j] x∧dst P s N (oth P[j] x)=dst P s N x-1)) (hc:0<oth P[i] x∧dst P s N (oth P[i] x)=dst P s N x-1) :
  wayL P (dst P s N) s (dst P s N x).toNat x=P[i].1::wayL P (dst P s N) s (dst P s N (oth P[i] x)).toNat (oth P[i] x):=by
 obtain⟨h3,_⟩:=nx_some he hs a h1 h2 h0 hne
 obtain⟨d,hd⟩: ∃d:Nat,(dst P s N x).toNat=d+1:=⟨(dst P s N x).toNat-1,by omega⟩
 rw[hd,wayL,if_neg hne]
 have:nx P (dst P s N) x=some P[i]:=find_first hi (fun j hj hji=>by simpa using hb j hj hji) (by simpa using hc)
 rw[this]
 simp only
 rw[hc.2,show (dst P s N x-1).toNat=d by omega]
theorem wayL_end(x:Int)(k:Nat)(f:Int->Int):wayL P f x k x= []:=by
 cases k<;>simp[wayL]
theorem wayL_len(f:Int->Int)(to:Int): ∀(k:Nat) (x:Int),(wayL P f to k x).length<=k
 | 0,_=>by simp[wayL]
 | k+1,x=>by
  rw[wayL]
  split
  ·simp
  ·split
   ·simp
   ·rename_i p _
    have:=wayL_len f to k (oth p x)
    simp;omega
theorem wayL_mem(f:Int->Int)(to:Int): ∀(k:Nat) (x:Int),∀y∈wayL P f to k x,∃p∈P,p.1=y
 | 0,_,y,hy=>by simp[wayL] at hy
 | k+1,x,y,hy=>by
  rw[wayL] at hy
  split at hy
  ·cases hy
  ·split at hy
   ·cases hy
   ·rename_i p hp
    rcases mem_cons.1 hy with rfl|hy
    ·exact⟨p,List.mem_of_find?_eq_some hp,rfl⟩
    ·exact wayL_mem f to k _ y hy
structure Lay(P:List Pip)(s:Int)(N k:Nat)(D:List Int):Prop where
 len:D.length=N+1
 rng: ∀v:Int,1<=v->v<=N -> -1<=dv D v∧dv D v<=k
 ok: ∀v:Int,1<=v->v<=N->∀m:Nat,m<=k->((0<=dv D v∧dv D v<=m)↔ball P s m v=true)
theorem Lay.dst(a:Lay P s N N D):Dst P s N D:=⟨a.len,a.rng,a.ok⟩
theorem Lay.init(hs:1<=s∧s<=N):Lay P s N 0 ((List.replicate (N+1) (-1:Int)).set s.toNat 0):=by
 have hd: ∀w:Int,1<=w->dv ((List.replicate (N+1) (-1:Int)).set s.toNat 0) w=if w=s then 0 else -1:=fun w hw=>by
  rw[dv_set hs.1 hw (by simp;omega)]
  have:dv (List.replicate (N+1) (-1:Int)) w = -1:=by
   unfold dv
   rw[List.getD_eq_getElem?_getD,List.getElem?_replicate]
   split<;>rfl
  rw[this]
 refine⟨by simp,fun v h1 h2 => ?_,fun v h1 h2 m hm => ?_⟩
 ·rw[hd v h1];split<;>omega
 ·obtain rfl:m=0:=by omega
  rw[hd v h1,ball_zero]
  split
  ·rename_i h;simp[h]
  ·rename_i h;simp[h]
structure Lyr(P:List Pip)(s:Int)(N k i:Nat)(D:List Int):Prop where
 len:D.length=N+1
 rng: ∀v:Int,1<=v->v<=N -> -1<=dv D v∧dv D v<=k+1
 new: ∀v:Int,1<=v->v<=N->dv D v=k+1->ball P s (k+1) v=true
 ok: ∀v:Int,1<=v->v<=N->∀m:Nat,m<=k->((0<=dv D v∧dv D v<=m)↔ball P s m v=true)
 far: ∀(j:Nat) (hj:j<P.length),j<i->(dv D P[j].2.1=k->0<=dv D P[j].2.2.1)∧(dv D P[j].2.2.1=k->0<=dv D P[j].2.1)
theorem Lay.lyr{k:Nat}(a:Lay P s N k D):Lyr P s N k 0 D:=
 ⟨a.len,fun v h1 h2=>by have:=a.rng v h1 h2;omega,fun v h1 h2 h=>by have:=a.rng v h1 h2;omega,a.ok,fun j _ h=>absurd h (by omega)⟩
theorem Lyr.lay{k:Nat}(he:ends N P)(hs:1<=s∧s<=N)(a:Lyr P s N k P.length D):Lay P s N (k+1) D:=by
 refine⟨a.len,fun v h1 h2=>by have:=a.rng v h1 h2;omega,fun v h1 h2 m hm => ?_⟩
 rcases lt_or_ge m (k+1) with h|h
 ·exact a.ok v h1 h2 m (by omega)
 ·obtain rfl:m=k+1:=by omega
  have rv:=a.rng v h1 h2
  constructor
  ·intro h
   rcases Int.lt_or_eq_of_le rv.2 with h3|h3
   ·exact ball_mono (Nat.le_succ _) ((a.ok v h1 h2 k (le_refl _)).1 ⟨h.1,by omega⟩)
   ·exact a.new v h1 h2 h3
  ·intro h
   refine⟨?_,by omega⟩
   rcases ball_succ.1 h with h|⟨c,hc,p,hp,hpe⟩
   ·exact ((a.ok v h1 h2 k (le_refl _)).2 h).1
   ·have hcn:=ball_in he hs hc
    have rc:=(a.ok c hcn.1 hcn.2 k (le_refl _)).2 hc
    by_cases hk:dv D c=k
    ·obtain⟨j,hj,rfl⟩:=mem_iff_getElem.1 hp
     have f:=a.far j hj hj
     rcases hpe with⟨e1,e2⟩|⟨e1,e2⟩
     ·rw[e1,e2] at f;exact f.1 hk
     ·rw[e1,e2] at f;exact f.2 hk
    ·have h3:=(a.ok c hcn.1 hcn.2 (dv D c).toNat (by omega)).1 ⟨rc.1,by omega⟩
     have h4:ball P s ((dv D c).toNat+1) v=true:=ball_succ.2 (.inr ⟨c,h3,p,hp,hpe⟩)
     exact ((a.ok v h1 h2 _ (by omega)).2 h4).1
theorem Lyr.set{k i:Nat}(he:ends N P)(a:Lyr P s N k i D){x y:Int}(hx:1<=x∧x<=N)(hy:1<=y∧y<=N)(hadj:adj P y x)(h1:dv D y=k)(h2:dv D x<0):Lyr P s N k i (D.set x.toNat (k+1)):=by
 have hl:x.toNat<D.length:=by rw[a.len];omega
 have hd: ∀w:Int,1<=w->dv (D.set x.toNat (k+1)) w=if w=x then (k:Int)+1 else dv D w:=fun w hw=>dv_set hx.1 hw hl
 have rx:=a.rng x hx.1 hx.2
 refine⟨by simp[a.len],fun v g1 g2 => ?_,fun v g1 g2 h => ?_,fun v g1 g2 m hm => ?_,fun j hj hji => ?_⟩
 ·rw[hd v g1]
  have:=a.rng v g1 g2
  split<;>omega
 ·rw[hd v g1] at h
  by_cases c:v=x
  ·subst c
   exact ball_succ.2 (.inr ⟨y,(a.ok y hy.1 hy.2 k (le_refl _)).1 (by omega),hadj⟩)
  ·rw[if_neg c] at h
   exact a.new v g1 g2 h
 ·rw[hd v g1]
  by_cases c:v=x
  ·subst c
   have:=a.ok v g1 g2 m hm
   rw[if_pos rfl, ←this]
   omega
  ·rw[if_neg c]
   exact a.ok v g1 g2 m hm
 ·have hep:=he _ (getElem_mem hj)
  have f:=a.far j hj hji
  rw[hd _ hep.1.1,hd _ hep.2.1.1]
  constructor
  ·intro h
   by_cases c:P[j].2.1=x
   ·rw[if_pos c] at h;omega
   ·rw[if_neg c] at h
    have:=f.1 h
    split<;>omega
  ·intro h
   by_cases c:P[j].2.2.1=x
   ·rw[if_pos c] at h;omega
   ·rw[if_neg c] at h
    have:=f.2 h
    split<;>omega
theorem Lyr.next{k i:Nat}(a:Lyr P s N k i D)(hi:i<P.length)(h:(dv D P[i].2.1=k->0<=dv D P[i].2.2.1)∧(dv D P[i].2.2.1=k->0<=dv D P[i].2.1)):Lyr P s N k (i+1) D:=by
 refine⟨a.len,a.rng,a.new,a.ok,fun j hj hji => ?_⟩
 by_cases c:j<i
 ·exact a.far j hj c
 ·obtain rfl:j=i:=by omega
  exact h
end
def wayOk(N:Int)(P:List Pip)(a b:Int):Prop:=netGood N P∧(1<=a∧a<=N)∧(1<=b∧b<=N)∧ball P b N.toNat a=true
open Classical in
noncomputable instance {N:Int} {P:List Pip} {a b:Int}:Decidable (wayOk N P a b):=propDecidable _
noncomputable def wayR(N:Int)(P:List Pip)(a b:Int):List Int:=if wayOk N P a b then wayL P (dst P b N.toNat) b (dst P b N.toNat a).toNat a else []
end Go.Proofs.YtedidddimikjhaaGreatDoor
